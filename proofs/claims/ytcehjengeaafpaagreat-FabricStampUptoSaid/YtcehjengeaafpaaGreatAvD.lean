/-
  An abstract interpreter over the model, proved sound: part D.
-/
import Derived.Test.YtcehjengeaafpaaGreatAvC
import Derived.WalkKit
import Derived.ProofKit
import Derived.OpenShut
import Derived.JoinedCond
import Derived.Carry
set_option linter.all false
namespace Go.Av
structure CloneParts where
 fd:Func
 i1:Nat
 x:Code
 ops1:Array Oper
 t:Nat
 x2:Code
 rest:Code
def Au (P:Program) (f:FuncId):Option CloneParts:=
 match P.funcs[f]? with
 | some fd=>match fd.body with
  | some (.seq x (.seq (.seq (.region i1 ops1 draw) (.cond (.tmp t) x2 .skip)) rest))=>if draw then none else some ⟨fd,i1,x,ops1,t,x2,rest⟩
  | _=>none
 | none=>none
def ER:Value->Bool
 | .slice none 0 0=>true
 | _=>false
def Eg (P:Program) (nt:Nat) (o:Oper):Option (Nat×Nat):=match o.op with
 | .binOp .eql t (.tmp a) (.const c) _=>if ER c/\o.guard=none/\JR nt o.dst=true then match P.underlying t with
   | some (.slice _)=>o.dst.map (·,a)
   | _=>none
  else none
 | _=>none
structure CloneForm where
 x:Xu
 ops1:List Xv
 cmp:Nat×Nat
 t:Nat
 x2:Xu
 rest:Xu
 np:Nat
 res:List ARes
def zX (P:Program) (A0 A:Ann) (f:FuncId):Option CloneForm:=
 match Au P f with
 | some p=>match iF P A0 f p.fd.ntmps p.x,mapO (rG P A f p.fd.ntmps p.ops1) p.ops1.toList.dropLast,p.ops1.toList.getLast?.bind (Eg P p.fd.ntmps),iF P A f p.fd.ntmps p.x2,iF P A f p.fd.ntmps p.rest,mapO (cRes P) p.fd.results.toList with
  | some ax,some l1,some cm,some a2,some ar,some rs=>if p.fd.params.size+p.fd.nfree<=p.fd.ntmps then some ⟨ax,l1,cm,p.t,a2,ar,p.fd.params.size+p.fd.nfree,rs⟩ else none
  | _,_,_,_,_,_=>none
 | none=>none
def rC (z bytes:Nat) (m:SM):CloneForm:=
 ⟨.region false [] [⟨some 2,none,.mov (.c (.Xt z []))⟩] none,[⟨some 3,none,.mov (.t 0)⟩],(4,3),4,.seq (.region false [] [⟨some 2,none,.nilapp z⟩] none) .ret,
  .seq (.region false [] [⟨some 5,none,.bslice .imm z [] []⟩,⟨some 6,none,.mov (.t 0)⟩,⟨some 7,none,.append m z bytes (.t 5) (.t 6)⟩,⟨some 2,none,.mov (.t 7)⟩] none) .ret,1,[.tmp 2]⟩
def annC (m:SM) (b:Bool):Ann:=
  { pure:=fun _ _ _=>true,purev:=fun _ _=>true,bmode:=fun _ _=> .imm,smode:=fun _ _=> .row,amode:=fun _ _=>m,nilapp:=fun _ _=>b,slch:=fun _ _=>false,boxi:=fun _ _=>false,keep:=fun _ _=>none,split:=fun _ _=>false }
def qU (z bytes:Nat) (m:SM) (as:List AV) (H:AH):RProg:=
 match as with
 | [v]=>match lenOf v with
  | some 0=>match jJ H v with
   | some []=> .ret (some (.val (.app z [] H.next),H.put H.next (.tok z 0)))
   | _=> .ret none
  | some (_+1)=> .ret ((evOp [(5,.Xt z []),(6,v)] H.next H (.append m z bytes (.t 5) (.t 6))).map fun r=>(.val r.1,r.2))
  | none=> .ret none
 | _=> .ret none
section
variable {F:Nat->Nat->Prop} {B0:Nat} {P:Program} {w:World} {I:Beta} {H:AH}
theorem Y7 {v:AV} {n:Nat} {u:Value} (h:lenOf v=some n) (hv:VRH F w I H v u):∃base cap,u= .slice base n cap/\(n≠0->base≠none):=by
 unfold lenOf at h;split at h
 ·cases h;obtain ⟨b,cap,h,_,h3⟩:=lX (uQ hv);refine ⟨b,cap,h,?_⟩;intro hn;rcases h3 with h3 | ⟨_,_,rfl,_⟩
  ·rw [h3] at hn;simp at hn
  ·simp
 ·cases h;obtain ⟨b,cap,h,_,h3⟩:=lX (qN hv).1;refine ⟨b,cap,h,?_⟩;intro hn;rcases h3 with h3 | ⟨_,_,rfl,_⟩
  ·rw [h3] at hn;simp at hn
  ·simp
 ·cases h;obtain ⟨b,cap,h,_,h3⟩:=lX (uY hv).2.1;refine ⟨b,cap,h,?_⟩;intro hn;rcases h3 with h3 | ⟨_,_,rfl,_⟩
  ·rw [h3] at hn;simp at hn
  ·simp
 ·cases h;obtain ⟨_,⟨base,cap,h,_,h3⟩,_⟩:=qC hv;refine ⟨base,cap,h,?_⟩;intro hn;rcases h3 with h3 | ⟨_,_,rfl⟩
  ·exact absurd h3 hn
  ·simp
 ·cases h
theorem T7 {call:aJ} {e:Env} {v y:AV} {z bytes:Nat} {m:SM} {H2:AH} (h0:look 0 e=some v) (hap:evOp [(5,.Xt z []),(6,v)] H.next H (.append m z bytes (.t 5) (.t 6))=some (y,H2)):
  evC call 0 (rC z bytes m).rest ⟨e,H⟩=some (.ret,⟨(2,y)::(7,y)::(6,v)::(5,.Xt z [])::e,H2⟩):=by
 have hap':evOp ((6,v)::(5,.Xt z [])::e) H.next H (.append m z bytes (.t 5) (.t 6))=some (y,H2):=by
  have e5:evX ((6,v)::(5,.Xt z [])::e) (.t 5)=evX [(5,.Xt z []),(6,v)] (.t 5):=rfl;have e6:evX ((6,v)::(5,.Xt z [])::e) (.t 6)=evX [(5,.Xt z []),(6,v)] (.t 6):=rfl;rw [<- hap];simp only [evOp,e5,e6]
 have b1:∀nx,evOp e nx H (.bslice .imm z [] [])=some (.Xt z [],H):=fun _=>rfl
 have b2:∀nx,evOp ((5,.Xt z [])::e) nx H (.mov (.t 0))=some (v,H):=by
  intro nx;simp only [evOp,evX,look];simp [h0]
 have b3:∀nx,evOp ((7,y)::(6,v)::(5,.Xt z [])::e) nx H2 (.mov (.t 7))=some (y,H2):=fun _=>rfl
 simp only [rC,evC,HI,if_true,aN,iJ,aB,b1,putE,b2,bG,hap',b3,kept]
theorem Wd {v:AV} {z bytes:Nat} (hs:jJ H v=some []):evOp [(5,.Xt z []),(6,v)] H.next H (.append .app z bytes (.t 5) (.t 6))=some (.app z [] H.next,H.put H.next (.tok z 0)):=by
 have src:frz H v []=some []:=by
  unfold frz;split<;>simp [anyL,mapO]
 simp only [evOp,evX,look];simp [hs,src,jK,anyL]
theorem Yk {f:FuncId} {z bytes:Nat} {m:SM} (hm:P.follows .mixedOrders=true)
    (h1:zX P (annC m false) (annC m true) f=some (rC z bytes m)) (h2:zX P (annC .app false) (annC .app true) f=some (rC z bytes .app))
    {call:aJ} (hc:CallOk P call) {as:List AV} {r:Rt} {H':AH} (hev:evR call (qU z bytes m as H)=some (r,H')) {vs:Array Value} (hr:HR F B0 w I H) (ha:ArgsR F w I H as vs):
    Calls P f vs w (qD F B0 w I H r H'):=by
  unfold qU at hev;split at hev
  · rename_i v
    have parts:∀m',zX P (annC m' false) (annC m' true) f=some (rC z bytes m')->∃p,Au P f=some p/\iF P (annC m' false) f p.fd.ntmps p.x=some (.region false [] [⟨some 2,none,.mov (.c (.Xt z []))⟩] none)/\
        mapO (rG P (annC m' true) f p.fd.ntmps p.ops1) p.ops1.toList.dropLast=some [⟨some 3,none,.mov (.t 0)⟩]/\p.ops1.toList.getLast?.bind (Eg P p.fd.ntmps)=some (4,3)/\p.t=4/\
        iF P (annC m' true) f p.fd.ntmps p.x2=some (.seq (.region false [] [⟨some 2,none,.nilapp z⟩] none) .ret)/\
        iF P (annC m' true) f p.fd.ntmps p.rest=some (rC z bytes m').rest/\mapO (cRes P) p.fd.results.toList=some [.tmp 2]/\p.fd.params.size+p.fd.nfree=1/\1<=p.fd.ntmps:=by
      intro m' h;unfold zX at h;split at h
      · rename_i p hp
        split at h
        · rename_i ax l1 cm a2 ar rs e1 e2 e3 e4 e5 e6
          split at h
          · rename_i hle
            simp only [rC,Option.some.injEq,CloneForm.mk.injEq] at h;obtain ⟨rfl,rfl,rfl,ht,rfl,rfl,hn,rfl⟩:=h;exact ⟨p,hp,e1,e2,e3,ht,e4,e5,e6,hn,by omega⟩
          · cases h
        · cases h
      · cases h
    obtain ⟨p,hp,x1,x2,x3,x4,x5,x6,x7,x8,x9⟩:=parts m h1;obtain ⟨p',hp',y1,y2,y3,y4,y5,y6,y7,y8,y9⟩:=parts .app h2;rw [hp] at hp';cases hp';unfold Au at hp;split at hp
    · rename_i fd hfd
      split at hp
      · rename_i xc i1 ops1 draw t xc2 rest hbody
        split at hp
        · cases hp
        · rename_i hdraw
          have hdr:draw=false:=by simpa using hdraw
          subst hdr;cases hp;simp only at x1 x2 x3 x4 x5 x6 x7 x8 x9 y5 y6;subst x4;refine calls_of_wp hfd hbody ?_;have hvs:vs.size=1:=by rw [<- ha.1];rfl
          have hn:(vs++Array.replicate (fd.ntmps - vs.size) undef).size=fd.ntmps:=by simp;omega
          obtain ⟨u0,hu0⟩:∃u0,vs[0]? =some u0:=⟨vs[0],by simp [hvs]⟩;have hv0:VRH F w I H v u0:=ha.2 0 v u0 rfl hu0;have he:EnvR F w I H [(0,v)] (vs++Array.replicate (fd.ntmps - vs.size) undef):=by
            intro t y hy;simp only [look] at hy;split at hy
            · rename_i ht;subst ht;cases hy
              refine ⟨u0,?_,hv0⟩;rw [Array.getElem?_append_left (by omega)];exact hu0
            · cases hy
          have fin:∀(s':St) (y:AV) (H2:AH) (tmps:Array Value) (w2 w':World) (I2:Beta),Tr w I H w2 I2 H->look 2 s'.e=some y->s'.h=H2->(∃I',Tr w2 I2 H w' I' s'.h/\HR F B0 w' I' s'.h/\EnvR F w' I' s'.h s'.e tmps)->r= .val y->H'=H2->
              ∃v,(results fd tmps).run P w'= .ok v w'/\qD F B0 w I H r H' (.returned v) w':=by
            rintro s' y H2 tmps w2 w' I2 t0 hy rfl ⟨I',k1,k2,k3⟩ rfl rfl;obtain ⟨vv,m1,m2⟩:=Bg k2 k3 x7 (ys:=[y]) (by simp [mapO,uA,hy]);exact ⟨vv,m1,y,rfl,I',t0.trans k1,k2,m2⟩
          refine wp_seq ?_;refine lR hc hm 0 xc _ x1 _ ⟨[(0,v)],H⟩ .normal ⟨[(2,.Xt z []),(0,v)],H⟩ _ w I (by rfl) hr he hn ?_;rintro a1 w1 ⟨I1,k1,k2,k3,k4,k5⟩;refine wp_seq (wp_seq (wp_region ?_));rw [Qt] at x3;obtain ⟨o,ho,hcmp⟩:=x3;have hsplit:ops1.toList=ops1.toList.dropLast++[o]:=by
            have hne:ops1.toList≠[]:=by intro h;rw [h] at ho;cases ho
            rw [List.getLast?_eq_some_getLast hne] at ho;cases ho;exact (List.dropLast_concat_getLast hne).symm
          have hl1:ops1.toList.dropLast.length=1:=(eS x2);have hsz:ops1.size=2:=by
            have:=congrArg List.length hsplit;simp at this hl1;omega
          have hoat:ops1[1]? =some o:=by
            have:ops1.toList[1]? =some o:=by rw [hsplit];simp [hl1]
            simpa using this
          rw [hsz];show wpOps P ops1 _ ([0]++[1]) a1 w1;obtain ⟨o0,ho0⟩:∃o0,ops1.toList.dropLast[0]? =some o0:=⟨_,Qa (by omega)⟩;obtain ⟨ao,g1,g2⟩:=(tT x2).2 0 o0 ho0;have ho0':ops1[0]? =some o0:=by
            have:ops1.toList[0]? =some o0:=by
              rw [hsplit,Ql (by omega)];exact ho0
            simpa using this
          refine FW (A:=annC m true) (fn:=f) (call:=call) hc none [1] [0] (l:=[⟨some 3,none,.mov (.t 0)⟩]) ?_ ⟨[(2,.Xt z []),(0,v)],H⟩ .normal ⟨[(3,v),(2,.Xt z []),(0,v)],H⟩ a1 w1 I1 (by rfl) k2 k3 (k4.trans hn) ?_
          · intro i hi
            simp at hi;subst hi;exact ⟨o0,ao,ho0',g1,g2⟩
          rintro a2 w2 ⟨I2,m1,m2,m3,m4,m5⟩;unfold Eg at hcmp;split at hcmp
          · rename_i t a c ty hop
            split at hcmp
            · rename_i hcond
              obtain ⟨hnil,hgd,hds⟩:=hcond;split at hcmp
              · rename_i el hel
                rw [Qs] at hcmp;obtain ⟨d,hd,hda⟩:=hcmp;cases hda;have hcv:c= .slice none 0 0:=by
                  unfold ER at hnil;split at hnil
                  · rfl
                  · cases hnil
                subst hcv;obtain ⟨u3,hu3,hv3⟩:=m3 3 v (by simp [look]);have hlen:∃n,lenOf v=some n:=by
                  cases hl:lenOf v with
                  | none=>rw [hl] at hev;cases hev
                  | some n=>exact ⟨n,rfl⟩
                obtain ⟨n,hln⟩:=hlen;obtain ⟨base,cap,rfl,hbase⟩:=Y7 hln hv3;have heq:∀dd,(Op.equalIn (dd+1) t (.slice base n cap) (.slice none 0 0)).run P w2= .ok base.isNone w2:=by
                  intro dd;cases base with
                  | none=>simp [Op.equalIn,aT w2 hel]
                  | some b=>simp [Op.equalIn,aT w2 hel]
                have hrun:(execOp a2.eval o).run P w2= .ok (.value (.bool base.isNone)) w2:=by
                  have ev:a2.eval (.tmp 3)= .slice base n cap:=by
                    show a2.tmps.getD 3 undef=_;rw [uC,hu3];rfl
                  unfold execOp;rw [hop];simp only [Sem.run_bind];rw [ev];rw [show a2.eval (.const (.slice none 0 0))= .slice none 0 0 from rfl];rw [J8 w2 .eql t (.tmp 3) (.const (.slice none 0 0)) (.slice base n cap) (.slice none 0 0) (by simp) (.inl (by simp))];have e10:=heq 9999;have:(Go.binOp .eql t (.slice base n cap) (.slice none 0 0)).run P w2= .ok (.bool base.isNone) w2:=by
                    simp only [Go.binOp];simp [Op.equal,Op.maxDepth,e10]
                  simp only [Result.andThen_ok,this];rfl
                show wpOps P ops1 _ [1] a2 w2;have hw0:Region.wanted o (yielded ops1 a2.tmps)=true:=by simp [Region.wanted,hgd]
                simp only [wpOps,hoat,hw0,if_true];left;simp only [Oper.wp,hrun,Oper.upon,hd];have h4:4<fd.ntmps:=by rw [hd] at hds;simpa [JR] using hds
                have hsz2:a2.tmps.size=fd.ntmps:=m4.trans (k4.trans hn);have he4:EnvR F w2 I2 H [(4,.bool base.isNone),(3,v),(2,.Xt z []),(0,v)] (a2.put (some 4) (.bool base.isNone)).tmps:=
                  BR (d:=some 4) m3 (.d (.bool _)) (by intro k hk;cases hk;rw [hsz2];exact h4)
                have hcv:(a2.put (some 4) (.bool base.isNone)).eval (.tmp 4)= .bool base.isNone:=by
                  show (a2.put (some 4) (.bool base.isNone)).tmps.getD 4 undef=_;have:4<a2.tmps.size:=by rw [hsz2];exact h4
                  simp [Act.put,uC,this]
                have hn4:(a2.put (some 4) (.bool base.isNone)).tmps.size=fd.ntmps:=by rw [rE];exact hsz2
                have hd4:(a2.put (some 4) (.bool base.isNone)).defers=[]:=by rw [BQ,m5,k5]
                show (Code.cond (.tmp 4) xc2 .skip).wp P _ _ w2;have copy:∀(m':SM) (y:AV) (H2:AH),iF P (annC m' true) f fd.ntmps rest=some (rC z bytes m').rest->evOp [(5,.Xt z []),(6,v)] H.next H (.append m' z bytes (.t 5) (.t 6))=some (y,H2)->r= .val y->H'=H2->
                    rest.wp P (bodyPost P fd (qD F B0 w I H r H')) (a2.put (some 4) (.bool base.isNone)) w2:=by
                  intro m' y H2 hcr hap hry hHy;refine lR hc hm 0 rest _ hcr _ ⟨[(4,.bool base.isNone),(3,v),(2,.Xt z []),(0,v)],H⟩ .ret ⟨[(2,y),(7,y),(6,v),(5,.Xt z []),(4,.bool base.isNone),(3,v),(2,.Xt z []),(0,v)],H2⟩ _ w2 I2 ?_ m2 he4 hn4 ?_
                  · exact T7 rfl hap
                  · rintro a' w' ⟨I',q1,q2,q3,q4,q5⟩
                    refine ⟨q5.trans hd4,?_⟩;exact fin _ y H2 a'.tmps w2 w' I2 (k1.trans m1) rfl rfl ⟨I',q1,q2,q3⟩ hry hHy
                cases base with
                | none=>
                  have hn0:n=0:=by
                    rcases Qw n with h | h
                    · exact h
                    · exact absurd rfl (hbase (by omega))
                  subst hn0;rw [hln] at hev;simp only at hev;split at hev
                  rotate_left
                  · cases hev
                  cases hev;refine wp_cond_true hcv ?_;refine lR hc hm 0 xc2 _ x5 _ ⟨[(4,.bool true),(3,v),(2,.Xt z []),(0,v)],H⟩ .ret ⟨[(2,.app z [] H.next),(4,.bool true),(3,v),(2,.Xt z []),(0,v)],H.put H.next (.tok z 0)⟩ _ w2 I2 (by rfl) m2 he4 hn4 ?_;rintro a' w' ⟨I',q1,q2,q3,q4,q5⟩;refine ⟨q5.trans hd4,?_⟩;exact fin _ _ _ a'.tmps w2 w' I2 (k1.trans m1) rfl rfl ⟨I',q1,q2,q3⟩ rfl rfl
                | some b=>
                  refine wp_cond_false hcv (wp_skip ?_);show rest.wp P _ _ w2;cases n with
                  | zero=>
                    rw [hln] at hev;simp only at hev;split at hev
                    rotate_left
                    · cases hev
                    rename_i hsrc;cases hev;refine copy .app _ _ y6 (Wd hsrc) rfl rfl
                  | succ n=>
                    rw [hln] at hev;simp only [evR,Qs] at hev;obtain ⟨q,hq,hqe⟩:=hev;cases hqe;exact copy m q.1 q.2 x6 hq rfl rfl
              · cases hcmp
            · cases hcmp
          · cases hcmp
      · cases hp
    · cases hp
  · cases hev
end
end Go.Av
namespace Go.Av
def LeC (c c':aJ):Prop:=∀f as H r,c f as H=some r->c' f as H=some r
section
variable {call call':aJ}
theorem FZ (hc:LeC call call') {f:FuncId} {as:List AV} {H:AH} {r:Rt×AH} (h:iI call f as H=some r):iI call' f as H=some r:=by
 unfold iI at h ⊢;split at h
 ·cases h
 ·rename_i as' has;split at h
  ·rename_i x H1 hcall;rw [hc _ _ _ _ hcall];exact h
  ·rename_i x H1 hcall;rw [hc _ _ _ _ hcall];exact h
  ·cases h
theorem Gf (hc:LeC call call') {e:Env} {nx:Nat} {H:AH} {op:AOp} {r:Rt×AH} (h:aB call e nx H op=some r):aB call' e nx H op=some r:=by
 cases hk:op.isCall with
 | false=>rw [BA hk] at h ⊢;exact h
 | true=>
  cases op<;>first
   | (cases hk;done)
   | skip
  case pcall f xs=>
   simp only [aB] at h ⊢;split at h
   ·exact FZ hc h
   ·cases h
  case pcallk f xs=>
   simp only [aB] at h ⊢;split at h
   ·split at h
    ·split at h
     ·split at h
      ·cases h
      ·rename_i hb;rw [QA hb];exact FZ hc h
     ·cases h
    ·cases h
   ·cases h
  case pcallr f xs=>
   simp only [aB] at h ⊢;split at h
   ·unfold nH at h ⊢;split at h
    ·cases h
    ·split at h
     ·rename_i hcall;rw [hc _ _ _ _ hcall];exact h
     ·rename_i hcall;rw [hc _ _ _ _ hcall];exact h
     ·cases h
   ·cases h
  case pcallz d f xs=>
   simp only [aB] at h ⊢;split at h
   ·split at h
    ·split at h
     ·cases h
     ·rename_i hb;rw [QA hb];exact FZ hc h
    ·cases h
   ·cases h
  case pcallf f xs=>
   simp only [aB] at h ⊢;split at h
   ·unfold qQ at h ⊢;split at h
    ·cases h
    ·split at h
     ·rename_i hcall;rw [hc _ _ _ _ hcall];exact h
     ·rename_i hcall;rw [hc _ _ _ _ hcall];exact h
     ·cases h
   ·cases h
  case tcall f xs=>
   simp only [aB] at h ⊢;split at h
   ·exact hc _ _ _ _ h
   ·cases h
  case pcallv f xs=>
   simp only [aB] at h ⊢;split at h
   ·split at h
    ·exact FZ hc h
    ·cases h
   ·cases h
  case tcallv f xs=>
   simp only [aB] at h ⊢;split at h
   ·split at h
    ·exact hc _ _ _ _ h
    ·cases h
   ·cases h
  case pinvoke ms x xs=>
   simp only [aB] at h ⊢;split at h
   ·split at h
    ·exact FZ hc h
    ·cases h
   ·cases h
  case tinvoke ms x xs=>
   simp only [aB] at h ⊢;split at h
   ·split at h
    ·exact hc _ _ _ _ h
    ·cases h
   ·cases h
  case panic x=>exact h
theorem zH (hc:LeC call call') {base:Option Nat}:∀{ops:List Xv} {s:St} {r:Ex×St},aN call base ops s=some r->aN call' base ops s=some r
 | [],s,r,h=>h
 | o::ops,s,r,h=>by
  rw [aN] at h ⊢;split at h
  ·cases h
  ·exact zH hc h
  ·split at h
   ·cases h
   ·rename_i v H1 hcall;rw [Gf hc hcall];exact zH hc h
   ·rename_i v H1 hcall;rw [Gf hc hcall];exact h
theorem Iw (hc:LeC call call') {base:Option Nat}:∀{ops:List Xv} {s s':St},aN call base ops s=some (.normal,s')->feet call' base ops s=feet call base ops s
 | [],s,s',h=>rfl
 | o::ops,s,s',h=>by
  obtain ⟨v,h',h1,h2⟩:=evOps_cons.1 h;have e1:aN call base [o] s=some (.normal,⟨putE s.e o.dst v,h'⟩):=evOps_cons.2 ⟨v,h',h1,rfl⟩;have e2:=zH hc e1;simp only [feet,e1,e2];rw [Iw hc h2]
theorem HN {b b':St->Option (Ex×St)} (hb:∀s r,b s=some r->b' s=some r):∀{n m:Nat} {s:St} {r:Ex×St},n<=m->u5 b n s=some r->u5 b' m s=some r
 | 0,_,_,_,_,h=>by cases h
 | n+1,0,_,_,hnm,_=>by omega
 | n+1,m+1,s,r,hnm,h=>by
  simp only [u5] at h ⊢;split at h
  ·rename_i s1 hs1;rw [hb _ _ hs1];exact HN hb (by omega) h
  ·rename_i hne;rw [hb _ _ h];split
   ·rename_i s1 heq;cases heq;exact absurd h (hne s1)
   ·rfl
theorem oL (hc:LeC call call') {n m:Nat} (hnm:n<=m):∀{c:Xu} {s:St} {r:Ex×St},evC call n c s=some r->evC call' m c s=some r
 | .skip,s,r,h=>h
 | .region draw pairs ops keep,s,r,h=>by
  simp only [evC] at h ⊢;split at h
  ·rename_i hp;rw [a8 hp];split at h
   ·rename_i s1 hs1;rw [zH hc hs1];exact h
   ·rename_i hne;split at h
    ·cases h
    ·rename_i hd;rw [zH hc h];split
     ·rename_i s1 heq;cases heq;exact absurd h (hne s1)
     ·rw [QA hd]
  ·rename_i hp;rw [QA hp];split at h
   ·rename_i hcond;split at h
    ·rename_i s1 hs1;rw [Iw hc hs1,a8 hcond,zH hc hs1];exact h
    ·cases h
   ·cases h
 | .seq a b,s,r,h=>by
  simp only [evC] at h ⊢;split at h
  ·rename_i s1 hs1;rw [oL hc hnm hs1];exact oL hc hnm h
  ·rename_i hne;rw [oL hc hnm h];split
   ·rename_i s1 heq;cases heq;exact absurd h (hne s1)
   ·rfl
 | .cond c a b,s,r,h=>by
  simp only [evC] at h ⊢;split at h
  ·exact oL hc hnm h
  ·exact oL hc hnm h
  ·cases h
 | .block id b,s,r,h=>by
  simp only [evC] at h ⊢;split at h
  ·rename_i i s1 hs1;rw [oL hc hnm hs1];exact h
  ·rename_i hne;rw [oL hc hnm h];split
   ·rename_i i s1 heq;cases heq;exact absurd h (hne i s1)
   ·rfl
 | .loop b,s,r,h=>by
  simp only [evC] at h ⊢;exact HN (fun s r hs=>oL hc hnm hs) hnm h
 | .exit id,s,r,h=>h
 | .ret,s,r,h=>h
end
theorem Jp {call call':aJ} (hc:LeC call call'):∀{p:RProg} {r:Rt×AH},evR call p=some r->evR call' p=some r
 | .ret o,r,h=>h
 | .call f as H k,r,h=>by
  simp only [evR] at h ⊢;split at h
  ·rename_i x H' hx;rw [hc _ _ _ _ hx];exact Jp hc h
  ·cases h
section
variable {call call':aJ} {n m:Nat}
theorem KU (hc:LeC call call') (hnm:n<=m) {d:ADFn} {v:AV} {caps:List AV} {h h':AH} (he:t9 call n d v caps h=some h'):t9 call' m d v caps h=some h':=by
 unfold t9 at he ⊢;cases hb:evC call n d.cbody ⟨recE d.rcv v (iE 0 caps),h⟩ with
 | none=>rw [hb] at he;cases he
 | some p=>rw [hb] at he;rw [oL hc hnm hb];exact he
theorem Yy (hc:LeC call call') (hnm:n<=m) {d:ADFn} {caps:List AV} {o:Option (Ex×St)} {r:Ex×St} (he:GM call n d caps o=some r):GM call' m d caps o=some r:=by
 have one:∀(v:AV) (s:St),(t9 call n d v caps s.h).map (fun h=>(Ex.ret,(⟨s.e,h⟩:St)))=some r->(t9 call' m d v caps s.h).map (fun h=>(Ex.ret,(⟨s.e,h⟩:St)))=some r:=by
  intro v s h;rw [Qs] at h;obtain ⟨h',h1,h2⟩:=h;rw [KU hc hnm h1];simpa using h2
 match o,he with
 | some (.normal,s),he=>exact one _ s he
 | some (.ret,s),he=>exact one _ s he
 | some (.pan v,s),he=>
  simp only [GM] at he ⊢;split at he
  ·rename_i hr;rw [a8 hr];exact one _ s he
  ·cases he
 | some (.exit _,_),he=>cases he
 | none,he=>cases he
theorem Jo (hc:LeC call call') (hnm:n<=m) {d:ADFn}:∀{c:DCode} {s:St} {r:Ex×St},evD call n d c s=some r->evD call' m d c s=some r
 | .seq a k,s,r,he=>by
  simp only [evD] at he ⊢;split at he
  ·rename_i s' hs;rw [oL hc hnm hs];exact Jo hc hnm he
  ·rename_i hne;rw [oL hc hnm he];split
   ·rename_i s1 heq;cases heq;exact absurd he (hne s1)
   ·rfl
 | .dfr ops t body,s,r,he=>by
  simp only [evD] at he ⊢;split at he
  ·rename_i s1 hs;rw [zH hc hs];simp only;cases ht:(look t s1.e).bind tgt with
   | none=>rw [ht] at he;cases he
   | some p=>
    rw [ht] at he;simp only at he ⊢;split at he
    ·rename_i hh;rw [a8 hh];cases hb:evC call n body s1 with
     | none=>rw [hb] at he;cases he
     | some q=>
      rw [hb] at he;rw [oL hc hnm hb];exact Yy hc hnm he
    ·cases he
  ·rename_i hne;rw [zH hc he];split
   ·rename_i s1 heq;cases heq;exact absurd he (hne s1)
   ·rfl
end
theorem BJ {Φ:FuncId->Option AFun}:∀{n m:Nat},n<=m->LeC (evF Φ n) (evF Φ m)
 | 0,_,_=>fun _ _ _ _ h=>(by cases h)
 | n+1,0,h=>(by omega)
 | n+1,m+1,hnm=>by
  intro f as H r h;simp only [evF] at h ⊢;split at h
  ·cases h
  ·exact Jp (BJ (by omega)) h
  ·rename_i d hd;split at h
   ·rename_i hl;rw [a8 hl];cases hb:evD (evF Φ n) n d d.code ⟨iE 0 as,H⟩ with
    | none=>rw [hb] at h;cases h
    | some p=>
     rw [hb] at h;rw [Jo (BJ (by omega)) (by omega) hb];exact h
   ·cases h
  ·rename_i fn hfn;split at h
   ·rename_i hl;rw [a8 hl];cases hb:evC (evF Φ n) n fn.body ⟨iE 0 as,H⟩ with
    | none=>rw [hb] at h;cases h
    | some p=>
     rw [hb] at h;rw [oL (BJ (by omega)) (by omega) hb];exact h
   ·cases h
end Go.Av
namespace Go.Av
section lim
open Classical in
noncomputable def limO {α : Type} (f : Nat -> Option α) : Option α :=
 if h:∃n r,f n=some r then f (Classical.choose h) else none
theorem Dh {α:Type} {f:Nat->Option α} (hm:∀n m r,n<=m->f n=some r->f m=some r):∃N,∀m,N<=m->f m=limO f:=by
 unfold limO;split
 ·rename_i h;obtain ⟨r,hr⟩:=Classical.choose_spec h;refine ⟨Classical.choose h,fun m hn=>?_⟩;rw [hr,hm _ _ _ hn hr]
 ·rename_i h;refine ⟨0,fun m _=>?_⟩;cases hf:f m with
  | none=>rfl
  | some r=>exact absurd ⟨m,r,hf⟩ h
theorem MZ {α:Type} {f:Nat->Option α} {r:α} (h:limO f=some r):∃n,f n=some r:=by
 unfold limO at h;split at h
 ·exact ⟨_,h⟩
 ·cases h
theorem U5 {α:Type} {f:Nat->Option α} (hm:∀n m r,n<=m->f n=some r->f m=some r) {n:Nat} {r:α} (h:f n=some r):limO f=some r:=by
 obtain ⟨N,hN⟩:=Dh hm;rw [<- hN (max n N) (by omega)];exact hm _ _ _ (by omega) h
end lim
section
variable (Φ:FuncId->Option AFun)
noncomputable def aD : aJ := fun f as H => limO fun n => evF Φ n f as H
noncomputable def eY (c : Xu) (s : St) : Option (Ex × St) := limO fun n => evC (evF Φ n) n c s
theorem uP (f:FuncId) (as:List AV) (H:AH):∃N,∀m,N<=m->evF Φ m f as H=aD Φ f as H:=
 Dh fun _ _ r hnm h=>BJ hnm f as H r h
theorem Zs {f:FuncId} {as:List AV} {H:AH} {r:Rt×AH} (h:aD Φ f as H=some r):∃n,evF Φ n f as H=some r:=MZ h
theorem Jy {f:FuncId} {as:List AV} {H:AH} {r:Rt×AH} {n:Nat} (h:evF Φ n f as H=some r):aD Φ f as H=some r:=
 U5 (fun _ _ r hnm h=>BJ hnm f as H r h) h
theorem oH (c:Xu) (s:St):∃N,∀m,N<=m->evC (evF Φ m) m c s=eY Φ c s:=
 Dh fun _ _ _ hnm h=>oL (BJ hnm) hnm h
theorem MG (e:Env) (nx:Nat) (H:AH) (op:AOp):∃N,∀m,N<=m->aB (evF Φ m) e nx H op=aB (aD Φ) e nx H op:=by
 cases hk:op.isCall with
 | false=>exact ⟨0,fun m _=>by rw [BA hk,BA hk]⟩
 | true=>
  have pc:∀f as H,∃N,∀m,N<=m->iI (evF Φ m) f as H=iI (aD Φ) f as H:=by
   intro f as H;unfold iI;cases mapO (snap aE H) as with
   | none=>exact ⟨0,fun _ _=>rfl⟩
   | some as'=>
    obtain ⟨N,hN⟩:=uP Φ f as' H0;exact ⟨N,fun m hm=>by simp only [hN m hm]⟩
  cases op<;>first
   | (cases hk;done)
   | skip
  case pcall f xs=>
   simp only [aB];cases mapO (evX e) xs with
   | none=>exact ⟨0,fun _ _=>rfl⟩
   | some as=>exact pc f as H
  case pcallk f xs=>
   simp only [aB];cases mapO (evX e) xs with
   | none=>exact ⟨0,fun _ _=>rfl⟩
   | some as=>
    cases hr:BZ as with
    | none=>exact ⟨0,fun _ _=>by simp only [hr]⟩
    | some id=>
     cases ha:mapO (u6 H id) as with
     | none=>exact ⟨0,fun _ _=>by simp only [hr,ha]⟩
     | some as'=>
      obtain ⟨N,hN⟩:=pc f as' (H.kill id);refine ⟨N,fun m hm=>?_⟩;simp only [hr,ha];split
      ·rfl
      ·exact hN m hm
  case pcallr f xs=>
   simp only [aB];cases mapO (evX e) xs with
   | none=>exact ⟨0,fun _ _=>rfl⟩
   | some as=>
    unfold nH;simp only;cases mapO (snap aE H) as with
    | none=>exact ⟨0,fun _ _=>rfl⟩
    | some as'=>
     obtain ⟨N,hN⟩:=uP Φ f as' H0;exact ⟨N,fun m hm=>by simp only [hN m hm]⟩
  case pcallz d f xs=>
   simp only [aB];cases mapO (evX e) xs with
   | none=>exact ⟨0,fun _ _=>rfl⟩
   | some as=>
    cases ha:mapO (snap aE (H.old (nx - d))) as with
    | none=>exact ⟨0,fun _ _=>by simp only [ha]⟩
    | some as'=>
     obtain ⟨N,hN⟩:=pc f as' (H.cut (nx - d));refine ⟨N,fun m hm=>?_⟩;simp only [ha];split
     ·rfl
     ·exact hN m hm
  case pcallf f xs=>
   simp only [aB];cases mapO (evX e) xs with
   | none=>exact ⟨0,fun _ _=>rfl⟩
   | some as=>
    unfold qQ;simp only;cases mapO (snap aE H) as with
    | none=>exact ⟨0,fun _ _=>rfl⟩
    | some as'=>
     obtain ⟨N,hN⟩:=uP Φ f as' H0;exact ⟨N,fun m hm=>by simp only [hN m hm]⟩
  case tcall f xs=>
   simp only [aB];cases mapO (evX e) xs with
   | none=>exact ⟨0,fun _ _=>rfl⟩
   | some as=>exact uP Φ f as H
  case pcallv f xs=>
   simp only [aB];split
   ·rename_i fv as _ _;cases tgt2 fv with
    | none=>exact ⟨0,fun _ _=>rfl⟩
    | some p=>exact pc p.1 (p.2.1++as++p.2.2) H
   ·exact ⟨0,fun _ _=>rfl⟩
  case tcallv f xs=>
   simp only [aB];split
   ·rename_i fv as _ _;cases tgt2 fv with
    | none=>exact ⟨0,fun _ _=>rfl⟩
    | some p=>exact uP Φ p.1 (p.2.1++as++p.2.2) H
   ·exact ⟨0,fun _ _=>rfl⟩
  case pinvoke ms x xs=>
   simp only [aB];split
   ·rename_i t v as _ _;cases look t ms with
    | none=>exact ⟨0,fun _ _=>rfl⟩
    | some f=>exact pc f (v::as) H
   ·exact ⟨0,fun _ _=>rfl⟩
  case tinvoke ms x xs=>
   simp only [aB];split
   ·rename_i t v as _ _;cases look t ms with
    | none=>exact ⟨0,fun _ _=>rfl⟩
    | some f=>exact uP Φ f (v::as) H
   ·exact ⟨0,fun _ _=>rfl⟩
  case panic x=>exact ⟨0,fun _ _=>rfl⟩
theorem G6 (base:Option Nat):∀(ops:List Xv) (s:St),∃N,∀m,N<=m->aN (evF Φ m) base ops s=aN (aD Φ) base ops s
 | [],s=>⟨0,fun _ _=>rfl⟩
 | o::r,s=>by
  simp only [aN];cases iJ s.e o.guard with
  | none=>exact ⟨0,fun _ _=>rfl⟩
  | some b=>cases b with
   | false=>exact G6 base r _
   | true=>
    obtain ⟨N,hN⟩:=MG Φ s.e (bG base o.dst s.h) s.h o.op;cases hc:aB (aD Φ) s.e (bG base o.dst s.h) s.h o.op with
    | none=>exact ⟨N,fun m hm=>by simp only [hN m hm,hc]⟩
    | some p=>
     obtain ⟨x,h⟩:=p;cases x with
     | pan v=>exact ⟨N,fun m hm=>by simp only [hN m hm,hc]⟩
     | val v=>
      obtain ⟨M,hM⟩:=G6 base r ⟨putE s.e o.dst v,h⟩;exact ⟨max N M,fun m hm=>by simp only [hN m (by omega),hc,hM m (by omega)]⟩
theorem Mp (base:Option Nat):∀(ops:List Xv) (s:St),∃N,∀m,N<=m->feet (evF Φ m) base ops s=feet (aD Φ) base ops s
 | [],s=>⟨0,fun _ _=>rfl⟩
 | o::r,s=>by
  simp only [feet];obtain ⟨N,hN⟩:=G6 Φ base [o] s;cases hc:aN (aD Φ) base [o] s with
  | none=>exact ⟨N,fun m hm=>by simp only [hN m hm,hc]⟩
  | some p=>
   obtain ⟨M,hM⟩:=Mp base r p.2;exact ⟨max N M,fun m hm=>by simp only [hN m (by omega),hc,hM m (by omega)]⟩
theorem Zz (s:St):eY Φ .skip s=some (.normal,s):=by
 obtain ⟨N,hN⟩:=oH Φ .skip s;rw [<- hN N (Qb _)];rfl
theorem LG (s:St):eY Φ .ret s=some (.ret,s):=by
 obtain ⟨N,hN⟩:=oH Φ .ret s;rw [<- hN N (Qb _)];rfl
theorem Zx (i:Nat) (s:St):eY Φ (.exit i) s=some (.exit i,s):=by
 obtain ⟨N,hN⟩:=oH Φ (.exit i) s;rw [<- hN N (Qb _)];rfl
theorem LH (a b:Xu) (s:St):eY Φ (.seq a b) s=match eY Φ a s with
  | some (.normal,s')=>eY Φ b s'
  | r=>r:=by
 obtain ⟨N,hN⟩:=oH Φ (.seq a b) s;obtain ⟨N1,hN1⟩:=oH Φ a s;cases ha:eY Φ a s with
 | none=>
  rw [<- hN (max N N1) (by omega)];simp only [evC,hN1 (max N N1) (by omega),ha]
 | some p=>
  obtain ⟨ex,s'⟩:=p;obtain ⟨N2,hN2⟩:=oH Φ b s';rw [<- hN (max N (max N1 N2)) (by omega)];simp only [evC,hN1 (max N (max N1 N2)) (by omega),ha];cases ex with
  | normal=>simp only [hN2 (max N (max N1 N2)) (by omega)]
  | _=>rfl
theorem Zw (c:AX) (a b:Xu) (s:St):eY Φ (.cond c a b) s=match evX s.e c with
  | some (.bool true)=>eY Φ a s
  | some (.bool false)=>eY Φ b s
  | _=>none:=by
 obtain ⟨N,hN⟩:=oH Φ (.cond c a b) s;obtain ⟨N1,hN1⟩:=oH Φ a s;obtain ⟨N2,hN2⟩:=oH Φ b s;rw [<- hN (max N (max N1 N2)) (by omega)];simp only [evC,hN1 (max N (max N1 N2)) (by omega),hN2 (max N (max N1 N2)) (by omega)];rfl
theorem Yl (i:Nat) (b:Xu) (s:St):eY Φ (.block i b) s=match eY Φ b s with
  | some (.exit j,s')=>if j=i then some (.normal,s') else some (.exit j,s')
  | r=>r:=by
 obtain ⟨N,hN⟩:=oH Φ (.block i b) s;obtain ⟨N1,hN1⟩:=oH Φ b s;rw [<- hN (max N N1) (by omega)];simp only [evC,hN1 (max N N1) (by omega)];rfl
theorem Zy (b:Xu) (s:St):eY Φ (.loop b) s=match eY Φ b s with
  | some (.normal,s')=>eY Φ (.loop b) s'
  | r=>r:=by
 obtain ⟨N,hN⟩:=oH Φ (.loop b) s;obtain ⟨N1,hN1⟩:=oH Φ b s;cases hb:eY Φ b s with
 | none=>
  rw [<- hN (max N N1+1) (by omega)];simp only [evC,u5,hN1 (max N N1+1) (by omega),hb]
 | some p=>
  obtain ⟨ex,s'⟩:=p;obtain ⟨N2,hN2⟩:=oH Φ (.loop b) s';have e1:=hN (max N (max N1 N2)+1) (by omega);rw [<- e1];simp only [evC,u5,hN1 (max N (max N1 N2)+1) (by omega),hb];cases ex with
  | normal=>
   simp only;have lo:=hN2 (max N (max N1 N2)) (by omega);have hi:=hN2 (max N (max N1 N2)+2) (by omega);simp only [evC] at lo hi;have step:∀n m,n<=m->LeC (evF Φ n) (evF Φ m):=fun n m h=>BJ h
   cases hl:eY Φ (.loop b) s' with
   | some r=>
    rw [hl] at lo;exact HN (fun s r hs=>oL (step _ _ (by omega)) (by omega) hs) (Qb _) lo
   | none=>
    cases hm:u5 (evC (evF Φ (max N (max N1 N2)+1)) (max N (max N1 N2)+1) b) (max N (max N1 N2)) s' with
    | none=>rfl
    | some r=>
     have:=HN (b':=evC (evF Φ (max N (max N1 N2)+2)) (max N (max N1 N2)+2) b) (fun s r hs=>oL (step _ _ (by omega)) (by omega) hs) (m:=max N (max N1 N2)+2) (by omega) hm;rw [hi,hl] at this;cases this
  | _=>rfl
theorem Wp (draw:Bool) (ops:List Xv) (keep:Option (List Nat)) (s:St):eY Φ (.region draw [] ops keep) s=match aN (aD Φ) none ops s with
  | some (.normal,s')=>some (.normal,kept keep s')
  | r=>if draw then none else r:=by
 obtain ⟨N,hN⟩:=oH Φ (.region draw [] ops keep) s;obtain ⟨N1,hN1⟩:=G6 Φ none ops s;rw [<- hN (max N N1) (by omega)];simp only [evC,hN1 (max N N1) (by omega),HI,if_true];rfl
theorem Ym (draw:Bool) (p:Nat×Nat) (ps:List (Nat×Nat)) (ops:List Xv) (keep:Option (List Nat)) (s:St):eY Φ (.region draw (p::ps) ops keep) s=
  if A6 (oO ops)&&A5 (p::ps) (feet (aD Φ) (some s.h.next) ops ⟨s.e,s.h.resv (oO ops)⟩) then
   match aN (aD Φ) (some s.h.next) ops ⟨s.e,s.h.resv (oO ops)⟩ with
   | some (.normal,s')=>some (.normal,kept keep ⟨s'.e,s'.h.sweep⟩)
   | _=>none
  else none:=by
 obtain ⟨N,hN⟩:=oH Φ (.region draw (p::ps) ops keep) s;obtain ⟨N1,hN1⟩:=G6 Φ (some s.h.next) ops ⟨s.e,s.h.resv (oO ops)⟩;obtain ⟨N2,hN2⟩:=Mp Φ (some s.h.next) ops ⟨s.e,s.h.resv (oO ops)⟩;rw [<- hN (max N (max N1 N2)) (by omega)];simp only [evC,hN1 (max N (max N1 N2)) (by omega),hN2 (max N (max N1 N2)) (by omega)];rfl
theorem Zr {f:FuncId} {fn:AFn} (hf:Φ f=some (.code fn)) {as:List AV} {H:AH} (hl:as.length=fn.nparams):
  aD Φ f as H=AC (eY Φ fn.body ⟨iE 0 as,H⟩) fn.results:=by
 obtain ⟨N,hN⟩:=uP Φ f as H;obtain ⟨N1,hN1⟩:=oH Φ fn.body ⟨iE 0 as,H⟩;rw [<- hN (max N N1+1) (by omega)];simp only [evF,hf,a8 hl];rw [hN1 (max N N1) (by omega)]
theorem EY:∀(p:RProg),∃N,∀m,N<=m->evR (evF Φ m) p=evR (aD Φ) p
 | .ret o=>⟨0,fun _ _=>rfl⟩
 | .call f as H k=>by
  obtain ⟨N,hN⟩:=uP Φ f as H;cases hc:aD Φ f as H with
  | none=>exact ⟨N,fun m hm=>by simp only [evR,hN m hm,hc]⟩
  | some q=>
   obtain ⟨M,hM⟩:=EY (k q.1 q.2);exact ⟨max N M,fun m hm=>by simp only [evR,hN m (by omega),hc,hM m (by omega)]⟩
theorem At {f:FuncId} {g:List AV->AH->RProg} (hf:Φ f=some (.rule g)) (as:List AV) (H:AH):aD Φ f as H=evR (aD Φ) (g as H):=by
 obtain ⟨N,hN⟩:=uP Φ f as H;obtain ⟨M,hM⟩:=EY Φ (g as H);rw [<- hN (max N M+1) (by omega),<- hM (max N M) (by omega)];simp only [evF,hf]
noncomputable def cloI (d : ADFn) (v : AV) (caps : List AV) (h : AH) : Option AH :=
 match eY Φ d.cbody ⟨recE d.rcv v (iE 0 caps),h⟩ with
 | some (.normal,s)=>some s.h
 | some (.ret,s)=>some s.h
 | _=>none
noncomputable def dEndI (d : ADFn) (caps : List AV) : Option (Ex × St) -> Option (Ex × St)
 | some (.normal,s) | some (.ret,s)=>(cloI Φ d .niliface caps s.h).map fun h=>(.ret,⟨s.e,h⟩)
 | some (.pan v,s)=>if d.rcv.isSome then (cloI Φ d v caps s.h).map fun h=>(.ret,⟨s.e,h⟩) else none
 | _=>none
noncomputable def WJ (d : ADFn) : DCode -> St -> Option (Ex × St)
 | .seq a k,s=>match eY Φ a s with
  | some (.normal,s')=>WJ d k s'
  | r=>r
 | .dfr ops t body,s=>match aN (aD Φ) none ops s with
  | some (.normal,s1)=>match (look t s1.e).bind tgt with
   | some (f,caps)=>if f=d.clo/\caps.length=d.ncaps then dEndI Φ d caps (eY Φ body s1) else none
   | none=>none
  | r=>r
end
end Go.Av
namespace Go.Av
inductive Fr where
 | c (c:Xu)
 | b (id:Nat)
 | f (ks:List Nat)
noncomputable def goX (Φ : FuncId -> Option AFun) : List Fr -> Ex -> St -> Option (Ex × St)
 | [],ex,s=>some (ex,s)
 | .b i::K,ex,s=>match ex with
  | .exit j=>if j=i then goX Φ K .normal s else goX Φ K (.exit j) s
  | ex=>goX Φ K ex s
 | .f ks::K,ex,s=>match ex with
  | .normal=>goX Φ K .normal (C6 ks s)
  | ex=>goX Φ K ex s
 | .c c::K,ex,s=>match ex with
  | .normal=>match eY Φ c s with
   | some (ex',s')=>goX Φ K ex' s'
   | none=>none
  | ex=>goX Φ K ex s
def oP:Option (Rt×AH)->Option Rt
 | some (.val r,H)=>match snap aE H r with
  | some r'=>some (.val r')
  | none=>none
 | some (.pan r,H)=>match snap aE H r with
  | some r'=>some (.pan r')
  | none=>none
 | none=>none
noncomputable def a9 (Φ : FuncId -> Option AFun) (f : FuncId) (as : List AV) : Option Rt := oP (aD Φ f as H0)
def tX (b:Bool) (H:AH):Option Rt->Option (Rt×AH)
 | some (.val r)=>if b&& !flat aE r then none else some (.val r,H)
 | some (.pan r)=>if flat aE r then some (.pan r,H) else none
 | none=>none
theorem Zd (Φ:FuncId->Option AFun) (f:FuncId) (as:List AV) (H:AH):iI (aD Φ) f as H=
  match mapO (snap aE H) as with
  | some as'=>tX (anyL (bor aE) as) H (a9 Φ f as')
  | none=>none:=by
 unfold iI a9;split<;>rename_i h
 ·simp [h]
 ·simp only [h];split<;>rename_i h2
  ·rw [h2];simp only [oP];split<;>rename_i h3<;>simp [h3,tX]
  ·rw [h2];simp only [oP];split<;>rename_i h3<;>simp [h3,tX]
  ·rw [h2];rfl
def finC (rs:List ARes) (o:Option (Ex×St)):Option (Rt×AH):=AC o rs
def finP (rs:List ARes) (o:Option (Ex×St)):Option Rt:=oP (AC o rs)
def retV (rs:List ARes) (s:St):Option AV:=match mapO (uA s) rs with
 | none=>none
 | some [v]=>some v
 | some vs=>some (.tup vs)
section
variable (Φ:FuncId->Option AFun) {I:Type} (fin:Option (Ex×St)->Option I)
noncomputable def go (K : List Fr) (ex : Ex) (s : St) : Option I := fin (goX Φ K ex s)
noncomputable def oR (d : Bool) (ops : List Xv) (K : List Fr) (s : St) : Option I :=
 match aN (aD Φ) none ops s with
 | some (.normal,s')=>go Φ fin K .normal s'
 | some (ex,s')=>if d then fin none else go Φ fin K ex s'
 | none=>fin none
noncomputable def tB (d : Bool) (dst : Option Nat) (r : List Xv) (K : List Fr) (e : Env) (o : Option (Rt × AH)) : Option I :=
 match o with
 | some (.val v,h)=>oR Φ fin d r K ⟨putE e dst v,h⟩
 | some (.pan v,h)=>if d then fin none else go Φ fin K (.pan v) ⟨e,h⟩
 | none=>fin none
noncomputable def GR (o : Option AV) (a b : Xu) (K : List Fr) (s : St) : Option I := match o with
 | some (.bool true)=>go Φ fin (.c a::K) .normal s
 | some (.bool false)=>go Φ fin (.c b::K) .normal s
 | _=>fin none
noncomputable def uV (o : Option AV) (w : Bool) (d : Bool) (dst : Option Nat) (op : AOp) (r : List Xv) (K : List Fr) (e : Env) (h : AH) : Option I := match o with
 | some (.bool b)=>match b,w with
  | true,true | false,false=>tB Φ fin d dst r K e (aB (aD Φ) e h.next h op)
  | true,false | false,true=>oR Φ fin d r K ⟨putE e dst (.tup []),h⟩
 | some (.tup [])=>oR Φ fin d r K ⟨putE e dst (.tup []),h⟩
 | _=>fin none
theorem Zn {d:Bool} {dst:Option Nat} {r:List Xv} {K:List Fr} {e:Env} {o o':Option (Rt×AH)} (h:o=o'):tB Φ fin d dst r K e o=tB Φ fin d dst r K e o':=by rw [h]
theorem Yo {o o':Option AV} {a b:Xu} {K:List Fr} {s:St} (h:o=o'):GR Φ fin o a b K s=GR Φ fin o' a b K s:=by rw [h]
theorem Ww {o o':Option AV} {w d:Bool} {dst:Option Nat} {op:AOp} {r:List Xv} {K:List Fr} {e:Env} {h:AH} (ho:o=o'):uV Φ fin o w d dst op r K e h=uV Φ fin o' w d dst op r K e h:=by rw [ho]
attribute [congr] Zn Yo Ww
@[simp] theorem KM (a b:Xu) (K:List Fr) (s:St):GR Φ fin (some (.bool true)) a b K s=go Φ fin (.c a::K) .normal s:=rfl
@[simp] theorem Yt (a b:Xu) (K:List Fr) (s:St):GR Φ fin (some (.bool false)) a b K s=go Φ fin (.c b::K) .normal s:=rfl
@[simp] theorem Ud (d:Bool) (dst:Option Nat) (op:AOp) (r:List Xv) (K:List Fr) (e:Env) (h:AH):uV Φ fin (some (.bool true)) true d dst op r K e h=tB Φ fin d dst r K e (aB (aD Φ) e h.next h op):=rfl
@[simp] theorem Ua (d:Bool) (dst:Option Nat) (op:AOp) (r:List Xv) (K:List Fr) (e:Env) (h:AH):uV Φ fin (some (.bool false)) false d dst op r K e h=tB Φ fin d dst r K e (aB (aD Φ) e h.next h op):=rfl
@[simp] theorem Uc (d:Bool) (dst:Option Nat) (op:AOp) (r:List Xv) (K:List Fr) (e:Env) (h:AH):uV Φ fin (some (.bool true)) false d dst op r K e h=oR Φ fin d r K ⟨putE e dst (.tup []),h⟩:=rfl
@[simp] theorem Ub (d:Bool) (dst:Option Nat) (op:AOp) (r:List Xv) (K:List Fr) (e:Env) (h:AH):uV Φ fin (some (.bool false)) true d dst op r K e h=oR Φ fin d r K ⟨putE e dst (.tup []),h⟩:=rfl
@[simp] theorem Sw (w d:Bool) (dst:Option Nat) (op:AOp) (r:List Xv) (K:List Fr) (e:Env) (h:AH):uV Φ fin (some (.tup [])) w d dst op r K e h=oR Φ fin d r K ⟨putE e dst (.tup []),h⟩:=rfl
variable {Φ fin}
@[simp] theorem Un (d:Bool) (t:Nat) (r:List Xv) (K:List Fr) (e:Env) (v:AV) (h:AH):tB Φ fin d (some t) r K e (some (.val v,h))=oR Φ fin d r K ⟨(t,v)::e,h⟩:=rfl
@[simp] theorem Tc (d:Bool) (r:List Xv) (K:List Fr) (e:Env) (v:AV) (h:AH):tB Φ fin d none r K e (some (.val v,h))=oR Φ fin d r K ⟨e,h⟩:=rfl
@[simp] theorem Um (dst:Option Nat) (r:List Xv) (K:List Fr) (e:Env) (v:AV) (h:AH):tB Φ fin false dst r K e (some (.pan v,h))=go Φ fin K (.pan v) ⟨e,h⟩:=rfl
@[simp] theorem Ty (d:Bool) (K:List Fr) (s:St):oR Φ fin d [] K s=go Φ fin K .normal s:=rfl
@[simp] theorem Sv (d:Bool) (dst:Option Nat) (op:AOp) (r:List Xv) (K:List Fr) (e:Env) (h:AH):
  oR Φ fin d (⟨dst,none,op⟩::r) K ⟨e,h⟩=tB Φ fin d dst r K e (aB (aD Φ) e h.next h op):=by
 unfold oR;simp only [aN,iJ];have:bG none dst h=h.next:=by cases dst<;>rfl
 rw [this];cases hc:aB (aD Φ) e h.next h op with
 | none=>rfl
 | some p=>
  obtain ⟨x,h'⟩:=p;cases x<;>rfl
@[simp] theorem Pt (d:Bool) (dst:Option Nat) (t:Nat) (w:Bool) (op:AOp) (r:List Xv) (K:List Fr) (e:Env) (h:AH):
  oR Φ fin d (⟨dst,some (t,w),op⟩::r) K ⟨e,h⟩=uV Φ fin (look t e) w d dst op r K e h:=by
 conv=>lhs;unfold oR
 simp only [aN];have:bG none dst h=h.next:=by cases dst<;>rfl
 rw [this];have run:(match aB (aD Φ) e h.next h op with
   | none=>fin none
   | some (.val v,h')=>match aN (aD Φ) none r ⟨putE e dst v,h'⟩ with
    | some (.normal,s')=>go Φ fin K .normal s'
    | some (ex,s')=>if d then fin none else go Φ fin K ex s'
    | none=>fin none
   | some (.pan v,h')=>if d then fin none else go Φ fin K (.pan v) ⟨e,h'⟩)=tB Φ fin d dst r K e (aB (aD Φ) e h.next h op):=by
  cases aB (aD Φ) e h.next h op with
  | none=>rfl
  | some p=>obtain ⟨x,h'⟩:=p;cases x<;>rfl
 have step:iJ e (some (t,w))=some true->(match aN (aD Φ) none (⟨dst,some (t,w),op⟩::r) ⟨e,h⟩ with
   | some (.normal,s')=>go Φ fin K .normal s'
   | some (ex,s')=>if d then fin none else go Φ fin K ex s'
   | none=>fin none)=tB Φ fin d dst r K e (aB (aD Φ) e h.next h op):=by
  intro hg;rw [<- run];simp only [aN,hg,this];cases aB (aD Φ) e h.next h op with
  | none=>rfl
  | some p=>obtain ⟨x,h'⟩:=p;cases x<;>rfl
 have skip:iJ e (some (t,w))=some false->(match aN (aD Φ) none (⟨dst,some (t,w),op⟩::r) ⟨e,h⟩ with
   | some (.normal,s')=>go Φ fin K .normal s'
   | some (ex,s')=>if d then fin none else go Φ fin K ex s'
   | none=>fin none)=oR Φ fin d r K ⟨putE e dst (.tup []),h⟩:=by
  intro hg;simp only [aN,hg];rfl
 simp only [aN,this] at step skip;cases hl:look t e with
 | none=>simp only [iJ,hl,uV]
 | some v=>
  have hgo:iJ e (some (t,w))=match (some v:Option AV) with
   | some (.bool b)=>some (b == w)
   | some (.tup [])=>some false
   | _=>none:=by simp only [iJ,hl];rfl
  cases v with
  | bool b=>
   cases b<;>cases w
   ·exact step hgo
   ·exact skip hgo
   ·exact skip hgo
   ·exact step hgo
  | tup vs=>match vs with
   | []=>exact skip hgo
   | x::xs=>rw [hgo];rfl
  | _=>rw [hgo];rfl
@[simp] theorem go_nil (ex:Ex) (s:St):go Φ fin [] ex s=fin (some (ex,s)):=rfl
@[simp] theorem go_b (i:Nat) (K:List Fr) (s:St):go Φ fin (.b i::K) .normal s=go Φ fin K .normal s:=rfl
@[simp] theorem go_bx (i j:Nat) (K:List Fr) (s:St):go Φ fin (.b i::K) (.exit j) s=if j=i then go Φ fin K .normal s else go Φ fin K (.exit j) s:=by
 unfold go;simp only [goX];split<;>rfl
@[simp] theorem go_fx (ks:List Nat) (j:Nat) (K:List Fr) (s:St):go Φ fin (.f ks::K) (.exit j) s=go Φ fin K (.exit j) s:=rfl
@[simp] theorem go_f0 (K:List Fr) (s:St):go Φ fin (.f []::K) .normal s=go Φ fin K .normal s:=rfl
def frK:Option (List Nat)->List Fr->List Fr
 | none,K=>K
 | some ks,K=> .f ks::K
@[simp] theorem Uw (K:List Fr):frK none K=K:=rfl
@[simp] theorem Ux (ks:List Nat) (K:List Fr):frK (some ks) K= .f ks::K:=rfl
theorem F6 (o:Option (List Nat)) (K:List Fr) (s:St):go Φ fin (frK o K) .normal s=go Φ fin K .normal (kept o s):=by cases o<;>rfl
theorem L4 (o:Option (List Nat)) (K:List Fr) (v:AV) (s:St):go Φ fin (frK o K) (.pan v) s=go Φ fin K (.pan v) s:=by cases o<;>rfl
theorem Yz (o:Option (List Nat)) (K:List Fr) (j:Nat) (s:St):go Φ fin (frK o K) (.exit j) s=go Φ fin K (.exit j) s:=by cases o<;>rfl
theorem L5 (o:Option (List Nat)) (K:List Fr) (s:St):go Φ fin (frK o K) .ret s=go Φ fin K .ret s:=by cases o<;>rfl
theorem JJ {t:Nat} {ks:List Nat} {K:List Fr} {e:Env} {H:AH}:go Φ fin (.f (t::ks)::K) .normal ⟨e,H⟩=go Φ fin (.f ks::K) .normal (frzP t ⟨e,H⟩):=rfl
noncomputable def frzG (Φ : FuncId -> Option AFun) (fin : Option (Ex × St) -> Option I) (t : Nat) (ks : List Nat) (K : List Fr) (e : Env) (H : AH) (id z i off : Nat) (o : Option AO) : Option I := match o with
 | some (.row z' es)=>if z'=z/\anyL (bor aE) es.flatten=false then match mapO (mapO (snap aE H)) es with
   | some es'=>go Φ fin (.f ks::K) .normal ⟨(t,.iptr z es' i off)::e,H.kill id⟩
   | none=>go Φ fin (.f ks::K) .normal ⟨e,H⟩
  else go Φ fin (.f ks::K) .normal ⟨e,H⟩
 | _=>go Φ fin (.f ks::K) .normal ⟨e,H⟩
@[simp] theorem go_cx (c:Xu) (j:Nat) (K:List Fr) (s:St):go Φ fin (.c c::K) (.exit j) s=go Φ fin K (.exit j) s:=rfl
theorem J5:∀(K:List Fr) (s:St),goX Φ K .ret s=some (.ret,s)
 | [],s=>rfl
 | .b _::K,s=>J5 K s
 | .f _::K,s=>J5 K s
 | .c _::K,s=>J5 K s
theorem J4 (v:AV):∀(K:List Fr) (s:St),goX Φ K (.pan v) s=some (.pan v,s)
 | [],s=>rfl
 | .b _::K,s=>J4 v K s
 | .f _::K,s=>J4 v K s
 | .c _::K,s=>J4 v K s
@[simp] theorem TT (K:List Fr) (s:St):go Φ fin K .ret s=fin (some (.ret,s)):=by
 unfold go;rw [J5]
@[simp] theorem go_pan (K:List Fr) (v:AV) (s:St):go Φ fin K (.pan v) s=fin (some (.pan v,s)):=by
 unfold go;rw [J4]
theorem go_c (c:Xu) (K:List Fr) (s:St):go Φ fin (.c c::K) .normal s=match eY Φ c s with
  | some (ex',s')=>go Φ fin K ex' s'
  | none=>fin none:=by
 unfold go;simp only [goX];cases eY Φ c s<;>rfl
@[simp] theorem go_skip (K:List Fr) (s:St):go Φ fin (.c .skip::K) .normal s=go Φ fin K .normal s:=by
 rw [go_c,Zz]
@[simp] theorem go_ret (K:List Fr) (s:St):go Φ fin (.c .ret::K) .normal s=fin (some (.ret,s)):=by
 rw [go_c,LG];exact TT K s
@[simp] theorem go_exit (i:Nat) (K:List Fr) (s:St):go Φ fin (.c (.exit i)::K) .normal s=go Φ fin K (.exit i) s:=by
 rw [go_c,Zx]
@[simp] theorem go_seq (a b:Xu) (K:List Fr) (s:St):go Φ fin (.c (.seq a b)::K) .normal s=go Φ fin (.c a:: .c b::K) .normal s:=by
 rw [go_c,go_c,LH];cases eY Φ a s with
 | none=>rfl
 | some p=>
  obtain ⟨ex,s'⟩:=p;cases ex with
  | normal=>simp only [];rw [go_c]
  | exit i=>simp
  | ret=>simp
  | pan v=>simp
@[simp] theorem Vb (i:Nat) (b:Xu) (K:List Fr) (s:St):go Φ fin (.c (.block i b)::K) .normal s=go Φ fin (.c b:: .b i::K) .normal s:=by
 rw [go_c,go_c,Yl];cases eY Φ b s with
 | none=>rfl
 | some p=>
  obtain ⟨ex,s'⟩:=p;cases ex with
  | normal=>simp
  | exit j=>
   simp only [go_bx];by_cases h:j=i
   ·simp [h]
   ·simp [h]
  | ret=>simp
  | pan v=>simp
theorem cW (b:Xu) (K:List Fr) (s:St):go Φ fin (.c (.loop b)::K) .normal s=go Φ fin (.c b:: .c (.loop b)::K) .normal s:=by
 rw [go_c,go_c,Zy];cases eY Φ b s with
 | none=>rfl
 | some p=>
  obtain ⟨ex,s'⟩:=p;cases ex with
  | normal=>simp only [];rw [go_c]
  | exit i=>simp
  | ret=>simp
  | pan v=>simp
@[simp] theorem go_cond (x:AX) (a b:Xu) (K:List Fr) (s:St):go Φ fin (.c (.cond x a b)::K) .normal s=GR Φ fin (evX s.e x) a b K s:=by
 rw [go_c,Zw];cases h:evX s.e x with
 | none=>rfl
 | some v=>
  cases v with
  | bool b=>
   cases b with
   | true=>simp only [KM];rw [go_c]
   | false=>simp only [Yt];rw [go_c]
  | _=>rfl
theorem TR {t:Nat} {ks:List Nat} {K:List Fr} {e:Env} {H:AH} {id z i off:Nat} (h:look t e=some (.ptr id z i off)):go Φ fin (.f (t::ks)::K) .normal ⟨e,H⟩=frzG Φ fin t ks K e H id z i off (H.get id):=by
 rw [JJ];simp only [frzP,h,JG,frzG];cases H.get id with
 | none=>rfl
 | some o=>cases o with
  | row z' es=>
   by_cases hc:z'=z/\anyL (bor aE) es.flatten=false
   ·simp only [a8 hc];cases mapO (mapO (snap aE H)) es<;>rfl
   ·simp only [QA hc]
  | _=>rfl
@[simp] theorem Tz (d:Bool) (ops:List Xv) (o:Option (List Nat)) (K:List Fr) (s:St):go Φ fin (.c (.region d [] ops o)::K) .normal s=oR Φ fin d ops (frK o K) s:=by
 rw [go_c,Wp];unfold oR;cases aN (aD Φ) none ops s with
 | none=>cases d<;>rfl
 | some p=>
  obtain ⟨ex,s'⟩:=p;cases ex<;>cases d<;>simp [F6,L4,Yz,L5]
theorem cP {f:FuncId} {fn:AFn} (hf:Φ f=some (.code fn)) {as:List AV} {H:AH} (hl:as.length=fn.nparams):
  aD Φ f as H=go Φ (finC fn.results) [.c fn.body] .normal ⟨iE 0 as,H⟩:=by
 rw [Zr Φ hf hl,go_c];cases eY Φ fn.body ⟨iE 0 as,H⟩ with
 | none=>rfl
 | some p=>rfl
theorem aC {f:FuncId} {fn:AFn} (hf:Φ f=some (.code fn)) {as:List AV} (hl:as.length=fn.nparams):
  a9 Φ f as=go Φ (finP fn.results) [.c fn.body] .normal ⟨iE 0 as,H0⟩:=by
 unfold a9;rw [cP hf hl];rfl
end
def retC (h:AH):Option AV->Option (Rt×AH)
 | some v=>some (.val v,h)
 | none=>none
def retP (h:AH):Option AV->Option Rt
 | some v=>match snap aE h v with
  | some r=>some (.val r)
  | none=>none
 | none=>none
@[simp] theorem Uh (h:AH) (v:AV):retC h (some v)=some (.val v,h):=rfl
theorem Jf (h:AH) (v:AV):retP h (some v)=match snap aE h v with
  | some r=>some (.val r)
  | none=>none:=rfl
theorem Da {rs:List ARes} {ex:Ex} {s:St} (he:ex= .ret\/ex= .normal):finC rs (some (ex,s))=retC s.h (retV rs s):=by
 unfold finC AC retV retC;rcases he with rfl | rfl
 all_goals
  dsimp only;cases mapO (uA s) rs with
  | none=>rfl
  | some vs=>match vs with
   | []=>rfl
   | [v]=>rfl
   | _::_::_=>rfl
@[simp] theorem Tp (rs:List ARes) (s:St):finC rs (some (.ret,s))=retC s.h (retV rs s):=Da (.inl rfl)
@[simp] theorem Ps (rs:List ARes) (s:St):finC rs (some (.normal,s))=retC s.h (retV rs s):=Da (.inr rfl)
@[simp] theorem To (rs:List ARes) (v:AV) (s:St):finC rs (some (.pan v,s))=some (.pan v,s.h):=rfl
theorem SG {rs:List ARes} {ex:Ex} {s:St} (he:ex= .ret\/ex= .normal):finP rs (some (ex,s))=retP s.h (retV rs s):=by
 have:=Da (rs:=rs) (s:=s) he;unfold finC at this;unfold finP;rw [this];cases retV rs s<;>rfl
@[simp] theorem Us (rs:List ARes) (s:St):finP rs (some (.ret,s))=retP s.h (retV rs s):=SG (.inl rfl)
@[simp] theorem Ur (rs:List ARes) (v:AV) (s:St):finP rs (some (.pan v,s))=oP (some (.pan v,s.h)):=rfl
end Go.Av
namespace Go.Av
@[simp] theorem evX_t (e:Env) (n:Nat):evX e (.t n)=look n e:=rfl
@[simp] theorem evX_c (e:Env) (v:AV):evX e (.c v)=some v:=rfl
@[simp] theorem Vg {α:Type} (t:Nat) (x:α) (r:List (Nat×α)):look t ((t,x)::r)=some x:=by simp [look]
@[simp] theorem jG {α:Type} (t u:Nat) (x:α) (r:List (Nat×α)) (h:u≠t):look t ((u,x)::r)=look t r:=by simp [look,h]
@[simp] theorem Ug (e:Env) (t:Nat) (v:AV):putE e (some t) v=(t,v)::e:=rfl
@[simp] theorem Uf (e:Env) (v:AV):putE e none v=e:=rfl
attribute [simp] iE
theorem zF {α:Type} (t:Nat):∀(a b:List (Nat×α)),look t (a++b)=(look t a).or (look t b)
 | [],b=>by simp [look]
 | (u,x)::a,b=>by
  simp only [mD,look];split
  ·simp
  ·exact zF t a b
@[simp] theorem IW {α:Type} (t:Nat):look t ([]:List (Nat×α))=none:=Eq.trans (Eq.refl none) (Eq.refl none)
@[simp] theorem Vh {α:Type} (t:Nat) (y:α):setl t y []=[]:=Eq.trans (Eq.refl []) (Eq.refl [])
@[simp] theorem R4 {α:Type} (t:Nat) (x y:α) (r:List (Nat×α)):setl t y ((t,x)::r)=(t,y)::r:=by simp [setl]
@[simp] theorem NQ {α:Type} (t u:Nat) (x y:α) (r:List (Nat×α)) (h:u≠t):setl t y ((u,x)::r)=(u,x)::setl t y r:=by simp [setl,h]
@[simp] theorem Tq {α:Type} (t:Nat):dropl t ([]:List (Nat×α))=[]:=Eq.trans (Eq.refl []) (Eq.refl [])
@[simp] theorem MC {α:Type} (t:Nat) (x:α) (r:List (Nat×α)):dropl t ((t,x)::r)=r:=by simp [dropl]
@[simp] theorem KP {α:Type} (t u:Nat) (x:α) (r:List (Nat×α)) (h:u≠t):dropl t ((u,x)::r)=(u,x)::dropl t r:=by simp [dropl,h]
@[simp] theorem Te:bW []=[]:=Eq.trans (Eq.refl []) (Eq.refl [])
@[simp] theorem LS (u:Nat) (r:List (Nat×AO)):bW ((u,.res)::r)=bW r:=by simp [bW]
@[simp] theorem Tf (u z:Nat) (es:List (List AV)) (r:List (Nat×AO)):bW ((u,.row z es)::r)=(u,.row z es)::bW r:=by simp [bW]
@[simp] theorem Rp (u z f:Nat) (r:List (Nat×AO)):bW ((u,.tok z f)::r)=(u,.tok z f)::bW r:=by simp [bW]
@[simp] theorem Td (u:Nat) (es:List (AV×AV)) (r:List (Nat×AO)):bW ((u,.map es)::r)=(u,.map es)::bW r:=by simp [bW]
@[simp] theorem get_mk (l:List (Nat×AO)) (n t:Nat):AH.get ⟨l,n⟩ t=look t l:=by simp [AH.get]
@[simp] theorem set_mk (l:List (Nat×AO)) (n t:Nat) (o:AO):AH.set ⟨l,n⟩ t o=⟨setl t o l,n⟩:=by simp [AH.set]
@[simp] theorem kill_mk (l:List (Nat×AO)) (n t:Nat):AH.kill ⟨l,n⟩ t=⟨dropl t l,n⟩:=by simp [AH.kill]
@[simp] theorem new_mk (l:List (Nat×AO)) (n:Nat) (o:AO):AH.new ⟨l,n⟩ o=⟨l++[(n,o)],n+1⟩:=by simp [AH.new]
@[simp] theorem resv_mk (l:List (Nat×AO)) (n:Nat) (ds:List Nat):AH.resv ⟨l,n⟩ ds=⟨l++ds.map fun d=>(n+d,.res),n+maxN ds+1⟩:=by simp [AH.resv]
@[simp] theorem Vo (l:List (Nat×AO)) (n:Nat):AH.sweep ⟨l,n⟩=⟨bW l,n⟩:=by simp [AH.sweep]
@[simp] theorem put_new {l:List (Nat×AO)} {n t:Nat} {o:AO} (h:look t l=none):AH.put ⟨l,n⟩ t o=⟨l++[(n,o)],n+1⟩:=by
 simp [AH.put,h]
@[simp] theorem put_res {l:List (Nat×AO)} {n t:Nat} {o:AO} (h:look t l=some .res):AH.put ⟨l,n⟩ t o=⟨setl t o l,n⟩:=by
 simp [AH.put,h]
@[simp] theorem H0_mk:H0=⟨[],0⟩:=Eq.trans (Eq.refl H0) (Eq.refl H0)
attribute [simp] maxN
def Tail (T:List (Nat×AO)) (n:Nat):Prop:=∀j,n<=j->look j T=none
theorem Tail.nil (n:Nat):Tail [] n:=fun _ _=>rfl
theorem Tail.app {T:List (Nat×AO)} {n:Nat} (h:Tail T n) (o:AO):Tail (T++[(n,o)]) (n+1):=by
 intro j hj;rw [zF,h j (by omega)];have:n≠j:=by omega
 simp [look,this]
theorem Tail.mono {T:List (Nat×AO)} {n m:Nat} (h:Tail T n) (hm:n<=m):Tail T m:=fun j hj=>h j (by omega)
@[simp] theorem Ue {T r:List (Nat×AO)} {t:Nat} (h:look t T=none):look t (T++r)=look t r:=by rw [zF,h];simp
@[simp] theorem Ui {T r:List (Nat×AO)} {t:Nat} {y:AO} (h:look t T=none):setl t y (T++r)=T++setl t y r:=by
 induction T with
 | nil=>rfl
 | cons p T ih=>
  obtain ⟨u,x⟩:=p;simp only [look] at h;split at h
  ·cases h
  ·rename_i hne;simp [setl,hne,ih h]
@[simp] theorem Si {T r:List (Nat×AO)} {t:Nat} (h:look t T=none):dropl t (T++r)=T++dropl t r:=by
 induction T with
 | nil=>rfl
 | cons p T ih=>
  obtain ⟨u,x⟩:=p;simp only [look] at h;split at h
  ·cases h
  ·rename_i hne;simp [dropl,hne,ih h]
def vH (H:AH):Option AV->Option (Rt×AH)
 | some v=>some (.val v,H)
 | none=>none
@[simp] theorem vH_some (H:AH) (v:AV):vH H (some v)=some (.val v,H):=rfl
section
variable {Φ:FuncId->Option AFun} {e:Env} {nx:Nat} {h:AH}
def cV:Option (AV×AH)->Option (Rt×AH)
 | some (v,h)=>some (.val v,h)
 | none=>none
@[simp] theorem Sx (v:AV) (h:AH):cV (some (v,h))=some (.val v,h):=rfl
theorem eH {call:aJ} {op:AOp} (hk:op.isCall=false):aB call e nx h op=cV (evOp e nx h op):=by
 rw [BA hk];cases evOp e nx h op<;>rfl
@[simp] theorem Sr {call:aJ}:∀y0,aB call e nx h (.mov y0)=cV (evOp e nx h (.mov y0)):=fun y0=>eH rfl
@[simp] theorem Oq {call:aJ}:∀y0,aB call e nx h (.nilapp y0)=cV (evOp e nx h (.nilapp y0)):=fun y0=>eH rfl
@[simp] theorem Ro {call:aJ}:∀y0 y1 y2,aB call e nx h (.pick y0 y1 y2)=cV (evOp e nx h (.pick y0 y1 y2)):=fun y0 y1 y2=>eH rfl
@[simp] theorem Pe {call:aJ}:∀y0,aB call e nx h (.alloc y0)=cV (evOp e nx h (.alloc y0)):=fun y0=>eH rfl
@[simp] theorem Sl {call:aJ}:∀y0,aB call e nx h (.box y0)=cV (evOp e nx h (.box y0)):=fun y0=>eH rfl
@[simp] theorem Rj {call:aJ}:∀y0,aB call e nx h (.boxi y0)=cV (evOp e nx h (.boxi y0)):=fun y0=>eH rfl
@[simp] theorem Pf {call:aJ}:∀y0 y1,aB call e nx h (.build y0 y1)=cV (evOp e nx h (.build y0 y1)):=fun y0 y1=>eH rfl
@[simp] theorem Ol {call:aJ}:∀y0 y1 y2 y3,aB call e nx h (.bslice y0 y1 y2 y3)=cV (evOp e nx h (.bslice y0 y1 y2 y3)):=fun y0 y1 y2 y3=>eH rfl
@[simp] theorem Rn {call:aJ}:∀y0 y1 y2,aB call e nx h (.load y0 y1 y2)=cV (evOp e nx h (.load y0 y1 y2)):=fun y0 y1 y2=>eH rfl
@[simp] theorem Pm {call:aJ}:∀y0 y1 y2,aB call e nx h (.store y0 y1 y2)=cV (evOp e nx h (.store y0 y1 y2)):=fun y0 y1 y2=>eH rfl
@[simp] theorem Ot {call:aJ}:∀y0,aB call e nx h (.nilchk y0)=cV (evOp e nx h (.nilchk y0)):=fun y0=>eH rfl
@[simp] theorem Sk {call:aJ}:∀y0 y1 y2,aB call e nx h (.bin y0 y1 y2)=cV (evOp e nx h (.bin y0 y1 y2)):=fun y0 y1 y2=>eH rfl
@[simp] theorem Sn {call:aJ}:∀y0 y1 y2 y3 y4,aB call e nx h (.eqs y0 y1 y2 y3 y4)=cV (evOp e nx h (.eqs y0 y1 y2 y3 y4)):=fun y0 y1 y2 y3 y4=>eH rfl
@[simp] theorem Sm {call:aJ}:∀y0 y1 y2,aB call e nx h (.eqn y0 y1 y2)=cV (evOp e nx h (.eqn y0 y1 y2)):=fun y0 y1 y2=>eH rfl
@[simp] theorem Tu {call:aJ}:∀y0 y1,aB call e nx h (.un y0 y1)=cV (evOp e nx h (.un y0 y1)):=fun y0 y1=>eH rfl
@[simp] theorem Rk {call:aJ}:∀y0 y1,aB call e nx h (.conv y0 y1)=cV (evOp e nx h (.conv y0 y1)):=fun y0 y1=>eH rfl
@[simp] theorem Hf {call:aJ}:∀y0,aB call e nx h (.b2s y0)=cV (evOp e nx h (.b2s y0)):=fun y0=>eH rfl
@[simp] theorem Oc {call:aJ}:∀y0 y1,aB call e nx h (.mkiface y0 y1)=cV (evOp e nx h (.mkiface y0 y1)):=fun y0 y1=>eH rfl
@[simp] theorem Oo {call:aJ}:∀y0 y1 y2,aB call e nx h (.mkfunc y0 y1 y2)=cV (evOp e nx h (.mkfunc y0 y1 y2)):=fun y0 y1 y2=>eH rfl
@[simp] theorem Od {call:aJ}:∀y0 y1 y2 y3 y4 y5,aB call e nx h (.mkslice y0 y1 y2 y3 y4 y5)=cV (evOp e nx h (.mkslice y0 y1 y2 y3 y4 y5)):=fun y0 y1 y2 y3 y4 y5=>eH rfl
@[simp] theorem Ss {call:aJ}:∀y0 y1 y2 y3 y4,aB call e nx h (.slc y0 y1 y2 y3 y4)=cV (evOp e nx h (.slc y0 y1 y2 y3 y4)):=fun y0 y1 y2 y3 y4=>eH rfl
@[simp] theorem Ph {call:aJ}:∀y0 y1,aB call e nx h (.faddr y0 y1)=cV (evOp e nx h (.faddr y0 y1)):=fun y0 y1=>eH rfl
@[simp] theorem Sp {call:aJ}:∀y0 y1 y2 y3,aB call e nx h (.fld y0 y1 y2 y3)=cV (evOp e nx h (.fld y0 y1 y2 y3)):=fun y0 y1 y2 y3=>eH rfl
@[simp] theorem Pi {call:aJ}:∀y0 y1 y2 y3,aB call e nx h (.iaddr y0 y1 y2 y3)=cV (evOp e nx h (.iaddr y0 y1 y2 y3)):=fun y0 y1 y2 y3=>eH rfl
@[simp] theorem Rm {call:aJ}:∀y0 y1,aB call e nx h (.idxs y0 y1)=cV (evOp e nx h (.idxs y0 y1)):=fun y0 y1=>eH rfl
@[simp] theorem So {call:aJ}:∀y0 y1,aB call e nx h (.ext y0 y1)=cV (evOp e nx h (.ext y0 y1)):=fun y0 y1=>eH rfl
@[simp] theorem Sq {call:aJ}:∀y0,aB call e nx h (.len y0)=cV (evOp e nx h (.len y0)):=fun y0=>eH rfl
@[simp] theorem Pr {call:aJ}:∀y0,aB call e nx h (.slen y0)=cV (evOp e nx h (.slen y0)):=fun y0=>eH rfl
@[simp] theorem Oj {call:aJ}:∀y0 y1 y2 y3 y4,aB call e nx h (.append y0 y1 y2 y3 y4)=cV (evOp e nx h (.append y0 y1 y2 y3 y4)):=fun y0 y1 y2 y3 y4=>eH rfl
@[simp] theorem Rl {call:aJ}:∀y0 y1 y2,aB call e nx h (.copy y0 y1 y2)=cV (evOp e nx h (.copy y0 y1 y2)):=fun y0 y1 y2=>eH rfl
@[simp] theorem Pg {call:aJ}:∀y0 y1,aB call e nx h (.clear y0 y1)=cV (evOp e nx h (.clear y0 y1)):=fun y0 y1=>eH rfl
@[simp] theorem On {call:aJ}:∀y0 y1,aB call e nx h (.minmax y0 y1)=cV (evOp e nx h (.minmax y0 y1)):=fun y0 y1=>eH rfl
@[simp] theorem Pj {call:aJ}:aB call e nx h .mkmap=cV (evOp e nx h .mkmap):=eH rfl
@[simp] theorem Om {call:aJ}:∀y0 y1 y2 y3 y4,aB call e nx h (.lookup y0 y1 y2 y3 y4)=cV (evOp e nx h (.lookup y0 y1 y2 y3 y4)):=fun y0 y1 y2 y3 y4=>eH rfl
@[simp] theorem Pa {call:aJ}:∀y0 y1 y2 y3,aB call e nx h (.update y0 y1 y2 y3)=cV (evOp e nx h (.update y0 y1 y2 y3)):=fun y0 y1 y2 y3=>eH rfl
@[simp] theorem Pl {f:FuncId} {xs:List AX}:aB (aD Φ) e nx h (.pcall f xs)=match mapO (evX e) xs with
  | some as=>iI (aD Φ) f as h
  | none=>none:=rfl
@[simp] theorem Ov {f:FuncId} {xs:List AX}:aB (aD Φ) e nx h (.pcallk f xs)=match mapO (evX e) xs with
  | some as=>match BZ as with
   | some id=>match mapO (u6 h id) as with
    | some as'=>if anyL (bor aE) as' then none else iI (aD Φ) f as' (h.kill id)
    | none=>none
   | none=>none
  | none=>none:=rfl
@[simp] theorem Ow {f:FuncId} {xs:List AX}:aB (aD Φ) e nx h (.pcallr f xs)=match mapO (evX e) xs with
  | some as=>nH (aD Φ) f as nx h
  | none=>none:=rfl
@[simp] theorem Oy {d:Nat} {f:FuncId} {xs:List AX}:aB (aD Φ) e nx h (.pcallz d f xs)=match mapO (evX e) xs with
  | some as=>match mapO (snap aE (h.old (nx - d))) as with
   | some as'=>if anyL (bor aE) as' then none else iI (aD Φ) f as' (h.cut (nx - d))
   | none=>none
  | none=>none:=rfl
@[simp] theorem Ou {f:FuncId} {xs:List AX}:aB (aD Φ) e nx h (.pcallf f xs)=match mapO (evX e) xs with
  | some as=>qQ (aD Φ) f as h
  | none=>none:=rfl
@[simp] theorem Pn {f:FuncId} {xs:List AX}:aB (aD Φ) e nx h (.tcall f xs)=match mapO (evX e) xs with
  | some as=>aD Φ f as h
  | none=>none:=rfl
@[simp] theorem Ox {f:AX} {xs:List AX}:aB (aD Φ) e nx h (.pcallv f xs)=match evX e f,mapO (evX e) xs with
  | some fv,some as=>match tgt2 fv with
   | some (f,first,caps)=>iI (aD Φ) f (first++as++caps) h
   | none=>none
  | _,_=>none:=rfl
@[simp] theorem Oz {f:AX} {xs:List AX}:aB (aD Φ) e nx h (.tcallv f xs)=match evX e f,mapO (evX e) xs with
  | some fv,some as=>match tgt2 fv with
   | some (f,first,caps)=>aD Φ f (first++as++caps) h
   | none=>none
  | _,_=>none:=rfl
@[simp] theorem Oe {ms:List (TypeId×FuncId)} {x:AX} {xs:List AX}:aB (aD Φ) e nx h (.pinvoke ms x xs)=match evX e x,mapO (evX e) xs with
  | some (.iface t v),some as=>match look t ms with
   | some f=>iI (aD Φ) f (v::as) h
   | none=>none
  | _,_=>none:=rfl
@[simp] theorem Of {ms:List (TypeId×FuncId)} {x:AX} {xs:List AX}:aB (aD Φ) e nx h (.tinvoke ms x xs)=match evX e x,mapO (evX e) xs with
  | some (.iface t v),some as=>match look t ms with
   | some f=>aD Φ f (v::as) h
   | none=>none
  | _,_=>none:=rfl
@[simp] theorem Pk {x:AX}:aB (aD Φ) e nx h (.panic x)=match evX e x with
  | some (.iface t v)=>some (.pan (.iface t v),h)
  | _=>none:=rfl
@[simp] theorem Uo (f:FuncId) (first caps:List AV):tgt2 (.func (.func f) first caps)=some (f,first,caps):=rfl
@[simp] theorem Vp (f:FuncId) (caps:List AV):tgt (.func (.func f) [] caps)=some (f,caps):=rfl
@[simp] theorem Pc {f:FuncId} {as:List AV}:iI (aD Φ) f as h=
  match mapO (snap aE h) as with
  | some as'=>tX (anyL (bor aE) as) h (a9 Φ f as')
  | none=>none:=Zd Φ f as h
@[simp] theorem Pq (r:AV):tX false h (some (.val r))=some (.val r,h):=rfl
@[simp] theorem Og (r:AV):tX true h (some (.val r))=if flat aE r then some (.val r,h) else none:=by
 simp only [tX,CH];cases flat aE r<;>rfl
@[simp] theorem Pp (b:Bool) (r:AV):tX b h (some (.pan r))=if flat aE r then some (.pan r,h) else none:=rfl
attribute [simp] evOp mapO AV.cells part CZ C3 idx bnd lenOf bndM bndH bndL oF eqK eqLs GS
 jJ frz oM anyL aE mapO asInt eszOf
 retV uA retP oP
end
section
variable {n:Nat} {H:AH}
@[simp] theorem Bz (cs:List AV):snap (n+1) H (.agg cs)=(mapO (snap n H) cs).map .agg:=by simp only [snap]
@[simp] theorem Vn (cs:List AV):snap (n+1) H (.tup cs)=(mapO (snap n H) cs).map .tup:=by simp only [snap]
@[simp] theorem Ta (t:TypeId) (v:AV):snap (n+1) H (.iface t v)=(snap n H v).map (.iface t):=by simp only [snap]
@[simp] theorem Uk (fn:Fn) (a b:List AV):snap (n+1) H (.func fn a b)=match mapO (snap n H) a with
  | none=>none
  | some a'=>(mapO (snap n H) b).map (.func fn a'):=by simp only [snap];rfl
@[simp] theorem Pu (e:Nat) (es:List (List AV)):snap (n+1) H (.Xt e es)=some (.slice e es):=by simp only [snap]
@[simp] theorem Vi (e t:Nat) (es:List (List AV)):snap (n+1) H (.app e es t)=some (.slice e es):=by simp only [snap]
@[simp] theorem Tb (e:Nat) (es:List (List AV)):snap (n+1) H (.slice e es)=some (.slice e es):=by simp only [snap]
@[simp] theorem Ul (e i o:Nat) (es:List (List AV)):snap (n+1) H (.iptr e es i o)=some (.iptr e es i o):=by simp only [snap]
@[simp] theorem Uj (b:Bool):snap (n+1) H (.bool b)=some (.bool b):=by simp only [snap]
@[simp] theorem Vj (k:IntKind) (x:Int):snap (n+1) H (.int k x)=some (.int k x):=by simp only [snap]
@[simp] theorem Vm (x:List UInt8):snap (n+1) H (.str x)=some (.str x):=by simp only [snap]
@[simp] theorem Vk (id esz i off:Nat):snap (n+1) H (.ptr id esz i off)=match H.get id with
  | some (.row esz' es)=>if esz'=esz then (mapO (mapO (snap n H)) es).map fun es'=> .iptr esz es' i off else none
  | _=>none:=by simp only [snap];rfl
@[simp] theorem Vl (id esz off len:Nat):snap (n+1) H (.row id esz off len)=match H.get id with
  | some (.row esz' es)=>if esz'=esz/\off+len<=es.length then (mapO (mapO (snap n H)) ((es.drop off).take len)).map (.slice esz) else none
  | _=>none:=by simp only [snap];rfl
@[simp] theorem bor_agg (cs:List AV):bor (n+1) (.agg cs)=anyL (bor n) cs:=by simp only [bor]
@[simp] theorem Tg (fn:Fn) (a b:List AV):bor (n+1) (.func fn a b)=(anyL (bor n) a || anyL (bor n) b):=by simp only [bor]
@[simp] theorem bor_ptr (a b c d:Nat):bor (n+1) (.ptr a b c d)=true:=by simp only [bor]
@[simp] theorem bor_row (a b c d:Nat):bor (n+1) (.row a b c d)=true:=by simp only [bor]
@[simp] theorem Px (e:Nat) (es:List (List AV)):bor (n+1) (.Xt e es)=false:=by simp only [bor]
@[simp] theorem bor_app (e t:Nat) (es:List (List AV)):bor (n+1) (.app e es t)=false:=by simp only [bor]
@[simp] theorem Rq (e:Nat) (es:List (List AV)):bor (n+1) (.slice e es)=false:=by simp only [bor]
@[simp] theorem Th (e i o:Nat) (es:List (List AV)):bor (n+1) (.iptr e es i o)=false:=by simp only [bor]
@[simp] theorem Uq (b:Bool):bor (n+1) (.bool b)=false:=by simp only [bor]
@[simp] theorem bor_int (k:IntKind) (x:Int):bor (n+1) (.int k x)=false:=by simp only [bor]
@[simp] theorem bor_str (x:List UInt8):bor (n+1) (.str x)=false:=by simp only [bor]
@[simp] theorem Ut (cs:List AV):flat (n+1) (.agg cs)= !anyL (fun c=> !flat n c) cs:=by simp only [flat]
@[simp] theorem Tv (b:Bool):flat (n+1) (.bool b)=true:=by simp only [flat]
@[simp] theorem Uu (k:IntKind) (x:Int):flat (n+1) (.int k x)=true:=by simp only [flat]
end
section lits
variable {k n:Nat}
@[simp] theorem lit_lt:((no_index (@OfNat.ofNat Int k instOfNat))<(n:Int))↔@OfNat.ofNat Nat k (instOfNatNat k)<n:=Int.ofNat_lt
@[simp] theorem lit_le:((no_index (@OfNat.ofNat Int k instOfNat))<=(n:Int))↔@OfNat.ofNat Nat k (instOfNatNat k)<=n:=Int.ofNat_le
@[simp] theorem lt_lit:((n:Int)<(no_index (@OfNat.ofNat Int k instOfNat)))↔n< @OfNat.ofNat Nat k (instOfNatNat k):=Int.ofNat_lt
@[simp] theorem le_lit:((n:Int)<=(no_index (@OfNat.ofNat Int k instOfNat)))↔n<=@OfNat.ofNat Nat k (instOfNatNat k):=Int.ofNat_le
@[simp] theorem eq_lit:((n:Int)=(no_index (@OfNat.ofNat Int k instOfNat)))↔n= @OfNat.ofNat Nat k (instOfNatNat k):=Int.ofNat_inj
end lits
attribute [simp] Int.natCast_inj Int.ofNat_lt Int.ofNat_le
@[simp] theorem bin_add (k:IntKind) (x y:Int):cT .add (.int k x) (.int k y)=some (.int k (k.wrap (x+y))):=by simp [cT]
@[simp] theorem bin_sub (k:IntKind) (x y:Int):cT .sub (.int k x) (.int k y)=some (.int k (k.wrap (x - y))):=by simp [cT]
@[simp] theorem bin_mul (k:IntKind) (x y:Int):cT .mul (.int k x) (.int k y)=some (.int k (k.wrap (x*y))):=by simp [cT]
@[simp] theorem bin_quo (k:IntKind) (x y:Int) (h:y≠0):cT .quo (.int k x) (.int k y)=some (.int k (k.wrap (x.tdiv y))):=by simp [cT,h]
@[simp] theorem bin_rem (k:IntKind) (x y:Int) (h:y≠0):cT .rem (.int k x) (.int k y)=some (.int k (x.tmod y)):=by simp [cT,h]
@[simp] theorem bin_eql (k:IntKind) (x y:Int):cT .eql (.int k x) (.int k y)=some (.bool (decide (x=y))):=by
 simp [cT,C9]
@[simp] theorem bin_neq (k:IntKind) (x y:Int):cT .neq (.int k x) (.int k y)=some (.bool (!decide (x=y))):=by
 simp [cT,C9,bne]
@[simp] theorem bin_lss (k:IntKind) (x y:Int):cT .lss (.int k x) (.int k y)=some (.bool (decide (x<y))):=by simp [cT]
@[simp] theorem bin_leq (k:IntKind) (x y:Int):cT .leq (.int k x) (.int k y)=some (.bool (decide (x<=y))):=by simp [cT]
@[simp] theorem bin_gtr (k:IntKind) (x y:Int):cT .gtr (.int k x) (.int k y)=some (.bool (decide (x>y))):=by simp [cT]
@[simp] theorem bin_geq (k:IntKind) (x y:Int):cT .geq (.int k x) (.int k y)=some (.bool (decide (x>=y))):=by simp [cT]
@[simp] theorem Up (x y:List UInt8):cT .eql (.str x) (.str y)=some (.bool (decide (x=y))):=by
 simp [cT,C9]
def iand (k:IntKind) (x y:Int):Int:=k.wrap (BitVec.ofInt k.bits x&&& BitVec.ofInt k.bits y).toNat
def ior (k:IntKind) (x y:Int):Int:=k.wrap (BitVec.ofInt k.bits x ||| BitVec.ofInt k.bits y).toNat
def ixor (k:IntKind) (x y:Int):Int:=k.wrap (BitVec.ofInt k.bits x^^^BitVec.ofInt k.bits y).toNat
def BP (k:IntKind) (x y:Int):Int:=k.wrap (BitVec.ofInt k.bits x&&& ~~~BitVec.ofInt k.bits y).toNat
def ishl (k:IntKind) (x y:Int):Int:=k.wrap (x*2^(min y.toNat k.bits))
def ishr (k:IntKind) (x y:Int):Int:=x.fdiv (2^(min y.toNat k.bits))
def inot (k:IntKind) (n:Int):Int:=k.wrap (BitVec.ofInt k.bits (if k.signed then -1 else k.max)^^^BitVec.ofInt k.bits n).toNat
@[simp] theorem bin_and (k:IntKind) (x y:Int):cT .and (.int k x) (.int k y)=some (.int k (iand k x y)):=by simp [cT,iand]
@[simp] theorem bin_or (k:IntKind) (x y:Int):cT .or (.int k x) (.int k y)=some (.int k (ior k x y)):=by simp [cT,ior]
@[simp] theorem bin_xor (k:IntKind) (x y:Int):cT .xor (.int k x) (.int k y)=some (.int k (ixor k x y)):=by simp [cT,ixor]
@[simp] theorem Pw (k:IntKind) (x y:Int):cT .andNot (.int k x) (.int k y)=some (.int k (BP k x y)):=by simp [cT,BP]
@[simp] theorem bin_shl (k k':IntKind) (x y:Int) (h:0<=y):cT .shl (.int k x) (.int k' y)=some (.int k (ishl k x y)):=by
 have:¬y<0:=by omega
 simp [cT,ishl,this]
@[simp] theorem bin_shr (k k':IntKind) (x y:Int) (h:0<=y):cT .shr (.int k x) (.int k' y)=some (.int k (ishr k x y)):=by
 have:¬y<0:=by omega
 simp [cT,ishr,this]
@[simp] theorem un_xor (k:IntKind) (n:Int):unAV .xor (.int k n)=some (.int k (inot k n)):=rfl
@[simp] theorem un_not (b:Bool):unAV .not (.bool b)=some (.bool !b):=rfl
@[simp] theorem un_neg (k:IntKind) (n:Int):unAV .neg (.int k n)=some (.int k (k.wrap (0 - n))):=rfl
theorem cU {n:Int} (h1: -2^63<=n:=by omega) (h2:n<2^63:=by omega):IntKind.wrap .i64 n=n:=by
 have e1:(2:Int)^64=18446744073709551616:=rfl;have e2:(2:Int)^(64 - 1)=9223372036854775808:=rfl;simp only [IntKind.wrap,IntKind.bits,IntKind.signed,CH,decide_eq_true_eq,e1,e2];have e3:(2:Int)^63=9223372036854775808:=rfl;rw [e3] at h1 h2;split<;>omega
theorem aH (i:Nat) (h:i<2^62):IntKind.wrap .i64 ((i:Int)+1)=((i+1:Nat):Int):=cU
@[simp] theorem Pv (z:Nat):jK z []=true:=rfl
@[simp] theorem Qz (z:Nat) (e:List AV) (es:List (List AV)):jK z (e::es)=(e.length == z&&jK z es):=by simp [jK]
@[simp] theorem p6 {α:Type} (z:Nat) (f:α->List AV) (l:List α) (h:∀x,(f x).length=z):jK z (l.map f)=true:=by
 induction l with
 | nil=>rfl
 | cons a l ih=>simp [h,ih]
@[simp] theorem eqKd_b (x y:Bool):eqKd .b (.bool x) (.bool y)=some (decide (x=y)):=by simp [eqKd,C9]
@[simp] theorem eqKd_i (k:IntKind) (x y:Int):eqKd .i (.int k x) (.int k y)=some (decide (x=y)):=by simp [eqKd,C9]
@[simp] theorem eqKd_s (x y:List UInt8):eqKd .s (.str x) (.str y)=some (decide (x=y)):=by simp [eqKd,C9]
section
variable {Φ:FuncId->Option AFun} {I:Type} {fin:Option (Ex×St)->Option I}
variable (Φ fin) in
noncomputable def drG (base : Nat) (pairs : List (Nat × Nat)) (acc : List Foot) (ops : List Xv) (K : List Fr) (s : St) : Option I :=
 match aN (aD Φ) (some base) ops s with
 | some (.normal,s')=>if A5 pairs (acc++feet (aD Φ) (some base) ops s) then go Φ fin K .normal ⟨s'.e,s'.h.sweep⟩ else fin none
 | _=>fin none
variable (Φ fin) in
noncomputable def tZ (base : Nat) (pairs : List (Nat × Nat)) (acc : List Foot) (f : Foot) (h0 : AH) (dst : Option Nat) (r : List Xv) (K : List Fr) (e : Env) (o : Option (Rt × AH)) : Option I :=
 match o with
 | some (.val v,h)=>drG Φ fin base pairs (acc++[nB f h0 h]) r K ⟨putE e dst v,h⟩
 | _=>fin none
variable (Φ fin) in
noncomputable def D5 (o : Option Bool) (base : Nat) (pairs : List (Nat × Nat)) (acc : List Foot) (dst : Option Nat) (op : AOp) (r : List Xv) (K : List Fr) (e : Env) (h : AH) : Option I :=
 match o with
 | some true=>tZ Φ fin base pairs acc (foot e (bG (some base) dst h) h op) h dst r K e (aB (aD Φ) e (bG (some base) dst h) h op)
 | some false=>drG Φ fin base pairs (acc++[(some [],.no)]) r K ⟨putE e dst (.tup []),h⟩
 | none=>fin none
variable (Φ fin) in
noncomputable def JQ (b : Bool) (K : List Fr) (e : Env) (h : AH) : Option I := if b then go Φ fin K .normal ⟨e, h.sweep⟩ else fin none
theorem Wt {base:Nat} {pairs:List (Nat×Nat)} {acc acc':List Foot} {f f':Foot} {h0:AH} {dst:Option Nat} {r:List Xv} {K:List Fr} {e:Env} {o o':Option (Rt×AH)} (h1:acc=acc') (h2:f=f') (h3:o=o'):
  tZ Φ fin base pairs acc f h0 dst r K e o=tZ Φ fin base pairs acc' f' h0 dst r K e o':=by rw [h1,h2,h3]
theorem Wg {ob ob':Option Bool} {base:Nat} {pairs:List (Nat×Nat)} {acc:List Foot} {dst:Option Nat} {op:AOp} {r:List Xv} {K:List Fr} {e:Env} {h:AH} (h1:ob=ob'):
  D5 Φ fin ob base pairs acc dst op r K e h=D5 Φ fin ob' base pairs acc dst op r K e h:=by rw [h1]
theorem Yu {b b':Bool} {K:List Fr} {e:Env} {h:AH} (h1:b=b'):JQ Φ fin b K e h=JQ Φ fin b' K e h:=by rw [h1]
attribute [congr] Wt Wg Yu
@[simp] theorem Sh {base:Nat} {pairs:List (Nat×Nat)} {acc:List Foot} {f:Foot} {t:Nat} {r:List Xv} {K:List Fr} {e:Env} {v:AV} {h h0:AH}:
  tZ Φ fin base pairs acc f h0 (some t) r K e (some (.val v,h))=drG Φ fin base pairs (acc++[nB f h0 h]) r K ⟨(t,v)::e,h⟩:=rfl
@[simp] theorem Ri {base:Nat} {pairs:List (Nat×Nat)} {acc:List Foot} {f:Foot} {r:List Xv} {K:List Fr} {e:Env} {v:AV} {h h0:AH}:
  tZ Φ fin base pairs acc f h0 none r K e (some (.val v,h))=drG Φ fin base pairs (acc++[nB f h0 h]) r K ⟨e,h⟩:=rfl
@[simp] theorem Ws {base:Nat} {pairs:List (Nat×Nat)} {acc:List Foot} {dst:Option Nat} {op:AOp} {r:List Xv} {K:List Fr} {e:Env} {h:AH}:
  D5 Φ fin (some true) base pairs acc dst op r K e h=tZ Φ fin base pairs acc (foot e (bG (some base) dst h) h op) h dst r K e (aB (aD Φ) e (bG (some base) dst h) h op):=rfl
@[simp] theorem Wh {base:Nat} {pairs:List (Nat×Nat)} {acc:List Foot} {dst:Option Nat} {op:AOp} {r:List Xv} {K:List Fr} {e:Env} {h:AH}:
  D5 Φ fin (some false) base pairs acc dst op r K e h=drG Φ fin base pairs (acc++[(some [],.no)]) r K ⟨putE e dst (.tup []),h⟩:=rfl
@[simp] theorem Sg {K:List Fr} {e:Env} {h:AH}:JQ Φ fin true K e h=go Φ fin K .normal ⟨e,h.sweep⟩:=rfl
@[simp] theorem drG_nil {base:Nat} {pairs:List (Nat×Nat)} {acc:List Foot} {K:List Fr} {e:Env} {h:AH}:drG Φ fin base pairs acc [] K ⟨e,h⟩=JQ Φ fin (A5 pairs acc) K e h:=by
 simp only [drG,aN,feet,v8];rfl
theorem NW {base:Nat} {pairs:List (Nat×Nat)} {acc:List Foot} {o:Xv} {r:List Xv} {K:List Fr} {e:Env} {h:AH}:drG Φ fin base pairs acc (o::r) K ⟨e,h⟩=D5 Φ fin (iJ e o.guard) base pairs acc o.dst o.op r K e h:=by
 obtain ⟨dst,g,op⟩:=o;have h0:nB (some [],.no) h h=(some [],.no):=rfl;cases hg:iJ e g with
 | none=>
  unfold drG;simp only [aN,hg];rfl
 | some b=>cases b with
  | false=>
   simp only [drG,aN,feet,Wh,qG,hg,tI,H5,h0]
  | true=>
   unfold drG;simp only [Ws];cases hc:aB (aD Φ) e (bG (some base) dst h) h op with
   | none=>simp only [aN,feet,hg,hc];rfl
   | some p=>
    obtain ⟨x,h'⟩:=p;cases x with
    | pan v=>simp only [aN,feet,hg,hc];rfl
    | val v=>simp only [tZ,drG,aN,feet,qG,hg,hc,tI,H5]
@[simp] theorem Tm {base:Nat} {pairs:List (Nat×Nat)} {acc:List Foot} {dst:Option Nat} {op:AOp} {r:List Xv} {K:List Fr} {e:Env} {h:AH}:
  drG Φ fin base pairs acc (⟨dst,none,op⟩::r) K ⟨e,h⟩=tZ Φ fin base pairs acc (foot e (bG (some base) dst h) h op) h dst r K e (aB (aD Φ) e (bG (some base) dst h) h op):=NW
variable (Φ fin) in
noncomputable def BH (o : Option AV) (w : Bool) (base : Nat) (pairs : List (Nat × Nat)) (acc : List Foot) (dst : Option Nat) (op : AOp) (r : List Xv) (K : List Fr) (e : Env) (h : AH) : Option I :=
 D5 Φ fin (match o with
  | some (.bool b)=>some (b == w)
  | some (.tup [])=>some false
  | _=>none) base pairs acc dst op r K e h
theorem Vx {o o':Option AV} {w:Bool} {base:Nat} {pairs:List (Nat×Nat)} {acc:List Foot} {dst:Option Nat} {op:AOp} {r:List Xv} {K:List Fr} {e:Env} {h:AH} (h1:o=o'):
  BH Φ fin o w base pairs acc dst op r K e h=BH Φ fin o' w base pairs acc dst op r K e h:=by rw [h1]
attribute [congr] Vx
section
variable {base:Nat} {pairs:List (Nat×Nat)} {acc:List Foot} {dst:Option Nat} {op:AOp} {r:List Xv} {K:List Fr} {e:Env} {h:AH}
@[simp] theorem Rh:BH Φ fin (some (.bool true)) true base pairs acc dst op r K e h=tZ Φ fin base pairs acc (foot e (bG (some base) dst h) h op) h dst r K e (aB (aD Φ) e (bG (some base) dst h) h op):=rfl
@[simp] theorem Ra:BH Φ fin (some (.bool false)) false base pairs acc dst op r K e h=tZ Φ fin base pairs acc (foot e (bG (some base) dst h) h op) h dst r K e (aB (aD Φ) e (bG (some base) dst h) h op):=rfl
@[simp] theorem Rg:BH Φ fin (some (.bool true)) false base pairs acc dst op r K e h=drG Φ fin base pairs (acc++[(some [],.no)]) r K ⟨putE e dst (.tup []),h⟩:=rfl
@[simp] theorem Rc:BH Φ fin (some (.bool false)) true base pairs acc dst op r K e h=drG Φ fin base pairs (acc++[(some [],.no)]) r K ⟨putE e dst (.tup []),h⟩:=rfl
@[simp] theorem Pd (w:Bool):BH Φ fin (some (.tup [])) w base pairs acc dst op r K e h=drG Φ fin base pairs (acc++[(some [],.no)]) r K ⟨putE e dst (.tup []),h⟩:=rfl
end
@[simp] theorem PM {d:Bool} {p:Nat×Nat} {ps:List (Nat×Nat)} {ops:List Xv} {o:Option (List Nat)} {K:List Fr} {e:Env} {h:AH} (hd:A6 (oO ops)=true):
  go Φ fin (.c (.region d (p::ps) ops o)::K) .normal ⟨e,h⟩=drG Φ fin h.next (p::ps) [] ops (frK o K) ⟨e,h.resv (oO ops)⟩:=by
 rw [go_c,Ym];simp only [hd,CH];unfold drG;simp only [pA];by_cases hf:A5 (p::ps) (feet (aD Φ) (some h.next) ops ⟨e,h.resv (oO ops)⟩)=true
 ·simp only [hf,if_true];cases aN (aD Φ) (some h.next) ops ⟨e,h.resv (oO ops)⟩ with
  | none=>rfl
  | some q=>
   obtain ⟨ex,s'⟩:=q;cases ex<;>simp [F6]
 ·simp only [hf];cases aN (aD Φ) (some h.next) ops ⟨e,h.resv (oO ops)⟩ with
  | none=>rfl
  | some q=>
   obtain ⟨ex,s'⟩:=q;cases ex<;>simp
@[simp] theorem Sy {base:Option Nat} {h:AH}:bG base none h=h.next:=by cases base<;>rfl
@[simp] theorem Sz {base d:Nat} {h:AH}:bG (some base) (some d) h=match h.get (base+d) with
  | some .res=>base+d
  | _=>h.next:=rfl
@[simp] theorem Su (l:List Nat) (w:Wr) (h h':AH):nB (some l,w) h h'=(some l,w):=by simp [nB]
@[simp] theorem Uv (h h':AH):nB (none,.no) h h'=(none,.no):=by simp [nB]
@[simp] theorem Tw (h h':AH):nB (none,.any) h h'=(none,.chg h h'):=by simp [nB]
attribute [simp] GD BZ B6 Wr.isNo oO AOp.makes A6 iU foot zV Db uR C5 A5 Foot.compat Wr.off
variable (Φ fin) in
noncomputable def frzB (t : Nat) (ks : List Nat) (K : List Fr) (e : Env) (H : AH) (id z i off : Nat) (b : Bool) (o : Option (List (List AV))) : Option I := match b, o with
 | false,some es'=>go Φ fin (.f ks::K) .normal ⟨(t,.iptr z es' i off)::e,H.kill id⟩
 | _,_=>go Φ fin (.f ks::K) .normal ⟨e,H⟩
variable (Φ fin) in
noncomputable def frzR (t : Nat) (ks : List Nat) (K : List Fr) (e : Env) (H : AH) (id : Nat) (o : Option AV) : Option I := match o with
 | some y=>go Φ fin (.f ks::K) .normal ⟨(t,y)::e,H.kill id⟩
 | none=>go Φ fin (.f ks::K) .normal ⟨e,H⟩
variable (Φ fin) in
noncomputable def frzV (t : Nat) (ks : List Nat) (K : List Fr) (e : Env) (H : AH) (v : Option AV) : Option I := match v with
 | some (.ptr id z i off)=>frzG Φ fin t ks K e H id z i off (H.get id)
 | some (.row id z off len)=>frzR Φ fin t ks K e H id (uU H id z off len)
 | _=>go Φ fin (.f ks::K) .normal ⟨e,H⟩
theorem KX {t:Nat} {ks:List Nat} {K:List Fr} {e:Env} {H:AH} {id z i off:Nat} {b b':Bool} {o o':Option (List (List AV))} (h1:b=b') (h2:o=o'):frzB Φ fin t ks K e H id z i off b o=frzB Φ fin t ks K e H id z i off b' o':=by rw [h1,h2]
theorem L0 {t:Nat} {ks:List Nat} {K:List Fr} {e:Env} {H:AH} {o o':Option AV} (h2:o=o'):frzV Φ fin t ks K e H o=frzV Φ fin t ks K e H o':=by rw [h2]
theorem KY {t:Nat} {ks:List Nat} {K:List Fr} {e:Env} {H:AH} {id z i off:Nat} {o o':Option AO} (h2:o=o'):frzG Φ fin t ks K e H id z i off o=frzG Φ fin t ks K e H id z i off o':=by rw [h2]
theorem KZ {t:Nat} {ks:List Nat} {K:List Fr} {e:Env} {H:AH} {id:Nat} {o o':Option AV} (h2:o=o'):frzR Φ fin t ks K e H id o=frzR Φ fin t ks K e H id o':=by rw [h2]
attribute [congr] KX L0 KY KZ
@[simp] theorem go_frzV {t:Nat} {ks:List Nat} {K:List Fr} {e:Env} {H:AH}:go Φ fin (.f (t::ks)::K) .normal ⟨e,H⟩=frzV Φ fin t ks K e H (look t e):=by
 cases hl:look t e with
 | none=>rw [JJ];simp only [frzP,hl,frzV]
 | some v=>
  cases v with
  | ptr id z i off=>rw [TR hl];rfl
  | row id z off len=>
   rw [JJ];simp only [frzP,hl,frzV];cases uU H id z off len<;>rfl
  | _=>rw [JJ];simp only [frzP,hl,frzV]
@[simp] theorem Uz {t:Nat} {ks:List Nat} {K:List Fr} {e:Env} {H:AH} {id z i off:Nat}:frzV Φ fin t ks K e H (some (.ptr id z i off))=frzG Φ fin t ks K e H id z i off (H.get id):=rfl
@[simp] theorem Va {t:Nat} {ks:List Nat} {K:List Fr} {e:Env} {H:AH} {id z off len:Nat}:frzV Φ fin t ks K e H (some (.row id z off len))=frzR Φ fin t ks K e H id (uU H id z off len):=rfl
@[simp] theorem Tx {t:Nat} {ks:List Nat} {K:List Fr} {e:Env} {H:AH} {id:Nat} {y:AV}:frzR Φ fin t ks K e H id (some y)=go Φ fin (.f ks::K) .normal ⟨(t,y)::e,H.kill id⟩:=rfl
@[simp] theorem Uy {t:Nat} {ks:List Nat} {K:List Fr} {e:Env} {H:AH} {id z i off:Nat} {es:List (List AV)}:frzG Φ fin t ks K e H id z i off (some (.row z es))=frzB Φ fin t ks K e H id z i off (anyL (bor aE) es.flatten) (mapO (mapO (snap aE H)) es):=by
 simp only [frzG,true_and];cases anyL (bor aE) es.flatten<;>cases mapO (mapO (snap aE H)) es<;>simp [frzB]
@[simp] theorem frzB_ok {t:Nat} {ks:List Nat} {K:List Fr} {e:Env} {H:AH} {id z i off:Nat} {es':List (List AV)}:frzB Φ fin t ks K e H id z i off false (some es')=go Φ fin (.f ks::K) .normal ⟨(t,.iptr z es' i off)::e,H.kill id⟩:=rfl
theorem P0 {C:Type} (m:C->Nat) (Inv:C->Env->AH->Prop) (R:C->Option I) {b:Xu} {K:List Fr}
  (step:∀x e h L,(∀j s,go Φ fin L (.exit j) s=go Φ fin K (.exit j) s)->Inv x e h->(∀y e' h',m y<m x->Inv y e' h'->go Φ fin L .normal ⟨e',h'⟩=R y)->go Φ fin (.c b::L) .normal ⟨e,h⟩=R x):
  ∀x e h,Inv x e h->go Φ fin (.c (.loop b)::K) .normal ⟨e,h⟩=R x:=by
 have key:∀n x e h,m x<=n->Inv x e h->go Φ fin (.c (.loop b)::K) .normal ⟨e,h⟩=R x:=by
  intro n
  induction n with
  | zero=>
   intro x e h hn hi;rw [cW];exact step x e h _ (fun j s=>by simp) hi fun y e' h' hlt=>by omega
  | succ n ih=>
   intro x e h hn hi;rw [cW];exact step x e h _ (fun j s=>by simp) hi fun y e' h' hlt hy=>ih y e' h' (by omega) hy
 intro x e h hi;exact key _ x e h (Qb _) hi
theorem zO (N:Nat) (Inv:Nat->Env->AH->Prop) (R:Nat->Option I) {b:Xu} {K:List Fr}
  (step:∀i e h L,i<N->(∀j s,go Φ fin L (.exit j) s=go Φ fin K (.exit j) s)->Inv i e h->(∀e' h',Inv (i+1) e' h'->go Φ fin L .normal ⟨e',h'⟩=R (i+1))->go Φ fin (.c b::L) .normal ⟨e,h⟩=R i)
  (last:∀e h L,(∀j s,go Φ fin L (.exit j) s=go Φ fin K (.exit j) s)->Inv N e h->go Φ fin (.c b::L) .normal ⟨e,h⟩=R N):
  ∀i e h,i<=N->Inv i e h->go Φ fin (.c (.loop b)::K) .normal ⟨e,h⟩=R i:=by
 intro i e h hi hinv;refine P0 (C:={ i:Nat // i<=N }) (fun x=>N - x.1) (fun x=>Inv x.1) (fun x=>R x.1) ?_ ⟨i,hi⟩ e h hinv;intro ⟨i,hi⟩ e h L hL hinv ih;rcases Nat.lt_or_eq_of_le hi with hlt | heq
 ·exact step i e h L hlt hL hinv fun e' h' hi'=>ih ⟨i+1,hlt⟩ e' h' (by simp;omega) hi'
 ·subst heq;exact last e h L hL hinv
theorem oD {h:AH} (N:Nat) (Inv:Nat->Env->Prop) (R:Nat->Option I) {b:Xu} {K:List Fr}
  (step:∀i e L,i<N->(∀j s,go Φ fin L (.exit j) s=go Φ fin K (.exit j) s)->Inv i e->(∀e',Inv (i+1) e'->go Φ fin L .normal ⟨e',h⟩=R (i+1))->go Φ fin (.c b::L) .normal ⟨e,h⟩=R i)
  (last:∀e L,(∀j s,go Φ fin L (.exit j) s=go Φ fin K (.exit j) s)->Inv N e->go Φ fin (.c b::L) .normal ⟨e,h⟩=R N):
  ∀i e,i<=N->Inv i e->go Φ fin (.c (.loop b)::K) .normal ⟨e,h⟩=R i:=by
 intro i e hi hinv;refine zO N (fun i e h'=>h'=h/\Inv i e) R ?_ ?_ i e h hi ⟨rfl,hinv⟩
 ·rintro i e _ L hi hL ⟨rfl,hinv⟩ ih;exact step i e L hi hL hinv fun e' he'=>ih e' _ ⟨rfl,he'⟩
 ·rintro e _ L hL ⟨rfl,hinv⟩;exact last e L hL hinv
theorem eF (N:Nat) (O:Nat->List (Nat×AO)) (k:Nat) (Inv:Nat->Env->Prop) (R:Nat->Option I) {b:Xu} {K:List Fr}
  (step:∀i e n L,i<N->(∀j s,go Φ fin L (.exit j) s=go Φ fin K (.exit j) s)->k<=n->Inv i e->(∀e' n',k<=n'->Inv (i+1) e'->go Φ fin L .normal ⟨e',⟨O (i+1),n'⟩⟩=R (i+1))->go Φ fin (.c b::L) .normal ⟨e,⟨O i,n⟩⟩=R i)
  (last:∀e n L,(∀j s,go Φ fin L (.exit j) s=go Φ fin K (.exit j) s)->k<=n->Inv N e->go Φ fin (.c b::L) .normal ⟨e,⟨O N,n⟩⟩=R N):
  ∀i e n,i<=N->k<=n->Inv i e->go Φ fin (.c (.loop b)::K) .normal ⟨e,⟨O i,n⟩⟩=R i:=by
 intro i e n hi hn hinv;refine zO N (fun i e h=>∃n,k<=n/\h=⟨O i,n⟩/\Inv i e) R ?_ ?_ i e _ hi ⟨n,hn,rfl,hinv⟩
 ·rintro i e _ L hi hL ⟨n,hn,rfl,hinv⟩ ih;exact step i e n L hi hL hn hinv fun e' n' hn' he'=>ih e' _ ⟨n',hn',rfl,he'⟩
 ·rintro e _ L hL ⟨n,hn,rfl,hinv⟩;exact last e n L hL hn hinv
theorem Cv {α:Type} (l:List α) (bad:α->Bool) (Rb Re:Option I) (Inv:Nat->Env->AH->Prop) {b:Xu} {K:List Fr}
  (hit:∀i e h L (hi:i<l.length),(∀j s,go Φ fin L (.exit j) s=go Φ fin K (.exit j) s)->Inv i e h->bad l[i]=true->go Φ fin (.c b::L) .normal ⟨e,h⟩=Rb)
  (miss:∀i e h L X (hi:i<l.length),(∀j s,go Φ fin L (.exit j) s=go Φ fin K (.exit j) s)->Inv i e h->bad l[i]=false->(∀e' h',Inv (i+1) e' h'->go Φ fin L .normal ⟨e',h'⟩=X)->go Φ fin (.c b::L) .normal ⟨e,h⟩=X)
  (last:∀e h L,(∀j s,go Φ fin L (.exit j) s=go Φ fin K (.exit j) s)->Inv l.length e h->go Φ fin (.c b::L) .normal ⟨e,h⟩=Re):
  ∀e h,Inv 0 e h->go Φ fin (.c (.loop b)::K) .normal ⟨e,h⟩=if l.any bad then Rb else Re:=by
 intro e h h0;refine (zO l.length Inv (fun i=>if (l.drop i).any bad then Rb else Re) ?_ ?_ 0 e h (Qc _) h0).trans (by simp)
 ·intro i e h L hi hL hinv ih;cases hb:bad l[i] with
  | true=>
   rw [hit i e h L hi hL hinv hb,Qi hi,uH,hb,CJ,a8 rfl]
  | false=>
   refine miss i e h L _ hi hL hinv hb fun e' h' he'=>?_
   rw [ih e' h' he',Qi hi,uH,hb,AP]
 ·intro e h L hL hinv;rw [last e h L hL hinv];simp
end
def HP (pre:List (Nat×AO)) (k:Nat) (h:AH):Prop:=∃T n,Tail T (n+k)/\h=⟨pre++T,n+k⟩
theorem HP.mk {pre:List (Nat×AO)} {k:Nat}:HP pre k ⟨pre,k⟩:=⟨[],0,fun _ _=>rfl,by simp⟩
theorem HP.next {pre T:List (Nat×AO)} {k n:Nat} {o:AO} (hT:Tail T (n+k)):HP pre k ⟨pre++(T++[(n+k,o)]),n+k+1⟩:=⟨T++[(n+k,o)],n+1,by
 have:=hT.app o
 rwa [show n+1+k=n+k+1 by omega],by rw [show n+1+k=n+k+1 by omega]⟩
theorem HP.same {pre T:List (Nat×AO)} {k n:Nat} (hT:Tail T (n+k)):HP pre k ⟨pre++T,n+k⟩:=⟨T,n,hT,rfl⟩
def HF (mk:List (Nat×AO)->List (Nat×AO)) (k:Nat) (h:AH):Prop:=∃T n,Tail T (n+k)/\h=⟨mk T,n+k⟩
theorem HF.mk {mk:List (Nat×AO)->List (Nat×AO)} {k:Nat}:HF mk k ⟨mk [],k⟩:=⟨[],0,fun _ _=>rfl,by simp⟩
theorem HF.next {mk:List (Nat×AO)->List (Nat×AO)} {T:List (Nat×AO)} {k n:Nat} {o:AO} (hT:Tail T (n+k)):HF mk k ⟨mk (T++[(n+k,o)]),n+k+1⟩:=⟨T++[(n+k,o)],n+1,by
 have:=hT.app o
 rwa [show n+1+k=n+k+1 by omega],by rw [show n+1+k=n+k+1 by omega]⟩
theorem HF.same {mk:List (Nat×AO)->List (Nat×AO)} {T:List (Nat×AO)} {k n:Nat} (hT:Tail T (n+k)):HF mk k ⟨mk T,n+k⟩:=⟨T,n,hT,rfl⟩
theorem Tail.two {T T2:List (Nat×AO)} {n m:Nat} {x:AO} (hT:Tail T n) (hT2:Tail T2 m) (h:n+1<=m):Tail (T++(n,x)::T2) m:=by
 intro j hj;rw [zF,hT j (by omega),Option.none_or];simp only [look];rw [QA (by omega)];exact hT2 j hj
def qA {α:Type} (l:List α) (p:α->Bool) (i:Nat):Bool:=(l.drop i).any p
theorem Ly {α:Type} {l:List α} {p:α->Bool} {i:Nat} (hi:i<l.length) (h:p l[i]=true):qA l p i=true:=by
 unfold qA;rw [Qi hi,uH,h,CJ]
theorem IK {α:Type} {l:List α} {p:α->Bool} {i:Nat} (hi:i<l.length) (h:p l[i]=false):qA l p i=qA l p (i+1):=by
 unfold qA;rw [Qi hi,uH,h,AP]
theorem Dl {α:Type} {l:List α} {p:α->Bool}:qA l p l.length=false:=by simp [qA]
theorem Ce {α:Type} {l:List α} {p:α->Bool}:qA l p 0=l.any p:=by simp [qA]
theorem q6 {α I:Type} {f:α->I} {l:List α} {i:Nat} (h:i<l.length):(l.map f).take (i+1)=(l.map f).take i++[f l[i]]:=by
 rw [Qh (by simpa using h)];simp
theorem Gc {α:Type} {l m:List α} {i:Nat} (h1:i<l.length) (h2:i<m.length):l.drop i=m.drop i↔l[i]=m[i]/\l.drop (i+1)=m.drop (i+1):=by
 rw [Qi h1,Qi h2,List.cons.injEq]
end Go.Av
namespace Go.Av
open Go.ChangeShapes Go.WideShapes Go.ChangeAt Go.RowKit
structure BulkFn (H:Type) where
 one:DataW H->Nat
 all:List (DataW H)->Nat
 nil:all []=0
 cons:∀d r,all (d::r)=one d+all r
 slice:∀e s,one (.slice e s)=all e+all s+1
 agg:∀e,one (.agg e)=all e+1
 str:∀b,one (.lit (.string b))=b.length+1
 pos:∀d,1<=one d
theorem BulkFn.len {H:Type} (bk:BulkFn H):∀l,l.length<=bk.all l
 | []=>by simp
 | d::r=>by have:=bk.len r;have:=bk.pos d;rw [bk.cons];simp;omega
theorem BulkFn.mem {H:Type} (bk:BulkFn H):∀{l d},d∈l->bk.one d<=bk.all l
 | e::r,d,h=>by
  rw [bk.cons];rcases iW.1 h with rfl | h
  ·omega
  ·have:=bk.mem h;omega
def zY (P:Program):List Field->Nat->Nat->Bool
 | [],off,sz=>off == sz
 | f::r,off,sz=>f.offset == off&&zY P r (off+P.cellsOf f.type) sz
def uX (P:Program) (ts:List TypeId):Bool:=ts.all fun t=>match P.underlying t with
  | some .bool | some (.int _) | some .string=>true
  | some (.slice e)=>iU e ts&&P.cellsOf e != 0
  | some (.struct fs)=>fs.toList.all (fun f=>iU f.type ts)&&zY P fs.toList 0 (P.cellsOf t)
  | some (.array k e)=>iU e ts&&P.cellsOf t == k*P.cellsOf e
  | _=>false
inductive WT (P:Program) (B:Nat):TypeId->List AV->Prop where
 | bool {t:TypeId} (b:Bool) (h:P.underlying t=some .bool):WT P B t [.bool b]
 | int {t:TypeId} (k:IntKind) (v:Int) (h:P.underlying t=some (.int k)) (h1:k.min<=v) (h2:v<=k.max):WT P B t [.int k v]
 | str {t:TypeId} (s:List UInt8) (h:P.underlying t=some .string) (h1:s.length<=B):WT P B t [.str s]
 | slice {t e:TypeId} (es:List (List AV)) (h:P.underlying t=some (.slice e)) (h1:es.length<=B) (h2:∀x∈es,WT P B e x):WT P B t [.slice (P.cellsOf e) es]
 | struct {t:TypeId} (fs:Array Field) (xss:List (List AV)) (h:P.underlying t=some (.struct fs)) (h1:xss.length=fs.size)
   (h2:∀(i:Nat) f x,fs[i]? =some f->xss[i]? =some x->WT P B f.type x):WT P B t xss.flatten
 | array {t e:TypeId} (k:Nat) (xss:List (List AV)) (h:P.underlying t=some (.array k e)) (h1:xss.length=k) (h2:∀x∈xss,WT P B e x):WT P B t xss.flatten
def qB (P:Program) (t:TypeId):Bool:=match P.underlying t with
 | some (.struct _) | some (.array _ _)=>true
 | _=>false
def WTV (P:Program) (B:Nat) (t:TypeId) (v:AV):Prop:=
 if qB P t then ∃xs,v= .agg xs/\WT P B t xs else WT P B t [v]
section
variable {H:Type} {enc:TypeId×Value->H} {P:Program} {w:World} {base:Nat} {spare:Nat->Bool} {held:Bool} {imm:Nat->Nat->Prop} {B:Nat}
def Cells (w:World) (imm:Nat->Nat->Prop) (xs:List AV) (cs:List Value):Prop:=
 xs.length=cs.length/\∀(i:Nat) x v,xs[i]? =some x->cs[i]? =some v->VRD w imm x v/\v.oneCell'=true
theorem Cells.append {xs ys:List AV} {cs ds:List Value} (h:Cells w imm xs cs) (k:Cells w imm ys ds):Cells w imm (xs++ys) (cs++ds):=by
 refine ⟨by simp [h.1,k.1],?_⟩;intro i x v hx hv;by_cases hi:i<xs.length
 ·rw [Ql hi] at hx;rw [Ql (by rw [<- h.1];exact hi)] at hv;exact h.2 i x v hx hv
 ·rw [Qp (by omega)] at hx;rw [Qp (by rw [<- h.1];omega)] at hv;rw [<- h.1] at hv;exact k.2 _ x v hx hv
theorem Cells.one {x:AV} {v:Value} (h:VRD w imm x v) (h1:v.oneCell'=true):Cells w imm [x] [v]:=by
 refine ⟨rfl,?_⟩;intro i y u hy hu;cases i with
 | zero=>simp at hy hu;subst hy;subst hu;exact ⟨h,h1⟩
 | succ i=>simp at hy
theorem Ac {α:Type} {n:Nat} {p:Nat->α->Prop} (h:∀i,i<n->∃a,p i a):∃l:List α,l.length=n/\∀i a,l[i]? =some a->p i a:=by
 induction n with
 | zero=>exact ⟨[],rfl,fun i a h=>by simp at h⟩
 | succ n ih=>
  obtain ⟨l,hl,hp⟩:=ih (fun i hi=>h i (by omega));obtain ⟨a,ha⟩:=h n (by omega);refine ⟨l++[a],by simp [hl],?_⟩;intro i b hb;by_cases hi:i<l.length
  ·rw [Ql hi] at hb;exact hp i b hb
  ·rw [Qp (by omega)] at hb;have:i - l.length=0:=by
    rcases Qw (i - l.length) with h0 | h0
    ·exact h0
    ·rw [Qk (by simp;omega)] at hb;cases hb
   rw [this] at hb;simp at hb;subst hb;have:i=n:=by omega
   subst this;exact ha
theorem Bn {a:Addr} {n:Nat} {l:List Value} (h:w.cells? base a n=some l):l.length=n/\∀i v,l[i]? =some v->w.cell? (a.add i)=some v:=by
 unfold World.cells? at h;split at h
 ·have hl:=mapM_some_length h;refine ⟨by simpa using hl,?_⟩;intro i v hv;have hi:i<n:=by
   have:=(Qm.1 hv).1;rw [hl] at this;simpa using this
  have:=mapM_some_get h i i (by simp [hi]);rw [this,hv]
 ·cases h
theorem Ys {fs:List Field}:∀{off sz:Nat} {cs:List Value} {xss:List (List AV)},zY P fs off sz=true->cs.length=sz->
  xss.length=fs.length->(∀(i:Nat) f x,fs[i]? =some f->xss[i]? =some x->Cells w imm x ((cs.drop f.offset).take (P.cellsOf f.type))/\x.length=P.cellsOf f.type)->
  Cells w imm xss.flatten (cs.drop off):=by
 induction fs with
 | nil=>
  intro off sz cs xss ho hc hl h;have:xss=[]:=List.length_eq_zero_iff.1 (by simpa using hl);subst this;simp only [zY,beq_iff_eq] at ho;have:cs.drop off=[]:=by simp;omega
  rw [this];exact ⟨rfl,fun i x v hx=>by simp at hx⟩
 | cons f r ih=>
  intro off sz cs xss ho hc hl h;simp only [zY,bE,beq_iff_eq] at ho;obtain ⟨ho1,ho2⟩:=ho;cases xss with
  | nil=>simp at hl
  | cons x xss=>
   obtain ⟨h1,h2⟩:=h 0 f x rfl rfl;rw [ho1] at h1;have hr:=ih (cs:=cs) (xss:=xss) ho2 hc (by simpa using hl) (fun i g y hg hy=>h (i+1) g y (by simpa using hg) (by simpa using hy));rw [List.flatten_cons];have e:cs.drop off=(cs.drop off).take (P.cellsOf f.type)++cs.drop (off+P.cellsOf f.type):=by
    rw [<- vA,DU]
   rw [e];exact h1.append hr
theorem Gl {z:Nat} {cs:List Value}:∀{xss:List (List AV)} {k:Nat},cs.length=(k+xss.length)*z->
  (∀(i:Nat) x,xss[i]? =some x->Cells w imm x ((cs.drop ((k+i)*z)).take z)/\x.length=z)->Cells w imm xss.flatten (cs.drop (k*z))
 | [],k,hc,h=>by
  have:cs.drop (k*z)=[]:=by simp at hc ⊢;omega
  rw [this];exact ⟨rfl,fun i x v hx=>by simp at hx⟩
 | x::xss,k,hc,h=>by
  obtain ⟨h1,h2⟩:=h 0 x rfl;have hr:=Gl (cs:=cs) (xss:=xss) (k:=k+1) (by simp at hc ⊢;rw [hc];congr 1;omega) (fun i y hy=>by
   have:=h (i+1) y (by simpa using hy)
   rwa [show k+(i+1)=k+1+i by omega] at this)
  rw [List.flatten_cons];have e:cs.drop (k*z)=(cs.drop (k*z)).take z++cs.drop ((k+1)*z):=by
   rw [show (k+1)*z=k*z+z by rw [eR];omega,<- vA,DU]
  rw [e];exact Cells.append (by simpa using h1) hr
theorem LU (bk:BulkFn H) {ts:List TypeId} (hts:uX P ts=true) (himm:∀b i,imm b i):∀(fuel:Nat) (t:TypeId) (cs:List Value) (d:DataW H) (ps:List MemPlace),
  t∈ts->DataW.trod enc P w base spare held fuel t cs=some (d,ps)->bk.one d<=B->∃xs,WT P B t xs/\Cells w imm xs cs:=by
 intro fuel
 induction fuel with
 | zero=>intro t cs d ps _ h;simp [DataW.trod] at h
 | succ fuel ih=>
  intro t cs d ps ht h hb;have hp:=hts;simp only [uX,Qr] at hp;have hp:=hp t ht;split at hp
  ·rename_i hu;obtain ⟨b,rfl,hx⟩:=DataW.trod_bool hu h;exact ⟨[.bool b],.bool b hu,.one (.bool b) rfl⟩
  ·rename_i k hu;obtain ⟨n,rfl,hx,hw⟩:=DataW.trod_int hu h;simp only [Lit.wf,bE,decide_eq_true_eq] at hw;exact ⟨[.int k n],.int k n hu hw.1 hw.2,.one (.int k n) rfl⟩
  ·rename_i hu;obtain ⟨s,rfl,hx,hw⟩:=DataW.trod_string hu h;simp only [Prod.mk.injEq] at hx;obtain ⟨rfl,rfl⟩:=hx;rw [bk.str] at hb;refine ⟨[.str s.data.toList],.str _ hu (by omega),.one ?_ rfl⟩;have:=VRD.str (w:=w) (imm:=imm) s.data.toList;simpa using this
  ·rename_i e hu;simp only [bE,memNat_iff,bne_iff_ne,ne_eq] at hp;obtain ⟨hpe,hz⟩:=hp;rcases DataW.trod_slice hu h with ⟨rfl,hx⟩ | ⟨a,len,cap,elems,rest,n,hn,rfl,hx,h1,h2,h3,h4,h5,h6,h7⟩
   ·exact ⟨[.slice (P.cellsOf e) []],.slice [] hu (by simp) (by simp),.one (.slice0 _ _ _) rfl⟩
   ·cases hn;simp only [Prod.mk.injEq] at hx;obtain ⟨rfl,rfl⟩:=hx;rw [bk.slice] at hb;have hlen:=bk.len (elems.map (·.1));simp only [cQ] at hlen;have hex:∀i,i<len->∃p:List AV×List Value,WT P B e p.1/\Cells w imm p.1 p.2/\w.cells? base (a.add (i*P.cellsOf e)) (P.cellsOf e)=some p.2:=by
     intro i hi;have hh:=h5 i hi;have hi':i<elems.length:=by omega
     rw [Qa hi'] at hh;obtain ⟨l,hl1,hl2⟩:=Qt.1 hh;have hm:bk.one (elems[i]).1<=bk.all (elems.map (·.1)):=bk.mem (iN.2 ⟨_,Qd hi',rfl⟩);obtain ⟨xs,k1,k2⟩:=ih e l (elems[i]).1 (elems[i]).2 hpe hl2 (by omega);exact ⟨(xs,l),k1,k2,hl1⟩
    obtain ⟨L,hL,hL2⟩:=Ac hex;refine ⟨[.slice (P.cellsOf e) (L.map (·.1))],.slice _ hu (by simp;omega) ?_,.one ?_ rfl⟩
    ·intro x hx;obtain ⟨p,hp1,rfl⟩:=iN.1 hx;obtain ⟨i,hi,hpi⟩:=H7 hp1;exact (hL2 i p (by rw [<- hpi];exact Qa hi)).1
    ·by_cases h0:len=0
     ·have:L=[]:=List.length_eq_zero_iff.1 (by omega);subst this;subst h0;exact .slice0 _ _ _
     ·obtain ⟨p0,hp0⟩:∃p,L[0]? =some p:=⟨_,Qa (by omega)⟩;obtain ⟨_,q2,q3⟩:=hL2 0 p0 hp0;obtain ⟨g1,g2⟩:=Bn q3;have hspot:a.spot=none:=by
       obtain ⟨v,hv⟩:∃v,p0.2[0]? =some v:=⟨_,Qa (by omega)⟩;have:=g2 0 v hv;simp only [Nat.zero_mul,Addr.add,if_true] at this;unfold World.cell? at this;split at this
       ·split at this
        ·cases this
        ·rename_i hs;simpa using hs
       ·cases this
      obtain ⟨blk,off,sp⟩:=a;simp only at hspot;subst hspot;have hget:∀(i j:Nat) e' x,(L.map (·.1))[i]? =some e'->e'[j]? =some x->∃v,w.cell? ⟨blk,off+i*P.cellsOf e+j,none⟩=some v/\v.oneCell'=true/\VRD w imm x v:=by
       intro i j e' x he hx;simp only [List.getElem?_map,Qs] at he;obtain ⟨p,hp,rfl⟩:=he;obtain ⟨_,r2,r3⟩:=hL2 i p hp;obtain ⟨s1,s2⟩:=Bn r3;have hj:j<p.1.length:=(Qm.1 hx).1;obtain ⟨v,hv⟩:∃v,p.2[j]? =some v:=⟨_,Qa (by rw [<- r2.1];exact hj)⟩;obtain ⟨t1,t2⟩:=r2.2 j x v hx hv;have:=s2 j v hv;have e1:((⟨blk,off,none⟩:Addr).add (i*P.cellsOf e)).add j=⟨blk,off+i*P.cellsOf e+j,none⟩:=by
        simp only [Addr.add];split<;>split<;>simp_all
       rw [e1] at this;exact ⟨v,this,t2,t1⟩
      have hlenm:len=(L.map (·.1)).length:=by simp [hL]
      rw [show (Value.slice (some ⟨blk,off,none⟩) len cap)=Value.slice (some ⟨blk,off,none⟩) (L.map (·.1)).length cap by rw [<- hlenm]];refine .slice _ _ blk off cap (fun i j=>(w.cell? ⟨blk,off+i*P.cellsOf e+j,none⟩).getD .nilFunc) ?_ ?_ (by omega) ?_ ?_
      ·intro hc;have:L.length=0:=by rw [List.map_eq_nil_iff] at hc;simp [hc]
       omega
      ·intro x hx;obtain ⟨p,hp1,rfl⟩:=iN.1 hx;obtain ⟨i,hi,hpi⟩:=H7 hp1;obtain ⟨_,r2,r3⟩:=hL2 i p (by rw [<- hpi];exact Qa hi);rw [r2.1];exact (Bn r3).1
      ·intro i j e' x he hx;obtain ⟨v,k1,k2,k3⟩:=hget i j e' x he hx;exact ⟨himm _ _,by rw [k1];rfl,by rw [k1];exact k2⟩
      ·intro i j e' x he hx;obtain ⟨v,k1,k2,k3⟩:=hget i j e' x he hx;rw [k1];exact k3
  ·rename_i fs hu;simp only [bE,Qr,memNat_iff] at hp;obtain ⟨hp1,hp2⟩:=hp;obtain ⟨xs,n,hn,hx,hc,hl,hf⟩:=DataW.trod_struct hu h;cases hn;simp only [Prod.mk.injEq] at hx;obtain ⟨rfl,rfl⟩:=hx;rw [bk.agg] at hb;have hoffs:∀(i:Nat) f,fs.toList[i]? =some f->f.offset+P.cellsOf f.type<=P.cellsOf t:=by
    have gen:∀(l:List Field) (off sz:Nat),zY P l off sz=true->off<=sz/\∀(i:Nat) f,l[i]? =some f->f.offset+P.cellsOf f.type<=sz:=by
     intro l
     induction l with
     | nil=>intro off sz h;simp only [zY,beq_iff_eq] at h;exact ⟨by omega,fun i f hf=>by simp at hf⟩
     | cons g r ihr=>
      intro off sz h;simp only [zY,bE,beq_iff_eq] at h;obtain ⟨k1,k2⟩:=ihr _ _ h.2;refine ⟨by omega,?_⟩;intro i f hf;cases i with
      | zero=>simp at hf;subst hf;omega
      | succ i=>exact k2 i f (by simpa using hf)
    exact (gen _ _ _ hp2).2
   have hex:∀i,i<fs.size->∃x:List AV,∀f,fs[i]? =some f->WT P B f.type x/\Cells w imm x ((cs.drop f.offset).take (P.cellsOf f.type))/\x.length=P.cellsOf f.type:=by
    intro i hi;have hfi:fs[i]? =some fs[i]:=by simp [hi]
    have hh:=hf i _ hfi;have hi':i<xs.length:=by omega
    rw [Qa hi'] at hh;have hm:bk.one (xs[i]).1<=bk.all (xs.map (·.1)):=bk.mem (iN.2 ⟨_,Qd hi',rfl⟩);obtain ⟨ys,k1,k2⟩:=ih (fs[i]).type _ (xs[i]).1 (xs[i]).2 (hp1 _ (by simp)) hh (by omega);refine ⟨ys,?_⟩;intro f hf';rw [hfi] at hf';cases hf';refine ⟨k1,k2,?_⟩;rw [k2.1];have:=hoffs i fs[i] (by simp [hi]);simp;omega
   obtain ⟨L,hL,hL2⟩:=Ac hex;refine ⟨L.flatten,.struct fs L hu hL (fun i f x hf' hx'=>(hL2 i x hx' f hf').1),?_⟩;have:=Ys (w:=w) (imm:=imm) (fs:=fs.toList) (xss:=L) hp2 hc (by simpa using hL) (fun i f x hf' hx'=>(hL2 i x hx' f (by simpa using hf')).2);simpa using this
  ·rename_i k e hu;simp only [bE,memNat_iff,beq_iff_eq] at hp;obtain ⟨hp1,hp2⟩:=hp;obtain ⟨xs,n,hn,hx,hc,hl,hf⟩:=DataW.trod_array hu h;cases hn;simp only [Prod.mk.injEq] at hx;obtain ⟨rfl,rfl⟩:=hx;rw [bk.agg] at hb;have hex:∀i,i<k->∃x:List AV,WT P B e x/\Cells w imm x ((cs.drop (i*P.cellsOf e)).take (P.cellsOf e))/\x.length=P.cellsOf e:=by
    intro i hi;have hh:=hf i hi;have hi':i<xs.length:=by omega
    rw [Qa hi'] at hh;have hm:bk.one (xs[i]).1<=bk.all (xs.map (·.1)):=bk.mem (iN.2 ⟨_,Qd hi',rfl⟩);obtain ⟨ys,k1,k2⟩:=ih e _ (xs[i]).1 (xs[i]).2 hp1 hh (by omega);refine ⟨ys,k1,k2,?_⟩;rw [k2.1];have:(i+1)*P.cellsOf e<=k*P.cellsOf e:=Qj _ hi;rw [eR] at this;simp;omega
   obtain ⟨L,hL,hL2⟩:=Ac hex;refine ⟨L.flatten,.array k L hu hL ?_,?_⟩
   ·intro x hx';obtain ⟨i,hi,hxi⟩:=H7 hx';exact (hL2 i x (by rw [<- hxi];exact Qa hi)).1
   ·have:=Gl (w:=w) (imm:=imm) (cs:=cs) (z:=P.cellsOf e) (xss:=L) (k:=0) (by rw [hc,hp2,hL];simp) (fun i x hx'=>by
     have:=hL2 i x hx';rw [QC];exact this.2)
    simpa using this
  ·cases hp
theorem RW (bk:BulkFn H) {ts:List TypeId} (hts:uX P ts=true) (himm:∀b i,imm b i) {t:TypeId} {v:Value} {d:DataW H} {ps:List MemPlace} {r:Reach} {b0:Nat}
  (hval:Value.okWide P w r b0 t v) (ht:t∈ts) (h:DataW.Trod enc P w base spare held t v d ps) (hb:bk.one d<=B):∃a,WTV P B t a/\VRD w imm a v:=by
 obtain ⟨fuel,h⟩:=h;obtain ⟨xs,h1,h2⟩:=LU (imm:=imm) bk hts himm fuel t _ d ps ht h hb;unfold WTV;have hcell:∀cs,Cell.okWide P w r b0 t (.agg cs)->qB P t=true:=by
  intro cs hc;have hp:=hts;simp only [uX,Qr] at hp;have hp:=hp t ht;unfold Cell.okWide Cell.ok at hc;split at hp<;>rename_i hu<;>(try simp [hu] at hc)<;>(try simp [qB,hu])
 unfold Value.okWide at hval;split at hval
 ·rename_i hu;obtain ⟨cs,rfl,_,_⟩:=hval;have hag:qB P t=true:=by unfold qB;rw [hu]
  simp only [hag,if_true];refine ⟨.agg xs,⟨xs,rfl,h1⟩,.agg xs cs (by simpa [Value.cells] using h2.1) (fun v hv=>?_) (fun i x v hx hv=>(h2.2 i x v hx (by simpa [Value.cells] using hv)).1)⟩;obtain ⟨i,hi,hiv⟩:=Array.getElem_of_mem hv;have hi':i<xs.length:=by rw [h2.1];simpa [Value.cells] using hi
  exact (h2.2 i xs[i] v (Qa hi') (by simp [Value.cells,hi,hiv])).2
 ·rename_i hu;obtain ⟨cs,rfl,_,_⟩:=hval;have hag:qB P t=true:=by unfold qB;rw [hu]
  simp only [hag,if_true];refine ⟨.agg xs,⟨xs,rfl,h1⟩,.agg xs cs (by simpa [Value.cells] using h2.1) (fun v hv=>?_) (fun i x v hx hv=>(h2.2 i x v hx (by simpa [Value.cells] using hv)).1)⟩;obtain ⟨i,hi,hiv⟩:=Array.getElem_of_mem hv;have hi':i<xs.length:=by rw [h2.1];simpa [Value.cells] using hi
  exact (h2.2 i xs[i] v (Qa hi') (by simp [Value.cells,hi,hiv])).2
 ·rename_i hn1 hn2;have hnag:qB P t=false:=by
   unfold qB;split
   ·rename_i fs hu;exact absurd hu (hn1 fs)
   ·rename_i n e hu;exact absurd hu (hn2 n e)
   ·rfl
  have hv:v.cells.toList=[v]:=by
   cases v with
   | agg cs=>have:=hcell cs hval;rw [hnag] at this;cases this
   | _=>rfl
  rw [hv] at h2;obtain ⟨x,rfl⟩:∃x,xs=[x]:=by
   match xs,h2.1 with
   | [x],_=>exact ⟨x,rfl⟩
  simp only [hnag,iV,if_false];exact ⟨x,h1,(h2.2 0 x v rfl rfl).1⟩
def WTVs (P:Program) (B:Nat):List TypeId->List AV->Prop
 | [],[]=>True
 | t::ts,a::as=>WTV P B t a/\WTVs P B ts as
 | _,_=>False
theorem Jl (bk:BulkFn H) {ts:List TypeId} (hts:uX P ts=true) (himm:∀b i,imm b i) {r:Reach} {b0:Nat}:∀{ps:List TypeId} {vs:List Value} {ds:List (DataW H)} {pl:List MemPlace},
  (∀(j:Nat) t v,ps[j]? =some t->vs[j]? =some v->Value.okWide P w r b0 t v)->(∀t∈ps,t∈ts)->DataW.TrodAll enc P w base spare held ps vs ds pl->bk.all ds<=B->
  ∃as,WTVs P B ps as/\as.length=vs.length/\∀(i:Nat) x v,as[i]? =some x->vs[i]? =some v->VRD w imm x v
 | [],_,_,_,_,_,h,_=>by
  obtain ⟨rfl,rfl,rfl⟩:=trodAll_nil h;exact ⟨[],trivial,rfl,fun i x v hx=>by simp at hx⟩
 | t::ps,_,_,_,hv,hm,h,hb=>by
  obtain ⟨v,vs,d,ds,p,q,rfl,rfl,rfl,h1,h2⟩:=trodAll_cons h;rw [bk.cons] at hb;obtain ⟨a,k1,k2⟩:=RW (B:=B) (imm:=imm) bk hts himm (hv 0 t v rfl rfl) (hm t (by simp)) h1 (by omega);obtain ⟨as,m1,m2,m3⟩:=Jl bk hts himm (fun j t' v' ht hv'=>hv (j+1) t' v' (by simpa using ht) (by simpa using hv')) (fun t' ht'=>hm t' (by simp [ht'])) h2 (by omega);refine ⟨a::as,⟨k1,m1⟩,by simp [m2],?_⟩;intro i x u hx hu;cases i with
  | zero=>simp at hx hu;subst hx;subst hu;exact k2
  | succ i=>exact m3 i x u (by simpa using hx) (by simpa using hu)
theorem Wo {M:Nat->Nat->Prop} {w w':World} (h:Ext M w w') (hM:∀b i,¬M b i):Below w.heap.size w w':=
 ⟨h.os,h.tape,h.output,h.size,fun k hk=>h.still hM k hk⟩
theorem Fs {W W':World} (hl:laidOutB P=true) (hb:Below W.heap.size W W'):∀{ps:List TypeId} {vs:List Value} {ds:List (DataW H)} {pl:List MemPlace},
  (∀t∈ps,P.readableRec t=true/\t<P.types.size)->DataW.TrodAll enc P W 0 (fun _=>true) true ps vs ds pl->(∀x∈pl,x.block<W.heap.size)->∀sp:Nat->Bool,(∀x∈pl,sp x.block=true)->DataW.TrodAll enc P W' 0 sp true ps vs ds pl
 | [],_,_,_,_,h,_,_,_=>by
  obtain ⟨rfl,rfl,rfl⟩:=trodAll_nil h;exact trodAll_mk0
 | t::ps,_,_,_,hr,h,hlt,sp,hsp=>by
  obtain ⟨v,vs,d,ds,p,q,rfl,rfl,rfl,h1,h2⟩:=trodAll_cons h;obtain ⟨r1,r2⟩:=hr t (by simp);refine ⟨p,q,?_,Fs hl hb (fun t' ht'=>hr t' (by simp [ht'])) h2 (fun x hx=>hlt x (by simp [hx])) sp (fun x hx=>hsp x (by simp [hx])),rfl⟩;exact WideElems.Trod_stays hl r1 r2 h1 (fun x hx=>hb.same (hlt x (by simp [hx]))) (fun x hx=>hsp x (by simp [hx]))
theorem NK {A:Ann} {Φ:FuncId->Option AFun} (T:TableOk P A Φ) (hl:laidOutB P=true) {f:FuncId} {fn:Func} {s:ChangeSpec} {tb:TypeId} (hv:s.vars=[])
    (hrt:fn.resultTypes= #[tb]) (htb:P.underlying tb=some .bool) (hread:∀t∈fn.params.toList,P.readableRec t=true/\t<P.types.size)
    (bk:BulkFn H) {ts:List TypeId} (hts:uX P ts=true) (hpts:∀t∈fn.params.toList,t∈ts)
    {W:World} {b0:Nat} {args:Array Value} {ds gs:List (DataW H)} {before:List MemPlace} {apart:Bool}
    (hval:∀(j:Nat) t v,fn.params[j]? =some t->args[j]? =some v->Value.okWide P W .any b0 t v)
    (hW:DataW.Whole enc P fn.params.toList s.vars apart W args.toList ds gs before)
    (hfn:(s.fn H (ds++gs))={ results:=[.lit (.bool true)],args:=ds }) (hb:bk.all ds<=B)
    (law:∀as,WTVs P B fn.params.toList as->∃H',aD Φ f as H0=some (.val (.bool true),H')) {fresh handsOn again:Bool}:
    Calls P f args W fun e W'=>∃v,e= .returned v/\s.post enc P fn apart fresh handsOn again W args v W':=by
  have hW':=hW;obtain ⟨p,q,hA,hV,rfl,hfz,hnd⟩:=hW;rw [hv] at hV;obtain ⟨rfl,rfl⟩:=trodVars_none hV;have himm:∀b i,Imm (fun _ _=>False) (fun _=>none) H0 b i:=fun b i=>⟨oI,fun h=>h⟩
  obtain ⟨as,h1,h2,h3⟩:=Jl (imm:=Imm (fun _ _=>False) (fun _=>none) H0) bk hts himm (ps:=fn.params.toList) (vs:=args.toList)
    (fun j t v ht hv=>hval j t v (by simpa using ht) (by simpa using hv)) hpts hA hb
  obtain ⟨H',hc⟩:=law as h1;obtain ⟨n,hn⟩:=Zs Φ hc;have hr0:HR (fun _ _=>False) 0 W (fun _=>none) H0:=⟨Qc _,fun _ _ h=>h.elim,trivial,fun _ _=>rfl,(fun _ _ _ _ _ _ _ h=>by cases h),(fun _ _ h=>by cases h)⟩;refine ((Iv T n).runs f as H0 _ _ hn (fun _ _=>False) 0 W (fun _=>none) args hr0 ⟨by simpa using h2,fun i x v hx hv=> .d (h3 i x v hx (by simpa using hv))⟩).mono ?_;intro e W' hok;cases e with
  | panicked c=>obtain ⟨x,u,hx,_⟩:=hok;cases hx
  | outgrown=>exact hok.elim
  | returned v=>
    obtain ⟨x,hx,I',htr,hr',hvr⟩:=hok;cases hx;have hvb:v= .bool true:=by
      cases hvr with
      | d h=>cases h;rfl
      | l h=>exact h.elim
    subst hvb;have hbl:Below W.heap.size W W':=Wo htr.ext (fun b i=>oI);refine ⟨_,rfl,?_⟩;have hlt:∀x∈p++[],x.block<W.heap.size:=fun x hx=>hW'.lt x hx
    have hltp:∀x∈p,x.block<W.heap.size:=fun x hx=>hlt x (by simp [hx])
    have hres:∀(b:Nat) (sp:Nat->Bool) (hd:Bool),DataW.TrodAll enc P W' b sp hd fn.resultTypes.toList ((Value.bool true).resultList fn.resultTypes.size) (s.fn H (ds++[])).results []:=by
      intro b sp hd;rw [hfn,hrt];exact trodAll_mk1 (shut_bool htb true)
    have hargs:∀sp:Nat->Bool,(∀x∈p++[],sp x.block=true)->DataW.TrodAll enc P W' 0 sp true fn.params.toList args.toList (s.fn H (ds++[])).args p:=by
      intro sp hsp;rw [hfn];exact Fs hl hbl hread hA hltp sp (fun x hx=>hsp x (by simp [hx]))
    have hvars:∀sp:Nat->Bool,(∀x∈p++[],sp x.block=true)->DataW.TrodVars enc P W' sp s.vars (s.fn H (ds++[])).vars []:=by
      intro sp _;rw [hfn,hv];exact rfl
    have hold:∀x∈p++[],(fun b=>decide (b<W.heap.size)) x.block=true:=fun x hx=>by simpa using hlt x hx
    refine ⟨ds,[],p++[],[],p,[],hW',hres _ _ _,hargs _ hold,hvars _ hold,hbl.frame _,fun _=>?_⟩;refine ⟨ok_one hrt rfl (okWide_bool_mk htb true),_,_,([]++p)++[],⟨[]++p,[],trodAll_append (hargs _ (fun _ _=>rfl)) (hres _ _ _),hvars _ (fun _ _=>rfl),rfl,?_,?_⟩,?_⟩
    · intro b off hp
      have hp':MemPlace.cell b off∈p:=by simpa using hp
      rw [hbl.frozen (hltp _ hp')];exact hfz b off (by simpa using hp')
    · intro ha
      simpa using hnd ha
    · intro x hx _
      simpa using hx
end
attribute [irreducible] WTV
end Go.Av
namespace Go.Av
def cI (x:Int):List AV:=[.int .i64 x]
def cB (x:Bool):List AV:=[.bool x]
def cStr (x:List UInt8):List AV:=[.str x]
def c8 (x:Int):List AV:=[.int .u8 x]
def c32 (x:Int):List AV:=[.int .u32 x]
def c64 (x:Int):List AV:=[.int .u64 x]
def cS {α:Type} (z:Nat) (f:α->List AV) (l:List α):List AV:=[.slice z (l.map f)]
@[simp] theorem Rv (x:Int):(cI x).length=1:=by simp [cI]
@[simp] theorem Ru (x:Bool):(cB x).length=1:=by simp [cB]
@[simp] theorem Rr (x:Int):(c8 x).length=1:=by simp [c8]
@[simp] theorem Py (x:Int):(c32 x).length=1:=by simp [c32]
def okI (_:Nat) (x:Int):Prop:= -9223372036854775808<=x/\x<=9223372036854775807
def ok8 (_:Nat) (x:Int):Prop:=0<=x/\x<=255
def ok32 (_:Nat) (x:Int):Prop:=0<=x/\x<=4294967295
def ok64 (_:Nat) (x:Int):Prop:=0<=x/\x<=18446744073709551615
def oT (B:Nat) (x:List UInt8):Prop:=x.length<=B
def okT {α:Type} (_:Nat) (_:α):Prop:=True
def okL {α:Type} (B:Nat) (ok:α->Prop) (l:List α):Prop:=l.length<=B/\∀x∈l,ok x
def Rd {α:Type} (P:Program) (B:Nat) (t:TypeId) (c:α->List AV) (ok:α->Prop):Prop:=∀xs,WT P B t xs->∃x,xs=c x/\ok x
def RdF {α:Type} (P:Program) (B:Nat) (fs:List Go.Field) (c:α->List AV) (ok:α->Prop):Prop:=
 ∀xss:List (List AV),xss.length=fs.length->(∀(i:Nat) f x,fs[i]? =some f->xss[i]? =some x->WT P B f.type x)->∃y,xss.flatten=c y/\ok y
theorem Rd.o {P:Program} {B:Nat} {f:Go.Field} {α:Type} {c:α->List AV} {ok:α->Prop} (h:Rd P B f.type c ok):RdF P B [f] c ok:=by
 intro xss hl hh
 match xss,hl,hh with
 | [a],_,hh=>
  obtain ⟨y,rfl,o⟩:=h a (hh 0 _ _ rfl rfl);exact ⟨y,by simp,o⟩
theorem Rd.q {P:Program} {B:Nat} {f:Go.Field} {fs:List Go.Field} {α I:Type} {c:α->List AV} {ok:α->Prop} {c':I->List AV} {ok':I->Prop} (h:Rd P B f.type c ok) (r:RdF P B fs c' ok'):
  RdF P B (f::fs) (fun y:α×I=>c y.1++c' y.2) (fun y=>ok y.1/\ok' y.2):=by
 intro xss hl hh
 match xss,hl,hh with
 | a::l,hl,hh=>
  obtain ⟨y,rfl,o⟩:=h a (hh 0 _ _ rfl rfl);obtain ⟨z,hz,o'⟩:=r l (by simpa using hl) fun i f x h1 h2=>hh (i+1) f x (by simpa using h1) (by simpa using h2)
  exact ⟨(y,z),by simp [hz],o,o'⟩
section
variable {P:Program} {B:Nat} {t:TypeId}
theorem OE {fs:Array Go.Field} (hu:P.underlying t=some (.struct fs)) {xs:List AV} (h:WT P B t xs):
  ∃xss:List (List AV),xs=xss.flatten/\xss.length=fs.size/\∀(i:Nat) f x,fs[i]? =some f->xss[i]? =some x->WT P B f.type x:=by
 cases h with
 | struct fs' xss h h1 h2=>rw [hu] at h;cases h;exact ⟨xss,rfl,h1,h2⟩
 | _=>simp_all
theorem Rd.st {fs:List Go.Field} {α I:Type} {c:α->List AV} {ok:α->Prop} {c':I->List AV} {ok':I->Prop} (hu:P.underlying t=some (.struct fs.toArray)) (r:RdF P B fs c' ok') (h:∀y,ok' y->∃x,c' y=c x/\ok x):Rd P B t c ok:=by
 intro xs hx;obtain ⟨xss,rfl,hl,hh⟩:=OE hu hx;obtain ⟨y,h1,h2⟩:=r xss (by simpa using hl) fun i f x k1 k2=>hh i f x (by simpa using k1) k2
 obtain ⟨x,h3,h4⟩:=h y h2;exact ⟨x,h1.trans h3,h4⟩
theorem FI {k:IntKind} (hu:P.underlying t=some (.int k)) {xs:List AV} (h:WT P B t xs):∃v,xs=[.int k v]/\k.min<=v/\v<=k.max:=by
 cases h with
 | int k' v h h1 h2=>rw [hu] at h;cases h;exact ⟨v,rfl,h1,h2⟩
 | _=>simp_all
theorem rd_u8 (hu:P.underlying t=some (.int .u8)):Rd P B t c8 (ok8 B):=by
 intro xs h;obtain ⟨v,rfl,h1,h2⟩:=FI hu h;exact ⟨v,rfl,h1,h2⟩
theorem FF (hu:P.underlying t=some (.int .u64)):Rd P B t c64 (ok64 B):=by
 intro xs h;obtain ⟨v,rfl,h1,h2⟩:=FI hu h;exact ⟨v,rfl,h1,h2⟩
theorem Br {α:Type} {c:α->List AV} {ok:α->Prop}:∀{es:List (List AV)},(∀x∈es,∃y,x=c y/\ok y)->∃l:List α,es=l.map c/\∀y∈l,ok y
 | [],_=>⟨[],rfl,by simp⟩
 | e::es,h=>by
  obtain ⟨y,rfl,h1⟩:=h e (by simp);obtain ⟨l,rfl,h2⟩:=Br (es:=es) (fun x hx=>h x (by simp [hx]));refine ⟨y::l,rfl,?_⟩;intro z hz;rcases iW.1 hz with rfl | hz
  ·exact h1
  ·exact h2 z hz
theorem S4 {e:TypeId} (hu:P.underlying t=some (.slice e)) {xs:List AV} (h:WT P B t xs):∃es,xs=[.slice (P.cellsOf e) es]/\es.length<=B/\∀x∈es,WT P B e x:=by
 cases h with
 | slice es h h1 h2=>rw [hu] at h;cases h;exact ⟨es,rfl,h1,h2⟩
 | _=>simp_all
theorem QR {α:Type} {e:TypeId} {c:α->List AV} {ok:α->Prop} {z:Nat} (hu:P.underlying t=some (.slice e)) (hz:P.cellsOf e=z) (he:Rd P B e c ok):Rd P B t (cS z c) (okL B ok):=by
 intro xs h;obtain ⟨es,rfl,h1,h2⟩:=S4 hu h;obtain ⟨l,rfl,h3⟩:=Br fun x hx=>he x (h2 x hx)
 exact ⟨l,by rw [hz];rfl,by simpa using h1,h3⟩
end
@[ext] structure Fld where
 name:List UInt8
 Yc:Int
 deriving DecidableEq,Inhabited
def Fld.c (x:Fld):List AV:=[.str x.name,.int .i64 x.Yc]
@[simp] theorem Fld.c_length (x:Fld):(Fld.c x).length=2:=by simp [Fld.c]
def Fld.Ok (B:Nat) (x:Fld):Prop:=oT B x.name/\okI B x.Yc
theorem Fld.rd {P:Go.Program} {B:Nat} {t:TypeId} {f0 f1:Go.Field} (hu:P.underlying t=some (.struct #[f0,f1])) (h0:Rd P B f0.type cStr (oT B)) (h1:Rd P B f1.type cI (okI B)):Rd P B t Fld.c (Fld.Ok B):=
 .st hu (h0.q h1.o) fun ⟨a,b⟩ h=>⟨⟨a,b⟩,by simp [Fld.c,cI,cStr],h⟩
@[ext] structure Xi where
 name:List UInt8
 Xz:List Fld
 deriving DecidableEq,Inhabited
def Xi.c (x:Xi):List AV:=[.str x.name,.slice 2 (x.Xz.map Fld.c)]
@[simp] theorem Xi.c_length (x:Xi):(Xi.c x).length=2:=by simp [Xi.c]
def Xi.Ok (B:Nat) (x:Xi):Prop:=oT B x.name/\okL B (Fld.Ok B) x.Xz
theorem Xi.rd {P:Go.Program} {B:Nat} {t:TypeId} {f0 f1:Go.Field} (hu:P.underlying t=some (.struct #[f0,f1])) (h0:Rd P B f0.type cStr (oT B)) (h1:Rd P B f1.type (cS 2 Fld.c) (okL B (Fld.Ok B))):Rd P B t Xi.c (Xi.Ok B):=
 .st hu (h0.q h1.o) fun ⟨a,b⟩ h=>⟨⟨a,b⟩,by simp [Xi.c,cS,cStr],h⟩
@[ext] structure Xg where
 name:List UInt8
 Yc:Int
 size:Int
 deriving DecidableEq,Inhabited
def Xg.c (x:Xg):List AV:=[.str x.name,.int .i64 x.Yc,.int .i64 x.size]
@[simp] theorem Xg.c_length (x:Xg):(Xg.c x).length=3:=by simp [Xg.c]
def Xg.Ok (B:Nat) (x:Xg):Prop:=oT B x.name/\okI B x.Yc/\okI B x.size
theorem Xg.rd {P:Go.Program} {B:Nat} {t:TypeId} {f0 f1 f2:Go.Field} (hu:P.underlying t=some (.struct #[f0,f1,f2])) (h0:Rd P B f0.type cStr (oT B)) (h1:Rd P B f1.type cI (okI B)) (h2:Rd P B f2.type cI (okI B)):Rd P B t Xg.c (Xg.Ok B):=
 .st hu (h0.q (h1.q h2.o)) fun ⟨a,b,c⟩ h=>⟨⟨a,b,c⟩,by simp [Xg.c,cI,cStr],h⟩
@[ext] structure FieldRef where
 header:Int
 field:Int
 deriving DecidableEq,Inhabited
def FieldRef.c (x:FieldRef):List AV:=[.int .i64 x.header,.int .i64 x.field]
@[simp] theorem FieldRef.c_length (x:FieldRef):(FieldRef.c x).length=2:=by simp [FieldRef.c]
def FieldRef.Ok (B:Nat) (x:FieldRef):Prop:=okI B x.header/\okI B x.field
theorem FieldRef.rd {P:Go.Program} {B:Nat} {t:TypeId} {f0 f1:Go.Field} (hu:P.underlying t=some (.struct #[f0,f1])) (h0:Rd P B f0.type cI (okI B)) (h1:Rd P B f1.type cI (okI B)):Rd P B t FieldRef.c (FieldRef.Ok B):=
 .st hu (h0.q h1.o) fun ⟨a,b⟩ h=>⟨⟨a,b⟩,by simp [FieldRef.c,cI],h⟩
@[ext] structure Xd where
 op:Int
 n:Int
 w:Int
 deriving DecidableEq,Inhabited
def Xd.c (x:Xd):List AV:=[.int .i64 x.op,.int .i64 x.n,.int .i64 x.w]
@[simp] theorem Xd.c_length (x:Xd):(Xd.c x).length=3:=by simp [Xd.c]
def Xd.Ok (B:Nat) (x:Xd):Prop:=okI B x.op/\okI B x.n/\okI B x.w
theorem Xd.rd {P:Go.Program} {B:Nat} {t:TypeId} {f0 f1 f2:Go.Field} (hu:P.underlying t=some (.struct #[f0,f1,f2])) (h0:Rd P B f0.type cI (okI B)) (h1:Rd P B f1.type cI (okI B)) (h2:Rd P B f2.type cI (okI B)):Rd P B t Xd.c (Xd.Ok B):=
 .st hu (h0.q (h1.q h2.o)) fun ⟨a,b,c⟩ h=>⟨⟨a,b,c⟩,by simp [Xd.c,cI],h⟩
@[ext] structure Xf where
 kind:Int
 dst:FieldRef
 Ye:Int
 header:Int
 index:List Xd
 value:List Xd
 deriving DecidableEq,Inhabited
def Xf.c (x:Xf):List AV:=[.int .i64 x.kind,.int .i64 x.dst.header,.int .i64 x.dst.field,.int .i64 x.Ye,.int .i64 x.header,.slice 3 (x.index.map Xd.c),.slice 3 (x.value.map Xd.c)]
@[simp] theorem Xf.c_length (x:Xf):(Xf.c x).length=7:=by simp [Xf.c]
def Xf.Ok (B:Nat) (x:Xf):Prop:=okI B x.kind/\FieldRef.Ok B x.dst/\okI B x.Ye/\okI B x.header/\okL B (Xd.Ok B) x.index/\okL B (Xd.Ok B) x.value
theorem Xf.rd {P:Go.Program} {B:Nat} {t:TypeId} {f0 f1 f2 f3 f4 f5:Go.Field} (hu:P.underlying t=some (.struct #[f0,f1,f2,f3,f4,f5])) (h0:Rd P B f0.type cI (okI B)) (h1:Rd P B f1.type FieldRef.c (FieldRef.Ok B)) (h2:Rd P B f2.type cI (okI B)) (h3:Rd P B f3.type cI (okI B)) (h4:Rd P B f4.type (cS 3 Xd.c) (okL B (Xd.Ok B))) (h5:Rd P B f5.type (cS 3 Xd.c) (okL B (Xd.Ok B))):Rd P B t Xf.c (Xf.Ok B):=
 .st hu (h0.q (h1.q (h2.q (h3.q (h4.q h5.o))))) fun ⟨a,b,c,d,e,f⟩ h=>⟨⟨a,b,c,d,e,f⟩,by simp [Xf.c,FieldRef.c,cI,cS],h⟩
@[ext] structure Action where
 name:List UInt8
 params:List Fld
 body:List Xf
 deriving DecidableEq,Inhabited
def Action.c (x:Action):List AV:=[.str x.name,.slice 2 (x.params.map Fld.c),.slice 7 (x.body.map Xf.c)]
@[simp] theorem Action.c_length (x:Action):(Action.c x).length=3:=by simp [Action.c]
def Action.Ok (B:Nat) (x:Action):Prop:=oT B x.name/\okL B (Fld.Ok B) x.params/\okL B (Xf.Ok B) x.body
theorem Action.rd {P:Go.Program} {B:Nat} {t:TypeId} {f0 f1 f2:Go.Field} (hu:P.underlying t=some (.struct #[f0,f1,f2])) (h0:Rd P B f0.type cStr (oT B)) (h1:Rd P B f1.type (cS 2 Fld.c) (okL B (Fld.Ok B))) (h2:Rd P B f2.type (cS 7 Xf.c) (okL B (Xf.Ok B))):Rd P B t Action.c (Action.Ok B):=
 .st hu (h0.q (h1.q h2.o)) fun ⟨a,b,c⟩ h=>⟨⟨a,b,c⟩,by simp [Action.c,cS,cStr],h⟩
@[ext] structure Xk where
 field:FieldRef
 kind:Int
 deriving DecidableEq,Inhabited
def Xk.c (x:Xk):List AV:=[.int .i64 x.field.header,.int .i64 x.field.field,.int .i64 x.kind]
@[simp] theorem Xk.c_length (x:Xk):(Xk.c x).length=3:=by simp [Xk.c]
def Xk.Ok (B:Nat) (x:Xk):Prop:=FieldRef.Ok B x.field/\okI B x.kind
theorem Xk.rd {P:Go.Program} {B:Nat} {t:TypeId} {f0 f1:Go.Field} (hu:P.underlying t=some (.struct #[f0,f1])) (h0:Rd P B f0.type FieldRef.c (FieldRef.Ok B)) (h1:Rd P B f1.type cI (okI B)):Rd P B t Xk.c (Xk.Ok B):=
 .st hu (h0.q h1.o) fun ⟨a,b⟩ h=>⟨⟨a,b⟩,by simp [Xk.c,FieldRef.c,cI],h⟩
@[ext] structure Xb where
 Xy:Int
 args:List Int
 deriving DecidableEq,Inhabited
def Xb.c (x:Xb):List AV:=[.int .i64 x.Xy,.slice 1 (x.args.map c32)]
@[simp] theorem Xb.c_length (x:Xb):(Xb.c x).length=2:=by simp [Xb.c]
def Xb.Ok (B:Nat) (x:Xb):Prop:=okI B x.Xy/\okL B (ok32 B) x.args
theorem Xb.rd {P:Go.Program} {B:Nat} {t:TypeId} {f0 f1:Go.Field} (hu:P.underlying t=some (.struct #[f0,f1])) (h0:Rd P B f0.type cI (okI B)) (h1:Rd P B f1.type (cS 1 c32) (okL B (ok32 B))):Rd P B t Xb.c (Xb.Ok B):=
 .st hu (h0.q h1.o) fun ⟨a,b⟩ h=>⟨⟨a,b⟩,by simp [Xb.c,cI,cS],h⟩
@[ext] structure Tbl where
 name:List UInt8
 keys:List Xk
 Xx:List Int
 Yb:Xb
 size:Int
 deriving DecidableEq,Inhabited
def Tbl.c (x:Tbl):List AV:=[.str x.name,.slice 3 (x.keys.map Xk.c),.slice 1 (x.Xx.map cI),.int .i64 x.Yb.Xy,.slice 1 (x.Yb.args.map c32),.int .i64 x.size]
@[simp] theorem Tbl.c_length (x:Tbl):(Tbl.c x).length=6:=by simp [Tbl.c]
def Tbl.Ok (B:Nat) (x:Tbl):Prop:=oT B x.name/\okL B (Xk.Ok B) x.keys/\okL B (okI B) x.Xx/\Xb.Ok B x.Yb/\okI B x.size
theorem Tbl.rd {P:Go.Program} {B:Nat} {t:TypeId} {f0 f1 f2 f3 f4:Go.Field} (hu:P.underlying t=some (.struct #[f0,f1,f2,f3,f4])) (h0:Rd P B f0.type cStr (oT B)) (h1:Rd P B f1.type (cS 3 Xk.c) (okL B (Xk.Ok B))) (h2:Rd P B f2.type (cS 1 cI) (okL B (okI B))) (h3:Rd P B f3.type Xb.c (Xb.Ok B)) (h4:Rd P B f4.type cI (okI B)):Rd P B t Tbl.c (Tbl.Ok B):=
 .st hu (h0.q (h1.q (h2.q (h3.q h4.o)))) fun ⟨a,b,c,d,e⟩ h=>⟨⟨a,b,c,d,e⟩,by simp [Tbl.c,Xb.c,cI,cS,cStr],h⟩
@[ext] structure Xj where
 value:Int
 Yd:Int
 next:Int
 deriving DecidableEq,Inhabited
def Xj.c (x:Xj):List AV:=[.int .u32 x.value,.int .u32 x.Yd,.int .i64 x.next]
@[simp] theorem Xj.c_length (x:Xj):(Xj.c x).length=3:=by simp [Xj.c]
def Xj.Ok (B:Nat) (x:Xj):Prop:=ok32 B x.value/\ok32 B x.Yd/\okI B x.next
theorem Xj.rd {P:Go.Program} {B:Nat} {t:TypeId} {f0 f1 f2:Go.Field} (hu:P.underlying t=some (.struct #[f0,f1,f2])) (h0:Rd P B f0.type c32 (ok32 B)) (h1:Rd P B f1.type c32 (ok32 B)) (h2:Rd P B f2.type cI (okI B)):Rd P B t Xj.c (Xj.Ok B):=
 .st hu (h0.q (h1.q h2.o)) fun ⟨a,b,c⟩ h=>⟨⟨a,b,c⟩,by simp [Xj.c,c32,cI],h⟩
@[ext] structure Xc where
 name:List UInt8
 extract:List Int
 select:Bool
 on:FieldRef
 cases:List Xj
 Yb:Int
 deriving DecidableEq,Inhabited
def Xc.c (x:Xc):List AV:=[.str x.name,.slice 1 (x.extract.map cI),.bool x.select,.int .i64 x.on.header,.int .i64 x.on.field,.slice 3 (x.cases.map Xj.c),.int .i64 x.Yb]
@[simp] theorem Xc.c_length (x:Xc):(Xc.c x).length=7:=by simp [Xc.c]
def Xc.Ok (B:Nat) (x:Xc):Prop:=oT B x.name/\okL B (okI B) x.extract/\FieldRef.Ok B x.on/\okL B (Xj.Ok B) x.cases/\okI B x.Yb
theorem Xc.rd {P:Go.Program} {B:Nat} {t:TypeId} {f0 f1 f2 f3 f4 f5:Go.Field} (hu:P.underlying t=some (.struct #[f0,f1,f2,f3,f4,f5])) (h0:Rd P B f0.type cStr (oT B)) (h1:Rd P B f1.type (cS 1 cI) (okL B (okI B))) (h2:Rd P B f2.type cB (okT B)) (h3:Rd P B f3.type FieldRef.c (FieldRef.Ok B)) (h4:Rd P B f4.type (cS 3 Xj.c) (okL B (Xj.Ok B))) (h5:Rd P B f5.type cI (okI B)):Rd P B t Xc.c (Xc.Ok B):=
 .st hu (h0.q (h1.q (h2.q (h3.q (h4.q h5.o))))) fun ⟨a,b,c,d,e,f⟩ ⟨o0,o1,_,o3,o4,o5⟩=>⟨⟨a,b,c,d,e,f⟩,by simp [Xc.c,FieldRef.c,cB,cI,cS,cStr],⟨o0,o1,o3,o4,o5⟩⟩
inductive Xa where
 | mk (kind table:Int) (cond:List Xd) (thn els:List Xa)
 deriving Inhabited
mutual
def Xa.c:Xa->List AV
 | .mk k t c a b=>[.int .i64 k,.int .i64 t,.slice 3 (c.map Xd.c),.slice 5 (Xa.cs a),.slice 5 (Xa.cs b)]
def Xa.cs:List Xa->List (List AV)
 | []=>[]
 | x::r=>Xa.c x::Xa.cs r
end
theorem Xa.cs_eq:∀l,Xa.cs l=l.map Xa.c
 | []=>by simp [Xa.cs]
 | x::r=>by simp [Xa.cs,Xa.cs_eq r]
@[simp] theorem Xa.c_length:∀x,(Xa.c x).length=5
 | .mk .. =>by simp [Xa.c]
mutual
def Xa.Ok (B:Nat):Xa->Prop
 | .mk k t c a b=>okI B k/\okI B t/\okL B (Xd.Ok B) c/\(a.length<=B/\Xa.Oks B a)/\(b.length<=B/\Xa.Oks B b)
def Xa.Oks (B:Nat):List Xa->Prop
 | []=>True
 | x::r=>Xa.Ok B x/\Xa.Oks B r
end
theorem Xa.oks_eq (B:Nat):∀l,Xa.Oks B l↔∀x∈l,Xa.Ok B x
 | []=>by simp [Xa.Oks]
 | x::r=>by simp [Xa.Oks,Xa.oks_eq B r]
theorem Xa.rd {P:Go.Program} {B:Nat} {t ts:TypeId} {f0 f1 f2 f3 f4:Go.Field} (hu:P.underlying t=some (.struct #[f0,f1,f2,f3,f4])) (h0:Rd P B f0.type cI (okI B)) (h1:Rd P B f1.type cI (okI B))
  (h2:Rd P B f2.type (cS 3 Xd.c) (okL B (Xd.Ok B))) (h3:f3.type=ts) (h4:f4.type=ts) (hs:P.underlying ts=some (.slice t)) (hz:P.cellsOf t=5):Rd P B t Xa.c (Xa.Ok B):=by
 have key:∀u xs,WT P B u xs->(u=t->∃x:Xa,xs=x.c/\x.Ok B)/\(u=ts->∃l:List Xa,xs=[.slice 5 (Xa.cs l)]/\l.length<=B/\Xa.Oks B l):=by
  intro u xs h
  induction h with
  | bool b h=>exact ⟨(fun e=>by subst e;rw [hu] at h;cases h),(fun e=>by subst e;rw [hs] at h;cases h)⟩
  | int k v h=>exact ⟨(fun e=>by subst e;rw [hu] at h;cases h),(fun e=>by subst e;rw [hs] at h;cases h)⟩
  | str s h=>exact ⟨(fun e=>by subst e;rw [hu] at h;cases h),(fun e=>by subst e;rw [hs] at h;cases h)⟩
  | array k xss h=>exact ⟨(fun e=>by subst e;rw [hu] at h;cases h),(fun e=>by subst e;rw [hs] at h;cases h)⟩
  | slice es h k1 k2 ih=>
   refine ⟨(fun e=>by subst e;rw [hu] at h;cases h),fun e=>?_⟩;subst e;rw [hs] at h;cases h;obtain ⟨l,rfl,hl⟩:=Br (c:=Xa.c) (ok:=Xa.Ok B) fun x hx=>(ih x hx).1 rfl
   exact ⟨l,by rw [hz,Xa.cs_eq],by simpa using k1,(Xa.oks_eq B l).2 hl⟩
  | struct fs xss h k1 k2 ih=>
   refine ⟨fun e=>?_,fun e=>by subst e;rw [hs] at h;cases h⟩;subst e;rw [hu] at h;cases h
   match xss,k1,k2,ih with
   | [a0,a1,a2,a3,a4],_,hh,ih=>
    obtain ⟨y0,rfl,o0⟩:=h0 a0 (hh 0 _ _ rfl rfl);obtain ⟨y1,rfl,o1⟩:=h1 a1 (hh 1 _ _ rfl rfl);obtain ⟨y2,rfl,o2⟩:=h2 a2 (hh 2 _ _ rfl rfl);obtain ⟨y3,rfl,o3⟩:=(ih 3 _ _ rfl rfl).2 h3;obtain ⟨y4,rfl,o4⟩:=(ih 4 _ _ rfl rfl).2 h4;exact ⟨.mk y0 y1 y2 y3 y4,by simp [Xa.c,cI,cS],by simp only [Xa.Ok];exact ⟨o0,o1,o2,o3,o4⟩⟩
 intro xs h;exact (key t xs h).1 rfl
@[ext] structure Prg where
 name:List UInt8
 Xo:List Xi
 Xn:List Fld
 Xl:List Xg
 Xx:List Action
 Xm:List Tbl
 Xw:List Xc
 Ya:List Xa
 Xr:List Int
 deriving Inhabited
def Prg.c (x:Prg):List AV:=[.str x.name,.slice 2 (x.Xo.map Xi.c),.slice 2 (x.Xn.map Fld.c),.slice 3 (x.Xl.map Xg.c),.slice 3 (x.Xx.map Action.c),.slice 6 (x.Xm.map Tbl.c),.slice 7 (x.Xw.map Xc.c),.slice 5 (x.Ya.map Xa.c),.slice 1 (x.Xr.map cI)]
@[simp] theorem Prg.c_length (x:Prg):(Prg.c x).length=9:=by simp [Prg.c]
def Prg.Ok (B:Nat) (x:Prg):Prop:=oT B x.name/\okL B (Xi.Ok B) x.Xo/\okL B (Fld.Ok B) x.Xn/\okL B (Xg.Ok B) x.Xl/\okL B (Action.Ok B) x.Xx/\okL B (Tbl.Ok B) x.Xm/\okL B (Xc.Ok B) x.Xw/\okL B (Xa.Ok B) x.Ya/\okL B (okI B) x.Xr
theorem Prg.rd {P:Go.Program} {B:Nat} {t:TypeId} {f0 f1 f2 f3 f4 f5 f6 f7 f8:Go.Field} (hu:P.underlying t=some (.struct #[f0,f1,f2,f3,f4,f5,f6,f7,f8])) (h0:Rd P B f0.type cStr (oT B)) (h1:Rd P B f1.type (cS 2 Xi.c) (okL B (Xi.Ok B))) (h2:Rd P B f2.type (cS 2 Fld.c) (okL B (Fld.Ok B))) (h3:Rd P B f3.type (cS 3 Xg.c) (okL B (Xg.Ok B))) (h4:Rd P B f4.type (cS 3 Action.c) (okL B (Action.Ok B))) (h5:Rd P B f5.type (cS 6 Tbl.c) (okL B (Tbl.Ok B))) (h6:Rd P B f6.type (cS 7 Xc.c) (okL B (Xc.Ok B))) (h7:Rd P B f7.type (cS 5 Xa.c) (okL B (Xa.Ok B))) (h8:Rd P B f8.type (cS 1 cI) (okL B (okI B))):Rd P B t Prg.c (Prg.Ok B):=
 .st hu (h0.q (h1.q (h2.q (h3.q (h4.q (h5.q (h6.q (h7.q h8.o)))))))) fun ⟨a,b,c,d,e,f,g,i,j⟩ h=>⟨⟨a,b,c,d,e,f,g,i,j⟩,by simp [Prg.c,cS,cStr],h⟩
@[ext] structure Envt where
 valid:List Bool
 Xz:List (List Int)
 metaF:List Int
 payload:List Int
 deriving DecidableEq,Inhabited
def Envt.c (x:Envt):List AV:=[.slice 1 (x.valid.map cB),.slice 1 (x.Xz.map (cS 1 c32)),.slice 1 (x.metaF.map c32),.slice 1 (x.payload.map c8)]
@[simp] theorem Envt.c_length (x:Envt):(Envt.c x).length=4:=by simp [Envt.c]
def Envt.Ok (B:Nat) (x:Envt):Prop:=okL B (okT B) x.valid/\okL B (okL B (ok32 B)) x.Xz/\okL B (ok32 B) x.metaF/\okL B (ok8 B) x.payload
theorem Envt.rd {P:Go.Program} {B:Nat} {t:TypeId} {f0 f1 f2 f3:Go.Field} (hu:P.underlying t=some (.struct #[f0,f1,f2,f3])) (h0:Rd P B f0.type (cS 1 cB) (okL B (okT B))) (h1:Rd P B f1.type (cS 1 (cS 1 c32)) (okL B (okL B (ok32 B)))) (h2:Rd P B f2.type (cS 1 c32) (okL B (ok32 B))) (h3:Rd P B f3.type (cS 1 c8) (okL B (ok8 B))):Rd P B t Envt.c (Envt.Ok B):=
 .st hu (h0.q (h1.q (h2.q h3.o))) fun ⟨a,b,c,d⟩ h=>⟨⟨a,b,c,d⟩,by simp [Envt.c,cS],h⟩
@[ext] structure Xh where
 value:Int
 Yd:Int
 deriving DecidableEq,Inhabited
def Xh.c (x:Xh):List AV:=[.int .u32 x.value,.int .u32 x.Yd]
@[simp] theorem Xh.c_length (x:Xh):(Xh.c x).length=2:=by simp [Xh.c]
def Xh.Ok (B:Nat) (x:Xh):Prop:=ok32 B x.value/\ok32 B x.Yd
theorem Xh.rd {P:Go.Program} {B:Nat} {t:TypeId} {f0 f1:Go.Field} (hu:P.underlying t=some (.struct #[f0,f1])) (h0:Rd P B f0.type c32 (ok32 B)) (h1:Rd P B f1.type c32 (ok32 B)):Rd P B t Xh.c (Xh.Ok B):=
 .st hu (h0.q h1.o) fun ⟨a,b⟩ h=>⟨⟨a,b⟩,by simp [Xh.c,c32],h⟩
@[ext] structure Entry where
 keys:List Xh
 Xs:Int
 call:Xb
 deriving DecidableEq,Inhabited
def Entry.c (x:Entry):List AV:=[.slice 2 (x.keys.map Xh.c),.int .i64 x.Xs,.int .i64 x.call.Xy,.slice 1 (x.call.args.map c32)]
@[simp] theorem Entry.c_length (x:Entry):(Entry.c x).length=4:=by simp [Entry.c]
def Entry.Ok (B:Nat) (x:Entry):Prop:=okL B (Xh.Ok B) x.keys/\okI B x.Xs/\Xb.Ok B x.call
theorem Entry.rd {P:Go.Program} {B:Nat} {t:TypeId} {f0 f1 f2:Go.Field} (hu:P.underlying t=some (.struct #[f0,f1,f2])) (h0:Rd P B f0.type (cS 2 Xh.c) (okL B (Xh.Ok B))) (h1:Rd P B f1.type cI (okI B)) (h2:Rd P B f2.type Xb.c (Xb.Ok B)):Rd P B t Entry.c (Entry.Ok B):=
 .st hu (h0.q (h1.q h2.o)) fun ⟨a,b,c⟩ h=>⟨⟨a,b,c⟩,by simp [Entry.c,Xb.c,cI,cS],h⟩
@[ext] structure Rw where
 id:Int
 entry:Entry
 deriving DecidableEq,Inhabited
def Rw.c (x:Rw):List AV:=[.int .i64 x.id,.slice 2 (x.entry.keys.map Xh.c),.int .i64 x.entry.Xs,.int .i64 x.entry.call.Xy,.slice 1 (x.entry.call.args.map c32)]
@[simp] theorem Rw.c_length (x:Rw):(Rw.c x).length=5:=by simp [Rw.c]
def Rw.Ok (B:Nat) (x:Rw):Prop:=okI B x.id/\Entry.Ok B x.entry
theorem Rw.rd {P:Go.Program} {B:Nat} {t:TypeId} {f0 f1:Go.Field} (hu:P.underlying t=some (.struct #[f0,f1])) (h0:Rd P B f0.type cI (okI B)) (h1:Rd P B f1.type Entry.c (Entry.Ok B)):Rd P B t Rw.c (Rw.Ok B):=
 .st hu (h0.q h1.o) fun ⟨a,b⟩ h=>⟨⟨a,b⟩,by simp [Rw.c,Entry.c,cI],h⟩
@[ext] structure Xe where
 rows:List (List Rw)
 Xq:List Int
 Xp:List Xb
 Xl:List (List Int)
 deriving DecidableEq,Inhabited
def Xe.c (x:Xe):List AV:=[.slice 1 (x.rows.map (cS 5 Rw.c)),.slice 1 (x.Xq.map cI),.slice 2 (x.Xp.map Xb.c),.slice 1 (x.Xl.map (cS 1 c32))]
@[simp] theorem Xe.c_length (x:Xe):(Xe.c x).length=4:=by simp [Xe.c]
def Xe.Ok (B:Nat) (x:Xe):Prop:=okL B (okL B (Rw.Ok B)) x.rows/\okL B (okI B) x.Xq/\okL B (Xb.Ok B) x.Xp/\okL B (okL B (ok32 B)) x.Xl
theorem Xe.rd {P:Go.Program} {B:Nat} {t:TypeId} {f0 f1 f2 f3:Go.Field} (hu:P.underlying t=some (.struct #[f0,f1,f2,f3])) (h0:Rd P B f0.type (cS 1 (cS 5 Rw.c)) (okL B (okL B (Rw.Ok B)))) (h1:Rd P B f1.type (cS 1 cI) (okL B (okI B))) (h2:Rd P B f2.type (cS 2 Xb.c) (okL B (Xb.Ok B))) (h3:Rd P B f3.type (cS 1 (cS 1 c32)) (okL B (okL B (ok32 B)))):Rd P B t Xe.c (Xe.Ok B):=
 .st hu (h0.q (h1.q (h2.q h3.o))) fun ⟨a,b,c,d⟩ h=>⟨⟨a,b,c,d⟩,by simp [Xe.c,cS],h⟩
@[ext] structure Packet where
 port:Int
 data:List Int
 deriving DecidableEq,Inhabited
def Packet.c (x:Packet):List AV:=[.int .i64 x.port,.slice 1 (x.data.map c8)]
@[simp] theorem Packet.c_length (x:Packet):(Packet.c x).length=2:=by simp [Packet.c]
def Packet.Ok (B:Nat) (x:Packet):Prop:=okI B x.port/\okL B (ok8 B) x.data
theorem Packet.rd {P:Go.Program} {B:Nat} {t:TypeId} {f0 f1:Go.Field} (hu:P.underlying t=some (.struct #[f0,f1])) (h0:Rd P B f0.type cI (okI B)) (h1:Rd P B f1.type (cS 1 c8) (okL B (ok8 B))):Rd P B t Packet.c (Packet.Ok B):=
 .st hu (h0.q h1.o) fun ⟨a,b⟩ h=>⟨⟨a,b⟩,by simp [Packet.c,cI,cS],h⟩
@[ext] structure Hit where
 table:Int
 row:Int
 Xy:Int
 deriving DecidableEq,Inhabited
def Hit.c (x:Hit):List AV:=[.int .i64 x.table,.int .i64 x.row,.int .i64 x.Xy]
@[simp] theorem Hit.c_length (x:Hit):(Hit.c x).length=3:=by simp [Hit.c]
def Hit.Ok (B:Nat) (x:Hit):Prop:=okI B x.table/\okI B x.row/\okI B x.Xy
theorem Hit.rd {P:Go.Program} {B:Nat} {t:TypeId} {f0 f1 f2:Go.Field} (hu:P.underlying t=some (.struct #[f0,f1,f2])) (h0:Rd P B f0.type cI (okI B)) (h1:Rd P B f1.type cI (okI B)) (h2:Rd P B f2.type cI (okI B)):Rd P B t Hit.c (Hit.Ok B):=
 .st hu (h0.q (h1.q h2.o)) fun ⟨a,b,c⟩ h=>⟨⟨a,b,c⟩,by simp [Hit.c,cI],h⟩
@[ext] structure Rslt where
 drop:Bool
 port:Int
 data:List Int
 hits:List Hit
 deriving DecidableEq,Inhabited
def Rslt.c (x:Rslt):List AV:=[.bool x.drop,.int .i64 x.port,.slice 1 (x.data.map c8),.slice 3 (x.hits.map Hit.c)]
@[simp] theorem Rslt.c_length (x:Rslt):(Rslt.c x).length=4:=by simp [Rslt.c]
def Rslt.Ok (B:Nat) (x:Rslt):Prop:=okI B x.port/\okL B (ok8 B) x.data/\okL B (Hit.Ok B) x.hits
theorem Rslt.rd {P:Go.Program} {B:Nat} {t:TypeId} {f0 f1 f2 f3:Go.Field} (hu:P.underlying t=some (.struct #[f0,f1,f2,f3])) (h0:Rd P B f0.type cB (okT B)) (h1:Rd P B f1.type cI (okI B)) (h2:Rd P B f2.type (cS 1 c8) (okL B (ok8 B))) (h3:Rd P B f3.type (cS 3 Hit.c) (okL B (Hit.Ok B))):Rd P B t Rslt.c (Rslt.Ok B):=
 .st hu (h0.q (h1.q (h2.q h3.o))) fun ⟨a,b,c,d⟩ ⟨_,o1,o2,o3⟩=>⟨⟨a,b,c,d⟩,by simp [Rslt.c,cB,cI,cS],⟨o1,o2,o3⟩⟩
@[ext] structure Flow where
 src:Int
 dst:Int
 typ:Int
 deriving DecidableEq,Inhabited
def Flow.c (x:Flow):List AV:=[.int .u8 x.src,.int .u8 x.dst,.int .u8 x.typ]
@[simp] theorem Flow.c_length (x:Flow):(Flow.c x).length=3:=by simp [Flow.c]
def Flow.Ok (B:Nat) (x:Flow):Prop:=ok8 B x.src/\ok8 B x.dst/\ok8 B x.typ
theorem Flow.rd {P:Go.Program} {B:Nat} {t:TypeId} {f0 f1 f2:Go.Field} (hu:P.underlying t=some (.struct #[f0,f1,f2])) (h0:Rd P B f0.type c8 (ok8 B)) (h1:Rd P B f1.type c8 (ok8 B)) (h2:Rd P B f2.type c8 (ok8 B)):Rd P B t Flow.c (Flow.Ok B):=
 .st hu (h0.q (h1.q h2.o)) fun ⟨a,b,c⟩ h=>⟨⟨a,b,c⟩,by simp [Flow.c,c8],h⟩
@[ext] structure Cube where
 value:Int
 Yd:Int
 deriving DecidableEq,Inhabited
def Cube.c (x:Cube):List AV:=[.int .u64 x.value,.int .u64 x.Yd]
@[simp] theorem Cube.c_length (x:Cube):(Cube.c x).length=2:=by simp [Cube.c]
def Cube.Ok (B:Nat) (x:Cube):Prop:=ok64 B x.value/\ok64 B x.Yd
theorem Cube.rd {P:Go.Program} {B:Nat} {t:TypeId} {f0 f1:Go.Field} (hu:P.underlying t=some (.struct #[f0,f1])) (h0:Rd P B f0.type c64 (ok64 B)) (h1:Rd P B f1.type c64 (ok64 B)):Rd P B t Cube.c (Cube.Ok B):=
 .st hu (h0.q h1.o) fun ⟨a,b⟩ h=>⟨⟨a,b⟩,by simp [Cube.c,c64],h⟩
end Go.Av
namespace Go.Av
open Go.ChangeShapes Go.WideShapes Go.ChangeAt Go.RowKit
def iH:Nat:=1048576
theorem CN:iH=1048576:=rfl
theorem Hi {n:Nat} (h:n<=1048576):n<=iH:=h
theorem Ct {α:Type} {t:Nat} {x:α}:∀{l:List (Nat×α)},look t l=some x->(t,x)∈l
 | [],h=>by cases h
 | (u,y)::r,h=>by
  simp only [look] at h;split at h
  ·rename_i hu;subst hu;cases h;simp
  ·exact QB _ (Ct h)
theorem RO {P:Program} {A:Ann} {tab:List (Nat×AFn)} (h:tab.map (fun p=>cFn P A p.1)=tab.map (fun p=>some p.2)) {f:FuncId} {fn:AFn} (hf:(f,fn)∈tab):cFn P A f=some fn:=by
 have:=HC.1 h (f,fn) hf;exact this
def t7 (P:Program) (f:FuncId):Bool:=match P.funcs[f]? with
 | some fn => !fn.body.isNone && !(fn.name == "runtime.NumGoroutine")
 | none=>false
def GW (tab:List (Nat×AFn)) (tabD:List (Nat×ADFn)) (f:FuncId):Option AFun:=match look f tab with
 | some fn=>some (.code fn)
 | none=>(look f tabD).map .dfr
theorem GG {P:Program} {f:FuncId} (h:t7 P f=true):tU P f:=by
 unfold t7 at h;split at h
 ·rename_i fd hfd;simp only [bE,rJ] at h;exact ⟨fd,hfd,h.1,h.2⟩
 ·cases h
theorem LT {P:Program} {A:Ann} {tab:List (Nat×AFn)} {tabD:List (Nat×ADFn)} (hm:P.follows .mixedOrders=true) (h:tab.map (fun p=>cFn P A p.1)=tab.map (fun p=>some p.2)) (hb:tab.all (fun p=>t7 P p.1)=true)
  (hd:tabD.map (fun p=>cDFn P A p.1 p.2.clo)=tabD.map (fun p=>some p.2)) (hbd:tabD.all (fun p=>t7 P p.1&&t7 P p.2.clo)=true):TableOk P A (GW tab tabD):=by
 have cases':∀f af,GW tab tabD f=some af->(∃fn,af= .code fn/\(f,fn)∈tab)\/(∃d,af= .dfr d/\(f,d)∈tabD):=by
  intro f af hf;unfold GW at hf;split at hf
  ·rename_i fn hl;cases hf;exact .inl ⟨fn,rfl,Ct hl⟩
  ·rw [Qs] at hf;obtain ⟨d,hl,rfl⟩:=hf;exact .inr ⟨d,rfl,Ct hl⟩
 refine ⟨hm,?_,?_,?_,?_⟩
 ·intro f af hf;rcases cases' f af hf with ⟨fn,rfl,hl⟩ | ⟨d,rfl,hl⟩
  ·exact GG (Qr.1 hb _ hl)
  ·have:=Qr.1 hbd _ hl;simp only [bE] at this;exact GG this.1
 ·intro f fn hf;rcases cases' f _ hf with ⟨fn,h1,hl⟩ | ⟨d,h1,hl⟩
  ·cases h1;exact RO h hl
  ·cases h1
 ·intro f d hf;rcases cases' f _ hf with ⟨fn,h1,hl⟩ | ⟨d,h1,hl⟩
  ·cases h1
  ·cases h1;have h2:=HC.1 hd _ hl;have h3:=Qr.1 hbd _ hl;simp only [bE] at h3;exact ⟨h2,GG h3.2⟩
 ·intro f g hf;rcases cases' f _ hf with ⟨fn,h1,hl⟩ | ⟨d,h1,hl⟩<;>cases h1
structure CloneD where
 f:Nat
 z:Nat
 bytes:Nat
 m:SM
 deriving Inhabited
def JT (f:Nat):List CloneD->Option CloneD
 | []=>none
 | c::r=>if c.f=f then some c else JT f r
theorem Hw {f:Nat} {c:CloneD}:∀{l:List CloneD},JT f l=some c->c∈l/\c.f=f
 | [],h=>by cases h
 | d::r,h=>by
  simp only [JT] at h;split at h
  ·rename_i hd;cases h;exact ⟨HA,hd⟩
  ·obtain ⟨h1,h2⟩:=Hw h;exact ⟨QB _ h1,h2⟩
def K8 (tab:List (Nat×AFn)) (tabD:List (Nat×ADFn)) (tabC:List CloneD) (f:FuncId):Option AFun:=match look f tab with
 | some fn=>some (.code fn)
 | none=>match look f tabD with
  | some d=>some (.dfr d)
  | none=>(JT f tabC).map fun c=> .rule (qU c.z c.bytes c.m)
theorem Hq {P:Program} {A:Ann} {tab:List (Nat×AFn)} {tabD:List (Nat×ADFn)} {tabC:List CloneD} (hm:P.follows .mixedOrders=true) (h:tab.map (fun p=>cFn P A p.1)=tab.map (fun p=>some p.2)) (hb:tab.all (fun p=>t7 P p.1)=true)
  (hd:tabD.map (fun p=>cDFn P A p.1 p.2.clo)=tabD.map (fun p=>some p.2)) (hbd:tabD.all (fun p=>t7 P p.1&&t7 P p.2.clo)=true)
  (hc1:tabC.map (fun c=>zX P (annC c.m false) (annC c.m true) c.f)=tabC.map (fun c=>some (rC c.z c.bytes c.m)))
  (hc2:tabC.map (fun c=>zX P (annC .app false) (annC .app true) c.f)=tabC.map (fun c=>some (rC c.z c.bytes .app))) (hbc:tabC.all (fun c=>t7 P c.f)=true):TableOk P A (K8 tab tabD tabC):=by
 have T:=LT hm h hb hd hbd;have cases':∀f af,K8 tab tabD tabC f=some af->GW tab tabD f=some af\/∃c,c∈tabC/\c.f=f/\af= .rule (qU c.z c.bytes c.m):=by
  intro f af hf;unfold K8 at hf;unfold GW;cases h1:look f tab with
  | some fn=>rw [h1] at hf;exact .inl hf
  | none=>
   rw [h1] at hf;cases h2:look f tabD with
   | some d=>rw [h2] at hf;exact .inl hf
   | none=>
    rw [h2] at hf;simp only [Qs] at hf;obtain ⟨c,hc,rfl⟩:=hf;obtain ⟨k1,k2⟩:=Hw hc;exact .inr ⟨c,k1,k2,rfl⟩
 refine ⟨hm,?_,?_,?_,?_⟩
 ·intro f af hf;rcases cases' f af hf with hf | ⟨c,hc,rfl,rfl⟩
  ·exact T.body f af hf
  ·exact GG (Qr.1 hbc _ hc)
 ·intro f fn hf;rcases cases' f _ hf with hf | ⟨c,hc,rfl,h⟩
  ·exact T.code f fn hf
  ·cases h
 ·intro f d hf;rcases cases' f _ hf with hf | ⟨c,hc,rfl,h⟩
  ·exact T.dfr f d hf
  ·cases h
 ·intro f g hf;rcases cases' f _ hf with hf | ⟨c,hc,rfl,h⟩
  ·exact T.rule f g hf
  ·cases h;intro call hcall as H r H' hev F B0 w I vs hr ha;exact Yk hm (HC.1 hc1 _ hc) (HC.1 hc2 _ hc) hcall hev hr ha
theorem Yq {n:Nat} {H:AH} {v:AV} {b:Bool} (h:snap n H v=some (.bool b)):v= .bool b:=by
 cases n with
 | zero=>cases h
 | succ n=>
  cases v with
  | bool b'=>cases h;rfl
  | agg cs=>simp only [snap,Qs] at h;obtain ⟨_,_,hh⟩:=h;cases hh
  | tup cs=>simp only [snap,Qs] at h;obtain ⟨_,_,hh⟩:=h;cases hh
  | iface t v=>simp only [snap,Qs] at h;obtain ⟨_,_,hh⟩:=h;cases hh
  | func fn a c=>
   simp only [snap] at h;split at h
   ·cases h
   ·simp only [Qs] at h;obtain ⟨_,_,hh⟩:=h;cases hh
  | ptr id z i off=>
   simp only [snap] at h;split at h
   ·split at h
    ·simp only [Qs] at h;obtain ⟨_,_,hh⟩:=h;cases hh
    ·cases h
   ·cases h
  | row id z off len=>
   simp only [snap] at h;split at h
   ·split at h
    ·simp only [Qs] at h;obtain ⟨_,_,hh⟩:=h;cases hh
    ·cases h
   ·cases h
  | _=>cases h
theorem Wf {Φ:FuncId->Option AFun} {f:FuncId} {as:List AV} {b:Bool} (h:a9 Φ f as=some (.val (.bool b))):∃H',aD Φ f as H0=some (.val (.bool b),H'):=by
 unfold a9 at h;cases hc:aD Φ f as H0 with
 | none=>rw [hc] at h;cases h
 | some p=>
  obtain ⟨r,H'⟩:=p;rw [hc] at h;refine ⟨H',?_⟩;cases r with
  | pan r=>
   simp only [oP] at h;split at h<;>cases h
  | val r=>
   simp only [oP] at h;split at h
   ·rename_i r' hr;cases h;rw [Yq hr]
   ·cases h
theorem Ze {Φ:FuncId->Option AFun} {f:FuncId} {as:List AV} {n:Nat} {b:Bool} (h:(evF Φ n f as H0).map (·.1)=some (.val (.bool b))):a9 Φ f as=some (.val (.bool b)):=by
 rw [Qs] at h;obtain ⟨⟨r,H'⟩,h1,h2⟩:=h;simp only at h2;subst h2;unfold a9;rw [Jy Φ h1];rfl
theorem Ob {α:Type} {P:Program} {B:Nat} {t:TypeId} {v:AV} {c:α->List AV} {ok:α->Prop} (h:WTV P B t v) (hu:qB P t=true) (hr:∀xs,WT P B t xs->∃x,xs=c x/\ok x):∃x,v= .agg (c x)/\ok x:=by
 unfold WTV at h;rw [a8 hu] at h;obtain ⟨xs,rfl,h⟩:=h;obtain ⟨x,rfl,ho⟩:=hr xs h;exact ⟨x,rfl,ho⟩
theorem VV {α:Type} {P:Program} {B:Nat} {t:TypeId} {v:AV} {c:α->List AV} {ok:α->Prop} (h:WTV P B t v) (hu:qB P t=false) (hr:∀xs,WT P B t xs->∃x,xs=c x/\ok x):∃x,[v]=c x/\ok x:=by
 unfold WTV at h;rw [QA (by rw [hu];simp)] at h;exact hr _ h
theorem Bu {P:Program} {B:Nat} {t:TypeId} {ts:List TypeId} {vs:List AV} (h:WTVs P B (t::ts) vs):∃a r,vs=a::r/\WTV P B t a/\WTVs P B ts r:=by
 cases vs with
 | nil=>exact h.elim
 | cons a r=>exact ⟨a,r,rfl,h.1,h.2⟩
theorem Kz {P:Program} {B:Nat} {vs:List AV} (h:WTVs P B [] vs):vs=[]:=by
 cases vs with
 | nil=>rfl
 | cons a r=>exact h.elim
section
variable {H:Type} {enc:TypeId×Value->H} {P:Program} {B:Nat}
theorem Gx {A:Ann} {Φ:FuncId->Option AFun} (T:TableOk P A Φ) (hl:laidOutB P=true) {f:FuncId} {fn:Func} {s:ChangeSpec} {tb:TypeId} (hv:s.vars=[])
    (hrt:fn.resultTypes= #[tb]) (htb:P.underlying tb=some .bool) (hread:fn.params.toList.all (fun t=>P.readableRec t&&decide (t<P.types.size))=true)
    (bk:BulkFn H) {ts:List TypeId} (hts:uX P ts=true) (hpts:fn.params.toList.all (fun t=>iU t ts)=true)
    {W:World} {b0:Nat} {args:Array Value} {ds gs:List (DataW H)} {before:List MemPlace} {apart:Bool}
    (hval:∀(j:Nat) t v,fn.params[j]? =some t->args[j]? =some v->Value.okWide P W .any b0 t v)
    (hW:DataW.Whole enc P fn.params.toList s.vars apart W args.toList ds gs before)
    (hfn:∀l:List (DataW H),l.length=fn.params.size->s.fn H l={ results:=[.lit (.bool true)],args:=l }) (hb:bk.all (ds++gs)<=B)
    (law:∀as,WTVs P B fn.params.toList as->a9 Φ f as=some (.val (.bool true))) {fresh handsOn again:Bool}:
    Calls P f args W fun e W'=>∃v,e= .returned v/\s.post enc P fn apart fresh handsOn again W args v W':=by
  have hgs:gs=[]:=by
    obtain ⟨p,q,hA,hV,_⟩:=hW;rw [hv] at hV;exact (trodVars_none hV).1
  have hdl:ds.length=fn.params.size:=by
    obtain ⟨p,q,hA,hV,_⟩:=hW;have gen:∀(ts:List TypeId) (vs:List Value) (ds:List (DataW H)) (p:List MemPlace),DataW.TrodAll enc P W 0 (fun _=>true) true ts vs ds p->ds.length=ts.length:=by
      intro ts
      induction ts with
      | nil=>intro vs ds p h;obtain ⟨rfl,rfl,rfl⟩:=trodAll_nil h;rfl
      | cons t ts ih=>
        intro vs ds p h;obtain ⟨v,vs,d,ds,p,q,rfl,rfl,rfl,h1,h2⟩:=trodAll_cons h;simp [ih _ _ _ h2]
    simpa using gen _ _ _ _ hA
  subst hgs;rw [v8] at hb;simp only [Qr,bE,decide_eq_true_eq] at hread;simp only [Qr] at hpts;exact NK T hl hv hrt htb hread bk hts (fun t ht=>memNat_iff.1 (hpts t ht)) hval hW (by rw [v8];exact hfn ds hdl) hb (fun as has=>Wf (law as has))
end
end Go.Av
