/-
 Expressions: the program's answers.
-/
import Derived.Test.YtakklbipljodeaaGreatK3b
set_option linter.unusedVariables false
set_option linter.unusedSimpArgs false
set_option linter.constructorNameAsVariable false
namespace Go.Av
set_option maxRecDepth 4000
theorem qm1 (w:Int):IntKind.wrap .i64 (qa7 w)=qa7 w:=by
 unfold qa7
 cases h:wBad w with
 | true=>rw [if_pos rfl];decide
 | false=>
  obtain ⟨h1,h2⟩:=wBad_false.1 h
  obtain ⟨k,rfl⟩:∃k:Nat,w=k:=⟨w.toNat,by omega⟩
  have:(2:Int)^k≤2^32:=by
   have:=Nat.pow_le_pow_right (n:=2) (by omega) (show k≤32 by omega)
   exact_mod_cast this
  have h0:(0:Int)<2^k:=by
   have:=Nat.pow_pos (a:=2) (n:=k) (by omega)
   exact_mod_cast this
  simp
  exact qad (by omega) (by omega)
theorem quf (p:Prg) (ps:List Fld) (x:ExprNode):qab Φ f_348 [.agg (scC p ps),.agg (ExprNode.c x)]=some (.val (.tup [.int .i64 (prim p ps x).1,.int .i64 (prim p ps x).2])):=by
 rw [qaa (fn:=c_348) rfl rfl]
 by_cases o1:x.op=1
 ·have hw:=qi3 x.w
  have hm:=qfk x.w
  have hmw:=qm1 x.w
  cases q:wBad x.w with
  | true=>
   simp [wide,q] at hw
   simp [c_348,qaf,ExprNode.e,o1,prim,hw,q]
  | false=>
   simp [wide,q] at hw
   by_cases n0:x.n<0
   ·simp [c_348,qaf,ExprNode.e,o1,prim,hw,q,n0]
   have e:qa7 x.w=2^x.w.toNat - 1:=by simp [qa7,q]
   rw [e] at hm hmw
   by_cases n1:2^x.w.toNat - 1<x.n
   ·simp [c_348,qaf,ExprNode.e,o1,prim,hw,hm,hmw,q,n0,n1]
   ·simp [c_348,qaf,ExprNode.e,o1,prim,hw,hm,hmw,q,n0,n1]
 by_cases o2:x.op=2
 ·have hf:=qxv p ps x.n x.w
  simp only [qaf] at hf
  cases q:qax p x.n x.w with
  | none=>
   rw [q] at hf
   simp [c_348,qaf,ExprNode.e,o2,prim,hf,qk2,q]
  | some f=>
   rw [q] at hf
   simp only [Fld.e] at hf
   have hw:=qi3 f.width
   simp [c_348,qaf,ExprNode.e,o2,prim,hf,hw,qk2,q]
 by_cases o3:x.op=3
 ·by_cases n0:x.n<0
  ·simp [c_348,qaf,ExprNode.e,o3,prim,n0,qbk n0]
  by_cases n1:(ps.length:Int)≤x.n
  ·simp [c_348,qaf,ExprNode.e,o3,prim,n0,n1,qbj n1]
  obtain ⟨k,hk⟩:∃k:Nat,x.n=k:=⟨x.n.toNat,by omega⟩
  have hk2:k<ps.length:=by omega
  have hw:=qi3 ps[k].width
  simp [c_348,qaf,ExprNode.e,Fld.e,o3,prim,hk,hk2,Nat.not_le.2 hk2,hw]
 by_cases n0:x.n<0
 ·simp [c_348,qaf,ExprNode.e,o1,o2,o3,prim,n0,qbk n0]
 by_cases n1:(p.headers.length:Int)≤x.n
 ·simp [c_348,qaf,ExprNode.e,o1,o2,o3,prim,n0,n1,qbj n1]
 obtain ⟨k,hk⟩:∃k:Nat,x.n=k:=⟨x.n.toNat,by omega⟩
 have hk2:k<p.headers.length:=by omega
 simp [c_348,qaf,ExprNode.e,Fld.e,o1,o2,o3,prim,hk,hk2,Nat.not_le.2 hk2]
theorem qja (x:ExprNode) (a b c:Int) (ha:0≤a∧a≤32) (hb:0≤b∧b≤32):qab Φ f_349 [.agg (ExprNode.c x),.agg [.int .i64 a,.int .i64 b,.int .i64 c]]=some (.val (.tup [.int .i64 (comb x a b c).1,.int .i64 (comb x a b c).2])):=by
 rw [qaa (fn:=c_349) rfl rfl]
 have hA:=qp5 x.op
 have hw:=qi3 x.w
 have hab:IntKind.wrap .i64 (a+b)=a+b:=qad (by omega) (by omega)
 have hw2:=qi3 (a+b)
 by_cases o6:x.op=6
 ·rw [show ari x.op=1 by simp [o6,ari]] at hA
  rw [o6] at hA
  by_cases n0:x.n<0
  ·simp [c_349,ExprNode.e,o6,comb,n0]
  by_cases n1:31<x.n
  ·simp [c_349,ExprNode.e,o6,comb,n0,n1]
  simp [c_349,ExprNode.e,o6,comb,n0,n1,hA]
 by_cases o7:x.op=7
 ·rw [show ari x.op=1 by simp [o7,ari]] at hA
  rw [o7] at hA
  by_cases n0:x.n<0
  ·simp [c_349,ExprNode.e,o7,comb,n0]
  by_cases n1:31<x.n
  ·simp [c_349,ExprNode.e,o7,comb,n0,n1]
  simp [c_349,ExprNode.e,o7,comb,n0,n1,hA]
 by_cases o8:x.op=8
 ·by_cases n0:x.n<0
  ·simp [c_349,ExprNode.e,o8,comb,n0]
  cases q:wBad x.w with
  | true=>
   simp [wide,q] at hw
   simp [c_349,ExprNode.e,o8,comb,n0,q,hw]
  | false=>
   simp [wide,q] at hw
   obtain ⟨w1,w2⟩:=wBad_false.1 q
   have hs:IntKind.wrap .i64 (a - x.w)=a - x.w:=qad (by omega) (by omega)
   by_cases n1:a - x.w<x.n
   ·simp [c_349,ExprNode.e,o8,comb,n0,q,hw,hs,n1]
   ·simp [c_349,ExprNode.e,o8,comb,n0,q,hw,hs,n1]
 by_cases o14:x.op=14
 ·simp [c_349,ExprNode.e,o14,comb,hab,hw2]
 by_cases o17:x.op=17
 ·by_cases a1:a=1
  ·by_cases bc:b=c
   ·simp [c_349,ExprNode.e,o17,comb,a1,bc]
   ·simp [c_349,ExprNode.e,o17,comb,a1,bc]
  ·simp [c_349,ExprNode.e,o17,comb,a1]
 by_cases r2:ari x.op=2
 ·rw [r2] at hA
  by_cases ab:a=b
  ·by_cases o15:x.op=15
   ·rw [o15] at hA;simp [c_349,ExprNode.e,o15,comb,ab,hA]
   by_cases o16:x.op=16
   ·rw [o16] at hA;simp [c_349,ExprNode.e,o16,comb,ab,hA]
   simp [c_349,ExprNode.e,o6,o7,o8,o14,o15,o16,o17,comb,r2,ab,hA]
  ·simp [c_349,ExprNode.e,o6,o7,o8,o14,o17,comb,r2,ab,hA]
 ·have o15:¬x.op=15:=by intro h;apply r2;simp [h,ari]
  have o16:¬x.op=16:=by intro h;apply r2;simp [h,ari]
  simp [c_349,ExprNode.e,o6,o7,o8,o14,o15,o16,o17,comb,r2,hA]
end Go.Av
namespace Go.Av
set_option maxRecDepth 4000
def chkR (r:Except Int (Int×Nat)) (x:Option Rt):Prop:=match r with
 | .error e=>e≠0∧∃a b,x=some (.val (.tup [.int .i64 a,.int .i64 b,.int .i64 e]))
 | .ok (w,j)=>x=some (.val (.tup [.int .i64 w,.int .i64 j,.int .i64 0]))
theorem qjz {w:Int} (h:(wide w).2=0):1≤(wide w).1∧(wide w).1≤32:=by
 unfold wide at h ⊢
 cases q:wBad w with
 | true=>rw [q] at h;simp at h
 | false=>simp;exact wBad_false.1 q
theorem que {p:Prg} {ps:List Fld} {x:ExprNode} (h:(prim p ps x).2=0):1≤(prim p ps x).1∧(prim p ps x).1≤32:=by
 unfold prim at h ⊢
 by_cases o1:x.op=1
 ·simp only [o1,if_true] at h ⊢
  cases q:wBad x.w with
  | true=>rw [q] at h;simp at h
  | false=>
   rw [q] at h
   by_cases r:x.n<0∨2^x.w.toNat - 1<x.n
   ·simp [r] at h
   ·simp [r];exact wBad_false.1 q
 by_cases o2:x.op=2
 ·simp only [o1,o2,if_true,if_false] at h ⊢
  cases q:decl p x.n x.w with
  | none=>rw [q] at h;simp at h
  | some w=>rw [q] at h;exact qjz h
 by_cases o3:x.op=3
 ·simp only [o1,o2,o3,if_true,if_false] at h ⊢
  cases q:at? ps x.n with
  | none=>rw [q] at h;simp at h
  | some f=>rw [q] at h;exact qjz h
 simp only [o1,o2,o3,if_false] at h ⊢
 cases q:(at? p.headers x.n).isSome with
 | true=>simp
 | false=>rw [q] at h;simp at h
theorem qi9 {x:ExprNode} {a b c:Int} (ha:1≤a∧a≤32) (hb:ari x.op=3∨x.op=14→1≤b∧b≤32) (h:(comb x a b c).2=0):1≤(comb x a b c).1∧(comb x a b c).1≤32:=by
 unfold comb at h ⊢
 by_cases o6:x.op=6∨x.op=7
 ·simp only [if_pos o6] at h ⊢
  by_cases r:x.n<0∨31<x.n
  ·simp [r] at h
  ·simpa [r] using ha
 simp only [if_neg o6] at h ⊢
 by_cases o8:x.op=8
 ·simp only [if_pos o8] at h ⊢
  by_cases r:x.n<0
  ·simp [r] at h
  simp only [if_neg r] at h ⊢
  by_cases r2:wBad x.w∨a - x.w<x.n
  ·simp [r2] at h
  ·simp only [if_neg r2]
   have:wBad x.w=false:=by
    cases q:wBad x.w with
    | true=>exact absurd (.inl q) r2
    | false=>rfl
   exact wBad_false.1 this
 simp only [if_neg o8] at h ⊢
 by_cases o14:x.op=14
 ·simp only [if_pos o14] at h ⊢;exact qjz h
 simp only [if_neg o14] at h ⊢
 by_cases o17:x.op=17
 ·simp only [if_pos o17] at h ⊢
  by_cases r:a≠1∨b≠c
  ·simp [r] at h
  ·simp only [if_neg r];exact hb (.inl (by simp [o17,ari]))
 simp only [if_neg o17] at h ⊢
 by_cases r:ari x.op=2∧a≠b
 ·rw [if_pos r] at h;simp at h
 simp only [if_neg r] at h ⊢
 by_cases r2:x.op=15∨x.op=16
 ·simp [r2]
 ·simpa [r2] using ha
theorem qch {p:Prg} {ps:List Fld} {l:List ExprNode}:∀{n i w j},chk p ps l n i= .ok (w,j)→(1≤w∧w≤32)∧i<j∧j≤l.length
 | 0,i,w,j,h=>by simp [chk] at h
 | n+1,i,w,j,h=>by
  simp only [chk] at h
  cases hx:l[i]? with
  | none=>rw [hx] at h;simp at h
  | some x=>
   have hi:i<l.length:=by
    obtain ⟨hi,_⟩:=List.getElem?_eq_some_iff.1 hx
    exact hi
   rw [hx] at h
   simp only at h
   split at h
   ·cases h
   split at h
   ·split at h
    ·rename_i hp
     cases h
     exact ⟨que hp,by omega,by omega⟩
    ·cases h
   split at h
   ·cases h
   ·rename_i a i1 h1
    obtain ⟨ra,r1,r2⟩:=qch h1
    split at h
    ·rename_i hk
     split at h
     ·rename_i hc
      cases h
      refine ⟨qi9 ra ?_ hc,by omega,r2⟩
      intro hh
      rcases hh with hh | hh
      ·omega
      ·rw [hh] at hk;simp [ari] at hk
     ·cases h
    split at h
    ·cases h
    ·rename_i b i2 h2
     obtain ⟨rb,s1,s2⟩:=qch h2
     split at h
     ·split at h
      ·rename_i hc
       cases h
       exact ⟨qi9 ra (fun _=>rb) hc,by omega,s2⟩
      ·cases h
     split at h
     ·cases h
     ·rename_i c i3 h3
      obtain ⟨_,t1,t2⟩:=qch h3
      split at h
      ·rename_i hc
       cases h
       exact ⟨qi9 ra (fun _=>rb) hc,by omega,t2⟩
      ·cases h
theorem qf2 (w e:Int) (j:Nat):chkR (if e=0 then .ok (w,j) else .error e) (some (.val (.tup [.int .i64 w,.int .i64 j,.int .i64 e]))):=by
 by_cases z:e=0
 ·subst z;simp [chkR]
 ·simp [chkR,z]
theorem qoh (op:Int):ari op= -1∨ari op=0∨ari op=1∨ari op=2∨ari op=3:=by
 unfold ari
 split
 ·exact .inr (.inl rfl)
 split
 ·exact .inr (.inr (.inl rfl))
 split
 ·exact .inr (.inr (.inr (.inl rfl)))
 split
 ·exact .inr (.inr (.inr (.inr rfl)))
 ·exact .inl rfl
theorem qgq (p:Prg) (ps:List Fld) (l:List ExprNode) (hl:l.length<2^40):∀n i,l.length - i<n→i≤l.length→chkR (chk p ps l n i) (qab Φ f_343 [.agg (scC p ps),.slice 3 (l.map ExprNode.c),.int .i64 (i:Nat)])
 | 0,i,h,hle=>by omega
 | n+1,i,h,hle=>by
  rw [qaa (fn:=c_343) rfl rfl]
  by_cases hi:i<l.length
  rotate_left
  ·have:i=l.length:=by omega
   subst this
   simp [chk,chkR,c_343,qaf]
  have ih1:=qgq p ps l hl n (i+1) (by omega) (by omega)
  have hA:=qp5 l[i].op
  have hP:=quf p ps l[i]
  have hw:IntKind.wrap .i64 ((i:Int)+1)=(i:Int)+1:=qad (by omega) (by omega)
  have e1:((i+1:Nat):Int)=(i:Int)+1:=by omega
  rw [e1] at ih1
  simp only [qaf,ExprNode.e] at ih1 hP
  simp only [chk,List.getElem?_eq_getElem hi]
  rcases qoh l[i].op with k | k | k | k | k
  ·rw [k] at hA
   simp [chkR,c_343,qaf,ExprNode.e,hi,Nat.not_le.2 hi,hA,k]
  ·rw [k] at hA
   by_cases z:(prim p ps l[i]).2=0
   ·rw [z] at hP
    simp [chkR,c_343,qaf,ExprNode.e,hi,Nat.not_le.2 hi,hA,k,hP,z,hw]
   ·simp [chkR,c_343,qaf,ExprNode.e,hi,Nat.not_le.2 hi,hA,k,hP,z,hw]
  ·rw [k] at hA
   simp [c_343,qaf,ExprNode.e,hi,Nat.not_le.2 hi,hA,k,hw]
   rw [qay]
   cases h1:chk p ps l n (i+1) with
   | error e=>
    rw [h1] at ih1
    obtain ⟨he,a,b,hc⟩:=ih1
    simp [c_343_l0,chkR,hc,he]
   | ok q=>
    obtain ⟨a,i1⟩:=q
    rw [h1] at ih1
    obtain ⟨ra,r1,r2⟩:=qch h1
    have hC:=qja l[i] a 0 0 (by omega) (by omega)
    simp only [ExprNode.e] at hC
    simp only [chkR] at ih1
    simp [c_343_l0,ih1]
    rw [qay]
    simp [c_343_l0,wr1,c_343_k1,hi,ExprNode.e,hC]
    exact qf2 _ _ _
  ·rw [k] at hA
   simp [c_343,qaf,ExprNode.e,hi,Nat.not_le.2 hi,hA,k,hw]
   rw [qay]
   cases h1:chk p ps l n (i+1) with
   | error e=>
    rw [h1] at ih1
    obtain ⟨he,a,b,hc⟩:=ih1
    simp [c_343_l0,chkR,hc,he]
   | ok q=>
    obtain ⟨a,i1⟩:=q
    rw [h1] at ih1
    obtain ⟨ra,r1,r2⟩:=qch h1
    simp only [chkR] at ih1
    simp [c_343_l0,ih1]
    rw [qay]
    have ih2:=qgq p ps l hl n i1 (by omega) (by omega)
    simp only [qaf] at ih2
    cases h2:chk p ps l n i1 with
    | error e=>
     rw [h2] at ih2
     obtain ⟨he,x,y,hc⟩:=ih2
     simp [c_343_l0,chkR,hc,he,wr1]
    | ok q=>
     obtain ⟨b,i2⟩:=q
     rw [h2] at ih2
     obtain ⟨rb,s1,s2⟩:=qch h2
     simp only [chkR] at ih2
     have hC:=qja l[i] a b 0 (by omega) (by omega)
     simp only [ExprNode.e] at hC
     simp [c_343_l0,ih2,wr1]
     rw [qay]
     simp [c_343_l0,wr1,wr2,c_343_k1,hi,ExprNode.e,hC]
     exact qf2 _ _ _
  ·rw [k] at hA
   simp [c_343,qaf,ExprNode.e,hi,Nat.not_le.2 hi,hA,k,hw]
   rw [qay]
   cases h1:chk p ps l n (i+1) with
   | error e=>
    rw [h1] at ih1
    obtain ⟨he,a,b,hc⟩:=ih1
    simp [c_343_l0,chkR,hc,he]
   | ok q=>
    obtain ⟨a,i1⟩:=q
    rw [h1] at ih1
    obtain ⟨ra,r1,r2⟩:=qch h1
    simp only [chkR] at ih1
    simp [c_343_l0,ih1]
    rw [qay]
    have ih2:=qgq p ps l hl n i1 (by omega) (by omega)
    simp only [qaf] at ih2
    cases h2:chk p ps l n i1 with
    | error e=>
     rw [h2] at ih2
     obtain ⟨he,x,y,hc⟩:=ih2
     simp [c_343_l0,chkR,hc,he,wr1]
    | ok q=>
     obtain ⟨b,i2⟩:=q
     rw [h2] at ih2
     obtain ⟨rb,s1,s2⟩:=qch h2
     simp only [chkR] at ih2
     simp [c_343_l0,ih2,wr1]
     rw [qay]
     have ih3:=qgq p ps l hl n i2 (by omega) (by omega)
     simp only [qaf] at ih3
     cases h3:chk p ps l n i2 with
     | error e=>
      rw [h3] at ih3
      obtain ⟨he,x,y,hc⟩:=ih3
      simp [c_343_l0,chkR,hc,he,wr1,wr2]
     | ok q=>
      obtain ⟨c,i3⟩:=q
      rw [h3] at ih3
      simp only [chkR] at ih3
      have hC:=qja l[i] a b c (by omega) (by omega)
      simp only [ExprNode.e] at hC
      simp [c_343_l0,ih3,wr1,wr2]
      rw [qay]
      simp [c_343_l0,wr1,wr2,wr3,c_343_k1,hi,ExprNode.e,hC]
      exact qf2 _ _ _
theorem qqq (p:Prg) (ps:List Fld) (l:List ExprNode):qab Φ f_333 [.slice 3 (l.map ExprNode.c),.agg (scC p ps)]=some (.val (.tup [.int .i64 (exE p ps l).1,.int .i64 (exE p ps l).2])):=by
 rw [qaa (fn:=c_333) rfl rfl]
 by_cases h:24<l.length
 ·simp [c_333,qaf,h,exE]
 have hc:=qgq p ps l (by omega) (l.length+1) 0 (by omega) (by omega)
 simp only [qaf,Int.ofNat_zero] at hc
 cases q:chk p ps l (l.length+1) 0 with
 | error e=>
  rw [q] at hc
  obtain ⟨he,a,b,hc⟩:=hc
  simp [c_333,qaf,h,exE,q,hc,he]
 | ok r=>
  obtain ⟨w,j⟩:=r
  rw [q] at hc
  simp only [chkR] at hc
  by_cases hj:j<l.length
  ·simp [c_333,qaf,h,exE,q,hc,hj]
  ·simp [c_333,qaf,h,exE,q,hc,hj]
end Go.Av
namespace Go.Av
set_option maxRecDepth 4000
theorem FieldRef.e (x:FieldRef):FieldRef.c x=[.int .i64 x.header,.int .i64 x.field]:=by simp [FieldRef.c]
theorem qzx (p:Prg) (h i:Int):qab Φ f_331 [.agg (Prg.c p),.agg [.int .i64 h,.int .i64 i]]=some (.val (match decl p h i with
  | some w=> .tup [.int .i64 w,.bool true]
  | none=> .tup [.int .i64 0,.bool false])):=by
 rw [qaa (fn:=c_331) rfl rfl,qk2]
 by_cases hm:h= -1
 ·subst hm
  by_cases i0:i<0
  ·rw [show qax p (-1) i=none by simp [qax,qbk i0]]
   simp [c_331,Prg.e,i0]
  by_cases i1:(p.metadata.length:Int)≤i
  ·rw [show qax p (-1) i=none by simp [qax,qbj i1]]
   simp [c_331,Prg.e,i0,i1]
  obtain ⟨k,rfl⟩:∃k:Nat,i=k:=⟨i.toNat,by omega⟩
  have hk:k<p.metadata.length:=by omega
  rw [show qax p (-1) k=some p.metadata[k] by simp [qax,hk]]
  simp [c_331,Prg.e,i0,i1,hk,Nat.not_le.2 hk,Fld.e]
 by_cases h0:h<0
 ·rw [show qax p h i=none by simp [qax,hm,qbk h0]]
  simp [c_331,Prg.e,hm,h0]
 by_cases h1:(p.headers.length:Int)≤h
 ·rw [show qax p h i=none by simp [qax,hm,qbj h1]]
  simp [c_331,Prg.e,hm,h0,h1]
 obtain ⟨m,rfl⟩:∃k:Nat,h=k:=⟨h.toNat,by omega⟩
 have hk:m<p.headers.length:=by omega
 by_cases i0:i<0
 ·rw [show qax p m i=none by simp [qax,hm,hk,qbk i0]]
  simp [c_331,Prg.e,hm,hk,Nat.not_le.2 hk,i0,Header.e]
 by_cases i1:(p.headers[m].fields.length:Int)≤i
 ·rw [show qax p m i=none by simp [qax,hm,hk,qbj i1]]
  simp [c_331,Prg.e,hm,hk,Nat.not_le.2 hk,i0,i1,Header.e]
 obtain ⟨k,rfl⟩:∃k:Nat,i=k:=⟨i.toNat,by omega⟩
 have hk2:k<p.headers[m].fields.length:=by omega
 rw [show qax p m k=some p.headers[m].fields[k] by simp [qax,hm,hk,hk2]]
 simp [c_331,Prg.e,hm,hk,Nat.not_le.2 hk,hk2,Nat.not_le.2 hk2,Header.e,Fld.e]
theorem qacv (p:Prg) (ps:List Fld) (l:List ExprNode) (w:Int):qab Φ f_332 [.agg (scC p ps),.slice 3 (l.map ExprNode.c),.int .i64 w]=some (.val (.int .i64 (valE p ps l w))):=by
 rw [qaa (fn:=c_332) rfl rfl]
 have h:=qqq p ps l
 simp only [qaf] at h
 by_cases z:(exE p ps l).2=0
 ·rw [z] at h
  by_cases y:(exE p ps l).1=w
  ·simp [c_332,qaf,h,valE,z,y]
  ·simp [c_332,qaf,h,valE,z,y]
 ·simp [c_332,qaf,h,valE,z]
theorem qhu {α:Type} {l:List α} {i:Int}:(at? l i).isSome=(!(decide (i<0) || decide ((l.length:Int)≤i))):=by
 by_cases h0:i<0
 ·simp [qbk h0,h0]
 by_cases h1:(l.length:Int)≤i
 ·simp [qbj h1,h1]
 obtain ⟨k,rfl⟩:∃k:Nat,i=k:=⟨i.toNat,by omega⟩
 have:k<l.length:=by omega
 simp [this,h0]
theorem qacs (p:Prg) (ps:List Fld) (s:Statement):qab Φ f_297 [.agg (scC p ps),.agg (Statement.c s)]=some (.val (.int .i64 (stmE p ps s))):=by
 rw [qaa (fn:=c_297) rfl rfl]
 have hd:=qzx p s.dst.header s.dst.field
 have hi:=qqq p ps s.index
 simp only [Prg.e] at hd
 simp only [qaf] at hi
 have hr:(s.register<0∧at? p.registers s.register=none)∨(¬s.register<0∧(p.registers.length:Int)≤s.register∧at? p.registers s.register=none)∨∃k:Nat,∃h:k<p.registers.length,s.register=k∧at? p.registers s.register=some p.registers[k]:=by
  by_cases h0:s.register<0
  ·exact .inl ⟨h0,qbk h0⟩
  by_cases h1:(p.registers.length:Int)≤s.register
  ·exact .inr (.inl ⟨h0,h1,qbj h1⟩)
  obtain ⟨k,hk⟩:∃k:Nat,s.register=k:=⟨s.register.toNat,by omega⟩
  exact .inr (.inr ⟨k,by omega,hk,by rw [hk];simp⟩)
 have hx:∀w,qab Φ f_332 [.agg (scC p ps),.slice 3 (s.value.map ExprNode.c),.int .i64 w]=some (.val (.int .i64 (valE p ps s.value w))):=qacv p ps s.value
 simp only [qaf] at hx
 have hd':qab Φ f_331 [.agg [.str p.name,.slice 2 (p.headers.map Header.c),.slice 2 (p.metadata.map Fld.c),.slice 3 (p.registers.map Register.c),.slice 3 (p.actions.map Action.c),.slice 6 (p.tables.map Tbl.c),.slice 7 (p.states.map ParserState.c),.slice 5 (p.control.map ControlNode.c),.slice 1 (p.deparser.map cI)],.agg [.int .i64 s.dst.header,.int .i64 s.dst.field]]=
   some (.val (.tup [.int .i64 ((decl p s.dst.header s.dst.field).getD 0),.bool (decl p s.dst.header s.dst.field).isSome])):=by
  rw [hd]
  cases decl p s.dst.header s.dst.field<;>rfl
 clear hd
 by_cases k1:s.kind=1
 ·rcases hr with ⟨r0,rn⟩ | ⟨r0,r1,rn⟩ | ⟨m,hm,rk,rn⟩<;>cases qd:decl p s.dst.header s.dst.field<;>rw [qd] at hd'
  ·simp [c_297,qaf,Statement.e,Register.e,hd',stmE,qd,k1,r0,Int.not_le.2 r0]
  ·simp [c_297,qaf,Statement.e,Register.e,hd',stmE,qd,k1,r0,Int.not_le.2 r0,hx]
  ·simp [c_297,qaf,Statement.e,Register.e,hd',stmE,qd,k1,r0,Int.not_lt.1 r0,r1,Int.not_lt.2 r1]
  ·simp [c_297,qaf,Statement.e,Register.e,hd',stmE,qd,k1,r0,Int.not_lt.1 r0,r1,Int.not_lt.2 r1,hx]
  ·simp [c_297,qaf,Statement.e,Register.e,hd',stmE,qd,k1,rk,hm]
  ·simp [c_297,qaf,Statement.e,Register.e,hd',stmE,qd,k1,rk,hm,hx]
 by_cases k2:s.kind=2
 ·have e:stmE p ps s=if (at? p.headers s.header).isSome then 0 else 8:=by simp [stmE,k2]
  rw [e,qhu]
  by_cases h0:s.header<0<;>by_cases h1:(p.headers.length:Int)≤s.header<;>rcases hr with ⟨r0,rn⟩ | ⟨r0,r1,rn⟩ | ⟨m,hm,rk,rn⟩
  all_goals first
   | simp [c_297,qaf,Statement.e,Register.e,hd',stmE,k2,r0,Int.not_le.2 r0,h0,h1]
   | simp [c_297,qaf,Statement.e,Register.e,hd',stmE,k2,r0,Int.not_lt.1 r0,r1,Int.not_lt.2 r1,h0,h1]
   | simp [c_297,qaf,Statement.e,Register.e,hd',stmE,k2,rk,hm,h0,h1]
 by_cases k3:s.kind=3
 ·have e:stmE p ps s=if (at? p.headers s.header).isSome then 0 else 8:=by simp [stmE,k3]
  rw [e,qhu]
  by_cases h0:s.header<0<;>by_cases h1:(p.headers.length:Int)≤s.header<;>rcases hr with ⟨r0,rn⟩ | ⟨r0,r1,rn⟩ | ⟨m,hm,rk,rn⟩
  all_goals first
   | simp [c_297,qaf,Statement.e,Register.e,hd',stmE,k3,r0,Int.not_le.2 r0,h0,h1]
   | simp [c_297,qaf,Statement.e,Register.e,hd',stmE,k3,r0,Int.not_lt.1 r0,r1,Int.not_lt.2 r1,h0,h1]
   | simp [c_297,qaf,Statement.e,Register.e,hd',stmE,k3,rk,hm,h0,h1]
 by_cases k4:s.kind=4
 ·rcases hr with ⟨r0,rn⟩ | ⟨r0,r1,rn⟩ | ⟨m,hm,rk,rn⟩
  ·simp [c_297,qaf,Statement.e,Register.e,hd',stmE,k4,r0,Int.not_le.2 r0,rn]
  ·simp [c_297,qaf,Statement.e,Register.e,hd',stmE,k4,r0,Int.not_lt.1 r0,r1,Int.not_lt.2 r1,rn]
  ·rw [rk] at rn
   cases qd:decl p s.dst.header s.dst.field with
   | none=>rw [qd] at hd';simp [c_297,qaf,Statement.e,Register.e,hd',stmE,k4,rk,hm,rn,qd]
   | some w=>
    rw [qd] at hd'
    by_cases z:(exE p ps s.index).2=0
    ·rw [z] at hi
     by_cases y:w=p.registers[m].width
     ·simp [c_297,qaf,Statement.e,Register.e,hd',stmE,k4,rk,hm,Nat.not_le.2 hm,rn,qd,hi,z,y]
     ·simp [c_297,qaf,Statement.e,Register.e,hd',stmE,k4,rk,hm,Nat.not_le.2 hm,rn,qd,hi,z,y]
    ·simp [c_297,qaf,Statement.e,Register.e,hd',stmE,k4,rk,hm,Nat.not_le.2 hm,rn,qd,hi,z]
 by_cases k5:s.kind=5
 ·rcases hr with ⟨r0,rn⟩ | ⟨r0,r1,rn⟩ | ⟨m,hm,rk,rn⟩
  ·simp [c_297,qaf,Statement.e,Register.e,hd',stmE,k5,r0,Int.not_le.2 r0,rn]
  ·simp [c_297,qaf,Statement.e,Register.e,hd',stmE,k5,r0,Int.not_lt.1 r0,r1,Int.not_lt.2 r1,rn]
  ·rw [rk] at rn
   by_cases z:(exE p ps s.index).2=0
   ·rw [z] at hi
    simp [c_297,qaf,Statement.e,Register.e,hd',stmE,k5,rk,hm,Nat.not_le.2 hm,rn,hi,z,hx]
   ·simp [c_297,qaf,Statement.e,Register.e,hd',stmE,k5,rk,hm,Nat.not_le.2 hm,rn,hi,z]
 rcases hr with ⟨r0,rn⟩ | ⟨r0,r1,rn⟩ | ⟨m,hm,rk,rn⟩
 ·simp [c_297,qaf,Statement.e,Register.e,hd',stmE,k1,k2,k3,k4,k5,r0,Int.not_le.2 r0]
 ·simp [c_297,qaf,Statement.e,Register.e,hd',stmE,k1,k2,k3,k4,k5,r0,Int.not_lt.1 r0,r1,Int.not_lt.2 r1]
 ·simp [c_297,qaf,Statement.e,Register.e,hd',stmE,k1,k2,k3,k4,k5,rk,hm]
end Go.Av
namespace Go.Av
set_option maxRecDepth 4000
theorem qxt (g:Fld) (s:List UInt8) (w:Int):qab Φ f_330 [.agg (Fld.c g),.iptr 2 [[.str s,.int .i64 w]] 0 0]=some (.val (.bool (decide (g.name=s)))):=by
 rw [qaa (fn:=c_330) rfl rfl]
 simp [c_330,Fld.e]
theorem qsi (l:List Fld) (s:List UInt8) (w:Int) (hl:l.length<2^40):qab Φ f_342 [.slice 2 (l.map Fld.c),.func (.func f_330) [] [.iptr 2 [[.str s,.int .i64 w]] 0 0]]=some (.val (.int .i64 (ix (fun g=>decide (g.name=s)) l 0))):=by
 rw [qaa (fn:=c_342) rfl rfl]
 simp [c_342]
 refine (qaw l.length (fun i e=>look 0 e=some (.slice 2 (l.map Fld.c))∧look 1 e=some (.func (.func f_330) [] [.iptr 2 [[.str s,.int .i64 w]] 0 0])∧look 7 e=some (.int .i64 l.length)∧look 8 e=some (.int .i64 i))
  (fun i=>some (.val (.int .i64 (ix (fun g=>decide (g.name=s)) l i)))) ?_ ?_ 0 _ (Nat.zero_le _) ?_).trans (by simp)
 ·rintro i e L hi hL ⟨h0,h1,h7,h8⟩ ih
  have hw:IntKind.wrap .i64 ((i:Int)+1)=((i+1:Nat):Int):=qad (by omega) (by omega)
  have hd:=qxt l[i] s w
  simp only [Fld.e] at hd
  by_cases z:l[i].name=s
  ·rw [qiy hi (by simpa using z)]
   rw [decide_eq_true z] at hd
   simp [c_342_l0,Fld.e,h0,h1,h7,h8,hi,hL,hd]
  ·rw [qhf hi (by simpa using z)]
   simp [c_342_l0,Fld.e,h0,h1,h7,h8,hi,hL,hd,z,hw]
   exact ih _ ⟨by simp [h0],by simp [h1],by simp [h7],by simp⟩
 ·rintro e L hL ⟨h0,h1,h7,h8⟩
  rw [qix]
  simp [c_342_l0,c_342_k1,h0,h1,h7,h8,hL]
 ·simp
theorem qnq (l:List Fld) (s:List UInt8) (w:Int) (hl:l.length<2^40):qab Φ f_329 [.slice 2 (l.map Fld.c),.func (.func f_330) [] [.iptr 2 [[.str s,.int .i64 w]] 0 0]]=some (.val (.bool (l.any fun g=>decide (g.name=s)))):=by
 rw [qaa (fn:=c_329) rfl rfl]
 have h:=qsi l s w hl
 have e:=qiw (p:=fun g:Fld=>decide (g.name=s)) (l:=l)
 simp [c_329,h]
 rw [← e]
def actG (l:List Fld) (i:Nat):Option Int:=(l[i]?).bind fun f=>er (fldE l i f)
theorem qz3 (a:Action) (hn:a.name.length<2^40) (hl:a.params.length<2^40) (hf:∀f∈a.params,f.name.length<2^40):qab Φ f_296 [.agg (Action.c a)]=some (.val (.int .i64 (actD a))):=by
 rw [qaa (fn:=c_296) rfl rfl]
 have n1:=qdp a.name hn
 cases q1:idS a.name with
 | false=>rw [q1] at n1;simp [c_296,Action.e,n1,actD,q1]
 | true=>
 rw [q1] at n1
 by_cases z0:4<a.params.length
 ·simp [c_296,Action.e,n1,actD,q1,z0]
 by_cases z1:12<a.body.length
 ·simp [c_296,Action.e,n1,actD,q1,z0,z1]
 have hE:actD a=errO (fe (actG a.params) a.params.length 0):=by simp [actD,q1,z0,z1];rfl
 rw [hE]
 simp [c_296,Action.e,n1,z0,z1]
 refine qau a.params.length (fun _=>[]) 0 (fun i e=>look 1 e=some (.iptr 3 [[.str a.name,.slice 2 (a.params.map Fld.c),.slice 7 (a.body.map Statement.c)]] 0 0)∧look 22 e=some (.slice 2 (a.params.map Fld.c))∧look 23 e=some (.int .i64 a.params.length)∧look 24 e=some (.int .i64 i))
  (fun i=>some (Rt.val (.int .i64 (errO (fe (actG a.params) a.params.length i))))) ?_ ?_ 0 _ 0 (Nat.zero_le _) (Nat.le_refl _) ?_
 ·rintro i e n L hi hL _ ⟨h1,h22,h23,h24⟩ ih
  have hw:IntKind.wrap .i64 ((i:Int)+1)=((i+1:Nat):Int):=qad (by omega) (by omega)
  have nf:=qdp a.params[i].name (hf _ (List.getElem_mem hi))
  have hi':i≤a.params.length:=by omega
  have hc:=qnq (a.params.take i) a.params[i].name a.params[i].width (by simp;omega)
  rw [show (a.params.take i).any (fun g=>decide (g.name=a.params[i].name))=dupN Fld.name a.params i a.params[i] from rfl,List.map_take] at hc
  cases p1:idS a.params[i].name with
  | false=>
   rw [p1] at nf
   rw [qah (x:=6) hi (by simp [actG,hi,fldE,p1,er])]
   simp [c_296_l0,Fld.e,h1,h22,h23,h24,hi,hL,nf]
  | true=>
  rw [p1] at nf
  by_cases w1:a.params[i].width<1
  ·rw [qah (x:=10) hi (by simp [actG,hi,fldE,p1,wBad,w1,er])]
   simp [c_296_l0,Fld.e,h1,h22,h23,h24,hi,hL,nf,w1]
  by_cases w2:32<a.params[i].width
  ·rw [qah (x:=10) hi (by simp [actG,hi,fldE,p1,wBad,w2,er])]
   simp [c_296_l0,Fld.e,h1,h22,h23,h24,hi,hL,nf,w1,w2]
  cases p3:dupN Fld.name a.params i a.params[i] with
  | true=>
   rw [p3] at hc
   rw [qah (x:=7) hi (by simp [actG,hi,fldE,p1,wBad,w1,w2,p3,er])]
   simp [c_296_l0,Fld.e,h1,h22,h23,h24,hi,hL,nf,w1,w2,hi',hc]
  | false=>
   rw [p3] at hc
   rw [qap hi (by simp [actG,hi,fldE,p1,wBad,w1,w2,p3])]
   simp [c_296_l0,Fld.e,h1,h22,h23,h24,hi,hL,nf,w1,w2,hi',hc,hw]
   exact ih _ _ (Nat.zero_le _) ⟨by simp [h1],by simp [h22],by simp [h23],by simp⟩
 ·rintro e n L hL _ ⟨h1,h22,h23,h24⟩
  rw [qaz]
  simp [c_296_l0,c_296_k1,h22,h23,h24,hL]
 ·simp
def qgh (p:Prg) (a:Action) (k:Nat):Option (Int×Int):=(a.body[k]?).bind fun s=>if stmE p a.params s=0 then none else some ((k:Int),stmE p a.params s)
theorem qz4 (p:Prg) (f:PrgS p) (i:Int):qab Φ f_242 [.agg (Prg.c p),.int .i64 i]=some (.val (.tup [.int .i64 (actE p i).1,.int .i64 (actE p i).2])):=by
 rw [qaa (fn:=c_242) rfl rfl]
 by_cases i0:i<0
 ·simp [c_242,Prg.e,i0,actE,qbk i0]
 by_cases i1:(p.actions.length:Int)≤i
 ·simp [c_242,Prg.e,i0,i1,actE,qbj i1]
 obtain ⟨k,rfl⟩:∃k:Nat,i=k:=⟨i.toNat,by omega⟩
 have hk:k<p.actions.length:=by omega
 have hm:=List.getElem_mem hk
 have hd:=qz3 p.actions[k] (f.an _ hm) (f.ap _ hm) (f.apn _ hm)
 simp only [Action.e] at hd
 by_cases z:actD p.actions[k]=0
 rotate_left
 ·simp [c_242,Prg.e,Action.e,hk,Nat.not_le.2 hk,hd,z,actE]
 rw [z] at hd
 have hE:actE p k=(fe (qgh p p.actions[k]) p.actions[k].body.length 0).getD (0,0):=by simp [actE,hk,z];rfl
 rw [hE]
 simp [c_242,Prg.e,Action.e,hk,Nat.not_le.2 hk,hd]
 have hb:=f.ab _ hm
 refine qau p.actions[k].body.length (fun _=>[]) 0 (fun i e=>look 7 e=some (.iptr 10 [scC p p.actions[k].params] 0 0)∧look 35 e=some (.slice 7 (p.actions[k].body.map Statement.c))∧look 36 e=some (.int .i64 p.actions[k].body.length)∧look 37 e=some (.int .i64 i))
  (fun i=>some (Rt.val (.tup [.int .i64 ((fe (qgh p p.actions[k]) p.actions[k].body.length i).getD (0,0)).1,.int .i64 ((fe (qgh p p.actions[k]) p.actions[k].body.length i).getD (0,0)).2]))) ?_ ?_ 0 _ _ (Nat.zero_le _) (Nat.zero_le _) ?_
 ·rintro i e n L hi hL _ ⟨h7,h35,h36,h37⟩ ih
  have hw:IntKind.wrap .i64 ((i:Int)+1)=((i+1:Nat):Int):=qad (by omega) (by omega)
  have hs:=qacs p p.actions[k].params p.actions[k].body[i]
  simp only [Statement.e,qaf] at hs
  rw [qaf] at h7
  by_cases y:stmE p p.actions[k].params p.actions[k].body[i]=0
  ·rw [y] at hs
   rw [qap hi (by simp [qgh,hi,y])]
   simp [c_242_l0,Statement.e,h7,h35,h36,h37,hi,hL,hs,hw]
   exact ih _ _ (Nat.zero_le _) ⟨by simp [h7,qaf],by simp [h35],by simp [h36],by simp⟩
  ·rw [qah (x:=((i:Int),stmE p p.actions[k].params p.actions[k].body[i])) hi (by simp [qgh,hi,y])]
   simp [c_242_l0,Statement.e,h7,h35,h36,h37,hi,hL,hs,y]
 ·rintro e n L hL _ ⟨h7,h35,h36,h37⟩
  rw [qaz]
  simp [c_242_l0,c_242_k1,h35,h36,h37,hL]
 ·simp [qaf]
def qhw (ar:List Int) (ps:List Fld) (i:Nat):Option Int:=match ar[i]?,ps[i]? with
  | some v,some f=>if fits v f.width then none else some 9
  | _,_=>none
theorem qlz (p:Prg) (f:PrgS p) (c:ActionCall) (hc:c.args.length<2^40):qab Φ f_180 [.agg (Prg.c p),.agg (ActionCall.c c)]=some (.val (.int .i64 (qdi p c))):=by
 rw [qaa (fn:=c_180) rfl rfl]
 by_cases i0:c.action<0
 ·simp [c_180,Prg.e,ActionCall.e,i0,qdi,qbk i0]
 by_cases i1:(p.actions.length:Int)≤c.action
 ·simp [c_180,Prg.e,ActionCall.e,i0,i1,qdi,qbj i1]
 obtain ⟨k,hk0⟩:∃k:Nat,c.action=k:=⟨c.action.toNat,by omega⟩
 have hk:k<p.actions.length:=by omega
 by_cases z:c.args.length=p.actions[k].params.length
 rotate_left
 ·simp [c_180,Prg.e,ActionCall.e,Action.e,hk0,hk,Nat.not_le.2 hk,qdi,z]
 have hE:qdi p c=errO (fe (qhw c.args p.actions[k].params) c.args.length 0):=by simp [qdi,hk0,hk,z];rfl
 rw [hE]
 simp [c_180,Prg.e,ActionCall.e,Action.e,hk0,hk,Nat.not_le.2 hk,z]
 rw [← z]
 refine qaw c.args.length (fun i e=>look 5 e=some (.slice 2 (p.actions[k].params.map Fld.c))∧look 33 e=some (.slice 1 (c.args.map c32))∧look 34 e=some (.int .i64 c.args.length)∧look 35 e=some (.int .i64 i))
  (fun i=>some (Rt.val (.int .i64 (errO (fe (qhw c.args p.actions[k].params) c.args.length i))))) ?_ ?_ 0 _ (Nat.zero_le _) ?_
 ·rintro i e L hi hL ⟨h5,h33,h34,h35⟩ ih
  have hw:IntKind.wrap .i64 ((i:Int)+1)=((i+1:Nat):Int):=qad (by omega) (by omega)
  have hi2:i<p.actions[k].params.length:=by omega
  have hf:=qit c.args[i] p.actions[k].params[i].width
  cases y:fits c.args[i] p.actions[k].params[i].width with
  | true=>
   rw [y] at hf
   rw [qap hi (by simp [qhw,hi,hi2,y])]
   simp [c_180_l0,Fld.e,c32,h5,h33,h34,h35,hi,hi2,hL,hf,hw]
   exact ih _ ⟨by simp [h5],by simp [h33],by simp [h34],by simp⟩
  | false=>
   rw [y] at hf
   rw [qah (x:=9) hi (by simp [qhw,hi,hi2,y])]
   simp [c_180_l0,Fld.e,c32,h5,h33,h34,h35,hi,hi2,hL,hf]
 ·rintro e L hL ⟨h5,h33,h34,h35⟩
  rw [qaz]
  simp [c_180_l0,c_180_k1,h33,h34,h35,hL]
 ·simp [z]
end Go.Av
