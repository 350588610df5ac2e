/-
 The laws TxnApplies and TxnCommits.
-/
import Derived.Test.YtakklbipljodeaaGreatX6
import Derived.Test.YtakklbipljodeaaGreatW27K
set_option linter.unusedVariables false
set_option linter.unusedSimpArgs false
set_option linter.constructorNameAsVariable false
namespace Go.Av
set_option maxRecDepth 4000
theorem qzf {p:Prg} {c:Config} {l:List TableOp} (h:badA p c l=none):l.length≤64:=by
 unfold badA at h;by_cases z:cfgE p c=0
 case neg=>simp [z] at h
 by_cases z2:64<l.length
 ·simp [z,z2] at h
 ·omega
theorem qzz (p:Prg) (c:Config) (l:List TableOp):idsA p c l=((List.range l.length).map (idN p c l)).map cI:=by simp [idsA]
theorem qaf3:CfgS ⟨[],[],[],[]⟩:=by constructor<;>simp
theorem qot (p:Prg) (c:Config) (l:List TableOp) (op:p.Ok qbd) (oc:c.Ok qbd) (oL:okL qbd (TableOp.Ok qbd) l):
  qab Φ f_11 [.agg (Prg.c p),.agg (Config.c c),.slice 9 (l.map TableOp.c)]=some (.val (.bool true)):=by
 obtain ⟨ol',oo⟩:=oL;have ol:l.length<2^40:=by have:=qdq;omega
 have f:=qlv op;have s:=qabz oc;have hv:=prgHv op;have hl:∀o∈l,OpS o:=fun o ho=>qafq (oo o ho)
 obtain ⟨b,hb,hb2⟩:=qys p c op;have ho:=qtg l;rw [qaa (fn:=c_11) rfl rfl];cases b with
 | false=>
  simp only [Prg.e,Config.ce] at hb;simp [c_11,Prg.e,Config.ce,hb,qmd]
 | true=>
 cases b2:qkl l with
 | false=>
  rw [b2] at ho;simp only [Prg.e,Config.ce] at hb;simp [c_11,Prg.e,Config.ce,hb,ho,qmd]
 | true=>
 rw [b2] at ho;have hc:(pre p.control).length<2^40 - 1:=by have:=(hb2 rfl).1;omega
 have hp:p.tables.length<2^40:=f.t;have k1:=qzc p op hc hp s l hl;have k2:=qye p f hv hc hp s l ol hl;cases hA:badA p c l with
 | some x=>
  obtain ⟨k,e⟩:=x;rw [show appA p c l= .tup [.agg noC,.slice 1 [],.int .i64 k,.int .i64 e] by simp only [appA,hA]] at k1 k2;have k3:=qn7 ⟨[],[],[],[]⟩ ⟨[],[],[],[]⟩ qaf3;have k4:=qm9 [] [] (by simp);simp [Config.ce] at k3 k4;simp only [Prg.e,Config.ce,noC] at hb k1 k2;simp [c_11,Prg.e,Config.ce,hb,ho,k1,k2,k3,k4,qmd]
 | none=>
  have h64:=qzf hA;rw [show appA p c l= .tup [.agg (Config.c (cfgN p c l l.length)),.slice 1 (idsA p c l),.int .i64 0,.int .i64 0] by simp only [appA,hA];rfl] at k1 k2;have v:=(qft p c).1 (by by_cases z:cfgE p c=0;exact z;exact absurd hA (by simp [badA,z]))
  obtain ⟨v',s'⟩:=qje v s hp l hl l.length;have k3:=qn7 (cfgN p c l l.length) (cfgN p c l l.length) s'.s;have k4:=qm9 ((List.range l.length).map (idN p c l)) ((List.range l.length).map (idN p c l)) (by simp;omega);rw [← qzz] at k4;generalize idsA p c l=il at k1 k2 k4;generalize cfgN p c l l.length=d at k1 k2 k3;simp only [decide_true] at k3 k4;simp only [Prg.e,Config.ce] at hb k1 k2 k3;simp [c_11,Prg.e,Config.ce,hb,ho,k1,k2,k3,k4,qmd]
end Go.Av
