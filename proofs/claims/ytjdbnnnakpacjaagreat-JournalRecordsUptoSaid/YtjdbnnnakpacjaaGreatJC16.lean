/-
 The law JournalRecords.
-/
import Derived.Test.YtjdbnnnakpacjaaGreatJC6
set_option linter.unusedVariables false
set_option linter.unusedSimpArgs false
set_option linter.constructorNameAsVariable false
namespace Go.Av
set_option maxRecDepth 4000
theorem qkd (p:Prg) (l:List Xc) (op:p.Ok qbd) (oL:okL qbd (Xc.Ok qbd) l) (hc:(pre p.control).length<2^40 - 1):
  qad Φ f_5 [.agg (Prg.c p),.slice 9 (l.map Xc.c)]=some (.val (.bool true)):=by
 obtain ⟨oL',oo⟩:=oL;have f:=qhi op;have e26:=qdo;have hp:=f.t;have hl:∀o∈l,OpS o:=fun o ho=>qaeu (oo o ho)
 obtain ⟨b,hb,hb2⟩:=qahe p f [l] (by simp) (by simp;omega);simp only [QBo,QBm,cSe] at hb;rw [qaa (fn:=c_5) rfl rfl];by_cases z:(prgD p).1=0
 rotate_left
 ·have k1:=qx1 p f hc z [] 0 rfl;simp only [Prg.e,QAo] at hb k1;cases b with
  | true=>simp [c_5,Prg.e,hb,k1,z,qja]
  | false=>simp [c_5,Prg.e,hb,k1,z,qja]
 have k1:=qzw p op hc z (Tail.nil 0);cases b with
 | true=>
  simp only [Prg.e,QAo] at hb k1;simp [c_5,Prg.e,hb,k1,qja]
 | false=>
 have hT:Tail ([]++[(0,.row 9 [Prg.c p]),(0+1,.row 16 [qds p (qdb p) (.Xu 1 []) 0])]) 2:=by simp [qbb,qdj]
 have m:LogM ([]++[(0,.row 9 [Prg.c p]),(0+1,.row 16 [qds p (qdb p) (.Xu 1 []) 0])]) 1 (.Xu 1 []) p (lg0 p):=⟨by simp [lg0],.inl ⟨rfl,rfl⟩⟩;obtain ⟨O,N,R,hN,hT',hR',hk,hcj⟩:=qvq p op hc hp (g:=lg0 p) (qw6 op) (by simp [lg0]) (by simp [lg0]) hl (.inl rfl) hT m;cases hA:badA p (lg0 p).c l with
 | some x=>
  obtain ⟨k,x⟩:=x;have hx:=qld hA;rw [hA] at hcj;obtain ⟨hr,m'⟩:=hcj;have y1:=qq0 hT' (by simp [lg0]) m';have y2:=qxw (N:=N+1) m';rw [show (lg0 p).b=[] from rfl,QBm] at y1;rw [show (lg0 p).n=0 from rfl] at y2;simp only [Prg.e,QAo] at hb k1 hr;simp [c_5,Prg.e,hb,k1,hr,hx,y1,y2,qja]
 | none=>
  rw [hA] at hcj;obtain ⟨hr,m'⟩:=hcj;have gb:(cmt p (lg0 p) l).b=frB (encB l):=by simp [cmt,lg0]
  have gn:(cmt p (lg0 p) l).n=1:=by simp [cmt,lg0]
  have el:=qkm l;have fl:=qll (encB l);have y1:=qq0 hT' (by rw [gb];omega) m';have y2:=qxw (N:=N+1) m';rw [gb] at y1;rw [gn] at y2;have hof:okB (frB (encB l)):=qe0 (qfh _) (qe0 (qrf l) (qfh _));have k2:=qzq (frB (encB l)) hof (by omega);have hu:=qahg (encB l) [] (by omega);rw [List.append_nil] at hu;rw [hu] at k2;have k3:=qt2 l fun o ho=>qx3 (hl o ho)
  have hn:((encB l).length:Int)+8=((frB (encB l)).length:Int):=by omega
  have s1:=fun h=>quq h 1 (encB l)
  generalize cmt p (lg0 p) l=g' at*;generalize frB (encB l)=F at*;generalize encB l=E at*;generalize idsA p (lg0 p).c l=il at*;simp only [Prg.e,QAo] at hb k1 hr;simp [c_5,Prg.e,hb,k1,hr,y1,y2,k2,k3,hn,qab1,s1,-qne,qja]
end Go.Av
