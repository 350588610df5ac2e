/-
 64-bit words as bit vectors; cubes.
-/
import Derived.Test.YtbhkkpfccfoioaaGreatFunsAH
import Derived.KernelRfl
set_option linter.unusedVariables false
set_option linter.unusedSimpArgs false
set_option linter.constructorNameAsVariable false
namespace Go.Av
set_option maxRecDepth 4000
theorem C6 {Φ:FuncId->Option AFun} {f:FuncId} {xs:List AV} {n:Nat} {r:Rt} (h:z8 (evF Φ n f xs H0)=some r):dK Φ f xs=some r:=by
 unfold dK;cases hc:evF Φ n f xs H0 with
 | none=>rw [hc] at h;cases h
 | some p=>rw [ZU Φ hc,<- hc];exact h
def u (x:BitVec 64):Int:=(x.toNat:Int)
def ui (n:Int):BitVec 64:=BitVec.ofInt 64 n
theorem u_lt (x:BitVec 64):u x<18446744073709551616:=by
 have:=x.isLt;unfold u;omega
theorem u_ge (x:BitVec 64):0<=u x:=by unfold u;omega
@[simp] theorem ui_u (x:BitVec 64):ui (u x)=x:=by simp [ui,u]
theorem u_ui {n:Int} (h1:0<=n) (h2:n<18446744073709551616):u (ui n)=n:=by
 simp only [ui,u,BitVec.toNat_ofInt];have e:(2:Int)^64=18446744073709551616:=rfl;simp only [Nat.reducePow];omega
@[simp] theorem u_inj {x y:BitVec 64}:u x=u y↔x=y:=⟨fun h=>by have:=congrArg ui h;simpa using this,fun h=>by rw [h]⟩
theorem Am (x:BitVec 64):IntKind.wrap .u64 (u x)=u x:=by
 have h1:=u_lt x;have h2:=u_ge x;have e1:(2:Int)^64=18446744073709551616:=rfl;simp only [IntKind.wrap,IntKind.bits,IntKind.signed,Bool.false_and,e1];rw [a8 (by simp)];omega
theorem NU (a b:Int):iand .u64 a b=u (ui a&&& ui b):=Am _
theorem UP (a b:Int):V6 .u64 a b=u (ui a&&& ~~~ ui b):=Am _
theorem u_lit (x:BitVec 64) (n:Int) (h1:0<=n) (h2:n<18446744073709551616):u x=n↔x=ui n:=by
 rw [<- u_inj,u_ui h1 h2]
theorem RB (x:BitVec 64):u x=0↔x=0#64:=by rw [u_lit x 0 (by omega) (by omega)];rfl
theorem Ai (x:BitVec 64) (n:Int) (h:0<=n):ishr .u64 (u x) n=u (x>>>n.toNat):=by
 unfold ishr u;rw [BitVec.toNat_ushiftRight,Nat.shiftRight_eq_div_pow];rw [Int.fdiv_eq_ediv_of_nonneg _ (by exact Int.le_of_lt (Int.pow_pos (by omega))),Int.natCast_ediv,Int.natCast_pow];simp only [IntKind.bits];rcases Qs n.toNat 64 with hn | hn
 ·rw [Nat.min_eq_left (by omega)];rfl
 ·rw [Nat.min_eq_right hn];have hx:=x.isLt;rw [Int.ediv_eq_zero_of_lt (by omega) (by simpa using (by exact_mod_cast hx)),Int.ediv_eq_zero_of_lt (by omega)];have:(2:Nat)^64<=2^n.toNat:=Nat.pow_le_pow_right (by omega) hn
  exact_mod_cast FK hx this
theorem PZ (x y:BitVec 64):x&&& ~~~y=0#64↔x&&& y=x:=by
 constructor
 ·intro h;apply PR;intro i hi;have:=congrArg (·.getLsbD i) h;simp [hi] at this ⊢;exact this
 ·intro h;apply PR;intro i hi;have:=congrArg (·.getLsbD i) h;simp [hi] at this ⊢;exact this
@[ext] structure CB where
 v:BitVec 64
 m:BitVec 64
 deriving DecidableEq
def CB.c (x:CB):List AV:=[.int .u64 (u x.v),.int .u64 (u x.m)]
@[simp] theorem CB.c_length (x:CB):x.c.length=2:=rfl
def CB.of (x:Cube):CB:=⟨ui x.value,ui x.Xd⟩
theorem CB.of_c {x:Cube} (h:Cube.Ok mD x):x.c=(CB.of x).c:=by
 obtain ⟨h1,h2⟩:=h;have a1:0<=x.value:=h1.1;have a2:x.value<18446744073709551616:=by have:=h1.2;omega
 have a3:0<=x.Xd:=h2.1;have a4:x.Xd<18446744073709551616:=by have:=h2.2;omega
 simp [Cube.c,CB.c,CB.of,u_ui, *]
theorem CB.of_map {l:List Cube} (h:∀x∈l,Cube.Ok mD x):l.map Cube.c=(l.map CB.of).map CB.c:=by
 rw [List.map_map];exact List.map_congr_left fun x hx=>CB.of_c (h x hx)
def lo41:BitVec 64:=2199023255551#64
def ckE (c:CB):Int:=if c.m&&& ~~~lo41=0#64 then (if c.v&&& ~~~c.m=0#64 then 0 else 5) else 9
def ckD:List CB->Int->Int
 | [],d=>d
 | c::cs,d=>if ckE c=0 then ckD cs d else ckE c
def ckS (s:List CB):Int:=ckD s (if 1024<s.length then 12 else 0)
theorem UV:dK Φ v3 [gD 41]=some (.val (.int .u64 2199023255551)):=C6 (n:=20) (by kernel_rfl)
theorem US:dK Φ D6 [gD 41]=some (.val (.int .u64 2199023255551)):=C6 (n:=100) (by kernel_rfl)
theorem UK:dK Φ yT [gD 41]=some (.val (.bool true)):=Y6 (n:=20) (by kernel_rfl)
theorem ui41:ui 2199023255551=lo41:=by decide
theorem Mq (c:CB):dK Φ uE [.agg (CB.c c),gD 41]=some (.val (gD (ckE c))):=by
 rw [DS rfl rfl];unfold ckE;by_cases h1:c.m&&& ~~~lo41=0#64
 ·by_cases h2:c.v&&& ~~~c.m=0#64
  ·simp [wQ,CB.c,UV,UK,UP,RB,ui41,h1,h2]
  ·simp [wQ,CB.c,UV,UK,UP,RB,ui41,h1,h2]
 ·simp [wQ,CB.c,UV,UK,UP,RB,ui41,h1]
theorem Mp (c:CB):dK Φ uG [.agg (CB.c c),gD 41]=some (.val (gD (ckE c))):=by
 rw [DS rfl rfl];unfold ckE;by_cases h1:c.m&&& ~~~lo41=0#64
 ·have k1:=(PZ _ _).1 h1;by_cases h2:c.v&&& ~~~c.m=0#64
  ·have k2:=(PZ _ _).1 h2;simp [wR,CB.c,US,NU,ui41,k1,k2,h1,h2]
  ·have k2:¬c.v&&& c.m=c.v:=fun h=>h2 ((PZ _ _).2 h)
   simp [wR,CB.c,US,NU,ui41,k1,k2,h1,h2]
 ·have k1:¬c.m&&& lo41=c.m:=fun h=>h1 ((PZ _ _).2 h)
  simp [wR,CB.c,US,NU,ui41,k1,h1]
theorem tck_e (c:CB):dK Φ uE [.agg [.int .u64 (u c.v),.int .u64 (u c.m)],gD 41]=some (.val (gD (ckE c))):=Mq c
theorem rck_e (c:CB):dK Φ uG [.agg [.int .u64 (u c.v),.int .u64 (u c.m)],gD 41]=some (.val (gD (ckE c))):=Mp c
theorem Ae {s:List CB} {i:Nat} (hi:i<s.length) {d:Int} (h:ckE s[i]=0):ckD (s.drop i) d=ckD (s.drop (i+1)) d:=by
 rw [Qg hi,ckD,a9 h]
theorem ZV {s:List CB} {i:Nat} (hi:i<s.length) {d:Int} (h:¬ckE s[i]=0):ckD (s.drop i) d=ckE s[i]:=by
 rw [Qg hi,ckD,a8 h]
theorem Mb (s:List CB) (hb:s.length<2^40):dK Φ lX [.slice 2 (s.map CB.c)]=some (.val (gD (ckS s))):=by
 rw [DS rfl rfl];simp [G9];refine (Jh s.length (fun _=>[]) 0 (fun i e=>look 6 e=some (.slice 2 (s.map CB.c))/\look 0 e=some (.slice 2 (s.map CB.c))/\look 7 e=some (gD s.length)/\look 8 e=some (gD i))
  (fun i=>some (Rt.val (gD (ckD (s.drop i) (if 1024<s.length then 12 else 0))))) ?_ ?_ 0 _ _ (Qc _) (Qc _) ?_).trans (by simp [ckS])
 ·rintro i e n L hi hL hn ⟨h6,h0,h7,h8⟩ ih;have hw:=wrapS i (by omega);by_cases c:ckE s[i]=0
  ·rw [Ae hi c];simp [dN,hi,h6,h0,h7,h8,hw,CB.c,tck_e,c];exact ih _ _ (Qc _) ⟨by simp [h6],by simp [h0],by simp [h7],by simp⟩
  ·rw [ZV hi c];simp [dN,hi,h6,h0,h7,h8,hw,CB.c,tck_e,c]
 ·rintro e n L hL hn ⟨h6,h0,h7,h8⟩;by_cases c:1024<s.length
  ·simp [dN,gJ,ckD, *]
  ·simp [dN,gJ,ckD, *]
 ·simp
theorem Ky (s:List CB) (hb:s.length<2^40):dK Φ CW [.slice 2 (s.map CB.c)]=some (.val (gD (ckS s))):=by
 rw [DS rfl rfl];simp [GJ];refine (Hb s.length (fun i e=>look 0 e=some (.slice 2 (s.map CB.c))/\look 3 e=some (gD i))
  (fun i=>some (Rt.val (gD (ckD (s.drop i) (if 1024<s.length then 12 else 0))))) ?_ ?_ 0 _ (Qc _) ?_).trans (by simp [ckS])
 ·rintro i e L hi hL ⟨h0,h3⟩ ih;have hw:=wrapS i (by omega);by_cases c:ckE s[i]=0
  ·rw [Ae hi c];simp [dO,hi,h0,h3,hw,CB.c,rck_e,c];exact ih _ ⟨by simp [h0],by simp⟩
  ·rw [ZV hi c];simp [dO,hi,h0,h3,hw,CB.c,rck_e,c]
 ·rintro e L hL ⟨h0,h3⟩;by_cases c:1024<s.length
  ·simp [dO,gK,ckD, *]
  ·simp [dO,gK,ckD, *]
 ·simp
end Go.Av
