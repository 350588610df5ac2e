/-
 The law HsaChecks.
-/
import Derived.Test.YtbhkkpfccfoioaaGreatHW1
import Derived.Test.YtbhkkpfccfoioaaGreatW50H
set_option linter.unusedVariables false
set_option linter.unusedSimpArgs false
set_option linter.constructorNameAsVariable false
namespace Go.Av
set_option maxRecDepth 4000
def w8 (x:BitVec 64):Int:=IntKind.wrap .u8 (u x)
def O0 (n:BitVec 64):List AV:=[.bool (decide (n.getLsbD 40=true)),.int .u8 (w8 (n>>>32)),.int .u8 (w8 (n>>>24))]
def NT (n:BitVec 64):List AV:=[.int .u8 (w8 (n>>>16)),.int .u8 (w8 (n>>>8)),.int .u8 (w8 n)]
theorem Kr (n:BitVec 64):(n&&& 1099511627776#64=0#64)↔n.getLsbD 40=false:=by
 constructor
 ·intro h;have:=congrArg (·.getLsbD 40) h;simpa using this
 ·intro h;apply PR;intro i hi;rw [BitVec.getLsbD_and,show (1099511627776#64)=BitVec.twoPow 64 40 by decide,BitVec.getLsbD_twoPow];by_cases e:40=i
  ·subst e;rw [h];simp
  ·simp [e]
theorem Ks (n:BitVec 64):((n>>>40)&&& 1#64=1#64)↔n.getLsbD 40=true:=by
 constructor
 ·intro h;have:=congrArg (·.getLsbD 0) h;simpa using this
 ·intro h;apply PR;intro i hi;rw [BitVec.getLsbD_and,show (1#64)=BitVec.twoPow 64 0 by decide,BitVec.getLsbD_twoPow];by_cases e:0=i
  ·subst e;rw [BitVec.getLsbD_ushiftRight,h];simp
  ·simp [e]
theorem ui40:ui 1099511627776=1099511627776#64:=by decide
theorem ui1:ui 1=1#64:=by decide
theorem u_one (x:BitVec 64):u x=1↔x=1#64:=by rw [u_lit x 1 (by omega) (by omega),ui1]
theorem Kv (n:BitVec 64):dK Φ sZ [.int .u64 (u n)]=some (.val (.tup [.agg (O0 n),.agg (NT n)])):=by
 rw [DS rfl rfl];simp [FQ,O0,NT,w8,NU,Ai,ui40,RB,Kr]
theorem Jp (n:BitVec 64):dK Φ CV [.int .u64 (u n)]=some (.val (.tup [.agg (O0 n),.agg (NT n)])):=by
 rw [DS rfl rfl];simp [FY,O0,NT,w8,NU,Ai,ui1,u_one,Ks]
def allP (t:Bool):List CB:=if t then [⟨1099511627776#64,1099511627776#64⟩] else [⟨0#64,2199006478336#64⟩]
theorem Jw (t:Bool):dK Φ jM [.bool t]=some (.val (.slice 2 ((allP t).map CB.c))):=by
 cases t
 ·exact C6 (n:=50) (by kernel_rfl)
 ·exact C6 (n:=50) (by kernel_rfl)
theorem Iu (t:Bool):dK Φ CY [.bool t]=some (.val (.slice 2 ((allP t).map CB.c))):=by
 cases t
 ·exact C6 (n:=50) (by kernel_rfl)
 ·exact C6 (n:=50) (by kernel_rfl)
theorem Kg (t:Bool):dK Φ CX [.slice 2 ((allP t).map CB.c),.slice 2 ((allP t).map CB.c)]=some (.val (.bool true)):=by
 cases t
 ·exact C6 (n:=50) (by kernel_rfl)
 ·exact C6 (n:=50) (by kernel_rfl)
theorem Cc (s:List CB) (n:BitVec 64) (t:Bool) (hb:s.length<2^40):dK Φ PX [.slice 2 (s.map CB.c),.int .u64 (u n),.bool t]=some (.val (.bool true)):=by
 rw [DS rfl rfl];by_cases c:2000<s.length
 ·simp [RY,c,Ac]
 ·simp [RY,c,Ac,Kv,Jp,Mb s hb,Ky s hb,Jw,Iu,Kg,O0,NT]
theorem Bq (s:List Cube) (n:Int) (t:Bool) (o:okL mD (Cube.Ok mD) s) (on:ok64 mD n) (_:okT mD t):dK Φ PX [.slice 2 (s.map Cube.c),.int .u64 n,.bool t]=some (.val (.bool true)):=by
 have e:n=u (ui n):=(u_ui on.1 (by have:=on.2;omega)).symm;have hb:s.length<2^40:=by have:=o.1;rw [Eh] at this;omega
 rw [CB.of_map o.2,e];exact Cc _ _ t (by simpa using hb)
end Go.Av
