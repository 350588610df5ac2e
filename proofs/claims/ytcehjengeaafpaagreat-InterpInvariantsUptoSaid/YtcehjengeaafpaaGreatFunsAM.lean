/-
  The compact form of the program's functions, printed by a program.
-/
import Derived.Test.YtcehjengeaafpaaGreatAvD
import Derived.Test.YtcehjengeaafpaaGreatRows
set_option linter.unusedVariables false
set_option linter.unusedSimpArgs false
set_option linter.constructorNameAsVariable false
namespace Go.Av
noncomputable section
abbrev xM (d s:Nat):Xv:=⟨some d,none,.mov (.t s)⟩
abbrev xI (d:Nat) (n:Int):Xv:=⟨some d,none,.mov (.c (.int .i64 n))⟩
abbrev xC (d:Nat) (v:AV):Xv:=⟨some d,none,.mov (.c v)⟩
abbrev xF (d o s:Nat):Xv:=⟨some d,none,.faddr o (.t s)⟩
abbrev xL (d s:Nat):Xv:=⟨some d,none,.load false 1 (.t s)⟩
abbrev xA (d n s:Nat):Xv:=⟨some d,none,.load true n (.t s)⟩
abbrev xX (d z a i:Nat):Xv:=⟨some d,none,.iaddr z none (.t a) (.t i)⟩
abbrev xS (n p v:Nat):Xv:=⟨none,none,.store n (.t p) (.t v)⟩
abbrev xN (d s:Nat):Xv:=⟨some d,none,.len (.t s)⟩
abbrev xE (d i s:Nat):Xv:=⟨some d,none,.ext i (.t s)⟩
abbrev xB (d:Nat) (p:BinOp) (a b:Nat):Xv:=⟨some d,none,.bin p (.t a) (.t b)⟩
abbrev xK (d:Nat) (p:BinOp) (a:Nat) (n:Int):Xv:=⟨some d,none,.bin p (.t a) (.c (.int .i64 n))⟩
abbrev xW (d a b:Nat):Xv:=⟨some d,none,.pick (.t a) (.c (.bool true)) (.t b)⟩
abbrev xV (d a b:Nat):Xv:=⟨some d,none,.pick (.t a) (.t b) (.c (.bool false))⟩
abbrev xJ (d s:Nat):Xv:=⟨some d,none,.boxi (.t s)⟩
abbrev xO (d:Nat) (p:AOp):Xv:=⟨some d,none,p⟩
abbrev xG (d g:Nat) (b:Bool) (p:AOp):Xv:=⟨some d,some (g,b),p⟩
abbrev xR (l:List Xv):Xu:= .region false [] l none
abbrev xD (l:List Xv):Xu:= .region true [] l none
abbrev xQ (l:List Xv) (k:List Nat):Xu:= .region false [] l (some k)
abbrev bE (a:List Xv) (b:Xu):Xu:= .seq (xR a) b
abbrev yQ (a:Nat) (b c:Xu):Xu:= .cond (.t a) b c
abbrev dL (a:List Xv):Xu:=bE a .ret
abbrev cZ (a b:Nat) (c:AOp):Xv:=xG a b false c
abbrev AP (a b:Nat) (c:List AX):Xv:=xO a (.pcall b c)
abbrev cD (a:List Xv) (b c:Xu):Xu:=bE a (.seq b c)
abbrev j6 (a:List Xv) (b:Nat) (c d:Xu):Xu:=bE a (yQ b c d)
abbrev a7 (a:Int):AV:= .int .i64 a
abbrev mZ (a:List Xv) (b:Nat) (c:List Xv) (d:Xu):Xu:=j6 a b (dL c) d
abbrev gQ (a:List Xv) (b:Nat) (c:List Xv):Xu:=mZ a b c .skip
abbrev Ep (a:Nat) (b:Xu):Xu:= .block a (.loop b)
abbrev fE (a:List Xv) (b c d:Xu):Xu:=cD a b (.seq c d)
abbrev qT:AV:= .bool false
abbrev Nh (a b:Nat):AOp:= .faddr a (.t b)
abbrev Ni (a:Bool) (b c:Nat):AOp:= .load a b (.t c)
abbrev cO (a:Nat) (b:List AV):Xv:=xO a (.alloc b)
abbrev eF (a b:Nat) (c:AOp):Xv:=xG a b true c
abbrev Er (a:BinOp) (b:Nat) (c:AX):AOp:= .bin a (.t b) c
abbrev Nj (a b:Nat):AOp:=Ni false a b
abbrev Nk (a:List Xv) (b:Xu) (c:Nat) (d e:Xu):Xu:=fE a b (.block c d) e
abbrev j9 (a:Int):AX:= .c (a7 a)
abbrev GZ (a:Nat):AOp:= .nilchk (.t a)
abbrev Nl (a:Nat):AOp:= .mov (.t a)
abbrev yax (a:Nat) (b:Xu) (c:Nat):Xu:=yQ a b (.exit c)
abbrev gR (a:List Xv) (b:Nat) (c:Xu):Xu:=bE a (Ep b c)
abbrev bL (a b c d:Nat):Xv:=cZ a b (Nh c d)
abbrev ya0 (a b c d:Nat):Xv:=cZ a b (Nj c d)
abbrev ya1 (a b:Nat):Xu:=yax a .skip b
abbrev Eo (a:List Xv) (b c d:Nat) (e f:Xu):Xu:=Nk a (ya1 b c) d e f
abbrev aY (a:Nat):Xv:=xI a 0
abbrev P4 (a b:Nat) (c:BinOp) (d:Nat) (e:AX):Xv:=cZ a b (Er c d e)
abbrev bC (a b c:Nat):Xv:=cZ a b (Nl c)
abbrev EZ (a:Int):AV:= .int .u32 a
abbrev ya7 (a:List Xv) (b c d:Nat) (e:Xu) (f:List Xv):Xu:=Eo a b c d e (xR f)
abbrev bU (a:Nat):Xv:=xC a qT
abbrev ya9 (a b:Nat) (c d:AX):Xv:=AP a b [c,d]
abbrev AQ (a b c:Nat) (d:AX):Xv:=ya9 a b (.t c) d
abbrev aN (a b c d:Nat):Xv:=AQ a b c (.t d)
abbrev fS (a b c:Xu):Xu:= .seq a (.seq b c)
abbrev b8 (a b:Nat):Xv:=xO a (GZ b)
abbrev Nm (a:Nat):AOp:= .len (.t a)
abbrev ybf (a:AX):AOp:= .un .not a
abbrev LW (a:Nat):AOp:=ybf (.t a)
abbrev cE:AV:=a7 0
abbrev aK (a b:Nat):Xv:=xF a 0 b
abbrev fF (a b:List Xv):Xu:=bE a (dL b)
abbrev aE (a:Nat):Xv:=xM a 0
abbrev aI (a b:Nat):Xv:=xF a 1 b
abbrev dM (a b:Nat) (c:List AX):Xv:=xO a (.tcall b c)
abbrev gF (a b:List Xv) (c:Nat) (d e:Xu):Xu:=cD a (gR b c d) e
abbrev cV (a b c:Nat):Xv:=cZ a b (Nm c)
abbrev bY (a b:Nat):Xv:=xO a (LW b)
abbrev ybq (a:Nat):AOp:= .box (.t a)
abbrev aG (a:Nat):Xv:=xM a 1
abbrev ybs (a:List Xv) (b c d:Nat) (e:Xu) (f g:Xv):Xu:=ya7 a b c d e [f,g]
abbrev ybt (a:List Xv) (b c d:Nat) (e:Xu) (f:Xv) (g h:Nat):Xu:=ybs a b c d e f (xM g h)
abbrev ybu (a:List Xv) (b c d:Nat) (e:Xu) (f:Nat) (g:BinOp) (h:Nat) (i:Int) (j k:Nat):Xu:=ybt a b c d e (xK f g h i) j k
abbrev l6 (a b:List Xv) (c:Nat) (d:List Xv):Xu:=bE a (gQ b c d)
abbrev ybw (a b:Nat) (c:AX):Xv:=AP a b [c]
abbrev aM (a b c:Nat):Xv:=ybw a b (.t c)
abbrev aJ (a:Nat):Xv:=xM a 5
abbrev fU (a b:Nat):Xv:=xO a (ybq b)
abbrev aO (a b c:Nat):Xv:=ya0 a b 1 c
abbrev eT (a b c:Nat):Xv:=eF a b (Nl c)
abbrev yb2 (a:SM) (b c:Nat) (d:AX) (e:Nat):AOp:= .append a b c d (.t e)
abbrev kV (a:List Xv) (b:Nat) (c:Xu):Xu:=j6 a b .skip c
abbrev F0 (a:List Xv) (b:Xu):Xu:= .seq (xD a) b
abbrev LV:AV:= .bool true
abbrev dW (a b:Nat) (c:BinOp) (d:Nat) (e:Int):Xv:=P4 a b c d (j9 e)
abbrev rZ (a:List Xv) (b:List Nat) (c:Xu):Xu:= .seq (xQ a b) c
abbrev eG (a:List Xv) (b:Xu) (c:List Xv):Xu:=cD a b (dL c)
abbrev eP (a:List Xv) (b:Nat) (c:Xu):Xu:=j6 a b c .skip
abbrev dU (a b:Nat) (c:BinOp) (d e:Nat):Xv:=P4 a b c d (.t e)
abbrev eA (a b:List Xv) (c:Nat) (d:List Xv) (e f:Xu):Xu:=fE a (gQ b c d) e f
abbrev Np (a:Nat) (b:Option Nat) (c:Nat) (d:AX):AOp:= .iaddr a b (.t c) d
abbrev aS (a:Nat):Xv:=xM 4 a
abbrev yce (a b c d:Nat):Xv:=eF a b (Nj c d)
abbrev bV:Xv:=aY 4
abbrev fL (a b c d:Nat):Xv:=eF a b (Nh c d)
abbrev fG:AV:=EZ 0
abbrev rN (a:Nat):Xv:=xJ a 0
abbrev b7 (a:Nat) (b:BinOp) (c:Nat):Xv:=xK a b c 0
abbrev b6 (a:Nat):Xv:=xM 5 a
abbrev ycl (a:List Xv) (b c d:Nat) (e:Xu) (f:Nat) (g:BinOp) (h i j:Nat):Xu:=ybu a b c d e f g h 1 i j
abbrev Es (a:Xv) (b c d:Nat) (e:Xu) (f:Nat) (g:BinOp) (h i j:Nat):Xu:=ycl [a] b c d e f g h i j
abbrev nO (a:Nat) (b:BinOp) (c d e f g:Nat) (h:Xu) (i:Nat) (j:BinOp) (k l m:Nat):Xu:=Es (xB a b c d) e f g h i j k l m
abbrev l7 (a b:List Xv) (c:Xu):Xu:=bE a (bE b c)
abbrev eH (a:Xv):Xu:=dL [a]
abbrev cC:Xv:=bU 4
abbrev gG (a b:Nat) (c:BinOp) (d:Nat) (e:AX):Xv:=eF a b (Er c d e)
abbrev eI (a b:Nat):Xv:=xA a 9 b
abbrev l8 (a:Nat) (b:List Xv) (c:Nat) (d:List Xv) (e:Xu):Xu:= .block a (mZ b c d e)
abbrev fV (a:Nat) (b c d e:AV):Xv:=cO a [b,c,d,e]
abbrev aW (a b:Nat):Xv:=xA a 2 b
abbrev ycw (a b:Nat) (c d e f:AX):Xv:=AP a b [c,d,e,f]
abbrev H5 (a b c:Nat) (d e f:AX):Xv:=ycw a b (.t c) d e f
abbrev IM (a:Nat) (b:Xu):Xu:=yQ a b .skip
abbrev qW (a:Nat) (b c:AV):Xv:=cO a [b,c]
abbrev gS (a b c:List Xv) (d:Nat) (e f:Xu):Xu:=bE a (gF b c d e f)
abbrev qU (a b:Nat):Xv:=xO a (.nilapp b)
abbrev Nn (a:Nat) (b:List AX):AOp:= .pcallv (.t a) b
abbrev dD:AX:=j9 0
abbrev iM (a:Nat):Xv:=xI a (-1)
abbrev nM (a:List Xv) (b:Nat) (c d:Xv):Xu:=gQ a b [c,d]
abbrev qV (a:List (Nat×Nat)) (b:List Xv) (c:Option (List Nat)):Xu:= .region true a b c
abbrev oC (a b:Xv):Xu:=dL [a,b]
abbrev bJ (a b c:Nat):Xv:=xX a 1 b c
abbrev d6 (a:Nat):Xv:=aK a 3
abbrev yda (a b:Nat) (c d e:AX):Xv:=AP a b [c,d,e]
abbrev Nq (a b c:Nat) (d e:AX):Xv:=yda a b (.t c) d e
abbrev Nr (a b c d:Nat) (e:AX):Xv:=Nq a b c (.t d) e
abbrev fM (a b c d e:Nat):Xv:=Nr a b c d (.t e)
abbrev s5 (a:List Xv) (b c:Nat):Xu:=kV a b (.exit c)
abbrev qX (a:List Xv) (b:Nat) (c:Xv):Xu:=gQ a b [c]
abbrev eJ (a:List Xv) (b c:Nat) (d:Int):Xu:=qX a b (xI c d)
abbrev bG (a:Nat):Xv:=xM 6 a
abbrev P5 (a:Nat) (b:SM) (c d:Nat) (e:AX) (f:Nat):Xv:=xO a (yb2 b c d e f)
abbrev gT (a:Nat) (b:AV):Xv:=qW a b cE
abbrev fO (a:Nat):Xv:=xC a fG
abbrev dF (a:Nat):Xv:=aI a 3
abbrev bS (a:Nat):Xv:=xM a 8
abbrev bQ (a:Nat):Xv:=xM 8 a
abbrev rO (a:Xu) (b:Nat) (c d:Xu):Xu:=fS a (.block b c) d
abbrev bI (a b:Nat):Xv:=xA a 4 b
abbrev eK:Xv:=aY 5
abbrev iT:Xv:=rN 2
abbrev AR (a b c:Nat) (d:AX) (e:Nat) (f:AX):Xv:=H5 a b c d (.t e) f
abbrev P6 (a b c:Nat) (d:AX) (e:Nat):Xv:=P5 a .app b c d e
abbrev bN (a:Nat):Xv:=xM a 2
abbrev ydv (a:Nat) (b:BinOp) (c d e f:Nat) (g:Xu) (h:Nat) (i:BinOp) (j k l:Nat):Xu:=nO a b c d e 0 f g h i j k l
abbrev bF (a:Nat) (b:BinOp) (c d e:Nat) (f:Xu) (g:Nat) (h:BinOp) (i j k:Nat):Xu:=ydv a b c d e 1 f g h i j k
abbrev d7 (a:Nat):Xv:=xM a 3
abbrev bO (a b:Nat):Xv:=xS 2 a b
abbrev s6 (a b c:Nat) (d:List AX):Xv:=eF a b (.pcall c d)
abbrev IO (a:List Xv) (b:Nat) (c:Xu):Xu:=F0 a (IM b c)
abbrev dN (a:Nat):Xv:=xM 2 a
abbrev n6 (a b c:Nat) (d:Int):Xv:=AQ a b c (j9 d)
abbrev dE (a b c:Nat):Xv:=bL a b 1 c
abbrev yd4 (a b c d:Xv) (e:Nat) (f:Xu):Xu:=gR [a,b,c,d] e f
abbrev yd5 (a b c:Xv) (d e:Nat) (f:Xu):Xu:=yd4 a b c (aY d) e f
abbrev wW (a:List Xv) (b:Nat) (c:Xu):Xu:=bE a (.block b c)
abbrev bR (a b:Nat):Xv:=xF a 2 b
abbrev cH (a:Nat):Xv:=xM a 6
abbrev d9 (a:Nat) (b:BinOp) (c:Nat):Xv:=xK a b c 1
abbrev kI (a:List Xv) (b:Nat) (c:Xv) (d:Nat) (e:Int):Xu:=nM a b c (xI d e)
abbrev jA (a b c d:Xv) (e:List Nat) (f:Xu):Xu:=rZ [a,b,c,d] e f
abbrev yec (a:Xv) (b c:Nat) (d:Xv) (e f:Nat) (g:Xu):Xu:=yd5 a (xL b c) d e f g
abbrev fH (a:Nat):Xv:=eI a 2
abbrev bZ (a b:Nat):Xv:=xE a 0 b
abbrev c9 (a b:Nat):Xv:=xE a 1 b
abbrev wZ (a b c:Nat) (d:List AX):Xv:=cZ a b (.pcall c d)
abbrev nP (a b:Nat):AOp:=Ni true a b
abbrev gU:Xv:=aY 6
abbrev AU (a:Nat):Xv:=xC a LV
abbrev qY (a:Nat):Xu:=eH (AU a)
abbrev yel (a:BinOp) (b:Nat) (c:AV):AOp:=Er a b (.c c)
abbrev fW:Xv:=aY 2
abbrev n7 (a b c d e:Nat):Xv:=P6 a b c (.t d) e
abbrev iV (a:Xv) (b c d e f g:Nat) (h:Xu):Xu:=yec a b c (xN d e) f g h
abbrev cW (a:Nat):Xv:=xM a 7
abbrev n8 (a:Nat) (b:BinOp) (c:Nat) (d:AV):Xv:=xO a (yel b c d)
abbrev kJ:Xv:=rN 1
abbrev nQ (a b c:Nat) (d:Int) (e:Nat) (f:AX):Xv:=AR a b c (j9 d) e f
abbrev eU (a b c:Nat):Xv:=yce a b 1 c
abbrev dO (a:Nat):Xv:=xM 7 a
abbrev iN (a:Nat):Xv:=aK a 2
abbrev dB (a b:Nat):Xv:=xS 4 a b
abbrev gH (a:Xv) (b:List Xv):Xu:=fF [a] b
abbrev H6:Xv:=aE 6
abbrev P8 (a b c:Nat) (d:AX):AOp:=Np a (some b) c d
abbrev IP (a b c:Xv):Xu:=xR [a,b,c]
abbrev wX (a:Xv) (b:Nat) (c:BinOp) (d:Nat) (e:Xv):Xu:=IP a (d9 b c d) e
abbrev iU (a:Nat):Xv:=aI a 1
abbrev AS (a:IntKind) (b:Nat):AOp:= .conv a (.t b)
abbrev rP (a b:Nat) (c:AX):AOp:=Np a none b c
abbrev s7:Xv:=rN 3
abbrev P7 (a:List Xv) (b c:Xv) (d:Nat) (e:List Xv):Xu:=l6 a [b,c] d e
abbrev kH (a:List Xv) (b:Xv) (c:Nat) (d:BinOp) (e f:Nat) (g:List Xv):Xu:=P7 a b (b7 c d e) f g
abbrev wY (a b:Nat) (c:List AX):Xv:=xO a (Nn b c)
abbrev yR (a:List Xv) (b:Nat) (c:Xv):Xu:=IO a b (eH c)
abbrev AW (a b c:Nat):Xv:=eF a b (Nm c)
abbrev xH (a b c:Nat):Xv:=cZ a b (LW c)
abbrev jC (a:Nat):Xv:=aK a 5
abbrev yfd (a:Nat) (b:Xv):Xu:=oC (d7 a) b
abbrev yS (a b:Nat):Xu:=yfd a (dN b)
abbrev yT (a:Xv) (b:Nat):Xu:=oC a (aS b)
abbrev xP (a:Nat):Xv:=xJ a 1
abbrev xT:Xv:=xP 3
abbrev dX (a b:Nat):Xv:=xF a 3 b
abbrev kK (a:Nat):Xv:=eI a 3
abbrev dP (a b c:Nat):Xv:=xX a 2 b c
abbrev yU (a:List Xv):Xu:=F0 a .ret
def PF:Nat:=5
def Ns:Nat:=6
def PI:Nat:=8
def FD:Nat:=11
def zE:Nat:=12
def FE:Nat:=13
def FF:Nat:=16
def zF:Nat:=18
def PB:Nat:=19
def PC:Nat:=25
def JS:Nat:=26
def JT:Nat:=27
def PD:Nat:=30
def FG:Nat:=41
def FH:Nat:=42
def FI:Nat:=43
def vZ:Nat:=44
def zG:Nat:=45
def FJ:Nat:=46
def FK:Nat:=47
def K1:Nat:=62
def FL:Nat:=70
def K3:Nat:=71
def FM:Nat:=72
def PG:Nat:=73
def FN:Nat:=74
def zH:Nat:=75
def PH:Nat:=76
def zI:Nat:=77
def w3:Nat:=82
def PJ:Nat:=85
def PL:Nat:=90
def PM:Nat:=91
def PN:Nat:=93
def FO:Nat:=94
def zJ:Nat:=95
def w4:Nat:=96
def zK:Nat:=97
def zL:Nat:=98
def w5:Nat:=99
def tJ:Nat:=100
def tK:Nat:=101
def tL:Nat:=102
def i6:Nat:=103
def oY:Nat:=104
def i7:Nat:=105
def jK:Nat:=106
def oZ:Nat:=107
def J6:Nat:=128
def i8:Nat:=129
def tN:Nat:=130
def tO:Nat:=131
def tP:Nat:=132
def tQ:Nat:=133
def tR:Nat:=134
def J7:Nat:=136
def lU:Nat:=139
def lW:Nat:=140
def tS:Nat:=141
def tT:Nat:=142
def p5:Nat:=143
def jL:Nat:=144
def tU:Nat:=145
def lX:Nat:=147
def J8:Nat:=151
def fZ:Nat:=152
def J9:Nat:=162
def tV:Nat:=165
def i9:Nat:=166
def tW:Nat:=167
def tX:Nat:=168
def aT:Nat:=169
def lY:Nat:=170
def cR:Nat:=171
def g0:Nat:=172
def iA:Nat:=173
def JA:Nat:=174
def JB:Nat:=175
def iB:Nat:=176
def p6:Nat:=177
def lZ:Nat:=178
def p7:Nat:=179
def p8:Nat:=180
def p9:Nat:=181
def tY:Nat:=182
def mA:Nat:=183
def JC:Nat:=195
def JD:Nat:=197
def aR:Nat:=203
def bM:Nat:=204
def pA:Nat:=205
def pB:Nat:=206
def mB:Nat:=207
def g6:Nat:=208
def iC:Nat:=209
def pC:Nat:=210
def mD:Nat:=211
def tZ:Nat:=212
def pD:Nat:=213
def mE:Nat:=214
def u5:Nat:=215
def pE:Nat:=216
def mF:Nat:=217
def pF:Nat:=218
def pG:Nat:=219
def mG:Nat:=220
def pH:Nat:=221
def u6:Nat:=222
def pI:Nat:=223
def JE:Nat:=224
def JF:Nat:=226
def JG:Nat:=227
def JH:Nat:=228
def JI:Nat:=230
def JJ:Nat:=232
def JK:Nat:=234
def u9:Nat:=236
def eC:Nat:=237
def uA:Nat:=238
def uB:Nat:=239
def pJ:Nat:=240
def g7:Nat:=241
def uC:Nat:=242
def JL:Nat:=244
def JM:Nat:=245
def JN:Nat:=246
def JO:Nat:=248
def JP:Nat:=250
def JQ:Nat:=251
def JR:Nat:=258
def uD:Nat:=262
def eD:Nat:=263
def g9:Nat:=264
def uE:Nat:=265
def pK:Nat:=266
def pL:Nat:=267
def uF:Nat:=268
def mH:Nat:=269
def jM:Nat:=270
def iD:Nat:=271
def pM:Nat:=272
def uG:Nat:=273
def uH:Nat:=274
def pN:Nat:=275
def jN:Nat:=276
def uI:Nat:=277
def uJ:Nat:=278
def jO:Nat:=279
def cG:Nat:=280
def uK:Nat:=281
def jQ:Nat:=282
def mI:Nat:=283
def pO:Nat:=284
def uL:Nat:=285
def pP:Nat:=286
def pQ:Nat:=287
def pR:Nat:=288
def pS:Nat:=289
def pT:Nat:=290
def pU:Nat:=291
def pV:Nat:=292
def jR:Nat:=293
def dT:Nat:=294
def uM:Nat:=295
def mJ:Nat:=296
def pW:Nat:=297
def pX:Nat:=298
def jS:Nat:=299
def mK:Nat:=310
def jT:Nat:=311
def pY:Nat:=312
def uN:Nat:=313
def uO:Nat:=314
def uP:Nat:=315
def uQ:Nat:=316
def mL:Nat:=317
def f9:Nat:=318
def pZ:Nat:=319
def uR:Nat:=320
def uS:Nat:=321
def uT:Nat:=322
def JU:Nat:=323
def JV:Nat:=325
def JW:Nat:=326
def JX:Nat:=327
def q6:Nat:=328
def uU:Nat:=329
def mM:Nat:=330
def uV:Nat:=331
def uW:Nat:=332
def JY:Nat:=333
def JZ:Nat:=346
def jV:Nat:=348
def mN:Nat:=349
def uX:Nat:=350
def q8:Nat:=351
def jW:Nat:=352
def uY:Nat:=353
def uZ:Nat:=354
def v5:Nat:=355
def q9:Nat:=356
def qA:Nat:=357
def mO:Nat:=358
def v6:Nat:=359
def v7:Nat:=360
def v8:Nat:=361
def v9:Nat:=362
def vA:Nat:=363
def iE:Nat:=364
def vB:Nat:=367
def vC:Nat:=368
def jX:Nat:=369
def qB:Nat:=370
def mP:Nat:=371
def vD:Nat:=372
def qC:Nat:=373
def qD:Nat:=374
def vE:Nat:=375
def qE:Nat:=381
def vF:Nat:=382
def qF:Nat:=383
def qG:Nat:=384
def jY:Nat:=385
def qH:Nat:=386
def qI:Nat:=387
def qJ:Nat:=388
def vG:Nat:=389
def vI:Nat:=390
def vJ:Nat:=391
def vK:Nat:=392
def vL:Nat:=393
def vM:Nat:=394
def vN:Nat:=395
def vO:Nat:=396
def qK:Nat:=397
def vP:Nat:=398
def qL:Nat:=399
def vQ:Nat:=400
def vR:Nat:=401
def vS:Nat:=402
def vT:Nat:=404
def vU:Nat:=405
def iF:Nat:=406
def vV:Nat:=407
def vW:Nat:=408
def jZ:Nat:=409
def vX:Nat:=410
def qM:Nat:=428
def qN:Nat:=429
def vY:Nat:=430
def K0:Nat:=431
def c_5_l0:Xu:=rO (s5 [cH 70,aJ 71,xB 72 .lss 70 71] 72 2) 3 (yR [dX 75 3,xL 76 75,cH 77,xX 78 3 76 77,aK 79 78,xL 80 79,dX 81 3,xL 82 81,aJ 83,xX 84 3 82 83,aK 85 84,xL 86 85,xB 87 .eql 80 86] 87 (bU 2)) (wX (cH 73) 74 .add 73 (bG 74))
def c_5_k1:Xu:=wX (aJ 39) 40 .add 39 (b6 40)
def c_5_l2:Xu:=rO (s5 [aJ 34,dX 35 3,xL 36 35,xN 37 36,xB 38 .lss 34 37] 38 0) 1 (.seq (yR [dX 41 3,xL 42 41,aJ 43,xX 44 3 42 43,aK 45 44,xL 46 45,b7 47 .lss 46,xM 48 47,bL 49 48 3 3,aO 50 48 49,bC 51 48 5,cZ 52 48 (rP 3 50 (.t 51)),bL 53 48 0 52,aO 54 48 53,bL 55 48 0 1,bL 56 48 5 55,aO 57 48 56,cV 58 48 57,dU 59 48 .geq 54 58,xW 60 48 59,xM 61 60,bL 62 61 3 3,aO 63 61 62,bC 64 61 5,cZ 65 61 (rP 3 63 (.t 64)),dE 66 61 65,aO 67 61 66,dW 68 61 .lss 67 0,xW 69 61 68] 69 (bU 2)) (gR [gU] 2 c_5_l0)) c_5_k1
def c_5_k3:Xu:=dL [bI 88 4,xF 89 9 1,bI 90 89,aN 91 FF 88 90,xM 92 91,fL 93 92 2 3,eU 94 92 93,AW 95 92 94,gG 96 92 .leq 95 (j9 512),xV 97 92 96,xM 98 97,fL 99 98 1 3,eU 100 98 99,gG 101 98 .geq 100 dD,xV 102 98 101,xM 103 102,fL 104 103 1 3,eU 105 103 104,gG 106 103 .leq 105 (j9 255),xV 107 103 106,xM 108 107,fL 109 108 0 3,eU 110 108 109,eF 111 108 (LW 110),eT 112 108 111,dE 113 112 3,aO 114 112 113,dW 115 112 .eql 114 0,bC 116 112 115,fL 117 116 2 3,eU 118 116 117,AW 119 116 118,gG 120 116 .eql 119 dD,cZ 121 112 (.pick (.t 116) (.t 120) (.c qT)),eF 122 108 (.pick (.t 112) (.c LV) (.t 121)),xV 123 108 122,xM 124 123,s6 125 124 zE [],xV 126 124 125,dN 126]
abbrev a9:AV:= .Xt 1 []
abbrev rJ:List AV:=[.str [],.Xt 2 [],.Xt 2 [],.Xt 3 [],.Xt 3 [],.Xt 6 [],.Xt 7 [],.Xt 5 [],.Xt 1 [],.Xt 2 []]
abbrev fQ:List AV:=[.int .u32 0,.int .i64 0]
abbrev iZ:List AV:=[cE,.Xt 2 [],cE,cE,.Xt 1 []]
abbrev L6:List Xv:=[aG 6,b7 7 .lss 6,bQ 7,bC 9 8 1,bC 10 8 0,cV 11 8 10,dU 12 8 .geq 9 11,xW 13 8 12]
abbrev rK:List AV:=[.int .i64 0,.int .i64 0,.int .i64 0,.int .i64 0]
abbrev GN:AOp:= .bslice .imm 1 (List.replicate 1 [.str []]) [(0,(.t 17))]
abbrev GO:List Xv:=[aG 5,b7 6 .geq 5,cH 7,eT 8 7 1,eT 9 7 0,AW 10 7 9,gG 11 7 .lss 8 (.t 10),xV 12 7 11,aS 12]
abbrev wK:List AV:=[.bool false,.int .i64 0,.Xt 1 [],.Xt 3 []]
abbrev A6:List AV:=[.int .i64 0,.Xt 2 [],.int .i64 0,.int .i64 0,.Xt 1 []]
abbrev fR:List ARes:=[.tmp 4,.tmp 5]
abbrev A7:Xu:=s5 [aJ 11,aE 12,xN 13 12,xB 14 .lss 11 13] 14 0
abbrev j5:List Xv:=[H6,xN 7 6,aY 8]
abbrev kS:AX:= .c (.bool true)
abbrev A8:List Xv:=[H6,xN 7 6,aG 8,xN 9 8,xB 10 .neq 7 9]
abbrev eO:AV:= .Xt 2 []
abbrev kT:List AV:=[.int .i64 0]
abbrev A9:List AV:=[.Xt 1 [],.Xt 1 [],.Xt 1 [],.Xt 1 []]
abbrev wL:List Xv:=[bJ 10 6 8,xL 11 10,b6 11]
abbrev L8:Xu:=yR [aE 17,aJ 18,bJ 19 17 18,xL 20 19,aG 21,aJ 22,bJ 23 21 22,xL 24 23,xB 25 .neq 20 24] 25 cC
abbrev GP:List AV:=[.int .i64 0,.int .i64 0,.Xt 3 [],.Xt 5 [],.Xt 5 []]
abbrev AA:Xu:=wX (aJ 15) 16 .add 15 (b6 16)
abbrev wM:List AV:=[.int .i64 0,.int .i64 0]
abbrev LA:List AV:=[.str [],.Xt 2 [],.Xt 2 [],.Xt 3 [],.Xt 3 [],.Xt 6 [],.Xt 7 [],.Xt 5 [],.Xt 1 [],.Xt 1 []]
abbrev LB:Xu:=xR [aJ 14,aG 15,xA 16 3 7,wY 17 15 [.t 16],xO 18 GN,n7 19 1 16 14 18,b6 19]
abbrev LC:Xu:=xR [aJ 14,aG 15,aW 16 7,wY 17 15 [.t 16],xO 18 GN,n7 19 1 16 14 18,b6 19]
abbrev wO:List Xv:=[aK 3 1,xL 4 3,dN 4]
abbrev mX:AV:= .int .i64 0
abbrev mY:List Xv:=[iT,xT,bV]
abbrev wP:List Xv:=[fU 2 0,fU 3 1,cC]
abbrev wQ:List AV:=[.str [],.int .i64 0]
abbrev wR:List Xv:=[aE 8,xN 9 8,aY 10]
abbrev LD:List Xv:=[xF 12 5 2,xL 13 12,aG 14,xX 15 6 13 14,aI 16 15,xL 17 16,xN 18 17,aY 19]
abbrev kU:List AV:=[.Xt 1 []]
abbrev wS:List Xv:=[kJ,xC 2 (.str [])]
abbrev GQ:List AV:=[.int .i64 0,.int .i64 0,.int .i64 0]
abbrev GR:List AV:=[cE,cE,.Xt 3 [],.Xt 5 [],.Xt 5 []]
abbrev LE:List Xv:=[d6 5,xL 6 5,iN 7,aI 8 7,xL 9 8,xO 10 (.tcallv (.t 6) [.t 9])]
abbrev GS:List Xv:=[fU 2 0,fU 3 1,xC 4 (.Xt 5 [])]
abbrev LF:List Xv:=[H6,xN 7 6,xO 8 (.mkslice .row 1 24 kU (.t 7) (.t 7)),bS 3]
abbrev AB:List Xv:=[aE 9,xN 10 9,aY 11]
abbrev wT:List ARes:=[.cell 2 true 4]
abbrev rL:List AV:=[.int .u32 0]
abbrev L7:Xu:=l7 [xM 13 11,bJ 14 9 11,xL 15 14,aS 13,b6 15] [d7 16,xM 17 4,aJ 18,xN 19 18,xO 20 (.mkslice .row 1 4 rL (.t 19) (.t 19)),bJ 21 16 17,xS 1 21 20] (xR [d7 22,xM 23 4,bJ 24 22 23,xL 25 24,aJ 26,xO 27 (.copy 1 (.t 25) (.t 26))])
abbrev o9:List Xv:=[xC 4 a9]
abbrev wU:AOp:=P8 1 3 3 dD
abbrev LG:AOp:= .bslice .imm 1 (List.replicate 1 kT) [(0,(.t 5))]
abbrev LH:AOp:= .bslice .imm 1 (List.replicate 1 kT) [(0,(.t 7))]
abbrev AC:AOp:=P8 1 3 3 (j9 1)
abbrev GT:List AV:=[.str [],.Xt 2 [],.Xt 7 []]
abbrev oA:AV:= .Xt 3 []
abbrev rM:List Xv:=[xC 2 a9]
abbrev LI:List Xv:=[aE 15,aG 16,dP 17 15 16,aW 18 17,bO 4 18]
abbrev wV:List AV:=[cE,cE,cE]
abbrev AD:List Xv:=[s7,xJ 5 2,gU]
abbrev LJ:List AV:=[.str [],.Xt 3 [],.Xt 1 [],cE,.Xt 1 [],cE]
abbrev AE:List ARes:=[.cell 4 true 2]
abbrev LK:List Xv:=[aE 15,aG 16,bJ 17 15 16,xL 18 17,aS 18]
abbrev LL:List AV:=[.str [],.Xt 1 [],qT,cE,cE,.Xt 3 [],cE]
abbrev GU:List AV:=[.int .i64 0,.Xt 1 []]
abbrev AF:List Xv:=[bS 10,b6 10]
abbrev AG:List Xv:=[aJ 17,aS 17]
abbrev L9:Xu:=l6 AF [aG 11,aE 12,aJ 13,bJ 14 12 13,xL 15 14,xB 16 .eql 11 15] 16 AG
abbrev AJ:List ARes:=[.tmp 2,.tmp 3]
abbrev GV:AX:= .c (.int .i64 (-1))
abbrev LM:List Xv:=[fH 8,aG 9,aN 10 pJ 8 9,bY 11 10]
abbrev LN:List AV:=[cE,cE,cE,cE,cE,.Xt 3 [],.Xt 3 []]
abbrev AK:List Xv:=[iM 4,xI 5 8]
abbrev LO:List Xv:=[s7,xP 4,fV 6 a9 a9 a9 a9]
abbrev LP:List Xv:=[fU 1 0,fV 2 a9 a9 a9 a9]
abbrev LQ:Xu:=nM L6 13 (aW 14 5) (bO 4 14)
abbrev LR:Xu:=wX (aJ 25) 26 .add 25 (b6 26)
abbrev GW:AX:= .c (.int .i64 1)
abbrev LS:List AV:=[.Xt 1 [],.int .i64 0,.bool false]
abbrev GX:List Xv:=[iT,xT,bV,eK]
abbrev LT:Xu:=nM L6 13 (aJ 14) (aS 14)
abbrev GY:List ARes:=[.cell 2 true 2]
abbrev LU:List Xv:=[bJ 22 18 20,xL 23 22,bQ 23]
abbrev AM:List Xv:=[s7,bU 6]
abbrev AN:List Xv:=[iT,bU 3]
def J3:AFn:=⟨1,[.tmp 2],eA [kJ,bU 2] [aK 7 1,eI 8 7,xF 9 9 1,bI 10 9,aN 11 FD 8 10,xM 12 11,bL 13 12 13 1,dE 14 12 13,aO 15 12 14,cV 16 12 15,dW 17 12 .gtr 16 600,xW 18 12 17] 18 [AP 19 zE [],dN 19] (xQ [aK 21 1,eI 22 21,xF 23 9 1,bI 24 23,xF 25 13 1,aW 26 25,fM 27 FE 22 24 26,xM 20 27,bZ 28 20,c9 29 20,fV 3 qT cE a9 oA,fV 4 a9 a9 eO a9,dB 3 28,dB 4 29] [3]) (gF [xF 30 9 1,dX 31 30,xL 32 31,dX 33 4,xS 1 33 32] [eK] 0 c_5_l2 c_5_k3)⟩
def c_11_l0:Xu:=rO (s5 [cW 9,d6 10,xL 11 10,xN 12 11,xB 13 .lss 9 12] 13 0) 1 (xR [aJ 16,d6 17,xL 18 17,cW 19,bJ 20 18 19,xL 21 20,xN 22 21,xB 23 .add 16 22,b6 23]) (wX (cW 14) 15 .add 14 (dO 15))
def c_11_l1:Xu:=rO (s5 [bS 24,xF 25 4 2,xL 26 25,xN 27 26,xB 28 .lss 24 27] 28 2) 3 (xR [cH 31,xF 32 4 2,xL 33 32,bS 34,xX 35 3 33 34,bR 36 35,xL 37 36,xN 38 37,xB 39 .add 31 38,bG 39]) (wX (bS 29) 30 .add 29 (bQ 30))
def c_11_k2:Xu:=dL [aJ 40,xK 41 .gtr 40 60,xM 42 41,bC 43 42 6,dW 44 42 .gtr 43 60,xW 45 42 44,xM 46 45,dE 47 46 2,aO 48 46 47,cV 49 46 48,dW 50 46 .gtr 49 12,xW 51 46 50,xM 52 51,bL 53 52 5 2,aO 54 52 53,cV 55 52 54,dW 56 52 .gtr 55 16,xW 57 52 56,xM 58 57,bL 59 58 6 2,aO 60 58 59,cV 61 58 60,dW 62 58 .gtr 61 16,xW 63 58 62,xM 64 63,bL 65 64 7 2,aO 66 64 65,cV 67 64 66,dW 68 64 .gtr 67 30,xW 69 64 68,xM 70 69,bL 71 70 3 3,aO 72 70 71,cV 73 70 72,dW 74 70 .gtr 73 8,xW 75 70 74,aS 75]
def c_11_k3:Xu:= .seq (gR [aY 8] 2 c_11_l1) c_11_k2
def F7:AFn:=⟨2,[.tmp 4],gS [iT,xT,cC] [eK,gU] [aY 7] 0 c_11_l0 c_11_k3⟩
def J2:AFn:=⟨3,[.cell 6 true 4,.cell 7 true 4],fE [s7,xP 4,xJ 5 2,fV 6 qT cE a9 oA,fV 7 a9 a9 eO a9] (xQ [kK 11,bI 12 4,aW 13 5,xO 14 (.bslice .imm 2 (List.replicate 1 GU) [(0,(.t 13))]),fM 15 zF 11 12 14,xM 10 15,bZ 16 10,c9 17 10,fV 9 a9 a9 eO a9,bQ 16,dB 9 17] [9]) (qV [(3,4)] [⟨some 18,none,.mov (.t 8)⟩,⟨some 19,none,.iaddr 4 none (.t 18) (.c mX)⟩,⟨some 20,none,.load true 4 (.t 19)⟩,⟨some 21,none,.load true 4 (.t 9)⟩,⟨none,none,.store 4 (.t 6) (.t 20)⟩,⟨none,none,.store 4 (.t 7) (.t 21)⟩] none) .ret⟩
def c_16_l0:Xu:=rO (s5 [aJ 39,iN 40,xL 41 40,xN 42 41,xB 43 .lss 39 42] 43 0) 1 (yR [iN 46,xL 47 46,aJ 48,bJ 49 47 48,xL 50 49,d6 51,xL 52 51,aJ 53,bJ 54 52 53,xL 55 54,aN 56 FI 50 55,bY 57 56] 57 cC) (wX (aJ 44) 45 .add 44 (b6 45))
def c_16_l1:Xu:=rO (s5 [cH 58,bR 59 2,xL 60 59,xN 61 60,xB 62 .lss 58 61] 62 2) 3 (yR [bR 65 2,xL 66 65,cH 67,dP 68 66 67,aW 69 68,bR 70 3,xL 71 70,cH 72,dP 73 71 72,aW 74 73,aN 75 vZ 69 74,bY 76 75] 76 cC) (wX (cH 63) 64 .add 63 (bG 64))
def c_16_k2:Xu:=qY 4
def c_16_k3:Xu:= .seq (gR [gU] 2 c_16_l1) c_16_k2
def r5:AFn:=⟨2,[.tmp 4],eA wP [iN 7,xL 8 7,xN 9 8,d6 10,xL 11 10,xN 12 11,xB 13 .neq 9 12,xM 14 13,dE 15 14 2,aO 16 14 15,dE 17 14 3,aO 18 14 17,wZ 19 14 FG [.t 16,.t 18],xH 20 14 19,xW 21 14 20,xM 22 21,bL 23 22 2 2,aO 24 22 23,cV 25 22 24,bL 26 22 2 3,aO 27 22 26,cV 28 22 27,dU 29 22 .neq 25 28,xW 30 22 29,xM 31 30,bL 32 31 3 2,aO 33 31 32,bL 34 31 3 3,aO 35 31 34,wZ 36 31 FH [.t 33,.t 35],xH 37 31 36,xW 38 31 37] 38 [cC] (gR [eK] 0 c_16_l0) c_16_k3⟩
def c_18_l0:Xu:=bF 26 .lss 25 24 26 (jA (dP 27 23 25) (aW 28 27) (qW 12 cE a9) (bO 12 28) [12] (cD [xO 29 (.build wK [(0,1,kS)]),fV 13 qT cE a9 oA,dB 13 29] (eP [xM 30 9] 30 (rZ [kK 32,bI 33 8,aW 34 12,fM 35 FK 32 33 34,xM 31 35,bZ 36 31,c9 37 31,xE 38 2 31,fV 14 qT cE a9 oA,dB 14 36,xM 15 37,xM 16 38] [14] (bE [bI 39 14,dB 13 39] (eP [xM 40 16] 40 (IP (xM 41 15) (dX 42 8) (xS 1 42 41)))))) (xR [xM 43 10,bI 44 13,xO 45 (.bslice .imm 4 (List.replicate 1 wK) [(0,(.t 44))]),n7 46 4 64 43 45,xM 10 46]))) 47 .add 25 25 47
def c_18_k1:Xu:=yU [xM 48 10,bI 49 8,bG 48,dB 7 49]
def sN:AFn:=⟨3,[.tmp 6,.cell 7 true 4],bE [s7,xP 4,xC 6 (.Xt 4 []),fV 7 a9 a9 eO a9] (l7 [bI 17 4,aM 18 zG 17,fV 8 a9 a9 eO a9,dB 8 18] [kK 19,bI 20 4,aN 21 FJ 19 20,b7 22 .eql 21,xM 9 22] (gF [qU 10 4] [bN 23,xN 24 23,aY 25] 0 c_18_l0 c_18_k1))⟩
def c_41_l0:Xu:=rO A7 1 L8 AA
def c_41_k1:Xu:=qY 4
def F8:AFn:=⟨2,[.tmp 4],eA [cC] A8 10 [cC] (gR [eK] 0 c_41_l0) c_41_k1⟩
def c_42_l0:Xu:=rO A7 1 (yR [aE 17,aJ 18,bJ 19 17 18,xL 20 19,aG 21,aJ 22,bJ 23 21 22,xL 24 23,aN 25 FO 20 24,bY 26 25] 26 cC) AA
def c_42_k1:Xu:=qY 4
def F9:AFn:=⟨2,[.tmp 4],eA [cC] A8 10 [cC] (gR [eK] 0 c_42_l0) c_42_k1⟩
def c_43_l0:Xu:=rO A7 1 (yR [aE 17,aJ 18,xX 19 5 17 18,aK 20 19,xL 21 20,aG 22,aJ 23,xX 24 5 22 23,aK 25 24,xL 26 25,xB 27 .neq 21 26,xM 28 27,bC 29 28 0,bC 30 28 5,cZ 31 28 (rP 5 29 (.t 30)),dE 32 28 31,dE 33 28 32,aO 34 28 33,bC 35 28 1,bC 36 28 5,cZ 37 28 (rP 5 35 (.t 36)),dE 38 28 37,dE 39 28 38,aO 40 28 39,dU 41 28 .neq 34 40,xW 42 28 41,xM 43 42,bC 44 43 0,bC 45 43 5,cZ 46 43 (rP 5 44 (.t 45)),dE 47 43 46,cZ 48 43 (nP 4 47),bC 49 43 1,bC 50 43 5,cZ 51 43 (rP 5 49 (.t 50)),dE 52 43 51,cZ 53 43 (nP 4 52),wZ 54 43 zJ [.t 48,.t 53],xH 55 43 54,xW 56 43 55] 56 cC) AA
def c_43_k1:Xu:=qY 4
def FA:AFn:=⟨2,[.tmp 4],eA [cC] A8 10 [cC] (gR [eK] 0 c_43_l0) c_43_k1⟩
def c_44_l0:Xu:=rO (s5 [aJ 20,aI 21 2,xL 22 21,xN 23 22,xB 24 .lss 20 23] 24 0) 1 (yR [aI 27 2,xL 28 27,aJ 29,bJ 30 28 29,xL 31 30,dF 32,xL 33 32,aJ 34,bJ 35 33 34,xL 36 35,xB 37 .neq 31 36] 37 cC) LR
def c_44_k1:Xu:=qY 4
def z9:AFn:=⟨2,[.tmp 4],eA wP [iN 6,xL 7 6,d6 8,xL 9 8,xB 10 .neq 7 9,xM 11 10,dE 12 11 2,aO 13 11 12,cV 14 11 13,dE 15 11 3,aO 16 11 15,cV 17 11 16,dU 18 11 .neq 14 17,xW 19 11 18] 19 [cC] (gR [eK] 0 c_44_l0) c_44_k1⟩
def c_45_l0:Xu:=nO 26 .lss 25 24 26 2 3 (fS (xQ [xX 27 5 23 25,xA 28 5 27,cO 8 iZ,xS 5 8 28] [8]) (xQ [aI 29 8,bI 30 29,fV 9 eO cE cE a9,dB 9 30] [9]) (xD [cH 31,aK 32 8,xL 33 32,aK 34 9,xL 35 34,aM 36 zK 35,aI 37 9,xL 38 37,bR 39 9,aW 40 39,aM 41 zL 40,xO 42 (.build [.Xt 2 [],.int .i64 0,.int .i64 0,.Xt 1 []] [(0,1,(.t 36)),(1,1,(.t 38)),(2,2,(.t 41))]),xO 43 (.build A6 [(0,1,(.t 33)),(1,4,(.t 42))]),xO 44 (.bslice .imm 5 (List.replicate 1 A6) [(0,(.t 43))]),n7 45 5 72 31 44,bG 45])) 46 .add 25 25 46
def c_45_k1:Xu:=xR [d6 47,xL 48 47,cH 49,xO 50 (.bslice .imm 1 (List.replicate 1 [.Xt 5 []]) [(0,(.t 49))]),n7 51 1 24 48 50,d6 52,xS 1 52 51]
def c_45_k2:Xu:=xR [d9 53 .add 19,xM 19 53]
def c_45_l3:Xu:=Eo [xB 20 .lss 19 18] 20 0 1 (gS [bJ 21 17 19,xL 22 21,b6 22] [qU 6 5] [aJ 23,xN 24 23,aY 25] 2 c_45_l0 c_45_k1) c_45_k2
def c_45_l4:Xu:=nO 58 .lss 57 56 58 4 5 (jA (dP 59 55 57) (aW 60 59) (qW 11 cE a9) (bO 11 60) [11] (xD [bR 61 3,xL 62 61,aW 63 11,aM 64 zL 63,xO 65 (.bslice .imm 2 (List.replicate 1 GU) [(0,(.t 64))]),n7 66 2 32 62 65,bR 67 3,xS 1 67 66])) 68 .add 57 57 68
def c_45_k5:Xu:=fF [dX 69 1,xL 70 69,aM 71 w5 70,dX 72 3,xS 1 72 71] [bI 73 3,dB 2 73]
def c_45_k6:Xu:= .seq (iV (bR 54 1) 55 54 56 55 57 4 c_45_l4) c_45_k5
def lT:AFn:=⟨1,wT,gS [kJ,fV 2 a9 a9 eO a9] [iU 12,xL 13 12,aM 14 w4 13,xO 15 (.build [.Xt 1 [],.Xt 1 [],.Xt 2 [],.Xt 1 []] [(1,1,(.t 14))]),fV 3 a9 a9 eO a9,dB 3 15] [aK 16 1,xL 17 16,xN 18 17,aY 19] 0 c_45_l3 c_45_k6⟩
def c_46_l0:Xu:=bF 40 .lss 39 38 40 (cD [xM 41 39,dO 41] (xD [fH 42,cW 43,d6 44,xL 45 44,cW 46,bJ 47 45 46,xL 48 47,dF 49,xL 50 49,cW 51,bJ 52 50 51,xL 53 52,bR 54 3,xL 55 54,cW 56,dP 57 55 56,aW 58 57,AP 59 tJ [.t 42,.t 43,.t 48,.t 53,.t 58],bQ 59]) (nM [bS 60,b7 61 .neq 60] 61 (bS 62) (aS 62))) 63 .add 39 39 63
def c_46_k1:Xu:=dL [fH 64,dX 65 3,xL 66 65,aN 67 tK 64 66,aS 67]
def r6:AFn:=⟨2,[.tmp 4],cD mY (jA (fH 9) (aM 10 FL 9) (fV 5 cE cE cE cE) (dB 5 10) [5] (gQ [jC 11,xL 12 11,b7 13 .neq 12] 13 [jC 14,xL 15 14,aS 15])) (eA [xF 16 5 2,xL 17 16,xN 18 17,bG 18] [d6 19,xL 20 19,xN 21 20,cH 22,xB 23 .neq 21 22,xM 24 23,dE 25 24 3,aO 26 24 25,cV 27 24 26,bC 28 24 6,dU 29 24 .neq 27 28,xW 30 24 29,xM 31 30,bL 32 31 2 3,aO 33 31 32,cV 34 31 33,bC 35 31 6,dU 36 31 .neq 34 35,xW 37 31 36] 37 [xI 4 2] (gR [cH 38,aY 39] 0 c_46_l0) c_46_k1)⟩
def nV:AFn:=⟨3,[.cell 6 true 4,.tmp 7,.tmp 8],fE [s7,xP 4,xJ 5 2,fV 6 qT cE a9 oA,xC 7 a9,bU 8] (xQ [kK 14,aI 15 5,xL 16 15,aN 17 tL 14 16,xM 13 17,bZ 18 13,c9 19 13,fV 9 a9 a9 a9 a9,dB 9 18,xM 10 19] [9]) (gQ [jC 20,xL 21 20,b7 22 .lss 21,xM 23 22,bL 24 23 0 5,aO 25 23 24,dW 26 23 .gtr 25 255,xW 27 23 26,xM 28 27,bC 29 28 10,dW 30 28 .neq 29 0,xW 31 28 30] 31 [xO 32 (.build wK [(0,1,kS)]),dB 6 32,xC 7 a9,bU 8]) (fS (xQ [xO 33 (.build wM [(0,1,GV),(1,1,(.c mX))]),gT 11 cE,bO 11 33] [11]) (xD [kK 34,bI 35 9,aW 36 11,jC 37,xL 38 37,xO 39 (AS .u32 38),AR 40 i6 34 (.t 35) 36 (.t 39),dX 41 4,xL 42 41,xO 43 (.build [.Xt 1 [],.Xt 1 [],.Xt 1 [],.Xt 1 [],.Xt 1 [],.Xt 3 []] [(0,4,(.t 40)),(4,1,(.t 42))]),kK 44,bI 45 4,xO 46 (.build [.Xt 1 [],.Xt 1 [],.Xt 1 [],.Xt 1 [],.Xt 1 [],.Xt 3 [],.str [],.Xt 2 [],.Xt 2 [],.Xt 3 [],.Xt 3 [],.Xt 6 [],.Xt 7 [],.Xt 5 [],.Xt 1 [],.Xt 1 [],.Xt 1 [],.Xt 2 [],.Xt 1 []] [(0,6,(.t 43)),(6,9,(.t 44)),(15,4,(.t 45))]),fU 47 46,xM 12 47]) (cD [xF 48 7 3,xL 49 48,xM 50 12,xO 51 (.mkfunc (.func i7) [.t 50] []),xM 52 12,xO 53 (.mkfunc (.func jK) [.t 52] []),dM 54 oY [.t 49,.t 51,.t 53]] (qV [(1,6)] [⟨some 55,none,.mov (.t 12)⟩,⟨some 56,none,.tcall oZ [.t 55]⟩,⟨some 57,none,.mov (.t 12)⟩,⟨some 58,none,.nilchk (.t 57)⟩,⟨some 59,none,.faddr 0 (.t 58)⟩,⟨some 60,none,.faddr 4 (.t 59)⟩,⟨some 61,none,.load false 1 (.t 60)⟩,⟨some 62,none,.pcall w5 [.t 61]⟩,⟨none,none,.store 4 (.t 6) (.t 56)⟩,⟨some 7,none,.mov (.t 62)⟩,⟨some 8,none,.mov kS⟩] none) .ret))⟩
def cJ:ADFn:=⟨1,wT,.seq (xR [xO 1 (.box (.t 0)),xO 2 (.alloc rK)]) (.dfr [⟨some 3,none,.mkfunc (.func i8) [] [.t 2]⟩] 3 (.seq (xR [xA 4 9 1,xO 5 (.pcall tN [.t 4])]) (.seq (xR [xA 6 9 1,xO 7 (.pcall tO [.t 6])]) (.seq (xR [xA 8 9 1,xO 9 (.pcall tP [.t 8])]) (.seq (xR [xA 10 9 1,xO 11 (.pcall tQ [.t 10])]) (.seq (xR [xA 12 9 1,xO 13 (.pcall tR [.t 12])]) (.seq (xR [xO 14 (.build rK []),xS 4 2 14]) (.ret)))))))),i8,1,(some (4,1)),.seq (.seq (xR [xM 5 1,xO 6 (.eqs false false [] (.t 5) (.c (.niliface)))]) (.cond (.t 6) (.ret) (.skip))) (.seq (.seq (xR [xM 8 1,xO 9 (.tassert 225 true (.agg rK) (.t 8)),xM 7 9,xE 10 0 7,xE 11 1 7,xO 2 (.alloc rK),xS 4 2 10,xM 3 11]) (.seq (xR [xM 12 3]) (.cond (.t 12) (.seq (xR [xF 13 0 2,xA 14 4 13,xS 4 0 14]) (.ret)) (.skip)))) (xR [xM 15 1,⟨none,none,.panic (.t 15)⟩]))⟩
def c_74_l0:Xu:=bF 42 .lss 41 40 42 (fS (xQ [xM 43 41,dP 44 39 41,aW 45 44,qW 12 fG fG,xM 11 43,bO 12 45] [12]) (xD [aW 46 12,xM 47 9,xM 48 11,xX 49 3 47 48,bR 50 49,xL 51 50,xM 52 10,xM 53 11,bJ 54 52 53,xL 55 54,fM 56 tS 46 51 55,xM 13 56]) (nM [xM 57 13,b7 58 .neq 57] 58 (xM 59 13) (bG 59))) 60 .add 41 41 60
def c_74_k1:Xu:= .seq (l8 2 [aI 62 5,xL 63 62,b7 64 .lss 63,xM 65 64,dE 66 65 5,aO 67 65 66,dW 68 65 .gtr 67 255,xW 69 65 68,xM 61 69] 61 [xI 6 9] (mZ [aI 71 5,xL 72 71,b7 73 .neq 72,xM 74 73,eF 75 74 (nP 9 3),eT 76 74 1,s6 77 74 tT [.t 75,.t 76],gG 78 74 .neq 77 (j9 3),xV 79 74 78,xM 70 79] 70 [xI 6 11] (eJ [kK 81,aG 82,bR 83 5,aK 84 83,xL 85 84,fM 86 p5 81 82 85,bY 87 86,xM 80 87] 80 6 8))) (dL [kK 88,bR 89 5,aW 90 89,aN 91 jL 88 90,bG 91])
def zA:AFn:=⟨3,[.tmp 6],fE AD (kH [kK 15,aG 16,aN 17 lU 15 16,xM 14 17,bZ 18 14,c9 19 14,dO 18,bQ 19] (bS 20) 21 .neq 20 21 [bS 22,bG 22]) (xD [xF 23 5 3,xL 24 23,aG 25,xX 26 6 24 25,aI 27 26,xL 28 27,kK 29,aG 30,aN 31 lW 29 30,xM 9 28,xM 10 31]) (fS (eJ [jC 32,xL 33 32,xN 34 33,xM 35 9,xN 36 35,xB 37 .neq 34 36] 37 6 2) (iV (jC 38) 39 38 40 39 41 0 c_74_l0) c_74_k1)⟩
def J4:AFn:=⟨2,[.tmp 4],gH cC [aE 5,aG 6,aN 7 tU 5 6,b7 8 .geq 7,aS 8]⟩
def c_77_l0:Xu:=bF 25 .lss 24 23 25 (cD [xM 26 24,dP 27 22 24,aW 28 27,qW 6 fG fG,b6 26,bO 6 28] (xD [aW 29 6,d6 30,xL 31 30,aJ 32,dP 33 31 32,aW 34 33,xO 35 (.eqs true true [.i,.i] (.t 29) (.t 34))]) (IM 35 (eH cC))) 36 .add 24 24 36
def c_77_k1:Xu:=qY 4
def zB:AFn:=⟨2,[.tmp 4],eA wP [aI 7 2,xL 8 7,dF 9,xL 10 9,xB 11 .neq 8 10,xM 12 11,bL 13 12 0 2,aO 14 12 13,cV 15 12 14,bL 16 12 0 3,aO 17 12 16,cV 18 12 17,dU 19 12 .neq 15 18,xW 20 12 19] 20 [cC] (iV (iN 21) 22 21 23 22 24 0 c_77_l0) c_77_k1⟩
def c_94_l0:Xu:=rO A7 1 L8 AA
def c_94_k1:Xu:=qY 4
def FB:AFn:=⟨2,[.tmp 4],eA [cC] A8 10 [cC] (gR [eK] 0 c_94_l0) c_94_k1⟩
def zD:AFn:=⟨2,[.tmp 4],fF wP [bI 5 2,bI 6 3,aN 7 tV 5 6,bQ 7,fL 9 8 2 2,eF 10 8 (nP 2 9),fL 11 8 2 3,eF 12 8 (nP 2 11),s6 13 8 vZ [.t 10,.t 12],xV 14 8 13,aS 14]⟩
def J5:AFn:=⟨1,GY,cD [kJ,qW 2 cE a9] (xD [aK 3 1,xL 4 3,iU 5,xL 6 5,aM 7 lX 6,xO 8 (.build GU [(0,1,(.t 4)),(1,1,(.t 7))]),bO 2 8]) .ret⟩
def c_99_l0:Xu:=bF 9 .lss 8 7 9 (bE wL (xR [d7 12,aJ 13,aM 14 lX 13,xO 15 (.bslice .imm 1 (List.replicate 1 kU) [(0,(.t 14))]),n7 16 1 24 12 15,xM 3 16])) 17 .add 8 8 17
def c_99_k1:Xu:=yS 18 18
def FC:AFn:=⟨1,[.tmp 2],gS rM [qU 3 1] j5 0 c_99_l0 c_99_k1⟩
def c_100_l0:Xu:=bF 29 .lss 28 27 29 (fS (xQ [xX 30 5 26 28,xA 31 5 30,cO 13 iZ,xS 5 13 31] [13]) (eJ [aK 32 13,xL 33 32,xM 34 11,xB 35 .leq 33 34] 35 10 14) (IP (aK 36 13) (xL 37 36) (xM 11 37))) 38 .add 28 28 38
def c_100_l1:Xu:=nO 53 .lss 52 51 53 2 3 (fS (xQ [xM 54 52,xX 55 5 50 52,xA 56 5 55,cO 15 iZ,xM 14 54,xS 5 15 56] [15]) (kH [eI 57 5,aG 58,aI 59 15,bI 60 59,fM 61 FN 57 58 60,xM 16 61] (xM 62 16) 63 .neq 62 63 [xM 64 16,xM 10 64]) (eJ [bN 65,xM 66 14,xO 67 (.slc 5 (.t 65) none (some (.t 66)) none),xO 68 (.mkfunc (.func i9) [] [.t 15]),aN 69 zH 67 68] 69 10 7)) 70 .add 52 52 70
def c_100_k2:Xu:=dL [eI 71 5,aG 72,aW 73 9,fM 74 tW 71 72 73,xM 10 74]
def c_100_k3:Xu:=fS (eJ [d7 39,xM 40 11,xB 41 .leq 39 40,xM 42 41,bC 43 42 3,dW 44 42 .lss 43 1,xW 45 42 44,xM 46 45,bC 47 46 3,dW 48 46 .gtr 47 1073741824,xW 49 46 48] 49 10 14) (gR [bN 50,xN 51 50,aY 52] 2 c_100_l1) c_100_k2
def sC:AFn:=⟨5,[.tmp 10],cD [rN 5,xJ 9 4,aY 10] (eJ [bN 17,xN 18 17,xF 19 5 5,xL 20 19,aG 21,xX 22 6 20 21,xF 23 5 22,xL 24 23,xB 25 .gtr 18 24] 25 10 12) (gF [aY 11] [bN 26,xN 27 26,aY 28] 0 c_100_l0 c_100_k3)⟩
def c_101_l0:Xu:=bF 18 .lss 17 16 18 (l6 [xM 19 17,bJ 20 15 17,xL 21 20,b6 19,bG 21] [cH 22,xN 23 22,dX 24 2,xL 25 24,aJ 26,xX 27 3 25 26,bR 28 27,xL 29 28,xB 30 .neq 23 29] 30 [xI 4 2]) 31 .add 17 17 31
def c_101_l1:Xu:=nO 35 .lss 34 33 35 2 3 (cD [xM 36 34,bJ 37 32 34,xL 38 37,dO 36,bQ 38] (xD [bS 39,xN 40 39,b7 41 .gtr 40,xM 42 41,eT 43 42 8,s6 44 42 tX [.t 43],fL 45 42 3 2,eU 46 42 45,eT 47 42 7,eF 48 42 (rP 3 46 (.t 47)),fL 49 42 1 48,eU 50 42 49,s6 51 42 aT [.t 50],gG 52 42 .gtr 44 (.t 51),xV 53 42 52]) (IM 53 (eH (xI 4 9)))) 54 .add 34 34 54
def c_101_k2:Xu:=eH bV
def c_101_k3:Xu:= .seq (gR [aG 32,xN 33 32,aY 34] 2 c_101_l1) c_101_k2
def sD:AFn:=⟨2,[.tmp 4],eA [iT,bV] [aG 9,xN 10 9,dX 11 2,xL 12 11,xN 13 12,xB 14 .neq 10 13] 14 [xI 4 2] (gR [aG 15,xN 16 15,aY 17] 0 c_101_l0) c_101_k3⟩
def sE:AFn:=⟨2,[.cell 4 true 4,.tmp 5],eG [iT,fV 4 a9 a9 a9 a9,eK] (xQ [fH 10,aG 11,aN 12 lY 10 11,xM 9 12,bZ 13 9,c9 14 9,xE 15 2 9,fV 6 a9 a9 a9 a9,dB 6 13,dO 14,bQ 15] [6]) [bI 16 6,bS 17,dB 4 16,b6 17]⟩
def lB:AFn:=⟨4,[.cell 8 true 4],cD [rN 4,xP 5,xJ 6 2,fV 8 a9 a9 a9 a9] (xQ [bI 13 5,dM 14 cR [.t 13],fV 9 a9 a9 a9 a9,dB 9 14] [9]) (eG [eI 15 4,aW 16 6,aN 17 g0 15 16,xM 10 17] (bE [bI 19 9,aW 20 6,dM 21 iA [.t 19,.t 20],xM 18 21,bZ 22 18,c9 23 18,xM 11 22,xM 12 23] (eP [xM 24 12,xM 25 24,eT 26 25 10,gG 27 25 .gtr 26 dD,xV 28 25 27] 28 (xD [xM 29 11,aI 30 6,xL 31 30,d7 32,xM 33 10,aM 34 aT 33,xB 35 .and 32 34,bJ 36 29 31,xS 1 36 35]))) [bI 37 9,dB 8 37])⟩
def BB:AFn:=⟨3,[],fS (eP [aG 6,xO 7 (.eqs false false [] (.t 6) (.c (.nilfunc)))] 7 (xR [xC 1 (.func (.func JA) [] [])])) (eP [bQ 2,xO 9 (.eqs false false [] (.t 8) (.c (.nilfunc)))] 9 (xR [xC 2 (.func (.func JB) [] [])])) (xR [aG 10,bN 11,xO 12 (.build [.nilfunc,.nilfunc] [(0,1,(.t 10)),(1,1,(.t 11))]),aE 13,dM 14 iB [.t 12,.t 13]])⟩
def lC:AFn:=⟨2,[.tmp 4],fE [cC] (xD [aE 9,b8 10 9,xF 11 6 10,eI 12 11,aG 13,aE 14,b8 15 14,aK 16 15,aK 17 16,bI 18 17,fM 19 p6 12 13 18,b6 19]) (qV [(3,18),(9,18),(12,18),(14,18)] [⟨some 21,none,.mov (.t 0)⟩,⟨some 22,none,.nilchk (.t 21)⟩,⟨some 23,none,.faddr 6 (.t 22)⟩,⟨some 24,none,.load true 9 (.t 23)⟩,⟨some 25,none,.mov (.t 1)⟩,⟨some 26,none,.mov (.t 0)⟩,⟨some 27,none,.nilchk (.t 26)⟩,⟨some 28,none,.faddr 15 (.t 27)⟩,⟨some 29,none,.faddr 0 (.t 28)⟩,⟨some 30,none,.load false 1 (.t 29)⟩,⟨some 31,none,.mov (.t 1)⟩,⟨some 32,none,.iaddr 1 none (.t 30) (.t 31)⟩,⟨some 33,none,.load false 1 (.t 32)⟩,⟨some 34,none,.mov (.t 5)⟩,⟨some 35,none,.pcall lZ [.t 24,.t 25,.t 33,.t 34]⟩,⟨some 20,none,.mov (.t 35)⟩,⟨some 36,none,.ext 0 (.t 20)⟩,⟨some 37,none,.ext 1 (.t 20)⟩,⟨some 6,none,.alloc A6⟩,⟨none,none,.store 5 (.t 6) (.t 36)⟩,⟨some 7,none,.mov (.t 37)⟩] (some [6])) (fE [aE 38,b8 39 38,xF 40 15 39,bR 41 40,xL 42 41,aG 43,dP 44 42 43,aW 45 44,qW 8 cE a9,bO 8 45] (eP [cW 46] 46 (xR [aI 47 6,bR 48 47,aW 49 48,bO 8 49])) (xD [aE 51,aE 52,aE 53,b8 54 53,xF 55 6 54,eI 56 55,aW 57 8,aE 58,b8 59 58,aK 60 59,aK 61 60,bI 62 61,aE 63,b8 64 63,aK 65 64,xF 66 4 65,xL 67 66,AR 68 p7 56 (.t 57) 62 (.t 67),xM 50 68,bZ 69 50,c9 70 50,b8 71 51,aK 72 71,aK 73 72,dB 73 69,b8 74 52,aK 75 74,xF 76 4 75,xS 1 76 70]) (F0 [aE 77,aE 78,b8 79 78,aK 80 79,xF 81 5 80,xL 82 81,aG 83,aK 84 6,xL 85 84,aK 86 8,xL 87 86,xO 88 (.build GQ [(0,1,(.t 83)),(1,1,(.t 85)),(2,1,(.t 87))]),xO 89 (.bslice .imm 3 (List.replicate 1 GQ) [(0,(.t 88))]),n7 90 3 24 82 89,b8 91 77,aK 92 91,xF 93 5 92,xS 1 93 90] (yT (cW 94) 94)))⟩
def BC:AFn:=⟨2,[.tmp 4],cD [cC] (xD [aG 5,H6,b8 7 6,xF 8 6 7,eI 9 8,xO 10 (.build rJ [(0,9,(.t 9))]),aE 11,b8 12 11,aK 13 12,aK 14 13,bI 15 14,AR 16 p8 5 (.t 10) 15 (.c a9),n8 17 .eql 16 (EZ 1),aS 17]) .ret⟩
def gV:AFn:=⟨1,wT,fE [fV 2 qT cE a9 oA] (IO [aE 3,n6 4 p9 3 2,n8 5 .eql 4 (EZ 1),aJ 6,bC 7 6 0,cZ 8 6 (GZ 7),bL 9 6 6 8,cZ 10 6 (nP 9 9),bC 11 6 0,cZ 12 6 (GZ 11),bL 13 6 0 12,bL 14 6 0 13,cZ 15 6 (nP 4 14),wZ 16 6 tY [.t 10,.t 15],dW 17 6 .gtr 16 512,xW 18 6 17] 18 (dL [aE 19,b8 20 19,aK 21 20,xF 22 5 21,xL 23 22,xO 24 (.build wK [(0,1,kS),(3,1,(.t 23))]),dB 2 24])) (xD [aE 25,n6 26 p9 25 1,xO 27 (AS .i64 26),aE 28,b8 29 28,xF 30 6 29,eI 31 30,aE 32,b8 33 32,aK 34 33,aK 35 34,bI 36 35,aN 37 mA 31 36,aE 38,b8 39 38,aK 40 39,xF 41 5 40,xL 42 41,xO 43 (.build wK [(1,1,(.t 27)),(2,1,(.t 37)),(3,1,(.t 42))]),dB 2 43]) .ret⟩
def gW:AFn:=⟨1,[],bE [kJ] (l7 [aK 2 1,xL 3 2,aM 4 pA 3,n6 5 bM 4 6,H5 6 aR 5 dD dD dD] [iU 7,xL 8 7,xN 9 8,xK 10 .gtr 9 8,n6 11 bM 10 12,H5 12 aR 11 dD (j9 1) dD] (l7 [dX 13 1,xL 14 13,xN 15 14,xK 16 .gtr 15 4,n6 17 bM 16 12,H5 18 aR 17 dD (j9 3) dD] [xF 19 4 1,xL 20 19,xN 21 20,xK 22 .gtr 21 16,n6 23 bM 22 12,H5 24 aR 23 dD (j9 4) dD] (xR [xF 25 5 1,xL 26 25,xN 27 26,xK 28 .gtr 27 12,n6 29 bM 28 12,H5 30 aR 29 dD (j9 5) dD])))⟩
def c_131_l0:Xu:=bF 12 .lss 11 10 12 (rZ [xM 13 11,dP 14 9 11,aW 15 14,qW 4 (.str []) eO,xM 3 13,bO 4 15] [4] (l7 [aW 16 4,aM 17 g6 16,d7 18,nQ 19 aR 17 1 18 dD] [aK 20 4,xL 21 20,n8 22 .eql 21 (.str [109,101,116,97]),n6 23 bM 22 6,d7 24,nQ 25 aR 23 1 24 dD] (xR [bN 26,d7 27,aN 28 iC 26 27,n6 29 bM 28 7,d7 30,nQ 31 aR 29 1 30 dD]))) 32 .add 11 11 32
def BD:AFn:=⟨1,[],l7 [kJ] [iU 5,xL 6 5,AQ 7 pB 6 (.c (.func (.func mB) [] [])),dN 7] (iV (iU 8) 9 8 10 9 11 0 c_131_l0)⟩
def c_132_l0:Xu:=bF 20 .lss 19 18 20 (rZ [xM 21 19,dP 22 17 19,aW 23 22,gT 4 (.str []),xM 3 21,bO 4 23] [4] (l7 [aK 24 4,xL 25 24,aM 26 pA 25,n6 27 bM 26 6,d7 28,nQ 29 aR 27 2 28 dD] [aI 30 4,xL 31 30,aM 32 tZ 31,n6 33 bM 32 10,d7 34,nQ 35 aR 33 2 34 dD] (xR [bN 36,d7 37,aN 38 iC 36 37,n6 39 bM 38 7,d7 40,nQ 41 aR 39 2 40 dD]))) 42 .add 19 19 42
def c_132_l1:Xu:=Es (xK 48 .lss 47 3) 48 2 3 (fS (xQ [xM 49 47,xO 50 (.idxa true 3 2 (.t 46) (.t 47)),gT 6 (.str []),b6 49,bO 6 50] [6]) (xD [aJ 51,bR 52 1,xL 53 52,xN 54 53,xB 55 .geq 51 54,xM 56 55,bL 57 56 2 1,aO 58 56 57,bC 59 56 5,cZ 60 56 (rP 2 58 (.t 59)),cZ 61 56 (nP 2 60),cZ 62 56 (nP 2 6),cZ 63 56 (.eqs true true [.s,.i] (.t 61) (.t 62)),xW 64 56 63,n6 65 bM 64 5,aJ 66]) (xR [nQ 67 aR 65 2 66 dD])) 68 .add 47 47 68
def c_132_k2:Xu:=gR [xO 43 (.build wQ [(0,1,(.c (.str [105,110]))),(1,1,(.c (.int .i64 8)))]),xO 44 (.build wQ [(0,1,(.c (.str [111,117,116]))),(1,1,(.c (.int .i64 8)))]),xO 45 (.build wQ [(0,1,(.c (.str [100,114,111,112]))),(1,1,GW)]),xO 46 (.build [.str [],.int .i64 0,.str [],.int .i64 0,.str [],.int .i64 0] [(0,2,(.t 43)),(2,2,(.t 44)),(4,2,(.t 45))]),aY 47] 2 c_132_l1
def sF:AFn:=⟨1,[],l7 [kJ] [bR 7 1,xL 8 7,xN 9 8,xK 10 .gtr 9 12,n6 11 bM 10 12,H5 12 aR 11 (j9 2) dD dD] (gF [bR 13 1,xL 14 13,AQ 15 pC 14 (.c (.func (.func mD) [] [])),dN 15] [bR 16 1,xL 17 16,xN 18 17,aY 19] 0 c_132_l0 c_132_k2)⟩
def c_133_l0:Xu:=bF 18 .lss 17 16 18 (rZ [xM 19 17,xX 20 3 15 17,xA 21 3 20,cO 4 [.str [],cE,cE],xM 3 19,xS 3 4 21] [4] (bE [xA 22 3 4,aM 23 u5 22,d7 24,nQ 25 aR 23 3 24 dD] (xR [bN 26,d7 27,aN 28 iC 26 27,n6 29 bM 28 7,d7 30,nQ 31 aR 29 3 30 dD]))) 32 .add 17 17 32
def c_133_l1:Xu:=nO 40 .lss 39 38 40 2 3 (bE [xM 41 39,b6 41] (l7 [eI 43 1,aJ 44,aN 45 pF 43 44,xM 42 45,bZ 46 42,c9 47 42,bG 46,dO 47] [cW 48,aJ 49,cH 50,nQ 51 aR 48 4 49 (.t 50)] (xR [bN 52,aJ 53,aN 54 iC 52 53,n6 55 bM 54 7,aJ 56,nQ 57 aR 55 4 56 dD]))) 58 .add 39 39 58
def c_133_l2:Xu:=nO 66 .lss 65 64 66 4 5 (bE [xM 67 65,bQ 67] (l7 [eI 69 1,bS 70,aN 71 lU 69 70,xM 68 71,bZ 72 68,c9 73 68,xM 9 72,xM 10 73] [xM 74 10,bS 75,xM 76 9,nQ 77 aR 74 5 75 (.t 76)] (xR [bN 78,bS 79,aN 80 iC 78 79,n6 81 bM 80 7,bS 82,nQ 83 aR 81 5 82 dD]))) 84 .add 65 65 84
def c_133_k3:Xu:=bE [xF 59 5 1,xL 60 59,AQ 61 pG 60 (.c (.func (.func mG) [] [])),dN 61] (iV (xF 62 5 1) 63 62 64 63 65 4 c_133_l2)
def c_133_k4:Xu:=gF [xF 33 4 1,xL 34 33,AQ 35 pE 34 (.c (.func (.func mF) [] [])),dN 35] [xF 36 4 1,xL 37 36,xN 38 37,aY 39] 2 c_133_l1 c_133_k3
def BE:AFn:=⟨1,[],gS [kJ] [dX 11 1,xL 12 11,AQ 13 pD 12 (.c (.func (.func mE) [] [])),dN 13] [dX 14 1,xL 15 14,xN 16 15,aY 17] 0 c_133_l0 c_133_k4⟩
def lD:AFn:=⟨1,[],l7 [kJ] [eI 7 1,aM 8 pH 7,bG 8,bZ 9 6,c9 10 6,xE 11 2 6,dN 9,xM 3 10,aS 11] (l7 [xM 12 4,bN 13,d7 14,nQ 15 aR 12 6 13 (.t 14)] [eI 17 1,aM 18 u6 17,xM 16 18,bZ 19 16,c9 20 16,b6 19,aS 20] (l7 [xM 21 4,aJ 22,nQ 23 aR 21 7 22 dD] [eI 25 1,aM 26 pI 25,xM 24 26,bZ 27 24,c9 28 24,b6 27,aS 28] (IP (xM 29 4) (aJ 30) (nQ 31 aR 29 8 30 dD))))⟩
def dQ:AFn:=⟨2,fR,eA [iT,bV,eK] [aG 7,b7 8 .lss 7,bS 9,bC 10 9 1,bL 11 9 5 2,aO 12 9 11,cV 13 9 12,dU 14 9 .geq 10 13,xW 15 9 14] 15 AK (xQ [xF 16 5 2,xL 17 16,aG 18,xX 19 6 17 18,xA 20 6 19,cO 6 LJ,xS 6 6 20] [6]) (.seq (l8 0 [aK 22 6,xL 23 22,aM 24 eC 23,bY 25 24,xM 21 25] 21 [iM 4,xI 5 6] (mZ [aI 27 6,xL 28 27,xN 29 28,xK 30 .gtr 29 6,xM 31 30,bL 32 31 2 6,aO 33 31 32,cV 34 31 33,dW 35 31 .gtr 34 16,xW 36 31 35,xM 26 36] 26 [iM 4,xI 5 12] (kI [xF 38 5 6,xL 39 38,d9 40 .lss 39,xM 41 40,bL 42 41 5 6,aO 43 41 42,dW 44 41 .gtr 43 256,xW 45 41 44,xM 37 45] 37 (iM 4) 5 9))) (fS (kH [fH 47,xA 48 6 6,aN 49 uA 47 48,xM 46 49,bZ 50 46,c9 51 46,aS 50,b6 51] (aJ 52) 53 .neq 52 53 [xM 54 4,aJ 55,aS 54,b6 55]) (kH [fH 56,xA 57 6 6,aN 58 uB 56 57,b6 58] (aJ 59) 60 .neq 59 60 [aJ 61,xI 4 (-3),b6 61]) (oC bV eK)))⟩
def c_140_l0:Xu:=bF 20 .lss 19 18 20 (jA (xX 21 3 17 19) (xA 22 3 21) (cO 7 wV) (xS 3 7 22) [7] (xR [aJ 23,fH 24,aK 25 7,aW 26 25,aN 27 g0 24 26,xO 28 (.bslice .imm 1 (List.replicate 1 kT) [(0,(.t 27))]),n7 29 1 8 23 28,b6 29])) 30 .add 19 19 30
def c_140_k1:Xu:=yT (aJ 31) 31
def BF:AFn:=⟨2,[.tmp 4],cD [iT,xC 4 a9] (qX LM 11 (xC 4 a9)) (gF [qU 5 1] LD 0 c_140_l0 c_140_k1)⟩
def eW:AFn:=⟨3,[.tmp 6],fE [s7,gU] (l8 0 [d6 10,xL 11 10,bN 12,aN 13 g7 11 12,bY 14 13,xM 15 14,dE 16 15 3,aO 17 15 16,bC 18 15 2,wZ 19 15 g7 [.t 17,.t 18],xH 20 15 19,xW 21 15 20,xM 9 21] 9 [xI 6 9] (mZ [d6 23,xL 24 23,dF 25,xL 26 25,xB 27 .andNot 24 26,n8 28 .neq 27 fG,xM 22 28] 22 [xI 6 5] (yR [aG 30,d9 31 .eql 30,xM 32 31,fL 33 32 1 3,eU 34 32 33,eT 35 32 2,s6 36 32 aT [.t 35],gG 37 32 .neq 34 (.t 36),xV 38 32 37,xM 29 38] 29 (xI 6 11)))) (eP [aG 39,xK 40 .eql 39 2] 40 (P7 [dF 42,xL 43 42,bN 44,aN 45 uC 43 44,xM 41 45,bZ 46 41,c9 47 41,dO 46,bQ 47] (bS 48) (bY 49 48) 49 [xI 6 11])) (eH gU)⟩
def c_142_l0:Xu:=bF 20 .lss 19 18 20 (jA (xX 21 3 17 19) (xA 22 3 21) (cO 7 wV) (xS 3 7 22) [7] (l8 2 [bR 24 7,xL 25 24,xK 26 .eql 25 3,xM 23 26] 23 [xI 4 3] (eP [bR 28 7,xL 29 28,xK 30 .eql 29 2,xM 27 30] 27 (xR [xI 5 2])))) 31 .add 19 19 31
def c_142_k1:Xu:=yT (aJ 32) 32
def sG:AFn:=⟨2,[.tmp 4],cD [iT,bV] (qX LM 11 bV) (gF [xI 5 1] LD 0 c_142_l0 c_142_k1)⟩
def c_143_l0:Xu:=bF 21 .lss 20 19 21 (l6 LU [bS 24,bN 25,xB 26 .eql 24 25] 26 [AU 6]) 27 .add 20 20 27
def c_143_k1:Xu:=eH (bU 6)
def sH:AFn:=⟨3,[.tmp 6],eA AM [kK 9,aG 10,aN 11 pJ 9 10,bY 12 11] 12 [bU 6] (gR [xF 13 5 3,xL 14 13,aG 15,xX 16 6 14 15,bR 17 16,xL 18 17,xN 19 18,aY 20] 0 c_143_l0) c_143_k1⟩
def c_144_l0:Xu:=bF 36 .lss 35 34 36 (l6 [xM 37 35,bJ 38 33 35,xL 39 38,bG 37,dO 39] [cW 40,aJ 41,cH 42,dP 43 41 42,aI 44 43,xL 45 44,aN 46 g7 40 45,bY 47 46] 47 [xI 4 9]) 48 .add 35 35 48
def c_144_k1:Xu:=eH bV
def lE:AFn:=⟨2,[.tmp 4],cD mY (eJ [d6 8,xL 9 8,b7 10 .lss 9,xM 11 10,bL 12 11 0 3,aO 13 11 12,bL 14 11 4 2,aO 15 11 14,cV 16 11 15,dU 17 11 .geq 13 16,xW 18 11 17] 18 4 8) (eA [xF 19 4 2,xL 20 19,d6 21,xL 22 21,xX 23 3 20 22,aI 24 23,xL 25 24,b6 25] [dF 26,xL 27 26,xN 28 27,aJ 29,xN 30 29,xB 31 .neq 28 30] 31 [xI 4 2] (iV (dF 32) 33 32 34 33 35 0 c_144_l0) c_144_k1)⟩
def c_145_l0:Xu:=bF 9 .lss 8 7 9 (l6 AF [aG 11,aE 12,aJ 13,xX 14 5 12 13,xA 15 5 14,wY 16 11 [.t 15]] 16 AG) 18 .add 8 8 18
def c_145_k1:Xu:=eH (iM 4)
def BG:AFn:=⟨2,[.tmp 4],gF [bV] j5 0 c_145_l0 c_145_k1⟩
def c_165_l0:Xu:=rO (s5 [aJ 20,iN 21,xL 22 21,xN 23 22,xB 24 .lss 20 23] 24 0) 1 (yR [iN 27,xL 28 27,aJ 29,dP 30 28 29,aW 31 30,d6 32,xL 33 32,aJ 34,dP 35 33 34,aW 36 35,xO 37 (.eqs true true [.i,.i] (.t 31) (.t 36))] 37 cC) LR
def c_165_k1:Xu:=qY 4
def oD:AFn:=⟨2,[.tmp 4],eA wP [iN 6,xL 7 6,xN 8 7,d6 9,xL 10 9,xN 11 10,xB 12 .neq 8 11,xM 13 12,dE 14 13 2,aO 15 13 14,dE 16 13 3,aO 17 13 16,dU 18 13 .neq 15 17,xW 19 13 18] 19 [cC] (gR [eK] 0 c_165_l0) c_165_k1⟩
def BH:AFn:=⟨2,[.tmp 3],fF AN [aI 4 2,bI 5 4,iU 6,bI 7 6,aN 8 zI 5 7,bS 3]⟩
def sI:AFn:=⟨3,[.tmp 6],eG AD (eJ [kK 7,aG 8,jC 9,xL 10 9,fM 11 p5 7 8 10,bY 12 11] 12 6 8) [kK 13,aW 14 5,aN 15 jL 13 14,bG 15]⟩
def c_168_l0:Xu:=rO (s5 [xM 12 4,aE 13,xN 14 13,xB 15 .lss 12 14] 15 0) 1 (xR [d7 18,aE 19,xM 20 4,bJ 21 19 20,xL 22 21,xO 23 (.minmax true [.t 18,.t 22]),xM 3 23]) (wX (xM 16 4) 17 .add 16 (aS 17))
def c_168_k1:Xu:=yS 24 24
def BI:AFn:=⟨1,[.tmp 2],cD [fO 2] (eP [aE 5,xN 6 5,d9 7 .lss 6] 7 (xR [xO 8 (.mkiface 9 (.c (.str [115,108,105,99,101,115,46,77,97,120,58,32,101,109,112,116,121,32,108,105,115,116]))),⟨none,none,.panic (.t 8)⟩])) (gF [aE 9,xO 10 (rP 1 9 dD),xL 11 10,xM 3 11] [xI 4 1] 0 c_168_l0 c_168_k1)⟩
def sJ:AFn:=⟨1,[.tmp 2],eG [fO 2] (qX [aE 3,xO 4 (.bslice .imm 1 (List.replicate 1 kT) [(0,(.t 3))]),aM 5 eD 4,bY 6 5] 6 (fO 2)) [aE 7,xO 8 (.bin .sub (j9 32) (.t 7)),xO 9 (.bin .shr (.c (EZ 4294967295)) (.t 8)),dN 9]⟩
def c_170_l0:Xu:= .seq (s5 [xM 26 11,b7 27 .geq 26] 27 0) (.block 1 (cD [xM 28 10,xM 29 11,xO 30 (.bslice .imm 1 (List.replicate 1 kT) [(0,(.t 29))]),n7 31 1 8 28 30,xM 10 31] (F0 [fH 32,xF 33 6 2,xL 34 33,xM 35 11,xX 36 7 34 35,xA 37 7 36,bI 38 7,xM 39 9,dM 40 pL [.t 32,.t 37,.t 38,.t 39],xM 12 40] (gQ [xM 41 12,b7 42 .neq 41] 42 [fH 43,dM 44 g9 [.t 43],xM 45 10,xM 46 12,dB 4 44,b6 45,bG 46])) (xD [xF 47 6 2,xL 48 47,xM 49 11,xX 50 7 48 49,xA 51 7 50,bI 52 7,aN 53 uF 51 52,xM 11 53])))
def c_170_k1:Xu:= .seq (gQ [xM 54 11,xK 55 .eql 54 (-2)] 55 [fH 56,dM 57 g9 [.t 56],xM 58 10,dB 4 57,b6 58,xI 6 15]) (cD [xM 60 9,dM 61 mH [.t 60],xM 59 61,bZ 62 59,c9 63 59,xM 13 62,xM 14 63] (gQ [xM 64 14,b7 65 .neq 64] 65 [fH 66,dM 67 g9 [.t 66],xM 68 10,xM 69 14,dB 4 67,b6 68,bG 69]) (fF [xM 70 13,dX 71 7,xS 1 71 70] [bI 72 7,xM 73 10,dB 4 72,b6 73,gU]))
def gX:AFn:=⟨2,[.cell 4 true 4,.tmp 5,.tmp 6],bE [iT,fV 4 a9 a9 a9 a9,xC 5 a9,gU] (cD [fH 15,dM 16 g9 [.t 15],fV 7 a9 a9 a9 a9,dB 7 16] (kH [fH 17,aG 18,aN 19 uE 17 18,bQ 19] (bS 20) 21 .neq 20 21 [bI 22 7,bS 23,dB 4 22,xC 5 a9,bG 23]) (l7 [aG 24,dM 25 pK [.t 24],xM 9 25] [qU 10 1] (cD [aY 11] (Ep 0 c_170_l0) c_170_k1)))⟩
def c_171_l0:Xu:=bF 23 .lss 22 21 23 (bE [bJ 24 20 22,xL 25 24,b6 25] (qV [(1,4),(1,5)] [⟨some 26,none,.faddr 1 (.t 3)⟩,⟨some 27,none,.load false 1 (.t 26)⟩,⟨some 28,none,.mov (.t 5)⟩,⟨some 29,none,.bslice .imm 1 (List.replicate 1 kU) [(0,(.t 28))]⟩,⟨some 30,none,.pcallr iD [.t 29]⟩,⟨some 31,none,.bslice .row 1 (List.replicate 1 kU) [(0,(.t 30))]⟩,⟨some 32,none,.append .row 1 24 (.t 27) (.t 31)⟩,⟨some 33,none,.faddr 1 (.t 3)⟩,⟨none,none,.store 1 (.t 33) (.t 32)⟩] none)) 34 .add 22 22 34
def c_171_k1:Xu:=oC (bI 35 3) (dB 2 35)
def gY:AFn:=⟨1,wT,fE LP (qV [(3,5),(3,9),(7,9),(1,13),(3,13),(5,13),(7,13),(9,13),(11,13)] [⟨some 6,none,.faddr 0 (.t 1)⟩,⟨some 7,none,.load false 1 (.t 6)⟩,⟨some 8,none,.bslice .imm 1 (List.replicate 1 kU) [(0,(.t 7))]⟩,⟨some 9,none,.pcallr jM [.t 8]⟩,⟨some 10,none,.faddr 2 (.t 1)⟩,⟨some 11,none,.load false 1 (.t 10)⟩,⟨some 12,none,.bslice .imm 1 (List.replicate 1 kU) [(0,(.t 11))]⟩,⟨some 13,none,.pcallr iD [.t 12]⟩,⟨some 14,none,.faddr 3 (.t 1)⟩,⟨some 15,none,.load false 1 (.t 14)⟩,⟨some 16,none,.bslice .imm 1 (List.replicate 1 kU) [(0,(.t 15))]⟩,⟨some 17,none,.pcall pM [.t 16]⟩,⟨some 18,none,.build A9 [(0,1,(.t 9)),(2,1,(.t 13)),(3,1,(.t 17))]⟩,⟨some 3,none,.alloc A9⟩,⟨none,none,.store 4 (.t 3) (.t 18)⟩] none) (iV (iU 19) 20 19 21 20 22 0 c_171_l0) c_171_k1⟩
def oE:AFn:=⟨2,[.tmp 4],fE mY (xD [fH 6,d6 7,xL 8 7,aN 9 uH 6 8,dF 10,xL 11 10,aN 12 uG 9 11,xO 13 (.fld false 1 1 (.t 12)),b6 13]) (qX [aJ 14,aM 15 aT 14,n8 16 .eql 15 fG] 16 bV) (yT (aJ 17) 17)⟩
def dR:AFn:=⟨2,fR,cD [fU 2 0,fU 3 1,xC 4 a9,bU 5] (eP [aW 7 3,dF 8,xL 9 8,xO 10 (.build wM [(0,1,GV),(1,1,(.t 9))]),xO 11 (.eqs false true [.i,.i] (.t 7) (.t 10))] 11 (yU [bR 12 2,xL 13 12,bR 14 2,xL 15 14,dF 16,xL 17 16,aN 18 pN 15 17,aS 13,b6 18])) (fF [aI 19 2,xL 20 19,d6 21,xL 22 21,dM 23 jN [.t 20,.t 22],bG 23] [cH 24,iN 25,xL 26 25,d6 27,xL 28 27,aN 29 uI 26 28,xM 30 29,eT 31 30 6,fL 32 30 1 3,eU 33 30 32,s6 34 30 pN [.t 31,.t 33],xV 35 30 34,aS 24,b6 35])⟩
def c_176_l0:Xu:=bF 9 .lss 8 7 9 (jA (xX 10 5 6 8) (xA 11 5 10) (cO 5 GR) (xS 5 5 11) [5] (qV [(0,4)] [⟨some 12,none,.load true 2 (.t 2)⟩,⟨some 13,none,.load true 5 (.t 5)⟩,⟨some 14,none,.pcall uJ [.t 13]⟩,⟨some 15,none,.load true 2 (.t 2)⟩,⟨some 16,none,.tinvoke [(413,qM),(414,qN),(415,vY),(417,K0)] (.t 14) [.t 15]⟩,⟨some 17,none,.tcall iB [.t 12,.t 16]⟩] none)) 18 .add 8 8 18
def oF:AFn:=⟨2,[],bE [fU 2 0] (gR [aG 6,xN 7 6,aY 8] 0 c_176_l0)⟩
def c_177_l0:Xu:=bF 15 .lss 14 13 15 (bE [xM 16 14,bJ 17 12 14,xL 18 17,bQ 16,xM 9 18] (xD [cW 19,bI 20 5,xF 21 5 3,xL 22 21,aG 23,xX 24 6 22 23,aI 25 24,xL 26 25,bS 27,xX 28 3 26 27,aK 29 28,aW 30 29,aN 31 jO 20 30,xM 32 9,aM 33 aT 32,xB 34 .and 31 33,xO 35 (.bslice .imm 1 (List.replicate 1 rL) [(0,(.t 34))]),n7 36 1 4 19 35,dO 36])) 37 .add 14 14 37
def c_177_k1:Xu:=oC (cW 38) (bG 38)
def sK:AFn:=⟨3,[.tmp 6],gS [s7,xJ 5 2,xC 6 a9] [qU 7 1] [kK 10,aG 11,aN 12 lW 10 11,xN 13 12,aY 14] 0 c_177_l0 c_177_k1⟩
def sL:AFn:=⟨4,[.cell 8 true 5,.tmp 9],eA [fU 4 0,fU 5 1,fU 6 2,fU 7 3,cO 8 iZ,bU 9] [xL 13 5,b7 14 .lss 13,xM 15 14,aO 16 15 5,bL 17 15 5 4,aO 18 15 17,cV 19 15 18,dU 20 15 .geq 16 19,xW 21 15 20] 21 [xO 22 (.build A6 []),xS 5 8 22,bU 9] (xQ [xO 23 (.mkfunc (.func cG) [] [.t 7]),cO 10 [.nilfunc],xS 1 10 23] [10]) (rZ [xL 25 6,xO 26 (.mkfunc (.func mI) [] [.t 10,.t 6,.t 4,.t 5]),dM 27 jQ [.t 25,.t 26],xM 24 27,bZ 28 24,c9 29 24,cO 11 iZ,xS 5 11 28,xM 12 29] [11] (dL [xA 30 5 11,aM 31 pP 30,xM 32 12,xS 5 8 31,xM 9 32]))⟩
def c_179_l0:Xu:=bF 68 .lss 67 66 68 (jA (xX 69 7 65 67) (xA 70 7 69) (cO 15 LN) (xS 7 15 70) [15] (cD [xC 16 (.func (.func pR) [] [])] (wW [aK 71 15,xL 72 71] 2 (j6 [xK 74 .eql 72 2,xM 73 74] 73 (xR [xC 16 (.func (.func pS) [] [])]) (j6 [xK 76 .eql 72 3,xM 75 76] 75 (xR [xC 16 (.func (.func pT) [] [])]) (j6 [xK 78 .eql 72 4,xM 77 78] 77 (xR [xC 16 (.func (.func pU) [] [])]) (eP [xK 80 .eql 72 5,xM 79 80] 79 (xR [xC 16 (.func (.func pV) [] [])])))))) (xR [xM 81 16,xM 82 10,xA 83 7 15,xO 84 (.tcallv (.t 81) [.t 82,.t 83])]))) 85 .add 67 67 85
def c_179_k1:Xu:= .seq (qV [(7,8)] [⟨some 86,none,.mov (.t 10)⟩,⟨some 87,none,.nilchk (.t 86)⟩,⟨some 88,none,.faddr 11 (.t 87)⟩,⟨some 89,none,.load true 4 (.t 88)⟩,⟨some 90,none,.mov (.t 10)⟩,⟨some 91,none,.nilchk (.t 90)⟩,⟨some 92,none,.faddr 15 (.t 91)⟩,⟨some 93,none,.load false 1 (.t 92)⟩,⟨none,none,.store 4 (.t 8) (.t 89)⟩,⟨some 9,none,.mov (.t 93)⟩] none) .ret
def jE:AFn:=⟨4,[.cell 8 true 4,.tmp 9],bE [rN 4,xP 5,xJ 6 2,fV 8 a9 a9 a9 a9,xC 9 a9] (fE [bI 17 6,aM 18 cR 17,d7 19,aM 20 pQ 19,xO 21 (.build [.str [],.Xt 2 [],.Xt 2 [],.Xt 3 [],.Xt 3 [],.Xt 6 [],.Xt 7 [],.Xt 5 [],.Xt 1 [],.Xt 2 [],.Xt 1 [],.Xt 1 [],.Xt 1 [],.Xt 1 [],.Xt 1 [],.Xt 1 []] [(11,4,(.t 18)),(15,1,(.t 20))]),fU 22 21,xM 10 22] (bE [eI 24 4,jC 25,xL 26 25,aN 27 pF 24 26,xM 23 27,bZ 28 23,c9 29 23,xM 11 28,xM 12 29] (eP [xM 30 12,b7 31 .neq 30,xM 32 31,cZ 33 32 (nP 9 4),cZ 34 32 (nP 2 5),wZ 35 32 jL [.t 33,.t 34],dW 36 32 .neq 35 0,xW 37 32 36] 37 (.seq (qV [(7,8)] [⟨some 38,none,.mov (.t 10)⟩,⟨some 39,none,.nilchk (.t 38)⟩,⟨some 40,none,.faddr 11 (.t 39)⟩,⟨some 41,none,.load true 4 (.t 40)⟩,⟨some 42,none,.mov (.t 10)⟩,⟨some 43,none,.nilchk (.t 42)⟩,⟨some 44,none,.faddr 15 (.t 43)⟩,⟨some 45,none,.load false 1 (.t 44)⟩,⟨none,none,.store 4 (.t 8) (.t 41)⟩,⟨some 9,none,.mov (.t 45)⟩] none) .ret))) (xQ [xF 46 4 4,xL 47 46,jC 48,xL 49 48,xX 50 3 47 49,xA 51 3 50,cO 13 GT,xS 3 13 51] [13]) (gS [xM 52 10,eI 53 4,aI 54 13,xL 55 54,xO 56 (.build rJ [(0,9,(.t 53)),(9,1,(.t 55))]),b8 57 52,aK 58 57,xS 10 58 56] [xM 59 10,aI 60 5,xL 61 60,b8 62 59,xF 63 10 62,xS 1 63 61] [bR 64 13,xL 65 64,xN 66 65,aY 67] 0 c_179_l0 c_179_k1))⟩
def sO:AFn:=⟨4,[.tmp 8],cD [xP 5,xJ 6 2,fO 8] (kH [aE 13,xA 14 10 5,aN 15 jR 13 14,xM 12 15,bZ 16 12,c9 17 12,xM 9 16,xM 10 17] (xM 18 10) 19 .neq 18 19 [fO 8]) (fF [xA 20 10 5,bI 21 6,d7 22,aE 23,xO 24 (.build [.str [],.Xt 2 [],.Xt 2 [],.Xt 3 [],.Xt 3 [],.Xt 6 [],.Xt 7 [],.Xt 5 [],.Xt 1 [],.Xt 2 [],.Xt 1 [],.Xt 1 [],.Xt 1 [],.Xt 1 [],.Xt 1 [],.Xt 3 [],.int .i64 0] [(0,10,(.t 20)),(10,4,(.t 21)),(14,1,(.t 22)),(15,1,(.t 23))]),cO 11 [.str [],.Xt 2 [],.Xt 2 [],.Xt 3 [],.Xt 3 [],.Xt 6 [],.Xt 7 [],.Xt 5 [],.Xt 1 [],.Xt 2 [],.Xt 1 [],.Xt 1 [],.Xt 1 [],.Xt 1 [],.Xt 1 [],.Xt 3 [],cE],xS 17 11 24] [dM 25 dT [.t 11],xO 26 (.fld false 0 1 (.t 25)),bQ 26])⟩
def BJ:AFn:=⟨2,[.tmp 4],gH (fO 4) [aE 5,b8 6 5,aK 7 6,aK 8 7,bI 9 8,aG 10,xO 11 (.build wM [(0,1,GV),(1,1,(.t 10))]),aN 12 jO 9 11,aS 12]⟩
def BK:AFn:=⟨2,[.tmp 4],fF mY [fH 5,bI 6 3,aN 7 mA 5 6,xN 8 7,aS 8]⟩
def c_183_l0:Xu:=bF 21 .lss 20 19 21 (bE LU (IP (cH 24) (bS 25) (xO 26 (.tcallv (.t 24) [.t 25])))) 27 .add 20 20 27
def c_183_k1:Xu:=fF [xL 29 5,dM 30 jS [.t 29],xM 28 30,bZ 31 28,c9 32 28,xM 9 31,xM 10 32] [xM 33 9,dX 34 3,xL 35 34,n7 36 1 1 33 35,aS 36]
def sP:AFn:=⟨2,[.tmp 4],eA [iT,xT,xC 4 a9] [fH 11,bI 12 3,aN 13 uM 11 12,bY 14 13] 14 o9 (xQ [dM 15 mJ [],cO 5 [.nilptr],xS 1 5 15] [5]) (gF [xO 16 (.mkfunc (.func pW) [] [.t 3,.t 2,.t 5]),bG 16] [xF 17 8 2,xL 18 17,xN 19 18,aY 20] 0 c_183_l0 c_183_k1)⟩
def sQ:AFn:=⟨4,[],eP [aE 8,b7 9 .neq 8] 9 (xR [aE 10,aG 11,bN 12,d7 13,xO 14 (.build rK [(0,1,(.t 10)),(1,1,(.t 11)),(2,1,(.t 12)),(3,1,(.t 13))]),xO 15 (.build rK [(0,4,(.t 14))]),xO 16 (.mkiface 225 (.t 15)),⟨none,none,.panic (.t 16)⟩])⟩
def BL:AFn:=⟨2,[.tmp 4],eG [bV] (nM [aE 5] 5 (aG 6) (aS 6)) [bV]⟩
def BM:AFn:=⟨1,[.tmp 2],gH (bU 2) [aE 3,aM 4 eC 3,bY 5 4,aJ 2]⟩
def c_206_l0:Xu:=bF 11 .lss 10 9 11 (jA (dP 12 8 10) (aW 13 12) (qW 7 (.str []) eO) (bO 7 13) [7] LC) 20 .add 10 10 20
def c_206_k1:Xu:=yT (aJ 21) 21
def BN:AFn:=⟨2,[.tmp 4],gS o9 [qU 5 1] wR 0 c_206_l0 c_206_k1⟩
def BO:AFn:=⟨1,[.tmp 2],fF wS wO⟩
def c_208_l0:Xu:=nO 48 .lss 47 46 48 3 4 (bE [dP 49 45 47,aW 50 49,gT 6 (.str []),bO 6 50] (l6 [aI 51 4,xL 52 51,aI 53 6,xS 1 53 52] [aW 54 6,aW 55 4,xO 56 (.eqs false true [.s,.i] (.t 54) (.t 55))] 56 [xI 2 7])) 57 .add 47 47 57
def c_208_k1:Xu:=xR [d9 58 .add 25,xM 25 58]
def c_208_l2:Xu:=Eo [xB 26 .lss 25 24] 26 1 2 (rZ [xM 27 25,dP 28 23 25,aW 29 28,gT 4 (.str []),xM 3 27,bO 4 29] [4] (fS (eJ [aK 30 4,xL 31 30,aM 32 eC 31,bY 33 32] 33 2 6) (eJ [aI 34 4,xL 35 34,d9 36 .lss 35,xM 37 36,dE 38 37 4,aO 39 37 38,dW 40 37 .gtr 39 32,xW 41 37 40] 41 2 10) (gR [iU 42,xL 43 42,d7 44,xO 45 (.slc 2 (.t 43) none (some (.t 44)) none),xN 46 45,aY 47] 3 c_208_l0))) c_208_k1
def c_208_k3:Xu:= .seq (eJ [aW 59 1,aM 60 jT 59,aM 61 mK 60,xK 62 .rem 61 8,b7 63 .neq 62] 63 2 10) (eH fW)
def lG:AFn:=⟨1,[.tmp 2],fE [kJ,fW] (l8 0 [aK 8 1,xL 9 8,aM 10 eC 9,bY 11 10,dO 11] 7 [xI 2 6] (mZ [iU 13,xL 14 13,xN 15 14,b7 16 .eql 15,xM 12 16] 12 [xI 2 8] (eJ [iU 18,xL 19 18,xN 20 19,xK 21 .gtr 20 12,xM 17 21] 17 2 12))) (iV (iU 22) 23 22 24 23 25 1 c_208_l2) c_208_k3⟩
def BP:AFn:=⟨2,[.tmp 4],cD [cC] (xD [aE 5,aG 6,xO 7 (.slc 1 (.t 5) none (some (.t 6)) none),aE 8,aG 9,bJ 10 8 9,xL 11 10,aN 12 pY 7 11,aS 12]) .ret⟩
def c_210_l0:Xu:=bF 11 .lss 10 9 11 (jA (dP 12 8 10) (aW 13 12) (gT 7 (.str [])) (bO 7 13) [7] LC) 20 .add 10 10 20
def c_210_k1:Xu:=yT (aJ 21) 21
def BQ:AFn:=⟨2,[.tmp 4],gS o9 [qU 5 1] wR 0 c_210_l0 c_210_k1⟩
def BR:AFn:=⟨1,[.tmp 2],fF wS wO⟩
def BS:AFn:=⟨1,[.tmp 2],gH (bU 2) [aE 3,d9 4 .lss 3,b6 4,bC 6 5 0,dW 7 5 .gtr 6 32,xW 8 5 7,bS 2]⟩
def c_213_l0:Xu:=bF 11 .lss 10 9 11 (jA (xX 12 3 8 10) (xA 13 3 12) (cO 7 [.str [],cE,cE]) (xS 3 7 13) [7] LB) 20 .add 10 10 20
def c_213_k1:Xu:=yT (aJ 21) 21
def BT:AFn:=⟨2,[.tmp 4],gS o9 [qU 5 1] wR 0 c_213_l0 c_213_k1⟩
def BU:AFn:=⟨1,[.tmp 2],fF wS wO⟩
def jF:AFn:=⟨1,[.tmp 2],eG [kJ,fW] (l8 0 [aK 4 1,xL 5 4,aM 6 eC 5,bY 7 6,cW 3] 3 [xI 2 6] (mZ [iU 9,xL 10 9,aM 11 aT 10,n8 12 .eql 11 fG,bQ 12] 8 [xI 2 10] (eJ [xA 14 3 1,aM 15 u9 14,bY 16 15,xM 13 16] 13 2 9))) [fW]⟩
def c_216_l0:Xu:=bF 11 .lss 10 9 11 (jA (xX 12 3 8 10) (xA 13 3 12) (cO 7 GT) (xS 3 7 13) [7] LB) 20 .add 10 10 20
def c_216_k1:Xu:=yT (aJ 21) 21
def BV:AFn:=⟨2,[.tmp 4],gS o9 [qU 5 1] wR 0 c_216_l0 c_216_k1⟩
def BW:AFn:=⟨1,[.tmp 2],fF wS wO⟩
def c_218_l0:Xu:=bF 38 .lss 37 36 38 (rZ [xM 39 37,xX 40 7 35 37,xA 41 7 40,cO 9 LN,bQ 39,xS 7 9 41] [9] (kH [xA 42 10 7,xA 43 7 9,aN 44 uO 42 43,b6 44] (aJ 45) 46 .neq 45 46 [bS 47,aJ 48,aS 47,b6 48])) 49 .add 37 37 49
def c_218_k1:Xu:=oC bV eK
def lH:AFn:=⟨2,fR,eA [iT,bV,eK] [aG 10,b7 11 .lss 10,xM 12 11,bC 13 12 1,bL 14 12 4 2,aO 15 12 14,cV 16 12 15,dU 17 12 .geq 13 16,xW 18 12 17] 18 AK (xQ [xF 19 4 2,xL 20 19,aG 21,xX 22 3 20 21,xA 23 3 22,cO 6 GT,xS 3 6 23] [6]) (.seq (kH [xA 24 3 6,aM 25 uN 24,b6 25] (aJ 26) 27 .neq 26 27 [aJ 28,iM 4,b6 28]) (fS (xQ [fH 29,aI 30 6,xL 31 30,xO 32 (.build rJ [(0,9,(.t 29)),(9,1,(.t 31))]),xO 33 (.build rJ [(0,10,(.t 32))]),cO 7 rJ,xS 10 7 33] [7]) (iV (bR 34 6) 35 34 36 35 37 0 c_218_l0) c_218_k1))⟩
def c_219_l0:Xu:=bF 11 .lss 10 9 11 (jA (xX 12 6 8 10) (xA 13 6 12) (cO 7 LJ) (xS 6 7 13) [7] (xR [aJ 14,aG 15,xA 16 6 7,wY 17 15 [.t 16],xO 18 GN,n7 19 1 16 14 18,b6 19])) 20 .add 10 10 20
def c_219_k1:Xu:=yT (aJ 21) 21
def BZ:AFn:=⟨2,[.tmp 4],gS o9 [qU 5 1] wR 0 c_219_l0 c_219_k1⟩
def C0:AFn:=⟨1,[.tmp 2],fF wS wO⟩
def c_221_l0:Xu:=nO 25 .lss 24 23 25 1 2 (fS (xQ [xM 26 24,xX 27 7 22 24,xA 28 7 27,cO 7 LL,bG 26,xS 7 7 28] [7]) (l8 3 [aK 30 7,xL 31 30,aM 32 eC 31,bY 33 32,xM 29 33] 29 [cH 34,dN 34,iM 3,xI 4 6] (gQ [aJ 36,aK 37 7,xL 38 37,xO 39 (.lookup .s (.bool false) false (.t 36) (.t 38)),xM 35 39] 35 [cH 40,dN 40,iM 3,xI 4 7])) (bE [aJ 41,aK 42 7,xL 43 42,⟨none,none,.update .s (.t 41) (.t 43) kS⟩] (kH [eI 45 1,cH 46,aN 47 uP 45 46,xM 44 47,bZ 48 44,c9 49 44,bQ 48,xM 9 49] (xM 50 9) 51 .neq 50 51 [cH 52,bS 53,xM 54 9,dN 52,xM 3 53,aS 54]))) 55 .add 24 24 55
def c_221_k1:Xu:=dL [fW,aY 3,bV]
def oG:AFn:=⟨1,[.tmp 2,.tmp 3,.tmp 4],cD [kJ,fW,aY 3,bV] (l8 0 [xF 11 6 1,xL 12 11,xN 13 12,b7 14 .eql 13,xM 10 14] 10 [iM 2,iM 3,xI 4 8] (gQ [xF 16 6 1,xL 17 16,xN 18 17,xK 19 .gtr 18 12,xM 15 19] 15 [iM 2,iM 3,xI 4 12])) (gF [xO 20 .mkmap,b6 20] [xF 21 6 1,xL 22 21,xN 23 22,aY 24] 1 c_221_l0 c_221_k1)⟩
def gZ:AFn:=⟨1,[.tmp 2,.cell 3 false 1],eA [kJ,fW,cO 3 [cE]] [xF 6 7 1,xL 7 6,aM 8 uQ 7,xK 9 .gtr 8 24] 9 [iM 2,⟨none,none,.store 1 (.t 3) (.c (.int .i64 12))⟩] (nM [xF 10 7 1,xL 11 10,aM 12 mL 11,xK 13 .gtr 12 6] 13 (iM 2) ⟨none,none,.store 1 (.t 3) (.c (.int .i64 14))⟩) (l7 [cO 4 [cE],⟨none,none,.store 1 (.t 4) (.c mX)⟩] [cO 5 kU] (eG [xF 14 7 1,xL 15 14,xO 16 (.mkfunc (.func pZ) [] [.t 1,.t 5,.t 3,.t 4]),dM 17 f9 [.t 15,.t 16]] (eP [xL 18 3,b7 19 .neq 18] 19 (yU [xL 20 4,xL 21 3,dN 20,xS 1 3 21])) [fW,⟨none,none,.store 1 (.t 3) (.c mX)⟩]))⟩
def c_223_l0:Xu:=bF 14 .lss 13 12 14 (bE [xM 15 13,bJ 16 11 13,xL 17 16,aS 15,b6 17] (l8 2 [aJ 19,b7 20 .lss 19,xM 21 20,bC 22 21 5,dE 23 21 1,aO 24 21 23,cV 25 21 24,dU 26 21 .geq 22 25,xW 27 21 26,xM 18 27] 18 [xM 28 4,dN 28,xI 3 8] (gQ [xF 30 8 1,xL 31 30,xM 32 4,xO 33 (.slc 1 (.t 31) none (some (.t 32)) none),aJ 34,aN 35 uT 33 34,xM 29 35] 29 [xM 36 4,dN 36,xI 3 7]))) 37 .add 13 13 37
def c_223_k1:Xu:=oC fW (aY 3)
def sR:AFn:=⟨1,AJ,eA [kJ,fW,aY 3] [xF 6 8 1,xL 7 6,xN 8 7,xK 9 .gtr 8 8] 9 [iM 2,xI 3 12] (iV (xF 10 8 1) 11 10 12 11 13 0 c_223_l0) c_223_k1⟩
def C1:AFn:=⟨1,[.tmp 2],fF [kJ,bU 2] [bR 3 1,xL 4 3,d9 5 .geq 4,aJ 6,fL 7 6 2 1,eU 8 6 7,gG 9 6 .leq 8 (j9 64),xV 10 6 9,dN 10]⟩
def lI:AFn:=⟨1,[.tmp 2],eG [bU 2] (qX [aE 3,xO 4 (.slen (.t 3)),b7 5 .eql 4,aJ 6,bC 7 6 0,cZ 8 6 (.slen (.t 7)),dW 9 6 .gtr 8 16,xW 10 6 9,xM 11 10,bC 12 11 0,cZ 13 11 (.idxs (.t 12) dD),wZ 14 11 q6 [.t 13],xH 15 11 14,xW 16 11 15] 16 (bU 2)) [aE 17,AQ 18 uU 17 (.c (.func (.func mM) [] [])),aE 19,xO 20 (.slen (.t 19)),xB 21 .eql 18 20,dN 21]⟩
def c_238_l0:Xu:=bF 15 .lss 14 13 15 (rZ [xM 16 14,xX 17 3 12 14,xA 18 3 17,cO 9 wV,bQ 16,xS 3 9 18] [9] (eA [fH 19,aK 20 9,aW 21 20,aN 22 g0 19 21,xM 10 22] [xM 23 10,b7 24 .eql 23] 24 [bS 25,aS 25,xI 5 8] (wW [bR 26 9,xL 27 26] 2 (j6 [xK 30 .eql 27 2,xM 29 30] 29 (wX (cH 31) 32 .add 31 (bG 32)) (.seq (kV [d9 34 .eql 27,xM 33 34] 33 (xR [xK 35 .eql 27 3,xM 33 35])) (yQ 33 .skip (dL [bS 28,aS 28,xI 5 11]))))) (xR [cW 36,xM 37 10,xB 38 .add 36 37,dO 38]))) 39 .add 14 14 39
def c_238_k1:Xu:=fS (kI [cH 40,d9 41 .gtr 40] 41 (xI 4 (-2)) 5 7) (kI [cW 42,xK 43 .gtr 42 64] 43 (xI 4 (-2)) 5 10) (oC bV eK)
def C2:AFn:=⟨2,fR,gS GX [gU,aY 7] [dF 11,xL 12 11,xN 13 12,aY 14] 0 c_238_l0 c_238_k1⟩
def c_239_l0:Xu:=bF 13 .lss 12 11 13 (eA [bJ 14 10 12,xL 15 14,dO 15] [cW 16,b7 17 .lss 16,xM 18 17,bC 19 18 7,bL 20 18 4 2,aO 21 18 20,cV 22 18 21,dU 23 18 .geq 19 22,xW 24 18 23] 24 [xI 4 8] (eJ [aJ 25,cW 26,xO 27 (.lookup .i (.bool false) false (.t 25) (.t 26))] 27 4 7) (IP (aJ 28) (cW 29) ⟨none,none,.update .i (.t 28) (.t 29) kS⟩)) 30 .add 12 12 30
def c_239_k1:Xu:= .seq (eJ [aJ 31,dX 32 3,aK 33 32,xL 34 33,xO 35 (.lookup .i (.bool false) false (.t 31) (.t 34)),bY 36 35] 36 4 8) (dL [fH 37,dX 38 3,aW 39 38,aN 40 jL 37 39,aS 40])
def C3:AFn:=⟨2,[.tmp 4],gS mY [xO 8 .mkmap,b6 8] [bR 9 3,xL 10 9,xN 11 10,aY 12] 0 c_239_l0 c_239_k1⟩
def C4:AFn:=⟨2,[.tmp 4],bE [iT,cC] (fF [fH 8,aG 9,aN 10 lU 8 9,dO 10,bZ 11 7,c9 12 7,b6 11,bG 12] [cH 13,b7 14 .eql 13,aS 14])⟩
def sS:AFn:=⟨2,[.tmp 4],gH cC [aG 5,xO 6 LG,aM 7 eD 6,bQ 7,eT 9 8 0,eT 10 8 1,s6 11 8 aT [.t 10],gG 12 8 .leq 9 (.t 11),xV 13 8 12,aS 13]⟩
def c_242_l0:Xu:=bF 14 .lss 13 12 14 (l6 [xM 15 13,bG 15] [cH 16,aG 17,aN 18 uW 16 17,aE 19,xB 20 .eql 18 19] 20 [cH 21,aS 21,AU 5]) 22 .add 13 13 22
def c_242_k1:Xu:=oC bV (bU 5)
def sT:AFn:=⟨2,fR,eA [bV,bU 5] [aG 7,xO 8 LH,aM 9 eD 8,bY 10 9] 10 [bV,bU 5] (gR [aG 11,d9 12 .add 11,aY 13] 0 c_242_l0) c_242_k1⟩
def c_263_l0:Xu:=bF 8 .lss 7 6 8 (l6 [bJ 9 5 7,xL 10 9,aS 10] [xM 11 4,d9 12 .lss 11,xM 13 12,bC 14 13 4,dW 15 13 .gtr 14 32,xW 16 13 15] 16 [bU 2]) 17 .add 7 7 17
def c_263_k1:Xu:=qY 2
def jG:AFn:=⟨1,[.tmp 2],gF [bU 2] [aE 5,xN 6 5,aY 7] 0 c_263_l0 c_263_k1⟩
def c_264_l0:Xu:=bF 22 .lss 21 20 22 (bE [xM 23 21,aS 23] (qV [(1,10)] [⟨some 24,none,.faddr 1 (.t 3)⟩,⟨some 25,none,.load false 1 (.t 24)⟩,⟨some 26,none,.mov (.t 4)⟩,⟨some 27,none,.faddr 1 (.t 1)⟩,⟨some 28,none,.load false 1 (.t 27)⟩,⟨some 29,none,.mov (.t 4)⟩,⟨some 30,none,.iaddr 2 none (.t 28) (.t 29)⟩,⟨some 31,none,.faddr 1 (.t 30)⟩,⟨some 32,none,.load false 1 (.t 31)⟩,⟨some 33,none,.len (.t 32)⟩,⟨some 34,none,.mkslice .row 1 4 rL (.t 33) (.t 33)⟩,⟨some 35,none,.iaddr 1 none (.t 25) (.t 26)⟩,⟨none,none,.store 1 (.t 35) (.t 34)⟩] none)) 36 .add 21 21 36
def c_264_k1:Xu:=oC (bI 37 3) (dB 2 37)
def oH:AFn:=⟨1,wT,fE LP (qV [(3,5),(1,7),(3,7),(3,9),(7,9),(1,11),(3,11),(5,11),(7,11),(1,13),(3,13),(5,13),(7,13),(9,13),(11,13)] [⟨some 5,none,.faddr 1 (.t 1)⟩,⟨some 6,none,.load false 1 (.t 5)⟩,⟨some 7,none,.len (.t 6)⟩,⟨some 8,none,.mkslice .row 1 1 [.bool false] (.t 7) (.t 7)⟩,⟨some 9,none,.faddr 1 (.t 1)⟩,⟨some 10,none,.load false 1 (.t 9)⟩,⟨some 11,none,.len (.t 10)⟩,⟨some 12,none,.mkslice .row 1 24 kU (.t 11) (.t 11)⟩,⟨some 13,none,.faddr 2 (.t 1)⟩,⟨some 14,none,.load false 1 (.t 13)⟩,⟨some 15,none,.len (.t 14)⟩,⟨some 16,none,.mkslice .row 1 4 rL (.t 15) (.t 15)⟩,⟨some 17,none,.build A9 [(0,1,(.t 8)),(1,1,(.t 12)),(2,1,(.t 16))]⟩,⟨some 3,none,.alloc A9⟩,⟨none,none,.store 4 (.t 3) (.t 17)⟩] (some [3])) (iV (iU 18) 19 18 20 19 21 0 c_264_l0) c_264_k1⟩
def c_265_l0:Xu:=bF 22 .lss 21 20 22 (jA (dP 23 19 21) (aW 24 23) (qW 9 (.str []) eO) (bO 9 24) [9] (eJ [aW 25 9,aM 26 g6 25,b7 27 .neq 26] 27 4 2)) 28 .add 21 21 28
def c_265_k1:Xu:= .seq (eJ [aG 29,xN 30 29,xK 31 .gtr 30 512] 31 4 4) (eH bV)
def C5:AFn:=⟨2,[.tmp 4],fE [iT,bV] (kH [fH 11,aM 12 pH 11,xM 10 12,bZ 13 10,c9 14 10,xE 15 2 10,b6 13,bG 14,dO 15] (cW 16) 17 .neq 16 17 [xI 4 2]) (iV (aI 18 2) 19 18 20 19 21 0 c_265_l0) c_265_k1⟩
def C6:AFn:=⟨1,[.tmp 2],gH (xC 2 .nilptr) [aE 3,P6 4 1 1 (.c a9) 3,xO 5 (.build LS [(0,1,(.t 4)),(2,1,kS)]),fU 6 5,dN 6]⟩
def c_267_l0:Xu:=bF 17 .lss 16 15 17 (bE [bJ 18 14 16,xL 19 18,xM 10 19] (cD [aI 21 4,xL 22 21,xM 23 10,dP 24 22 23,aW 25 24,d7 26,dM 27 jV [.t 25,.t 26],xM 20 27,bZ 28 20,c9 29 20,xM 11 28,xM 12 29] (nM [xM 30 12,b7 31 .neq 30] 31 (xM 32 12) (bQ 32)) (qV [(4,8)] [⟨some 33,none,.faddr 0 (.t 6)⟩,⟨some 34,none,.load false 1 (.t 33)⟩,⟨some 35,none,.mov (.t 10)⟩,⟨some 36,none,.faddr 1 (.t 6)⟩,⟨some 37,none,.load false 1 (.t 36)⟩,⟨some 38,none,.mov (.t 10)⟩,⟨some 39,none,.mov (.t 11)⟩,⟨some 40,none,.iaddr 1 none (.t 34) (.t 35)⟩,⟨none,none,.store 1 (.t 40) kS⟩,⟨some 41,none,.iaddr 1 none (.t 37) (.t 38)⟩,⟨none,none,.store 1 (.t 41) (.t 39)⟩] none))) 42 .add 16 16 42
def c_267_k1:Xu:=eH (aY 8)
def oI:AFn:=⟨4,[.tmp 8],gF [fU 4 0,fU 5 1,fU 6 2,aY 8] [aI 13 5,xL 14 13,xN 15 14,aY 16] 0 c_267_l0 c_267_k1⟩
def c_268_l0:Xu:=bF 18 .lss 17 16 18 (jA (xX 19 3 15 17) (xA 20 3 19) (cO 7 [fG,fG,cE]) (xS 3 7 20) [7] (gQ [aJ 21,aK 22 7,xL 23 22,xB 24 .xor 21 23,aI 25 7,xL 26 25,xB 27 .and 24 26,n8 28 .eql 27 fG] 28 [bR 29 7,xL 30 29,aS 30])) 31 .add 17 17 31
def c_268_k1:Xu:=dL [xF 32 6 2,xL 33 32,aS 33]
def sW:AFn:=⟨2,[.tmp 4],cD mY (eP [bR 8 2,xL 9 8] 9 (bE [bI 10 3,dX 11 2,aW 12 11,aN 13 jO 10 12,b6 13] (iV (xF 14 5 2) 15 14 16 15 17 0 c_268_l0))) c_268_k1⟩
def sX:AFn:=⟨1,AJ,eA [xC 2 a9,aY 3] [aE 4,aM 5 mN 4,bY 6 5] 6 [xC 2 a9,xI 3 1] (kI [aE 7,b8 8 7,aI 9 8,xL 10 9,xK 11 .rem 10 8,b7 12 .neq 11] 12 (xC 2 a9) 3 10) (yU [aE 13,b8 14 13,aK 15 14,xL 16 15,aE 17,b8 18 17,aI 19 18,xL 20 19,xK 21 .quo 20 8,xO 22 (.slc 1 (.t 16) (some (.t 21)) none none),P6 23 1 1 (.c a9) 22,dN 23,aY 3])⟩
def c_270_l0:Xu:=bF 9 .lss 8 7 9 (bE wL (xR [d7 12,aJ 13,P5 14 .row 1 1 (.t 12) 13,xM 3 14])) 15 .add 8 8 15
def c_270_k1:Xu:=yS 16 16
def oJ:AFn:=⟨1,[.tmp 2],gS rM [xC 3 a9] j5 0 c_270_l0 c_270_k1⟩
def c_271_l0:Xu:=bF 9 .lss 8 7 9 (bE wL (xR [d7 12,aJ 13,P5 14 .row 1 4 (.t 12) 13,xM 3 14])) 15 .add 8 8 15
def c_271_k1:Xu:=yS 16 16
def oK:AFn:=⟨1,[.tmp 2],gS rM [xC 3 a9] j5 0 c_271_l0 c_271_k1⟩
def c_272_l0:Xu:=bF 9 .lss 8 7 9 (bE wL (xR [d7 12,aJ 13,n7 14 1 1 12 13,xM 3 14])) 15 .add 8 8 15
def c_272_k1:Xu:=yS 16 16
def C7:AFn:=⟨1,[.tmp 2],gS rM [qU 3 1] j5 0 c_272_l0 c_272_k1⟩
def oL:AFn:=⟨2,AE,bE [gT 4 (.str [])] (eG [gT 5 (.str [])] LQ LI)⟩
def oM:AFn:=⟨2,[.tmp 4],eG [iT,xC 4 eO] (gQ [aG 5,xK 6 .eql 5 (-1)] 6 [bR 7 2,xL 8 7,aS 8]) [aI 9 2,xL 10 9,aG 11,aN 12 uX 10 11,xO 13 (.fld false 1 1 (.t 12)),aS 13]⟩
def sY:AFn:=⟨2,[.tmp 4],gH cC GO⟩
def cA:AFn:=⟨2,[.tmp 4],bE o9 (eG [xC 5 a9] LT LK)⟩
def oN:AFn:=⟨2,[.tmp 4],bE [cC] (eG [bU 5] LT LK)⟩
def lJ:AFn:=⟨1,[.tmp 2],eG [kJ,xC 2 .niliface] (bE [aK 3 1,xL 4 3] (l8 0 [d9 6 .eql 4,b6 6] 5 [xA 7 5 1,xO 8 (.build GP [(0,5,(.t 7))]),xO 9 (.mkiface 413 (.t 8)),dN 9] (mZ [xK 11 .eql 4 3,xM 10 11] 10 [xA 12 5 1,xO 13 (.build GP [(0,5,(.t 12))]),xO 14 (.mkiface 414 (.t 13)),dN 14] (gQ [xK 16 .eql 4 2,xM 15 16] 15 [xA 17 5 1,xO 18 (.build GP [(0,5,(.t 17))]),xO 19 (.mkiface 415 (.t 18)),dN 19])))) [xO 20 (.build [] []),xO 21 (.mkiface 417 (.t 20)),dN 21]⟩
def sZ:AFn:=⟨2,[.tmp 4],bE [iT,xT,fO 4] (eG [bI 8 2,aW 9 3,aN 10 iA 8 9,dO 10,bZ 11 7,c9 12 7,b6 11,bG 12] (qX [cH 13,bY 14 13] 14 (fO 4)) [aJ 15,dF 16,xL 17 16,bJ 18 15 17,xL 19 18,aS 19])⟩
def C8:AFn:=⟨2,[.tmp 3],fF AN [aI 4 2,bI 5 4,xL 6 1,aN 7 uK 5 6,cW 3]⟩
def c_281_l0:Xu:=bF 17 .lss 16 15 17 (fS (xQ [xM 18 16,dP 19 14 16,aW 20 19,qW 6 fG fG,b6 18,bO 6 20] [6]) (xD [aG 21,aJ 22,bJ 23 21 22,xL 24 23,aK 25 6,xL 26 25,xB 27 .xor 24 26,aI 28 6,xL 29 28,xB 30 .and 27 29,n8 31 .neq 30 fG]) (IM 31 (eH cC))) 32 .add 16 16 32
def c_281_k1:Xu:=qY 4
def t6:AFn:=⟨2,[.tmp 4],eA [iT,cC] [aG 7,xN 8 7,iN 9,xL 10 9,xN 11 10,xB 12 .neq 8 11] 12 [cC] (iV (iN 13) 14 13 15 14 16 0 c_281_l0) c_281_k1⟩
def c_282_l0:Xu:=bF 12 .lss 11 10 12 (jA (xX 13 5 9 11) (xA 14 5 13) (cO 7 iZ) (xS 5 7 14) [7] (gQ [aG 15,xA 16 5 7,wY 17 15 [.t 16]] 17 [xA 18 5 7,xS 5 4 18,AU 5])) 19 .add 11 11 19
def c_282_k1:Xu:=gH (cO 8 iZ) [xA 20 5 8,xS 5 4 20,bU 5]
def C9:AFn:=⟨2,[.cell 4 true 5,.tmp 5],gF [cO 4 iZ,bU 5] AB 0 c_282_l0 c_282_k1⟩
def oO:AFn:=⟨5,[.tmp 6],eA [rN 5,bU 6] [xL 9 1,xA 10 5 5,wY 11 9 [.t 10],bY 12 11] 12 [bU 6] (xQ [xL 14 2,xO 15 (.mkfunc (.func pO) [] [.t 1,.t 3,.t 4,.t 5]),dM 16 jQ [.t 14,.t 15],xM 13 16,bZ 17 13,c9 18 13,cO 7 iZ,xS 5 7 17,bQ 18] [7]) (dL [bS 19,bY 20 19,bG 20])⟩
def CA:AFn:=⟨5,[.tmp 6],fF [rN 5,bU 6] [xL 7 1,xA 8 5 5,wY 9 7 [.t 8],xM 10 9,eF 11 10 (nP 9 2),eU 12 10 3,eF 13 10 (nP 5 5),eF 14 10 (nP 5 4),s6 15 10 uL [.t 11,.t 12,.t 13,.t 14],xV 16 10 15,bG 16]⟩
def oP:AFn:=⟨4,[.tmp 8],eA [rN 4,xJ 6 2,xJ 7 3,bU 8] [aI 11 6,aI 12 11,xL 13 12,aI 14 7,aI 15 14,xL 16 15,xB 17 .neq 13 16] 17 [aI 18 6,aI 19 18,xL 20 19,aI 21 7,aI 22 21,xL 23 22,xB 24 .gtr 20 23,bQ 24] (F0 [eI 25 4,aG 26,aI 27 6,bI 28 27,fM 29 q8 25 26 28,eI 30 4,aG 31,aI 32 7,bI 33 32,fM 34 q8 30 31 33,xM 9 29,xM 10 34] (gQ [xM 35 9,xM 36 10,xB 37 .neq 35 36] 37 [xM 38 9,xM 39 10,xB 40 .gtr 38 39,bQ 40])) (dL [aK 41 6,xL 42 41,aK 43 7,xL 44 43,xB 45 .lss 42 44,bQ 45])⟩
def CB:AFn:=⟨1,[.cell 2 true 5],l7 [fU 1 0,cO 2 iZ] [iU 3,d6 4,xL 5 4,aM 6 zK 5,iU 7,aK 8 7,xS 1 8 6] (fF [iU 9,bR 10 9,aI 11 10,xL 12 11,aM 13 lX 12,iU 14,bR 15 14,aI 16 15,xS 1 16 13] [xA 17 5 1,xS 5 2 17])⟩
def c_287_l0:Xu:=bF 12 .lss 11 10 12 L7 28 .add 11 11 28
def c_287_k1:Xu:=yS 29 29
def CC:AFn:=⟨1,[.tmp 2],gS rM LF AB 0 c_287_l0 c_287_k1⟩
def CD:AFn:=⟨2,[],bE [fU 3 1] (xD [aE 4,aE 5,b8 6 5,aK 7 6,aK 8 7,eI 9 8,aE 10,b8 11 10,xF 12 11 11,bI 13 12,dF 14,aW 15 14,aE 16,xF 17 6 3,xL 18 17,aN 19 jW 16 18,AR 20 i6 9 (.t 13) 15 (.t 19),b8 21 4,xF 22 11 21,dB 22 20])⟩
def CE:AFn:=⟨2,[],bE [fU 3 1] (xD [aE 4,aE 5,b8 6 5,aK 7 6,aK 8 7,eI 9 8,aE 10,b8 11 10,xF 12 11 11,bI 13 12,xF 14 4 3,xL 15 14,fM 16 uY 9 13 15,b8 17 4,xF 18 11 17,dB 18 16])⟩
def CG:AFn:=⟨2,[],bE [fU 3 1] (xD [aE 4,aE 5,b8 6 5,aK 7 6,aK 8 7,eI 9 8,aE 10,b8 11 10,xF 12 11 11,bI 13 12,xF 14 4 3,xL 15 14,fM 16 uZ 9 13 15,b8 17 4,xF 18 11 17,dB 18 16])⟩
def CH:AFn:=⟨2,[],cD [fU 3 1] (xD [aE 5,b8 6 5,aK 7 6,aK 8 7,eI 9 8,aE 10,b8 11 10,xF 12 15 11,xL 13 12,dX 14 3,xL 15 14,aE 16,xF 17 5 3,xL 18 17,aN 19 jW 16 18,AR 20 v5 9 (.t 13) 15 (.t 19),aS 20]) (xD [aE 21,aE 22,b8 23 22,aK 24 23,aK 25 24,eI 26 25,aE 27,b8 28 27,xF 29 11 28,bI 30 29,dF 31,aW 32 31,xM 33 4,AR 34 i6 26 (.t 30) 32 (.t 33),b8 35 21,xF 36 11 35,dB 36 34])⟩
def CJ:AFn:=⟨2,[],bE [fU 3 1] (xD [aE 4,aE 5,b8 6 5,aK 7 6,aK 8 7,eI 9 8,aE 10,b8 11 10,xF 12 15 11,xL 13 12,dX 14 3,xL 15 14,aE 16,xF 17 5 3,xL 18 17,aN 19 jW 16 18,aE 20,xF 21 6 3,xL 22 21,aN 23 jW 20 22,AP 24 q9 [.t 9,.t 13,.t 15,.t 19,.t 23],b8 25 4,xF 26 15 25,xS 1 26 24])⟩
def lK:AFn:=⟨2,fR,cD [xT,bV,eK] (kI [aE 7,xN 8 7,xK 9 .gtr 8 24] 9 bV 5 12) (eG [xA 11 10 3,aE 12,Nr 13 qA 11 12 dD,xM 10 13,bZ 14 10,c9 15 10,xE 16 2 10,aS 14,bG 15,b6 16] (l8 0 [aJ 18,b7 19 .neq 18,xM 17 19] 17 [aJ 20,bV,b6 20] (kI [cH 22,aE 23,xN 24 23,xB 25 .lss 22 24,xM 21 25] 21 bV 5 4)) [xM 26 4,aS 26,eK])⟩
def cP:AFn:=⟨1,GY,cD [gT 2 fG] (qV [(3,10),(7,10),(9,10)] [⟨some 9,none,.mov (.t 0)⟩,⟨some 10,none,.nilchk (.t 9)⟩,⟨some 11,none,.faddr 15 (.t 10)⟩,⟨some 12,none,.load false 1 (.t 11)⟩,⟨some 13,none,.mov (.t 0)⟩,⟨some 14,none,.nilchk (.t 13)⟩,⟨some 15,none,.faddr 16 (.t 14)⟩,⟨some 16,none,.load false 1 (.t 15)⟩,⟨some 17,none,.iaddr 3 none (.t 12) (.t 16)⟩,⟨some 18,none,.load true 3 (.t 17)⟩,⟨some 3,none,.alloc GQ⟩,⟨none,none,.store 3 (.t 3) (.t 18)⟩] (some [3])) (fE [aE 19,b8 20 19,xF 21 16 20,xL 22 21,d9 23 .add 22,b8 24 19,xF 25 16 24,xS 1 25 23] (bE [d6 26,xL 27 26,aM 28 mO 27] (l8 0 [b7 30 .eql 28,xM 29 30] 29 [aE 31,xA 32 3 3,aN 33 v6 31 32,bO 2 33] (j6 [d9 35 .eql 28,xM 34 35] 34 (.seq (qV [(0,2)] [⟨some 36,none,.load true 3 (.t 3)⟩,⟨some 37,none,.mov (.t 0)⟩,⟨some 38,none,.tcall dT [.t 37]⟩,⟨some 39,none,.pcall v7 [.t 36,.t 38]⟩,⟨none,none,.store 2 (.t 2) (.t 39)⟩] none) .ret) (eP [xK 41 .eql 28 2,xM 40 41] 40 (fS (xQ [aE 42,dM 43 dT [.t 42],gT 4 fG,bO 4 43] [4]) (xQ [aE 44,dM 45 dT [.t 44],gT 5 fG,bO 5 45] [5]) (dL [d6 46,xL 47 46,aW 48 4,aW 49 5,fM 50 v8 47 48 49,bO 2 50])))))) (xQ [aE 51,dM 52 dT [.t 51],gT 6 fG,bO 6 52] [6]) (jA (aE 53) (dM 54 dT [.t 53]) (gT 7 fG) (bO 7 54) [7] (fS (xQ [aE 55,dM 56 dT [.t 55],gT 8 fG,bO 8 56] [8]) (nM [aK 57 6,xL 58 57,n8 59 .eql 58 (EZ 1)] 59 (aW 60 7) (bO 2 60)) (oC (aW 61 8) (bO 2 61)))))⟩
def c_295_l0:Xu:=bF 20 .lss 19 18 20 (jA (dP 21 17 19) (aW 22 21) (qW 8 (.str []) eO) (bO 8 22) [8] (qX [aW 23 8,aM 24 g6 23,b7 25 .neq 24] 25 cC)) 26 .add 19 19 26
def c_295_k1:Xu:=dL [fH 27,bI 28 3,aN 29 v9 27 28,b7 30 .eql 29,aS 30]
def CK:AFn:=⟨2,[.tmp 4],fE [iT,xT,cC] (kH [fH 10,aM 11 pI 10,xM 9 11,bZ 12 9,c9 13 9,b6 12,bG 13] (cH 14) 15 .neq 14 15 [cC]) (iV (aI 16 2) 17 16 18 17 19 0 c_295_l0) c_295_k1⟩
def CL:AFn:=⟨0,[.tmp 0],gH (xC 0 .nilptr) [xO 1 (.build LS [(2,1,kS)]),fU 2 1,bN 0]⟩
def t7:AFn:=⟨4,[],eP [aK 5 1,xL 6 5,aE 7,bJ 8 6 7,xL 9 8] 9 (xD [aI 10 2,xL 11 10,aE 12,dP 13 11 12,aW 14 13,iU 15,xL 16 15,aE 17,bJ 18 16 17,xL 19 18,xL 20 3,dM 21 pX [.t 14,.t 19,.t 20]])⟩
def c_298_l0:Xu:=bF 47 .lss 46 45 47 (fS (xQ [xM 48 46,dP 49 44 46,aW 50 49,gT 13 (.str []),xM 12 48,bO 13 50] [13]) (xD [bN 51,aG 52,xM 53 12,bJ 54 52 53,xL 55 54,aI 56 13,xL 57 56,dM 58 iE [.t 51,.t 55,.t 57],xM 14 58]) (nM [xM 59 14,b7 60 .neq 59] 60 (xM 61 14) (bG 61))) 62 .add 46 46 62
def c_298_k1:Xu:=eH gU
def oQ:AFn:=⟨3,[.tmp 6],fE [fU 3 0,gU] (kH [aW 15 3,aM 16 g6 15,dO 16] (cW 17) 18 .neq 17 18 [cW 19,bG 19]) (P7 [bN 21,dM 22 jS [.t 21],xM 20 22,bZ 23 20,c9 24 20,bQ 23,xM 9 24] (xM 25 9) (d9 26 .eql 25) 26 [xI 6 1]) (.seq (eJ [aG 27,xN 28 27,dF 29,xL 30 29,xN 31 30,xB 32 .neq 28 31] 32 6 2) (fS (kH [aG 34,aW 35 3,aM 36 jT 35,aN 37 vA 34 36,xM 33 37,bZ 38 33,c9 39 33,xM 10 38,xM 11 39] (xM 40 11) 41 .neq 40 41 [xM 42 11,bG 42]) (iV (dF 43) 44 43 45 44 46 0 c_298_l0) c_298_k1))⟩
def t8:AFn:=⟨1,AJ,eA [xC 2 a9,aY 3] [aE 4,xO 5 (.eqn false (.t 4) (.c .nilptr)),aJ 6,bC 7 6 0,cZ 8 6 (GZ 7),bL 9 6 2 8,aO 10 6 9,xH 11 6 10,xW 12 6 11] 12 [xC 2 a9,xI 3 1] (kI [aE 13,b8 14 13,aI 15 14,xL 16 15,xK 17 .rem 16 8,b7 18 .neq 17] 18 (xC 2 a9) 3 10) (dL [aE 19,b8 20 19,aK 21 20,xL 22 21,P6 23 1 1 (.c a9) 22,dN 23,aY 3])⟩
def c_310_l0:Xu:=bF 9 .lss 8 7 9 (bE wL (xR [d7 12,aJ 13,xB 14 .add 12 13,xM 3 14])) 15 .add 8 8 15
def c_310_k1:Xu:=yS 16 16
def CM:AFn:=⟨1,[.tmp 2],gS [fW] [aY 3] j5 0 c_310_l0 c_310_k1⟩
def c_311_l0:Xu:=bF 10 .lss 9 8 10 (jA (dP 11 7 9) (aW 12 11) (gT 5 (.str [])) (bO 5 12) [5] (xR [d7 13,aI 14 5,xL 15 14,xO 16 (.bslice .imm 1 (List.replicate 1 kT) [(0,(.t 15))]),n7 17 1 8 13 16,xM 3 17])) 18 .add 9 9 18
def c_311_k1:Xu:=yS 19 19
def CN:AFn:=⟨1,[.tmp 2],gS [kJ,xC 2 a9] [qU 3 1] [iU 6,xL 7 6,xN 8 7,aY 9] 0 c_311_l0 c_311_k1⟩
def CO:AFn:=⟨2,[.tmp 4],gH cC [aE 5,aG 6,aN 7 vB 5 6,b7 8 .geq 7,aS 8]⟩
def c_313_l0:Xu:=nO 25 .lss 24 23 25 1 2 (rZ [xM 26 24,dP 27 22 24,aW 28 27,gT 4 (.str []),xM 3 26,bO 4 28] [4] (l8 3 [aK 30 4,xL 31 30,aM 32 eC 31,bY 33 32,xM 29 33] 29 [xI 2 6] (mZ [aI 35 4,xL 36 35,d9 37 .lss 36,xM 38 37,dE 39 38 4,aO 40 38 39,dW 41 38 .gtr 40 32,xW 42 38 41,xM 34 42] 34 [xI 2 10] (eJ [iU 44,xL 45 44,d7 46,xO 47 (.slc 2 (.t 45) none (some (.t 46)) none),xO 48 (.mkfunc (.func jX) [] [.t 4]),aN 49 vC 47 48,xM 43 49] 43 2 7)))) 50 .add 24 24 50
def c_313_k1:Xu:=eH fW
def lO:AFn:=⟨1,[.tmp 2],fE [kJ,fW] (l8 0 [aK 6 1,xL 7 6,aM 8 eC 7,bY 9 8,b6 9] 5 [xI 2 6] (eJ [iU 11,xL 12 11,xN 13 12,xK 14 .gtr 13 4,xM 15 14,bL 16 15 2 1,aO 17 15 16,cV 18 15 17,dW 19 15 .gtr 18 12,xW 20 15 19,xM 10 20] 10 2 12)) (iV (iU 21) 22 21 23 22 24 1 c_313_l0) c_313_k1⟩
def aP:AFn:=⟨2,[.tmp 4],cD mY (xQ [iN 11,aK 12 11,eI 13 12,cO 5 [.str [],.Xt 2 [],.Xt 2 [],.Xt 3 [],.Xt 3 [],.Xt 6 [],.Xt 7 [],.Xt 5 [],.Xt 1 []],xS 9 5 13] [5]) (bE [eI 15 5,dF 16,aW 17 16,aN 18 qB 15 17,xM 14 18,bZ 19 14,c9 20 14,bG 19,dO 20] (eG [dX 21 3,xL 22 21,b7 23 .geq 22,xM 24 23,fL 25 24 3 3,eU 26 24 25,fL 27 24 3 5,eU 28 24 27,AW 29 24 28,gG 30 24 .lss 26 (.t 29),xV 31 24 30,bQ 31] (wW [d6 32,xL 33 32] 0 (j6 [d9 35 .eql 33,xM 34 35] 34 (.seq (eJ [cW 36,bY 37 36] 37 4 8) (dL [xA 38 10 2,xF 39 6 3,xL 40 39,cH 41,fM 42 mP 38 40 41,aS 42])) (.seq (kV [xK 44 .eql 33 2,xM 43 44] 43 (xR [xK 45 .eql 33 3,xM 43 45])) (yQ 43 (.seq (eJ [xF 46 4 3,xL 47 46,b7 48 .lss 47,xM 49 48,bL 50 49 4 3,aO 51 49 50,dE 52 49 5,aO 53 49 52,cV 54 49 53,dU 55 49 .geq 51 54,xW 56 49 55] 56 4 8) (eH bV)) (.seq (kV [xK 58 .eql 33 4,xM 57 58] 57 (xR [xK 59 .eql 33 5,xM 57 59])) (IM 57 (fS (eJ [bS 60,bY 61 60,xM 62 61,bL 63 62 0 3,aO 64 62 63,dW 65 62 .eql 64 4,bC 66 62 65,eT 67 66 7,eF 68 66 (LW 67),cZ 69 62 (.pick (.t 66) (.t 68) (.c qT)),xW 70 62 69] 70 4 8) (kH [xF 72 5 3,xL 73 72,iN 74,xA 75 10 74,aN 76 jR 73 75,xM 71 76,bZ 77 71,c9 78 71,xM 9 77,xM 10 78] (xM 79 10) 80 .neq 79 80 [xM 81 10,aS 81]) (fS (eP [d6 82,xL 83 82,xK 84 .eql 83 5] 84 (yU [xA 85 10 2,xF 86 6 3,xL 87 86,dX 88 5,xL 89 88,dX 90 3,xL 91 90,xX 92 3 89 91,aI 93 92,xL 94 93,fM 95 mP 85 87 94,aS 95])) (eJ [cH 96,dX 97 5,xL 98 97,dX 99 3,xL 100 99,xX 101 3 98 100,aI 102 101,xL 103 102,xB 104 .neq 96 103] 104 4 10) (eH bV))))))))) [xI 4 11]))⟩
def c_315_l0:Xu:=bF 31 .lss 30 29 31 (l6 [bJ 32 28 30,xL 33 32,bQ 33] [bS 34,b7 35 .lss 34,xM 36 35,bC 37 36 8,dE 38 36 2,aO 39 36 38,cV 40 36 39,dU 41 36 .geq 37 40,xW 42 36 41] 42 AK) 43 .add 30 30 43
def c_315_l1:Xu:=nO 68 .lss 67 66 68 3 4 (rZ [xM 69 67,xX 70 3 65 67,xA 71 3 70,cO 10 [fG,fG,cE],xM 9 69,xS 3 10 71] [10] (kH [fH 72,aG 73,xA 74 3 10,fM 75 vD 72 73 74,xM 11 75] (xM 76 11) 77 .neq 76 77 [xM 78 9,xM 79 11,aS 78,b6 79])) 80 .add 67 67 80
def c_315_k2:Xu:= .seq (kI [fH 81,aG 82,xF 83 6 6,xL 84 83,fM 85 qC 81 82 84,bY 86 85] 86 (iM 4) 5 14) (oC bV eK)
def c_315_k3:Xu:=fS (l8 2 [bR 45 6,xL 46 45,xM 47 46,eF 48 47 (nP 9 2),fL 49 47 3 6,eF 50 47 (nP 2 49),s6 51 47 g0 [.t 48,.t 50],gG 52 47 .eql 51 dD,xV 53 47 52,xM 44 53] 44 AK (kI [bR 55 6,xL 56 55,bY 57 56,xM 58 57,fL 59 58 5 6,eU 60 58 59,AW 61 58 60,gG 62 58 .gtr 61 dD,xV 63 58 62,xM 54 63] 54 (iM 4) 5 11)) (iV (xF 64 5 6) 65 64 66 65 67 3 c_315_l1) c_315_k2
def oR:AFn:=⟨2,fR,fE [iT,bV,eK] (xQ [xF 12 6 2,xL 13 12,aG 14,xX 15 7 13 14,xA 16 7 15,cO 6 LL,xS 7 6 16] [6]) (kI [aI 17 6,xL 18 17,xN 19 18,xK 20 .gtr 19 4,xM 21 20,bL 22 21 5 6,aO 23 21 22,cV 24 21 23,dW 25 21 .gtr 24 8,xW 26 21 25] 26 (iM 4) 5 12) (.seq (iV (aI 27 6) 28 27 29 28 30 0 c_315_l0) c_315_k3)⟩
def CP:AFn:=⟨1,[.tmp 2],l7 [fW] [cO 3 [cE],⟨none,none,.store 1 (.t 3) (.c mX)⟩] (fF [aE 4,xO 5 (.mkfunc (.func qD) [] [.t 3]),dM 6 f9 [.t 4,.t 5]] [xL 7 3,dN 7])⟩
def c_317_l0:Xu:=bF 12 .lss 11 10 12 (jA (xX 13 5 9 11) (xA 14 5 13) (cO 5 GR) (xS 5 5 14) [5] (xD [d7 15,dX 16 5,xL 17 16,aM 18 mL 17,xF 19 4 5,xL 20 19,aM 21 mL 20,xO 22 (.minmax true [.t 15,.t 18,.t 21]),xM 3 22])) 23 .add 11 11 23
def c_317_k1:Xu:=dL [d7 24,d9 25 .add 24,dN 25]
def t9:AFn:=⟨1,[.tmp 2],cD [fW] (qX [H6,xN 7 6,b7 8 .eql 7] 8 fW) (gF [aY 3] AB 0 c_317_l0 c_317_k1)⟩
def c_318_l0:Xu:=bF 10 .lss 9 8 10 (jA (xX 11 5 7 9) (xA 12 5 11) (cO 6 GR) (xS 5 6 12) [6] (qX [aG 13,xA 14 5 6,xO 15 (.tcallv (.t 13) [.t 14]),bY 16 15,xM 17 16,bL 18 17 3 6,aO 19 17 18,bC 20 17 1,cZ 21 17 (.tcall f9 [.t 19,.t 20]),xH 22 17 21,xW 23 17 22,xM 24 23,bL 25 24 4 6,aO 26 24 25,bC 27 24 1,cZ 28 24 (.tcall f9 [.t 26,.t 27]),xH 29 24 28,xW 30 24 29] 30 cC)) 31 .add 9 9 31
def c_318_k1:Xu:=qY 4
def lP:AFn:=⟨2,[.tmp 4],gF [cC] [aE 7,xN 8 7,aY 9] 0 c_318_l0 c_318_k1⟩
def hS:AFn:=⟨5,[.tmp 6],fE [rN 5,bU 6] (kH [eI 7 1,xA 8 5 5,xL 9 2,fM 10 uR 7 8 9,xS 1 3 10] (xL 11 3) 12 .neq 11 12 [bU 6]) (eP [xA 13 5 5,aM 14 uS 13] 14 (xR [xL 15 2,aI 16 5,xL 17 16,xO 18 (.bslice .imm 1 (List.replicate 1 kT) [(0,(.t 17))]),n7 19 1 8 15 18,xS 1 2 19])) (fF [xL 20 4,d9 21 .add 20,xS 1 4 21] [AU 6])⟩
def c_320_l0:Xu:=nO 30 .lss 29 28 30 1 2 (l6 [bJ 31 27 29,xL 32 31,bQ 32] [bS 33,aI 34 4,xL 35 34,xB 36 .eql 33 35] 36 [xI 6 7]) 37 .add 29 29 37
def c_320_k1:Xu:=eJ [aK 38 4,xL 39 38,d9 40 .eql 39,xM 41 40,fL 42 41 3 4,eU 43 41 42,AW 44 41 43,fL 45 41 4 4,eU 46 41 45,AW 47 41 46,gG 48 41 .add 44 (.t 47),gG 49 41 .gtr 48 dD,xV 50 41 49] 50 6 5
def c_320_k2:Xu:=eH gU
def dS:AFn:=⟨3,[.tmp 6],cD [s7,xP 4,gU] (wW [aK 11 4,xL 12 11] 0 (.seq (kV [d9 14 .eql 12,xM 13 14] 13 (xR [xK 15 .eql 12 3,xM 13 15])) (yQ 13 (fS (eJ [aI 16 4,xL 17 16,b7 18 .lss 17,xM 19 18,dE 20 19 4,aO 21 19 20,bL 22 19 5 3,aO 23 19 22,cV 24 19 23,dU 25 19 .geq 21 24,xW 26 19 25] 26 6 8) (gR [bN 27,xN 28 27,aY 29] 1 c_320_l0) c_320_k1) (j6 [xK 52 .eql 12 2,xM 51 52] 51 (cD [bR 54 4,xL 55 54,kK 56,xO 57 (.build rJ [(0,9,(.t 56))]),aN 58 jR 55 57,xM 53 58,bZ 59 53,c9 60 53,xM 9 59,xM 10 60] (nM [xM 61 10,b7 62 .neq 61] 62 (xM 63 10) (bG 63)) (eJ [xM 64 9,d9 65 .neq 64] 65 6 10)) (eH (xI 6 11)))))) c_320_k2⟩
def tA:AFn:=⟨1,[.tmp 2],fF [kJ,bU 2] [aK 3 1,xL 4 3,d9 5 .eql 4,aJ 6,bL 7 6 0 1,aO 8 6 7,dW 9 6 .eql 8 3,xW 10 6 9,dN 10]⟩
def CQ:AFn:=⟨2,[.tmp 4],gH cC [aE 5,aG 6,aN 7 vE 5 6,b7 8 .geq 7,aS 8]⟩
def CR:AFn:=⟨1,[.tmp 2],gH (bU 2) [aE 3,n8 4 .geq 3 (.int .u8 97),b6 4,eT 6 5 0,gG 7 5 .leq 6 (.c (.int .u8 122)),xV 8 5 7,bS 9,bC 10 9 0,P4 11 9 .geq 10 (.c (.int .u8 65)),bC 12 9 11,eT 13 12 0,gG 14 12 .leq 13 (.c (.int .u8 90)),cZ 15 9 (.pick (.t 12) (.t 14) (.c qT)),xW 16 9 15,dN 16]⟩
def c_329_l0:Xu:= .seq (s5 [aJ 6,aE 7,xO 8 (.slen (.t 7)),xB 9 .lss 6 8,xM 10 9,eT 11 10 1,eT 12 10 0,eT 13 10 5,eF 14 10 (.idxs (.t 12) (.t 13)),eF 15 10 (Nn 11 [.t 14]),xV 16 10 15] 16 0) (.block 1 (wX (aJ 17) 18 .add 17 (b6 18)))
def c_329_k1:Xu:=yT (aJ 19) 19
def CT:AFn:=⟨2,[.tmp 4],bE [bV] (cD [eK] (Ep 0 c_329_l0) c_329_k1)⟩
def CU:AFn:=⟨1,[.tmp 2],gH (bU 2) [aE 3,aM 4 q6 3,b6 4,bC 6 5 0,wZ 7 5 uV [.t 6],xW 8 5 7,bS 9,bC 10 9 0,P4 11 9 .eql 10 (.c (.int .u8 95)),xW 12 9 11,dN 12]⟩
def CV:AFn:=⟨1,[.tmp 2],gH (bU 2) [aE 3,n8 4 .geq 3 (.int .u8 48),b6 4,eT 6 5 0,gG 7 5 .leq 6 (.c (.int .u8 57)),xV 8 5 7,bS 2]⟩
def CW:AFn:=⟨2,[.tmp 4],eG [fO 4] (qX [aG 5,xO 6 LG,aM 7 eD 6,bY 8 7] 8 (fO 4)) [aG 9,aM 10 aT 9,aG 11,aM 12 aT 11,aE 13,xO 14 (.minmax true [.t 13,.c mX]),aG 15,xO 16 (.minmax false [.t 14,.t 15]),xB 17 .shr 12 16,xB 18 .andNot 10 17,aS 18]⟩
def c_348_l0:Xu:=bF 35 .lss 34 33 35 (jA (dP 36 32 34) (aW 37 36) (gT 11 (.str [])) (bO 11 37) [11] (cD [aG 39,aI 40 11,xL 41 40,dM 42 qF [.t 39,.t 41],xM 38 42,bZ 43 38,c9 44 38,xM 12 43,xM 13 44] (gQ [xM 45 13,b7 46 .neq 45] 46 [xM 47 13,xC 4 a9,b6 47]) (xR [xM 48 9,xM 49 12,xO 50 (.bslice .imm 1 (List.replicate 1 rL) [(0,(.t 49))]),n7 51 1 4 48 50,xM 9 51]))) 52 .add 34 34 52
def c_348_k1:Xu:=dL [xM 53 9,aS 53,eK]
def jH:AFn:=⟨2,fR,fE [fU 2 0,xC 4 a9,eK] (kH [aW 14 2,aM 15 g6 14,bG 15] (cH 16) 17 .neq 16 17 [cH 18,xC 4 a9,b6 18]) (P7 [aG 20,dM 21 mH [.t 20],xM 19 21,bZ 22 19,c9 23 19,dO 22,bQ 23] (bS 24) (d9 25 .eql 24) 25 [xC 4 a9,xI 5 1]) (.seq (IO [aG 26,aM 27 qE 26,aW 28 2,aM 29 vF 28,xB 30 .lss 27 29] 30 (oC (xC 4 a9) (xI 5 3))) (gF [qU 9 1] [aI 31 2,xL 32 31,xN 33 32,aY 34] 0 c_348_l0 c_348_k1))⟩
def CX:AFn:=⟨1,[.tmp 2],gH (bU 2) [aE 3,xO 4 (.eqn true (.t 3) (.c .nilptr)),b6 4,eT 6 5 0,eF 7 5 (GZ 6),fL 8 5 2 7,eU 9 5 8,xV 10 5 9,dN 10]⟩
def oS:AFn:=⟨2,AE,bE [qW 4 (.str []) eO] (eG [qW 5 (.str []) eO] LQ LI)⟩
def c_351_l0:Xu:=bF 26 .lss 25 24 26 (rZ [xM 27 25,xX 28 3 23 25,xA 29 3 28,cO 8 wV,dO 27,xS 3 8 29] [8] (eP [bR 30 8,xL 31 30,xK 32 .eql 31 2] 32 (.seq (gQ [cW 33,jC 34,xL 35 34,xN 36 35,xB 37 .lss 33 36] 37 [jC 38,xL 39 38,cW 40,dP 41 39 40,aI 42 41,xL 43 42,aM 44 qG 43,bG 44]) (eH gU)))) 45 .add 25 25 45
def c_351_k1:Xu:=eH gU
def oT:AFn:=⟨3,[.tmp 6],eA AD [aG 9,b7 10 .lss 9,xM 11 10,bC 12 11 1,bL 13 11 5 3,aO 14 11 13,cV 15 11 14,dU 16 11 .geq 12 15,xW 17 11 16] 17 [gU] (gR [xF 18 5 3,xL 19 18,aG 20,xX 21 6 19 20,aI 22 21,xL 23 22,xN 24 23,aY 25] 0 c_351_l0) c_351_k1⟩
def CY:AFn:=⟨2,[.tmp 4],cD [fO 4] (xD [aG 5,H6,b8 7 6,aK 8 7,xA 9 10 8,aE 10,b8 11 10,xF 12 11 11,bI 13 12,aE 14,b8 15 14,xF 16 10 15,xL 17 16,AR 18 p8 5 (.t 9) 13 (.t 17),aS 18]) .ret⟩
def CZ:AFn:=⟨3,[.cell 6 true 4],fF LO [kK 7,bI 8 4,bN 9,AP 10 jY [.t 7,.t 8,.t 9,.c LV,.c LV],dB 6 10]⟩
def D0:AFn:=⟨3,[.cell 6 true 4],fF LO [kK 7,bI 8 4,bN 9,AP 10 jY [.t 7,.t 8,.t 9,.c qT,.c qT],dB 6 10]⟩
def tB:AFn:=⟨4,[.tmp 8],bE [rN 4,fO 8] (eG [xC 9 (.func (.func qH) [] [])] (qX [xM 10 9,eI 11 4,aG 12,xO 13 (.build LA [(0,9,(.t 11)),(9,1,(.t 12))]),bN 14,d7 15,wY 16 10 [.t 13,.t 14,.t 15],bY 17 16] 17 (fO 8)) [aG 18,bN 19,bJ 20 18 19,xL 21 20,d7 22,bJ 23 21 22,xL 24 23,bQ 24])⟩
def oU:AFn:=⟨5,[.tmp 10],l7 [rN 5,xC 10 a9] [aG 13,dM 14 qI [.t 13],xM 11 14] (eG [xC 12 (.func (.func qH) [] [])] (eP [xM 15 12,eI 16 5,aG 17,xO 18 (.build LA [(0,9,(.t 16)),(9,1,(.t 17))]),bN 19,d7 20,wY 21 15 [.t 18,.t 19,.t 20],xM 22 21,fL 23 22 3 5,eU 24 22 23,eT 25 22 2,eF 26 22 (rP 3 24 (.t 25)),fL 27 22 1 26,eU 28 22 27,s6 29 22 aT [.t 28],gG 30 22 .gtr 29 (.c fG),xV 31 22 30] 31 (xD [xM 32 11,bN 33,bJ 34 32 33,xL 35 34,d7 36,xM 37 4,dX 38 5,xL 39 38,bN 40,xX 41 3 39 40,aI 42 41,xL 43 42,aM 44 aT 43,xB 45 .and 37 44,bJ 46 35 36,xS 1 46 45])) [xM 47 11,xM 10 47])⟩
def c_357_l0:Xu:=nO 45 .lss 44 43 45 1 2 (bE [xM 46 44,xM 11 46] (kH [xM 48 11,xA 49 10 3,aG 50,cW 51,fM 52 qA 49 50 51,xM 47 52,bZ 53 47,c9 54 47,xE 55 2 47,xO 56 (P8 1 3 10 (.t 48)),xS 1 56 53,dO 54,bQ 55] (bS 57) 58 .neq 57 58 [bS 59,gU,aY 7,bQ 59])) 60 .add 44 44 60
def c_357_k1:Xu:=F0 [aG 62,bN 63,xX 64 3 62 63,xA 65 3 64,xA 66 3 10,aN 67 vG 65 66,xM 61 67,bZ 68 61,c9 69 61,bG 68,bQ 69] (dL [cH 70,cW 71,bS 72,bG 70,dO 71,bQ 72])
def fX:AFn:=⟨3,[.tmp 6,.tmp 7,.tmp 8],cD [s7,gU,aY 7,aY 8] (gQ [bN 12,aG 13,xN 14 13,xB 15 .geq 12 14] 15 [gU,aY 7,xI 8 3]) (cD [aG 16,bN 17,xX 18 3 16 17,aK 19 18,xL 20 19,aM 21 mO 20,xM 9 21] (l8 0 [xM 23 9,b7 24 .lss 23,xM 22 24] 22 [gU,aY 7,xI 8 11] (eP [xM 26 9,b7 27 .eql 26,xM 25 27] 25 (F0 [xA 29 10 3,aG 30,bN 31,xX 32 3 30 31,xA 33 3 32,aN 34 qJ 29 33,xM 28 34,bZ 35 28,c9 36 28,bG 35,bQ 36] (dL [cH 37,bN 38,d9 39 .add 38,bS 40,bG 37,dO 39,bQ 40])))) (gS [cO 10 wV] [bN 41,d9 42 .add 41,dO 42] [xM 43 9,aY 44] 1 c_357_l0 c_357_k1))⟩
def tC:AFn:=⟨1,[.tmp 2],eG [fW] (wW [aE 3] 0 (.seq (kV [d9 5 .eql 3,aJ 4] 4 (kV [xK 6 .eql 3 2,aS 6] 4 (kV [xK 7 .eql 3 3,aS 7] 4 (xR [xK 8 .eql 3 4,aS 8])))) (yQ 4 (eH fW) (.seq (kV [xK 10 .eql 3 5,xM 9 10] 9 (kV [xK 11 .eql 3 6,xM 9 11] 9 (kV [xK 12 .eql 3 7,xM 9 12] 9 (xR [xK 13 .eql 3 8,xM 9 13])))) (yQ 9 (eH (xI 2 1)) (.seq (kV [xK 15 .eql 3 9,xM 14 15] 14 (kV [xK 16 .eql 3 10,xM 14 16] 14 (kV [xK 17 .eql 3 11,xM 14 17] 14 (kV [xK 18 .eql 3 12,xM 14 18] 14 (kV [xK 19 .eql 3 13,xM 14 19] 14 (kV [xK 20 .eql 3 14,xM 14 20] 14 (kV [xK 21 .eql 3 15,xM 14 21] 14 (xR [xK 22 .eql 3 16,xM 14 22])))))))) (yQ 14 (eH (xI 2 2)) (eJ [xK 24 .eql 3 17,xM 23 24] 23 2 3)))))))) [iM 2]⟩
def hZ:AFn:=⟨2,AE,cD [xT,gT 4 fG] (xD [aE 9,b8 10 9,aK 11 10,xA 12 10 11,xA 13 3 3,aN 14 qJ 12 13,bQ 14,bZ 15 8,c9 16 8,b6 15,bG 16]) (eG [fO 7] (wW [d6 17,xL 18 17] 0 (j6 [d9 20 .eql 18,xM 19 20] 19 (xR [dF 21,xL 22 21,xO 23 (AS .u32 22),dO 23]) (j6 [xK 25 .eql 18 2,xM 24 25] 24 (xD [aE 26,b8 27 26,xF 28 10 27,bI 29 28,dF 30,xL 31 30,bR 32 3,xL 33 32,xO 34 (.build wM [(0,1,(.t 31)),(1,1,(.t 33))]),aN 35 jO 29 34,dO 35]) (j6 [xK 37 .eql 18 3,xM 36 37] 36 (IO [dF 38,xL 39 38,aE 40,b8 41 40,xF 42 14 41,xL 43 42,xN 44 43,xB 45 .lss 39 44] 45 (xD [aE 46,b8 47 46,xF 48 14 47,xL 49 48,dF 50,xL 51 50,bJ 52 49 51,xL 53 52,dO 53])) (eP [xK 55 .eql 18 4,xM 54 55] 54 (IO [dF 56,xL 57 56,aE 58,b8 59 58,xF 60 10 59,aK 61 60,xL 62 61,xN 63 62,xB 64 .lss 57 63,xM 65 64,eT 66 65 0,eF 67 65 (GZ 66),fL 68 65 10 67,fL 69 65 0 68,eU 70 65 69,fL 71 65 1 3,eU 72 65 71,eF 73 65 (rP 1 70 (.t 72)),eU 74 65 73,xV 75 65 74] 75 (xR [xC 7 (EZ 1)]))))))) [cW 76,aJ 77,aM 78 aT 77,xB 79 .and 76 78,aJ 80,xO 81 (.build fQ [(0,1,(.t 79)),(1,1,(.t 80))]),bO 4 81])⟩
def lQ:AFn:=⟨2,AE,fE [iT,xT,gT 4 fG] (wW [iN 5,xL 6 5] 0 (j6 [xK 8 .eql 6 5,bS 7] 7 (yU [d6 9,xL 10 9,dF 11,xL 12 11,aN 13 vI 10 12,dF 14,xL 15 14,xO 16 (.build fQ [(0,1,(.t 13)),(1,1,(.t 15))]),bO 4 16]) (j6 [xK 18 .eql 6 6,xM 17 18] 17 (yU [d6 19,xL 20 19,aI 21 2,xL 22 21,dF 23,xL 24 23,fM 25 vJ 20 22 24,dF 26,xL 27 26,xO 28 (.build fQ [(0,1,(.t 25)),(1,1,(.t 27))]),bO 4 28]) (eP [xK 30 .eql 6 7,xM 29 30] 29 (yU [d6 31,xL 32 31,aI 33 2,xL 34 33,dF 35,xL 36 35,fM 37 vK 32 34 36,dF 38,xL 39 38,xO 40 (.build fQ [(0,1,(.t 37)),(1,1,(.t 39))]),bO 4 40]))))) (xD [d6 41,xL 42 41,aI 43 2,xL 44 43,bR 45 2,xL 46 45,fM 47 vL 42 44 46,bR 48 2,xL 49 48,xO 50 (.build fQ [(0,1,(.t 47)),(1,1,(.t 49))]),bO 4 50]) .ret⟩
def eX:AFn:=⟨3,[.cell 6 true 2],eG [xP 4,xJ 5 2,gT 6 fG] (wW [aE 9] 0 (j6 [xK 11 .eql 9 9,xM 10 11] 10 (yU [aK 12 4,xL 13 12,jC 14,xL 15 14,aI 16 4,xL 17 16,fM 18 vM 13 15 17,aI 19 4,xL 20 19,xO 21 (.build fQ [(0,1,(.t 18)),(1,1,(.t 20))]),bO 6 21]) (j6 [xK 23 .eql 9 10,xM 22 23] 22 (yU [aK 24 4,xL 25 24,jC 26,xL 27 26,aI 28 4,xL 29 28,fM 30 vN 25 27 29,aI 31 4,xL 32 31,xO 33 (.build fQ [(0,1,(.t 30)),(1,1,(.t 32))]),bO 6 33]) (mZ [xK 35 .eql 9 11,xM 34 35] 34 [aK 36 4,xL 37 36,jC 38,xL 39 38,xB 40 .and 37 39,aI 41 4,xL 42 41,xO 43 (.build fQ [(0,1,(.t 40)),(1,1,(.t 42))]),bO 6 43] (mZ [xK 45 .eql 9 12,xM 44 45] 44 [aK 46 4,xL 47 46,jC 48,xL 49 48,xB 50 .or 47 49,aI 51 4,xL 52 51,xO 53 (.build fQ [(0,1,(.t 50)),(1,1,(.t 52))]),bO 6 53] (mZ [xK 55 .eql 9 13,xM 54 55] 54 [aK 56 4,xL 57 56,jC 58,xL 59 58,xB 60 .xor 57 59,aI 61 4,xL 62 61,xO 63 (.build fQ [(0,1,(.t 60)),(1,1,(.t 62))]),bO 6 63] (j6 [xK 65 .eql 9 14,xM 64 65] 64 (fF [aK 67 4,xL 68 67,aI 69 4,xL 70 69,jC 71,xL 72 71,aI 73 5,xL 74 73,AR 75 vO 68 (.t 70) 72 (.t 74),xM 66 75,bZ 76 66,c9 77 66,dO 76,bQ 77] [cW 78,aI 79 4,xL 80 79,aI 81 5,xL 82 81,xB 83 .add 80 82,xO 84 (.build fQ [(0,1,(.t 78)),(1,1,(.t 83))]),bO 6 84]) (gQ [xK 86 .eql 9 15,xM 85 86] 85 [aK 87 4,xL 88 87,jC 89,xL 90 89,xB 91 .eql 88 90,aM 92 qK 91,bO 6 92])))))))) [aK 93 4,xL 94 93,jC 95,xL 96 95,xB 97 .lss 94 96,aM 98 qK 97,bO 6 98]⟩
def c_362_l0:Xu:=bF 22 .lss 21 20 22 (l6 [xM 23 21,bJ 24 19 21,xL 25 24,b6 23,bG 25] [fH 26,aJ 27,cH 28,fM 29 qL 26 27 28,bY 30 29] 30 [xI 4 9]) 31 .add 21 21 31
def c_362_l1:Xu:=nO 36 .lss 35 34 36 2 3 (l6 [xM 37 35,bJ 38 33 35,xL 39 38,dO 37,bQ 39] [d6 40,xL 41 40,cW 42,bJ 43 41 42,xL 44 43,bY 45 44,xM 46 45,eT 47 46 8,s6 48 46 vQ [.t 47],eF 49 46 (LW 48),xV 50 46 49] 50 [xI 4 5]) 51 .add 35 35 51
def c_362_k2:Xu:=eH bV
def c_362_k3:Xu:= .seq (iV (dF 32) 33 32 34 33 35 2 c_362_l1) c_362_k2
def D1:AFn:=⟨2,[.tmp 4],eA mY [fH 9,bI 10 3,aN 11 vP 9 10,bY 12 11] 12 [xI 4 2] (eJ [fH 13,bR 14 3,xL 15 14,Nq 16 qL 13 (j9 (-1)) (.t 15),bY 17 16] 17 4 9) (.seq (iV (dF 18) 19 18 20 19 21 0 c_362_l0) c_362_k3)⟩
def c_363_l0:Xu:=bF 19 .lss 18 17 19 (bE [xM 20 18,bJ 21 16 18,xL 22 21,bQ 20,xM 9 22] (kH [cW 23,cH 24,xM 25 9,aG 26,bS 27,bJ 28 26 27,xL 29 28,dM 30 iE [.t 24,.t 25,.t 29],xO 31 (.bslice .imm 1 (List.replicate 2 kT) [(0,(.t 23)),(1,(.t 30))]),aM 32 vR 31,dO 32] (cW 33) 34 .neq 33 34 [cW 35,xC 4 a9,b6 35])) 36 .add 18 18 36
def c_363_k1:Xu:=dL [cH 37,dM 38 jS [.t 37],bZ 39 38,c9 40 38,aS 39,b6 40]
def tD:AFn:=⟨2,fR,cD [xC 4 a9,eK] (kI [aE 10,xN 11 10,aG 12,xN 13 12,xB 14 .neq 11 13] 14 (xC 4 a9) 5 2) (gS [dM 15 mJ [],bG 15] [aY 7] [aE 16,xN 17 16,aY 18] 0 c_363_l0 c_363_k1)⟩
def c_364_l0:Xu:=nO 33 .lss 32 31 33 1 2 (cD [xM 34 32,dO 34] (eP [aE 35,b8 36 35,aI 37 36,xL 38 37,xK 39 .rem 38 8,b7 40 .eql 39] 40 (xR [aE 41,aE 42,b8 43 42,aK 44 43,xL 45 44,xO 46 (.bslice .row 1 (List.replicate 1 [.int .u8 0]) [(0,(.c (.int .u8 0)))]),P5 47 .row 1 1 (.t 45) 46,b8 48 41,aK 49 48,xS 1 49 47])) (cD [aG 50,bN 51,d9 52 .sub 51,cW 53,xB 54 .sub 52 53,xB 55 .shr 50 54,n8 56 .and 55 (EZ 1),xO 57 (AS .u8 56),bQ 57] (xD [aE 58,b8 59 58,aK 60 59,xL 61 60,aE 62,b8 63 62,aI 64 63,xL 65 64,xK 66 .quo 65 8,bJ 67 61 66,xL 68 67,bS 69,aE 70,b8 71 70,aI 72 71,xL 73 72,xK 74 .rem 73 8,xO 75 (.bin .sub (j9 7) (.t 74)),xB 76 .shl 69 75,xB 77 .or 68 76,bJ 78 61 66,xS 1 78 77]) (xR [aE 79,b8 80 79,aI 81 80,xL 82 81,d9 83 .add 82,b8 84 79,aI 85 84,xS 1 85 83]))) 86 .add 32 32 86
def c_364_k1:Xu:=eH gU
def lR:AFn:=⟨3,[.tmp 6],fE [gU] (l8 0 [aE 10,xO 11 (.eqn false (.t 10) (.c .nilptr)),xM 12 11,bC 13 12 0,cZ 14 12 (GZ 13),bL 15 12 2 14,aO 16 12 15,xH 17 12 16,xW 18 12 17,xM 9 18] 9 [xI 6 1] (mZ [bN 20,d9 21 .lss 20,xM 22 21,bC 23 22 2,dW 24 22 .gtr 23 32,xW 25 22 24,xM 19 25] 19 [xI 6 10] (eJ [aG 27,bN 28,aN 29 g7 27 28,bY 30 29,xM 26 30] 26 6 9))) (gR [bN 31,aY 32] 1 c_364_l0) c_364_k1⟩
def c_367_l0:Xu:=bF 9 .lss 8 7 9 L9 18 .add 8 8 18
def c_367_k1:Xu:=eH (iM 4)
def D3:AFn:=⟨2,[.tmp 4],gF [bV] j5 0 c_367_l0 c_367_k1⟩
def D4:AFn:=⟨2,[.tmp 4],gH cC [aE 5,aG 6,aN 7 vS 5 6,b7 8 .geq 7,aS 8]⟩
def D5:AFn:=⟨2,[.tmp 3],fF AN [iN 4,xL 5 4,aK 6 1,xL 7 6,xB 8 .eql 5 7,bS 3]⟩
def eY:AFn:=⟨2,fR,bE [iT,xT,bV,bU 5] (fE [bR 7 2,xL 8 7,bG 8] (eP [d6 9,xL 10 9,xK 11 .neq 10 (-1)] 11 (.seq (nM [d6 12,xL 13 12,b7 14 .lss 13,xM 15 14,bL 16 15 0 3,aO 17 15 16,dE 18 15 2,aO 19 15 18,cV 20 15 19,dU 21 15 .geq 17 20,xW 22 15 21] 22 bV (bU 5)) (xR [aI 23 2,xL 24 23,d6 25,xL 26 25,dP 27 24 26,aI 28 27,xL 29 28,bG 29]))) (nM [dF 30,xL 31 30,b7 32 .lss 31,xM 33 32,dE 34 33 3,aO 35 33 34,bC 36 33 6,cV 37 33 36,dU 38 33 .geq 35 37,xW 39 33 38] 39 bV (bU 5)) (dL [cH 40,dF 41,xL 42 41,dP 43 40 42,aI 44 43,xL 45 44,aS 45,AU 5]))⟩
def oV:AFn:=⟨3,[.tmp 6],bE [s7,gU] (eG [aG 10,d6 11,xA 12 10 11,aN 13 jR 10 12,xM 9 13,bZ 14 9,c9 15 9,dO 14,bQ 15] (eJ [bS 16,b7 17 .eql 16,xM 18 17,eT 19 18 7,eT 20 18 2,gG 21 18 .neq 19 (.t 20),xV 22 18 21] 22 6 10) [bS 23,bG 23])⟩
def jI:AFn:=⟨3,[.tmp 6],Nk AD (xD [kK 8,xF 9 6 3,xL 10 9,aG 11,xX 12 7 10 11,dX 13 12,aW 14 13,aN 15 g0 8 14,dO 15]) 0 (mZ [jC 17,xL 18 17,cW 19,aN 20 g7 18 19,bY 21 20,xM 22 21,dE 23 22 5,aO 24 22 23,bC 25 22 7,wZ 26 22 g7 [.t 24,.t 25],xH 27 22 26,xW 28 22 27,xM 16 28] 16 [xI 6 9] (mZ [jC 30,xL 31 30,aI 32 5,xL 33 32,xB 34 .andNot 31 33,n8 35 .neq 34 fG,xM 29 35] 29 [xI 6 5] (eJ [kK 37,aG 38,bR 39 5,xL 40 39,fM 41 qC 37 38 40,bY 42 41,xM 36 42] 36 6 14))) (eH gU)⟩
def lS:AFn:=⟨3,[.tmp 6],eG AM (wW [bN 7] 0 (fS (.block 2 (.block 1 (.seq (.seq (eP [xK 9 .eql 7 (-1),bQ 9] 8 (.exit 1)) (eP [xK 11 .eql 7 (-2),xM 10 11] 10 (.exit 2))) (.exit 0)))) (qY 6) (.exit 0))) [bN 12,aG 13,xB 14 .gtr 12 13,xM 15 14,eT 16 15 2,fL 17 15 6 3,eU 18 15 17,AW 19 15 18,gG 20 15 .lss 16 (.t 19),xV 21 15 20,bG 21]⟩
def D6:AFn:=⟨2,[.tmp 3],bE AN (fF [xL 4 1,d9 5 .add 4,xS 1 1 5] [AU 3])⟩
def c_375_l0:Xu:=bF 9 .lss 8 7 9 L9 18 .add 8 8 18
def c_375_k1:Xu:=eH (iM 4)
def D7:AFn:=⟨2,[.tmp 4],gF [bV] j5 0 c_375_l0 c_375_k1⟩
def D8:AFn:=⟨1,[.tmp 2],eA [fW] [aE 3,aM 4 mN 3,bY 5 4] 5 [fW] (xD [H6,b8 7 6,aK 8 7,xL 9 8,xN 10 9,xO 11 (.bin .mul (j9 8) (.t 10)),aE 12,b8 13 12,aI 14 13,xL 15 14,xB 16 .sub 11 15,dN 16]) .ret⟩
def D9:AFn:=⟨1,[.tmp 2],eG [kJ,fW] (qX [aW 3 1,aM 4 g6 3,b7 5 .neq 4] 5 fW) [aW 6 1,aM 7 jT 6,aM 8 mK 7,bS 2]⟩
def c_383_l0:Xu:=nO 26 .lss 25 24 26 1 2 (F0 [aE 27,b8 28 27,aK 29 28,xL 30 29,aE 31,b8 32 31,aI 33 32,xL 34 33,xK 35 .quo 34 8,bJ 36 30 35,xL 37 36,aE 38,b8 39 38,aI 40 39,xL 41 40,xK 42 .rem 41 8,xO 43 (.bin .sub (j9 7) (.t 42)),xB 44 .shr 37 43,n8 45 .and 44 (.int .u8 1),dO 45] (bE [cH 46,n8 47 .shl 46 (.int .u64 1),cW 48,xO 49 (AS .u32 48),xB 50 .or 47 49,bG 50] (xR [aE 51,b8 52 51,aI 53 52,xL 54 53,d9 55 .add 54,b8 56 51,aI 57 56,xS 1 57 55]))) 58 .add 25 25 58
def c_383_k1:Xu:=dL [cH 59,aS 59,eK]
def DA:AFn:=⟨2,fR,cD [fO 4,eK] (l8 0 [aE 9,aM 10 mN 9,bY 11 10,bQ 11] 8 [fO 4,xI 5 1] (mZ [aG 13,d9 14 .lss 13,xM 15 14,bC 16 15 1,dW 17 15 .gtr 16 32,xW 18 15 17,xM 12 18] 12 [fO 4,xI 5 10] (kI [aE 20,aM 21 qE 20,aG 22,xB 23 .lss 21 22,xM 19 23] 19 (fO 4) 5 3))) (gF [fO 6] [aG 24,aY 25] 1 c_383_l0 c_383_k1)⟩
def c_384_l0:Xu:=Es (xK 6 .lss 5 32) 6 0 1 (bE [aJ 7,aS 7] (xR [bQ 3,aE 9,xM 10 4,xB 11 .shr 9 10,n8 12 .and 11 (EZ 1),xO 13 (AS .i64 12),xB 14 .add 8 13,xM 3 14])) 15 .add 5 5 15
def c_384_k1:Xu:=yS 16 16
def DB:AFn:=⟨1,[.tmp 2],gS [fW] [aY 3] [eK] 0 c_384_l0 c_384_k1⟩
def fY:AFn:=⟨5,[.cell 10 true 4],fE [rN 5,xP 6,fV 10 a9 a9 a9 a9] (xQ [bI 12 6,dM 13 cR [.t 12],fV 11 a9 a9 a9 a9,dB 11 13] [11]) (nM [aI 14 5,xL 15 14,bN 16,aN 17 vT 15 16,bY 18 17,xM 19 18,bL 20 19 0 11,aO 21 19 20,bC 22 19 2,wZ 23 19 vU [.t 21,.t 22],xH 24 19 23,xW 25 19 24,xM 26 25,bC 27 26 4,bC 28 26 27,fL 29 28 0 11,eU 30 28 29,eT 31 28 2,eF 32 28 (rP 1 30 (.t 31)),eU 33 28 32,eT 34 28 3,eF 35 28 (.eqs false false [.b] (.t 33) (.t 34)),cZ 36 26 (.pick (.t 28) (.t 35) (.c qT)),xW 37 26 36] 37 (bI 38 11) (dB 10 38)) (bE [aK 39 11,xL 40 39,bN 41,d7 42,bJ 43 40 41,xS 1 43 42] (fF [aI 44 11,xL 45 44,bN 46,dM 47 jN [.t 45,.t 46],⟨none,none,.clear rL (.t 47)⟩] [bI 48 11,dB 10 48]))⟩
def jJ:AFn:=⟨3,[.tmp 6],eG AM (qX [aG 7,b7 8 .lss 7,bS 9,bC 10 9 1,bL 11 9 0 3,bL 12 9 3 11,aO 13 9 12,cV 14 9 13,dU 15 9 .geq 10 14,xW 16 9 15,xM 17 16,bC 18 17 1,bL 19 17 9 3,aO 20 17 19,cV 21 17 20,dU 22 17 .geq 18 21,xW 23 17 22] 23 (bU 6)) [bN 24,xO 25 (AS .i64 24),d6 26,dX 27 26,xL 28 27,aG 29,xX 30 3 28 29,bR 31 30,xL 32 31,xB 33 .lss 25 32,xM 34 33,eT 35 34 2,eF 36 34 (AS .i64 35),fL 37 34 9 3,eU 38 34 37,eT 39 34 1,eF 40 34 (rP 1 38 (.t 39)),eU 41 34 40,AW 42 34 41,gG 43 34 .lss 36 (.t 42),xV 44 34 43,bG 44]⟩
def c_387_l0:Xu:=bF 12 .lss 11 10 12 L7 28 .add 11 11 28
def c_387_k1:Xu:=yS 29 29
def DC:AFn:=⟨1,[.tmp 2],gS rM LF AB 0 c_387_l0 c_387_k1⟩
def cQ:AFn:=⟨2,fR,fE GX (wW [d6 10,xL 11 10] 0 (j6 [d9 13 .eql 11,xM 12 13] 12 (eG [bR 15 3,xL 16 15,aM 17 iF 16,xM 14 17,bZ 18 14,c9 19 14,bG 18,dO 19] (IO [cW 20,b7 21 .eql 20,xM 22 21,fL 23 22 1 3,eU 24 22 23,gG 25 22 .lss 24 dD,eT 26 22 25,dE 27 26 3,aO 28 26 27,bC 29 26 6,wZ 30 26 aT [.t 29],cZ 31 26 (AS .i64 30),dU 32 26 .gtr 28 31,eF 33 22 (.pick (.t 26) (.c LV) (.t 32)),xV 34 22 33] 34 (oC bV (xI 5 9))) [cH 35,cW 36,aS 35,b6 36]) (j6 [xK 38 .eql 11 2,xM 37 38] 37 (fS (xQ [xA 40 10 2,dF 41,xL 42 41,bR 43 3,xL 44 43,fM 45 vV 40 42 44,xM 39 45,bZ 46 39,c9 47 39,gT 8 (.str []),bO 8 46,xM 9 47] [8]) (kI [xM 48 9,bY 49 48] 49 bV 5 8) (dL [aI 50 8,xL 51 50,aM 52 iF 51,bZ 53 52,c9 54 52,aS 53,b6 54])) (eP [xK 56 .eql 11 3,xM 55 56] 55 (.seq (kI [dF 57,xL 58 57,b7 59 .lss 58,xM 60 59,dE 61 60 3,aO 62 60 61,bL 63 60 9 2,aO 64 60 63,cV 65 60 64,dU 66 60 .geq 62 65,xW 67 60 66] 67 bV 5 8) (dL [xF 68 9 2,xL 69 68,dF 70,xL 71 70,dP 72 69 71,aI 73 72,xL 74 73,aM 75 iF 74,bZ 76 75,c9 77 75,aS 76,b6 77])))))) (kI [dF 78,xL 79 78,b7 80 .lss 79,xM 81 80,dE 82 81 3,aO 83 81 82,bL 84 81 0 2,dE 85 81 84,aO 86 81 85,cV 87 81 86,dU 88 81 .geq 83 87,xW 89 81 88] 89 bV 5 8) (oC (xI 4 1) eK)⟩
def bA:AFn:=⟨2,fR,fE GX (wW [iN 8,xL 9 8] 0 (.seq (kV [xK 11 .eql 9 6,xM 10 11] 10 (xR [xK 12 .eql 9 7,xM 10 12])) (yQ 10 (kI [aI 13 2,xL 14 13,b7 15 .lss 14,xM 16 15,dE 17 16 2,aO 18 16 17,dW 19 16 .gtr 18 31,xW 20 16 19] 20 bV 5 9) (j6 [xK 22 .eql 9 8,xM 21 22] 21 (fS (kI [aI 23 2,xL 24 23,b7 25 .lss 24] 25 bV 5 9) (l6 [bR 27 2,xL 28 27,aM 29 iF 28,xM 26 29,bZ 30 26,c9 31 26,bG 30,dO 31] [cW 32,b7 33 .neq 32,xM 34 33,dE 35 34 2,aO 36 34 35,cZ 37 34 wU,aO 38 34 37,bL 39 34 2 2,aO 40 34 39,dU 41 34 .sub 38 40,dU 42 34 .gtr 36 41,xW 43 34 42] 43 [bV,xI 5 10]) (dL [bR 44 2,xL 45 44,aS 45,eK])) (mZ [xK 47 .eql 9 14,xM 46 47] 46 [xO 48 wU,xL 49 48,xO 50 AC,xL 51 50,xB 52 .add 49 51,aM 53 iF 52,bZ 54 53,c9 55 53,aS 54,b6 55] (eP [xK 57 .eql 9 17,xM 56 57] 56 (.seq (kI [xO 58 wU,xL 59 58,d9 60 .neq 59,xM 61 60,cZ 62 61 AC,aO 63 61 62,cZ 64 61 (P8 1 3 3 (j9 2)),aO 65 61 64,dU 66 61 .neq 63 65,xW 67 61 66] 67 bV 5 10) (dL [xO 68 AC,xL 69 68,aS 69,eK])))))))) (kI [iN 70,xL 71 70,aM 72 mO 71,xK 73 .eql 72 2,xM 74 73,eF 75 74 wU,eU 76 74 75,eF 77 74 AC,eU 78 74 77,gG 79 74 .neq 76 (.t 78),xV 80 74 79] 80 bV 5 10) (.seq (nM [iN 81,xL 82 81,xK 83 .eql 82 15,xM 84 83,bL 85 84 0 2,aO 86 84 85,dW 87 84 .eql 86 16,xW 88 84 87] 88 (xI 4 1) eK) (dL [xO 89 wU,xL 90 89,aS 90,eK]))⟩
def DE:AFn:=⟨2,[.tmp 4],gH (fO 4) [aE 5,xO 6 (.un .xor (.t 5)),aG 7,aM 8 aT 7,xB 9 .and 6 8,aS 9]⟩
def DF:AFn:=⟨3,[.tmp 6],cD [fO 6] (xD [aE 7,aG 8,xO 9 (.minmax true [.t 8,.c mX]),xB 10 .shl 7 9,bN 11,aM 12 aT 11,xB 13 .and 10 12,bG 13]) .ret⟩
def DG:AFn:=⟨3,[.tmp 6],gH (fO 6) [aE 7,bQ 2,aM 9 aT 8,xB 10 .and 7 9,aG 11,xO 12 (.minmax true [.t 11,.c mX]),xB 13 .shr 10 12,bG 13]⟩
def DH:AFn:=⟨3,[.tmp 6],eA [fO 6] [bN 7,xO 8 LH,aM 9 eD 8,bY 10 9,xM 11 10,bC 12 11 1,dW 13 11 .lss 12 0,xW 14 11 13,xM 15 14,bC 16 15 1,bC 17 15 2,cZ 18 15 (.bin .sub (j9 32) (.t 17)),dU 19 15 .gtr 16 18,xW 20 15 19] 20 [fO 6] (xD [aE 21,aG 22,xB 23 .shr 21 22,bN 24,aM 25 aT 24,xB 26 .and 23 25,bG 26]) .ret⟩
def DI:AFn:=⟨3,[.tmp 6],gH (fO 6) [aE 7,aG 8,xB 9 .add 7 8,bN 10,aM 11 aT 10,xB 12 .and 9 11,bG 12]⟩
def DJ:AFn:=⟨3,[.tmp 6],gH (fO 6) [aE 7,aG 8,xB 9 .sub 7 8,bN 10,aM 11 aT 10,xB 12 .and 9 11,bG 12]⟩
def DK:AFn:=⟨4,[.tmp 8,.tmp 9],eA [fO 8,bU 9] [aG 10,d7 11,xO 12 (.bslice .imm 1 (List.replicate 2 kT) [(0,(.t 10)),(1,(.t 11))]),aM 13 eD 12,bY 14 13,xM 15 14,bC 16 15 1,bC 17 15 3,dU 18 15 .add 16 17,dW 19 15 .gtr 18 32,xW 20 15 19] 20 [fO 8,bU 9] (xD [aE 21,aG 22,aM 23 aT 22,xB 24 .and 21 23,d7 25,xB 26 .shl 24 25,bN 27,d7 28,aM 29 aT 28,xB 30 .and 27 29,xB 31 .or 26 30,bQ 31,AU 9]) .ret⟩
def DL:AFn:=⟨1,GY,eG [gT 2 fG] (nM [aE 3] 3 (xO 4 (.build fQ [(0,1,(.c (.int .u32 1))),(1,1,GW)])) (bO 2 4)) [xO 5 (.build fQ [(0,1,(.c (.int .u32 0))),(1,1,GW)]),bO 2 5]⟩
def c_398_l0:Xu:=bF 36 .lss 35 34 36 (l6 [xM 37 35,bJ 38 33 35,xL 39 38,b6 37,bG 39] [cH 40,xN 41 40,aI 42 2,xL 43 42,aJ 44,dP 45 43 44,aI 46 45,xL 47 46,xN 48 47,xB 49 .neq 41 48] 49 [cC]) 50 .add 35 35 50
def c_398_k1:Xu:=qY 4
def DM:AFn:=⟨2,[.tmp 4],eA [iT,xT,cC] [d6 7,xL 8 7,xN 9 8,aI 10 2,xL 11 10,xN 12 11,xB 13 .neq 9 12,xM 14 13,dE 15 14 3,aO 16 14 15,cV 17 14 16,dE 18 14 2,aO 19 14 18,cV 20 14 19,dU 21 14 .neq 17 20,xW 22 14 21,xM 23 22,bL 24 23 2 3,aO 25 23 24,cV 26 23 25,bL 27 23 2 2,aO 28 23 27,cV 29 23 28,dU 30 23 .neq 26 29,xW 31 23 30] 31 [cC] (iV (dF 32) 33 32 34 33 35 0 c_398_l0) c_398_k1⟩
def c_399_l0:Xu:=bF 12 .lss 11 10 12 (l6 [xM 13 11,bJ 14 9 11,xL 15 14,dO 13,bQ 15] [bS 16,kK 17,aG 18,cW 19,xO 20 (.build wM [(0,1,(.t 18)),(1,1,(.t 19))]),aN 21 g0 17 20,aM 22 aT 21,xB 23 .gtr 16 22] 23 [bU 6]) 24 .add 11 11 24
def c_399_k1:Xu:=qY 6
def DN:AFn:=⟨3,[.tmp 6],gF AM [bN 9,xN 10 9,aY 11] 0 c_399_l0 c_399_k1⟩
def DO:AFn:=⟨1,[.tmp 2],gH (bU 2) [aE 3,AQ 4 vW 3 (.c (.func (.func jZ) [] [])),bY 5 4,aJ 2]⟩
def c_401_l0:Xu:=bF 8 .lss 7 6 8 (kH [bJ 9 5 7,xL 10 9,aS 10] (xM 11 4) 12 .neq 11 12 [xM 13 4,dN 13]) 14 .add 7 7 14
def c_401_k1:Xu:=eH fW
def DP:AFn:=⟨1,[.tmp 2],gF [fW] [aE 5,xN 6 5,aY 7] 0 c_401_l0 c_401_k1⟩
def c_402_l0:Xu:=bF 9 .lss 8 7 9 (l6 AF [aG 11,aE 12,aJ 13,dP 14 12 13,aW 15 14,wY 16 11 [.t 15]] 16 AG) 18 .add 8 8 18
def c_402_k1:Xu:=eH (iM 4)
def DQ:AFn:=⟨2,[.tmp 4],gF [bV] j5 0 c_402_l0 c_402_k1⟩
def tE:AFn:=⟨2,[.tmp 4],gH cC GO⟩
def tG:AFn:=⟨2,[.tmp 4],gH cC GO⟩
def oW:AFn:=⟨1,AJ,eG [fW,aY 3] (kI [aE 4,d9 5 .lss 4,aJ 6,bC 7 6 0,dW 8 6 .gtr 7 32,xW 9 6 8] 9 fW 3 10) [aE 10,dN 10,aY 3]⟩
def eZ:AFn:=⟨3,[.cell 6 true 2,.tmp 7],bE [s7,gT 6 (.str []),bU 7] (fE [d6 9,bR 10 9,xL 11 10,bQ 11] (eP [aG 12,xK 13 .neq 12 (-1)] 13 (.seq (gQ [aG 14,b7 15 .lss 14,xM 16 15,bC 17 16 1,bL 18 16 0 3,dE 19 16 18,aO 20 16 19,cV 21 16 20,dU 22 16 .geq 17 21,xW 23 16 22] 23 [xO 24 (.build wQ []),bO 6 24,bU 7]) (xR [d6 25,aI 26 25,xL 27 26,aG 28,dP 29 27 28,aI 30 29,xL 31 30,bQ 31]))) (gQ [bN 32,b7 33 .lss 32,xM 34 33,bC 35 34 2,bC 36 34 8,cV 37 34 36,dU 38 34 .geq 35 37,xW 39 34 38] 39 [xO 40 (.build wQ []),bO 6 40,bU 7]) (dL [bS 41,bN 42,dP 43 41 42,aW 44 43,bO 6 44,AU 7]))⟩
def DR:AFn:=⟨2,[.tmp 4],gH cC [aE 5,aG 6,aN 7 vX 5 6,b7 8 .geq 7,aS 8]⟩
def DS:AFn:=⟨1,[.tmp 2],gH (bU 2) [aE 3,n8 4 .neq 3 fG,dN 4]⟩
def c_410_l0:Xu:=bF 9 .lss 8 7 9 (l6 AF [aG 11,aE 12,aJ 13,bJ 14 12 13,xL 15 14,wY 16 11 [.t 15]] 16 AG) 18 .add 8 8 18
def c_410_k1:Xu:=eH (iM 4)
def DT:AFn:=⟨2,[.tmp 4],gF [bV] j5 0 c_410_l0 c_410_k1⟩
def DU:AFn:=⟨2,[.tmp 4],bE GS (fF LE [xC 4 (.Xt 5 [])])⟩
def tH:AFn:=⟨2,[.tmp 4],eG GS (gQ LE 10 [iN 11,dX 12 11,xL 13 12,aS 13]) [iN 14,xF 15 4 14,xL 16 15,aS 16]⟩
def tI:AFn:=⟨2,[.tmp 4],eG GS (.seq (qV [(1,5)] [⟨some 5,none,.faddr 1 (.t 3)⟩,⟨some 6,none,.load false 1 (.t 5)⟩,⟨some 7,none,.faddr 0 (.t 2)⟩,⟨some 8,none,.faddr 2 (.t 7)⟩,⟨some 9,none,.load false 1 (.t 8)⟩,⟨some 10,none,.append .app 3 24 (.c oA) (.t 9)⟩,⟨some 11,none,.pcallv (.t 6) [.t 10]⟩] none) (IM 11 (dL [iN 12,dX 13 12,xL 14 13,aS 14]))) [iN 15,xF 16 4 15,xL 17 16,aS 17]⟩
def tabL:List (Nat×AFn):=[(PF,J3),
  (FD,F7),
  (FE,J2),
  (FF,r5),
  (zF,sN),
  (FG,F8),
  (FH,F9),
  (FI,FA),
  (vZ,z9),
  (zG,lT),
  (FJ,r6),
  (FK,nV),
  (FN,zA),
  (zH,J4),
  (zI,zB),
  (FO,FB),
  (zJ,zD),
  (zL,J5),
  (w5,FC),
  (tJ,sC),
  (tK,sD),
  (tL,sE),
  (i6,lB),
  (oY,BB),
  (i7,lC),
  (jK,BC),
  (oZ,gV),
  (tN,gW),
  (tO,BD),
  (tP,sF),
  (tQ,BE),
  (tR,lD),
  (lU,dQ),
  (lW,BF),
  (tS,eW),
  (tT,sG),
  (p5,sH),
  (jL,lE),
  (tU,BG),
  (tV,oD),
  (i9,BH),
  (tW,sI),
  (tX,BI),
  (aT,sJ),
  (lY,gX),
  (cR,gY),
  (g0,oE),
  (iA,dR),
  (iB,oF),
  (p6,sK),
  (lZ,sL),
  (p7,jE),
  (p8,sO),
  (p9,BJ),
  (tY,BK),
  (mA,sP),
  (aR,sQ),
  (bM,BL),
  (pA,BM),
  (pB,BN),
  (mB,BO),
  (g6,lG),
  (iC,BP),
  (pC,BQ),
  (mD,BR),
  (tZ,BS),
  (pD,BT),
  (mE,BU),
  (u5,jF),
  (pE,BV),
  (mF,BW),
  (pF,lH),
  (pG,BZ),
  (mG,C0),
  (pH,oG),
  (u6,gZ),
  (pI,sR),
  (u9,C1),
  (eC,lI),
  (uA,C2),
  (uB,C3),
  (pJ,C4),
  (g7,sS),
  (uC,sT),
  (eD,jG),
  (g9,oH),
  (uE,C5),
  (pK,C6),
  (pL,oI),
  (uF,sW),
  (mH,sX),
  (jM,oJ),
  (iD,oK),
  (pM,C7),
  (uG,oL),
  (uH,oM),
  (pN,sY),
  (jN,cA),
  (uI,oN),
  (uJ,lJ),
  (jO,sZ),
  (cG,C8),
  (uK,t6),
  (jQ,C9),
  (mI,oO),
  (pO,CA),
  (uL,oP),
  (pP,CB),
  (pQ,CC),
  (pR,CD),
  (pS,CE),
  (pT,CG),
  (pU,CH),
  (pV,CJ),
  (jR,lK),
  (dT,cP),
  (uM,CK),
  (mJ,CL),
  (pW,t7),
  (pX,oQ),
  (jS,t8),
  (mK,CM),
  (jT,CN),
  (pY,CO),
  (uN,lO),
  (uO,aP),
  (uP,oR),
  (uQ,CP),
  (mL,t9),
  (f9,lP),
  (pZ,hS),
  (uR,dS),
  (uS,tA),
  (uT,CQ),
  (q6,CR),
  (uU,CT),
  (mM,CU),
  (uV,CV),
  (uW,CW),
  (jV,jH),
  (mN,CX),
  (uX,oS),
  (q8,oT),
  (jW,CY),
  (uY,CZ),
  (uZ,D0),
  (v5,tB),
  (q9,oU),
  (qA,fX),
  (mO,tC),
  (v6,hZ),
  (v7,lQ),
  (v8,eX),
  (v9,D1),
  (vA,tD),
  (iE,lR),
  (vB,D3),
  (vC,D4),
  (jX,D5),
  (qB,eY),
  (mP,oV),
  (vD,jI),
  (qC,lS),
  (qD,D6),
  (vE,D7),
  (qE,D8),
  (vF,D9),
  (qF,DA),
  (qG,DB),
  (jY,fY),
  (qH,jJ),
  (qI,DC),
  (qJ,cQ),
  (vG,bA),
  (vI,DE),
  (vJ,DF),
  (vK,DG),
  (vL,DH),
  (vM,DI),
  (vN,DJ),
  (vO,DK),
  (qK,DL),
  (vP,DM),
  (qL,DN),
  (vQ,DO),
  (vR,DP),
  (vS,DQ),
  (vT,tE),
  (vU,tG),
  (iF,oW),
  (vV,eZ),
  (vW,DR),
  (jZ,DS),
  (vX,DT),
  (qM,DU),
  (qN,tH),
  (vY,tI)]
def tabD:List (Nat×ADFn):=[(FL,cJ)]
def tabC:List CloneD:=[⟨w4,1,8,.row⟩,⟨zK,2,8,.app⟩,⟨lX,1,4,.app⟩,⟨JF,2,24,.app⟩,⟨JG,3,32,.app⟩,⟨JV,3,24,.app⟩,⟨JW,3,16,.app⟩,⟨JX,3,24,.app⟩]
def nilL:List (Nat×Nat):=[(Ns,14),(PI,3),(PI,4),(PI,6),(zF,10),(PB,8),(zG,6),(K1,3),(PJ,4),(PM,15),(PN,14),(w5,3),(J6,5),(lW,5),(J8,10),(J9,16),(lY,10),(p6,7),(JC,3),(JD,5),(pB,5),(pC,5),(pD,5),(pE,5),(pG,5),(JE,5),(JH,5),(JI,5),(JJ,5),(JK,5),(JM,3),(JO,4),(JP,8),(JQ,12),(JR,8),(pM,3),(jT,3),(JU,5),(JY,8),(jV,9),(cR,9),(cR,13),(cR,30)]
def thr:List Nat:=[JS,JT,PD,K3,PG,PH,w3,oY,i7,oZ,J7,iB,pK,pL,mH,pR,pS,pT,pU,pV,dT,mJ,pX,jS,f9,jV,iE,qF]
def thrAt:List (Nat×Nat):=[(PL,fZ),(JZ,fZ),(lZ,jQ),(mI,jQ),(w3,w4),(PC,K1),(lY,g9),(JN,fZ),(i6,cR),(jY,cR),(i6,iA),(iA,jN),(jY,jN),(q9,qI)]
def thrV:List Nat:=[f9,iB,qM,qN,mA,p7]
def rowAt:List (Nat×Nat):=[(uD,27),(uD,29),(fZ,26),(fZ,34),(JT,112),(w4,7),(fZ,9),(fZ,28),(cR,32)]
def thrVAt:List (Nat×Nat):=[]
def rowF:List Nat:=[w3,FM,jM,iD,iE]
def rowFB:List Nat:=[jM,iD,iE]
def appAt:List (Nat×Nat):=[(FM,32),(w3,70)]
def immAt:List (Nat×Nat):=[(JL,26)]
def slcHL:List Nat:=[]
def browAt:List (Nat×Nat):=[(uD,28),(fZ,27),(w3,39),(cR,31)]
def boxiAt:List (Nat×Nat):=[(K3,2),(JS,1),(FM,1)]
def takeAt:List (Nat×Nat):=[]
def boxiL:List (Nat×List Nat):=[(3,[1]),(4,[2]),(5,[1]),(6,[3]),(7,[1]),(8,[1]),(9,[2]),(10,[1]),(11,[2,3]),(13,[3,4,5]),(14,[3,4,5]),(15,[2,3]),(18,[3,4]),(19,[3]),(21,[1]),(22,[2,3]),(29,[5]),(31,[8,9]),(32,[2]),(34,[1]),(37,[3,4,5]),(38,[3,5]),(39,[4,5]),(45,[1]),(46,[2,3]),(47,[3,4,5]),(48,[1]),(49,[1]),(50,[1]),(51,[1]),(52,[1]),(53,[1]),(54,[1]),(55,[4]),(56,[3,5]),(57,[2]),(59,[2,3]),(67,[1]),(74,[3,5]),(78,[1]),(79,[3]),(81,[1]),(89,[2]),(90,[4,5,6]),(91,[2,3]),(92,[5,6]),(93,[4,5,7]),(98,[1]),(100,[5,9]),(101,[2]),(102,[2]),(103,[4,5,6]),(110,[1]),(112,[1]),(113,[2]),(114,[2]),(115,[1]),(116,[1]),(117,[1]),(118,[3,5]),(119,[3]),(120,[3]),(121,[2,3]),(123,[1]),(126,[2]),(130,[1]),(131,[1]),(132,[1]),(133,[1]),(134,[1]),(135,[1]),(137,[1]),(138,[1]),(139,[2]),(140,[2]),(141,[3]),(142,[2]),(143,[3]),(144,[2,3]),(146,[1]),(148,[2]),(151,[2]),(153,[2,3]),(154,[2,3]),(155,[2]),(157,[2,3]),(159,[3,5]),(160,[1]),(161,[3]),(162,[7,8]),(163,[4,5,7]),(164,[4,5]),(166,[2]),(167,[3,5]),(170,[2]),(172,[2,3]),(177,[3,5]),(179,[4,5,6]),(180,[5,6]),(182,[2,3]),(183,[2,3]),(186,[2]),(188,[3,4,5]),(189,[2]),(190,[2,3]),(191,[2,3]),(192,[2]),(196,[3]),(197,[2]),(198,[3]),(199,[2]),(200,[2]),(207,[1]),(208,[1]),(211,[1]),(214,[1]),(215,[1]),(217,[1]),(218,[2]),(220,[1]),(221,[1]),(222,[1]),(223,[1]),(236,[1]),(238,[2,3]),(239,[2,3]),(240,[2]),(243,[2]),(244,[1]),(246,[4,5]),(247,[2,3]),(248,[1]),(249,[2,3]),(250,[3]),(251,[5]),(253,[2,3]),(256,[2]),(257,[4]),(258,[3,5]),(259,[3,4]),(260,[3,4]),(261,[4]),(262,[5]),(265,[2]),(268,[2,3]),(274,[2]),(278,[1]),(279,[2,3]),(280,[2]),(281,[2]),(283,[5]),(284,[5]),(285,[4,6,7]),(293,[3]),(295,[2,3]),(300,[2,3]),(301,[4]),(302,[2,3]),(303,[2]),(304,[3]),(311,[1]),(313,[1]),(314,[2,3]),(315,[2]),(319,[5]),(320,[3,4]),(321,[1]),(333,[2]),(335,[2,3]),(336,[2]),(344,[2]),(345,[4,6,7]),(346,[3]),(347,[4]),(351,[3,5]),(353,[3,4]),(354,[3,4]),(355,[4]),(356,[5]),(357,[3]),(359,[3]),(360,[2,3]),(361,[4,5]),(362,[2,3]),(365,[1]),(369,[2]),(370,[2,3]),(371,[3]),(372,[3,5]),(373,[3]),(374,[2]),(376,[1]),(377,[1]),(380,[3,5]),(382,[1]),(385,[5,6]),(386,[3]),(388,[2,3]),(389,[2,3]),(398,[2,3]),(399,[3]),(407,[3])]
def keepL:List (Nat×List (Nat×List Nat)):=[(3,[(3,[3,4]),(4,[5,6])]),(4,[(3,[6]),(4,[8])]),(5,[(3,[3])]),(6,[(4,[9]),(5,[11]),(6,[13])]),(7,[(3,[3,4])]),(8,[(11,[7,8]),(12,[9,10])]),(9,[(3,[5]),(10,[13,14])]),(10,[(1,[3]),(2,[4]),(8,[11,12])]),(12,[(1,[1,2]),(2,[3,4]),(3,[5,6]),(4,[8])]),(13,[(1,[9])]),(14,[(1,[8])]),(18,[(6,[12]),(9,[14])]),(19,[(5,[10,11])]),(24,[(1,[1,2])]),(26,[(1,[4])]),(33,[(7,[3]),(8,[4])]),(35,[(6,[3]),(7,[4]),(8,[5]),(9,[6])]),(37,[(3,[8])]),(45,[(8,[8]),(9,[9]),(16,[11])]),(46,[(1,[5])]),(47,[(1,[9]),(4,[11])]),(58,[(1,[6])]),(63,[(2,[2])]),(64,[(2,[2]),(3,[3])]),(72,[(4,[5])]),(74,[(9,[12])]),(82,[(8,[8]),(15,[10])]),(85,[(2,[2])]),(89,[(1,[6])]),(90,[(1,[9])]),(91,[(15,[11])]),(93,[(1,[10,11]),(2,[12])]),(100,[(6,[13]),(15,[15])]),(102,[(1,[6])]),(103,[(1,[9])]),(105,[(2,[6])]),(110,[(11,[5])]),(113,[(3,[6])]),(114,[(3,[6])]),(128,[(4,[7])]),(131,[(4,[4])]),(132,[(5,[4]),(12,[6])]),(133,[(4,[4])]),(136,[(3,[5])]),(137,[(4,[5])]),(139,[(3,[6])]),(140,[(6,[7])]),(142,[(6,[7])]),(159,[(10,[11])]),(162,[(1,[11]),(20,[19])]),(163,[(1,[10])]),(164,[(4,[12]),(9,[15])]),(176,[(3,[5])]),(178,[(3,[10]),(4,[11])]),(179,[(5,[13]),(10,[15])]),(183,[(3,[5])]),(192,[(1,[6])]),(196,[(1,[7])]),(206,[(4,[7])]),(208,[(9,[4])]),(210,[(4,[7])]),(213,[(4,[7])]),(216,[(4,[7])]),(218,[(3,[6]),(7,[7]),(10,[9])]),(219,[(4,[7])]),(221,[(8,[7])]),(224,[(4,[7])]),(228,[(4,[7])]),(230,[(4,[7])]),(232,[(4,[7])]),(234,[(4,[7])]),(238,[(4,[9])]),(246,[(5,[13])]),(264,[(1,[3])]),(265,[(6,[9])]),(268,[(5,[7])]),(281,[(5,[6])]),(282,[(3,[7])]),(283,[(3,[7])]),(294,[(1,[3]),(9,[4]),(10,[5]),(12,[6]),(13,[7]),(14,[8])]),(295,[(6,[8])]),(298,[(14,[13])]),(303,[(1,[6]),(6,[9])]),(311,[(4,[5])]),(313,[(7,[4])]),(314,[(1,[5])]),(315,[(1,[6]),(16,[10])]),(317,[(6,[5])]),(318,[(3,[6])]),(323,[(4,[7])]),(333,[(10,[10])]),(346,[(1,[7])]),(348,[(12,[11])]),(351,[(5,[8])]),(385,[(1,[11])]),(388,[(8,[8])])]
def D':List (Nat×List Nat):=[(130,[1,2,3,4,5]),(131,[5,6,7]),(132,[1,6,7,8,13]),(133,[5,6,13,14,21,22]),(134,[2,4,6]),(168,[2]),(203,[1])]
def ann:Ann:=
  { pure:=fun fn f _=> !(gC f thr)&& !(thrAt.any fun p=>p.1 == fn&&p.2 == f)
    purev:=fun fn d=> !(gC fn thrV)&& !(match d with | some t=>thrVAt.any (fun q=>q.1 == fn&&q.2 == t) | none=>false),bmode:=fun fn d=>if gC fn rowFB || (match d with | some t=>browAt.any (fun q=>q.1 == fn&&q.2 == t) | none=>false) then .row else .imm,smode:=fun fn d=>match d with | some t=>if immAt.any (fun q=>q.1 == fn&&q.2 == t) then .imm else .row | none=> .row,amode:=fun fn d=>match d with | some t=>if rowAt.any (fun q=>q.1 == fn&&q.2 == t) || (gC fn rowF&& !(appAt.any fun q=>q.1 == fn&&q.2 == t)) then .row else .app | none=> .app
    nilapp:=fun fn d=>match d with | some t=>nilL.any (fun q=>q.1 == fn&&q.2 == t) | none=>false
    slch:=fun fn d=>(gC fn slcHL&&(match d with | some t=>t == 13 || t == 31 | none=>false)) || (match d with | some t=>takeAt.any (fun q=>q.1 == fn&&q.2 == t) | none=>false)
    boxi:=fun fn d=>match d with | some t=>boxiAt.any (fun q=>q.1 == fn&&q.2 == t) || (match look fn boxiL with | some l=>gC t l | none=>false) | none=>false
    keep:=fun fn id=>(look fn keepL).bind (look id)
    split:=fun fn id=>match look fn D' with | some l=>gC id l | none=>false }
def ktabL:List Nat:=[174,175,431,36,35,12,23,40,15]
def OO (b:FuncId->Option AFun) (P:Program) (A:Ann) (l:List Nat) (f:FuncId):Option AFun:=match b f with
  | some x=>some x
  | none=>if gC f l then (cFn P A f).map .code else none
def Φ:FuncId->Option AFun:=OO (OV tabL tabD tabC) Go.Proofs.Tryz.prog ann ktabL
end
end Go.Av
