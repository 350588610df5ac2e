/-
  The compact form of the program's functions, printed by a program.
-/
import Derived.Test.YtcehjengeaafpaaGreatAvD
import Derived.Test.YtcehjengeaafpaaGreatRows
set_option linter.unusedVariables false
set_option linter.unusedSimpArgs false
set_option linter.constructorNameAsVariable false
namespace Go.Av
noncomputable section
abbrev xM (d s:Nat):Xv:=⟨some d,none,.mov (.t s)⟩
abbrev xI (d:Nat) (n:Int):Xv:=⟨some d,none,.mov (.c (.int .i64 n))⟩
abbrev xC (d:Nat) (v:AV):Xv:=⟨some d,none,.mov (.c v)⟩
abbrev xF (d o s:Nat):Xv:=⟨some d,none,.faddr o (.t s)⟩
abbrev xL (d s:Nat):Xv:=⟨some d,none,.load false 1 (.t s)⟩
abbrev xA (d n s:Nat):Xv:=⟨some d,none,.load true n (.t s)⟩
abbrev xX (d z a i:Nat):Xv:=⟨some d,none,.iaddr z none (.t a) (.t i)⟩
abbrev xS (n p v:Nat):Xv:=⟨none,none,.store n (.t p) (.t v)⟩
abbrev xN (d s:Nat):Xv:=⟨some d,none,.len (.t s)⟩
abbrev xE (d i s:Nat):Xv:=⟨some d,none,.ext i (.t s)⟩
abbrev xB (d:Nat) (p:BinOp) (a b:Nat):Xv:=⟨some d,none,.bin p (.t a) (.t b)⟩
abbrev xK (d:Nat) (p:BinOp) (a:Nat) (n:Int):Xv:=⟨some d,none,.bin p (.t a) (.c (.int .i64 n))⟩
abbrev xW (d a b:Nat):Xv:=⟨some d,none,.pick (.t a) (.c (.bool true)) (.t b)⟩
abbrev xV (d a b:Nat):Xv:=⟨some d,none,.pick (.t a) (.t b) (.c (.bool false))⟩
abbrev xJ (d s:Nat):Xv:=⟨some d,none,.boxi (.t s)⟩
abbrev xO (d:Nat) (p:AOp):Xv:=⟨some d,none,p⟩
abbrev xG (d g:Nat) (b:Bool) (p:AOp):Xv:=⟨some d,some (g,b),p⟩
abbrev xR (l:List Xv):Xu:= .region false [] l none
abbrev xD (l:List Xv):Xu:= .region true [] l none
abbrev xQ (l:List Xv) (k:List Nat):Xu:= .region false [] l (some k)
abbrev bA (a:List Xv) (b:Xu):Xu:= .seq (xR a) b
abbrev yT (a:Nat) (b c:Xu):Xu:= .cond (.t a) b c
abbrev dR (a:List Xv):Xu:=bA a .ret
abbrev AU (a b:Nat) (c:List AX):Xv:=xO a (.pcall b c)
abbrev dE (a b:Nat) (c:AOp):Xv:=xG a b false c
abbrev cC (a:List Xv) (b c:Xu):Xu:=bA a (.seq b c)
abbrev iX (a:List Xv) (b:Nat) (c d:Xu):Xu:=bA a (yT b c d)
abbrev a7 (a:Int):AV:= .int .i64 a
abbrev mX (a:List Xv) (b:Nat) (c:List Xv) (d:Xu):Xu:=iX a b (dR c) d
abbrev gN (a:List Xv) (b:Nat) (c:List Xv):Xu:=mX a b c .skip
abbrev Ew (a:Nat) (b:Xu):Xu:= .block a (.loop b)
abbrev qS:AV:= .bool false
abbrev fE (a:List Xv) (b c d:Xu):Xu:=cC a b (.seq c d)
abbrev Ns (a b:Nat):AOp:= .faddr a (.t b)
abbrev Nt (a:Bool) (b c:Nat):AOp:= .load a b (.t c)
abbrev cN (a:Nat) (b:List AV):Xv:=xO a (.alloc b)
abbrev fF (a b:Nat) (c:AOp):Xv:=xG a b true c
abbrev Nu (a:List Xv) (b:Xu) (c:Nat) (d e:Xu):Xu:=fE a b (.block c d) e
abbrev Ey (a:BinOp) (b:Nat) (c:AX):AOp:= .bin a (.t b) c
abbrev Nv (a b:Nat):AOp:=Nt false a b
abbrev kS (a:Int):AX:= .c (a7 a)
abbrev HC (a:Nat):AOp:= .nilchk (.t a)
abbrev yaw (a:Nat) (b:Xu) (c:Nat):Xu:=yT a b (.exit c)
abbrev Nw (a:Nat):AOp:= .mov (.t a)
abbrev gO (a:List Xv) (b:Nat) (c:Xu):Xu:=bA a (Ew b c)
abbrev bU (a b c d:Nat):Xv:=dE a b (Ns c d)
abbrev ya0 (a b:Nat):Xu:=yaw a .skip b
abbrev Ev (a:List Xv) (b c d:Nat) (e f:Xu):Xu:=Nu a (ya0 b c) d e f
abbrev ya2 (a b c d:Nat):Xv:=dE a b (Nv c d)
abbrev aY (a:Nat):Xv:=xI a 0
abbrev PA (a b:Nat) (c:BinOp) (d:Nat) (e:AX):Xv:=dE a b (Ey c d e)
abbrev F5 (a:Int):AV:= .int .u32 a
abbrev cA (a:Nat):Xv:=xC a qS
abbrev bF (a b c:Nat):Xv:=dE a b (Nw c)
abbrev ya8 (a:List Xv) (b c d:Nat) (e:Xu) (f:List Xv):Xu:=Ev a b c d e (xR f)
abbrev ya9 (a b:Nat) (c d:AX):Xv:=AU a b [c,d]
abbrev AW (a b c:Nat) (d:AX):Xv:=ya9 a b (.t c) d
abbrev aN (a b c d:Nat):Xv:=AW a b c (.t d)
abbrev nY (a b c:Xu):Xu:= .seq a (.seq b c)
abbrev b8 (a b:Nat):Xv:=xO a (HC b)
abbrev eM (a b:List Xv):Xu:=bA a (dR b)
abbrev cD:AV:=a7 0
abbrev ybg (a:AX):AOp:= .un .not a
abbrev PC (a:Nat):AOp:=ybg (.t a)
abbrev aF (a:Nat):Xv:=xM a 0
abbrev aK (a b:Nat):Xv:=xF a 0 b
abbrev F7 (a:Nat):AOp:= .len (.t a)
abbrev aI (a b:Nat):Xv:=xF a 1 b
abbrev dJ (a b:Nat) (c:List AX):Xv:=xO a (.tcall b c)
abbrev gE (a b:List Xv) (c:Nat) (d e:Xu):Xu:=cC a (gO b c d) e
abbrev d7 (a b c:Nat):Xv:=dE a b (F7 c)
abbrev bZ (a b:Nat):Xv:=xO a (PC b)
abbrev aG (a:Nat):Xv:=xM a 1
abbrev ybr (a:Nat):AOp:= .box (.t a)
abbrev ybs (a:List Xv) (b c d:Nat) (e:Xu) (f g:Xv):Xu:=ya8 a b c d e [f,g]
abbrev ybt (a:List Xv) (b c d:Nat) (e:Xu) (f:Xv) (g h:Nat):Xu:=ybs a b c d e f (xM g h)
abbrev ybu (a:List Xv) (b c d:Nat) (e:Xu) (f:Nat) (g:BinOp) (h:Nat) (i:Int) (j k:Nat):Xu:=ybt a b c d e (xK f g h i) j k
abbrev kY (a b:List Xv) (c:Nat) (d:List Xv):Xu:=bA a (gN b c d)
abbrev ybw (a b:Nat) (c:AX):Xv:=AU a b [c]
abbrev aM (a b c:Nat):Xv:=ybw a b (.t c)
abbrev yby (a:SM) (b c:Nat) (d:AX) (e:Nat):AOp:= .append a b c d (.t e)
abbrev aJ (a:Nat):Xv:=xM a 5
abbrev fU (a b:Nat):Xv:=xO a (ybr b)
abbrev kT (a:List Xv) (b:Nat) (c:Xu):Xu:=iX a b .skip c
abbrev fG (a b c:Nat):Xv:=fF a b (Nw c)
abbrev PB:AV:= .bool true
abbrev aT (a b c:Nat):Xv:=ya2 a b 1 c
abbrev F6 (a:List Xv) (b:Xu):Xu:= .seq (xD a) b
abbrev s5 (a:List Xv) (b:List Nat) (c:Xu):Xu:= .seq (xQ a b) c
abbrev eE (a:List Xv) (b:Xu) (c:List Xv):Xu:=cC a b (dR c)
abbrev eL (a:List Xv) (b:Nat) (c:Xu):Xu:=iX a b c .skip
abbrev aP (a:Nat):Xv:=xM 4 a
abbrev eF (a b:Nat) (c:BinOp) (d:Nat) (e:Int):Xv:=PA a b c d (kS e)
abbrev ycb (a b c d:Nat):Xv:=fF a b (Nv c d)
abbrev dZ (a b:List Xv) (c:Nat) (d:List Xv) (e f:Xu):Xu:=fE a (gN b c d) e f
abbrev dV (a b:Nat) (c:BinOp) (d e:Nat):Xv:=PA a b c d (.t e)
abbrev eS (a b c d:Nat):Xv:=fF a b (Ns c d)
abbrev bV:Xv:=aY 4
abbrev d8:Xv:=cA 4
abbrev s6 (a:Nat) (b:Option Nat) (c:Nat) (d:AX):AOp:= .iaddr a b (.t c) d
abbrev rP (a:Nat):Xv:=xJ a 0
abbrev kU (a b:List Xv) (c:Xu):Xu:=bA a (bA b c)
abbrev fH:AV:=F5 0
abbrev b6 (a:Nat):Xv:=xM 5 a
abbrev ycm (a:List Xv) (b c d:Nat) (e:Xu) (f:Nat) (g:BinOp) (h i j:Nat):Xu:=ybu a b c d e f g h 1 i j
abbrev Ez (a:Xv) (b c d:Nat) (e:Xu) (f:Nat) (g:BinOp) (h i j:Nat):Xu:=ycm [a] b c d e f g h i j
abbrev nL (a:Nat) (b:BinOp) (c d e f g:Nat) (h:Xu) (i:Nat) (j:BinOp) (k l m:Nat):Xu:=Ez (xB a b c d) e f g h i j k l m
abbrev b7 (a:Nat) (b:BinOp) (c:Nat):Xv:=xK a b c 0
abbrev eN (a:Xv):Xu:=dR [a]
abbrev eT (a:Nat) (b c d e:AV):Xv:=cN a [b,c,d,e]
abbrev mZ (a b:Nat):Xv:=xO a (.nilapp b)
abbrev eA (a b:Nat):Xv:=xA a 9 b
abbrev kZ (a:Nat) (b:List Xv) (c:Nat) (d:List Xv) (e:Xu):Xu:= .block a (mX b c d e)
abbrev aV (a b:Nat):Xv:=xA a 2 b
abbrev ycw (a b:Nat) (c d e f:AX):Xv:=AU a b [c,d,e,f]
abbrev HD (a b c:Nat) (d e f:AX):Xv:=ycw a b (.t c) d e f
abbrev iO (a b:Nat) (c:BinOp) (d:Nat) (e:AX):Xv:=fF a b (Ey c d e)
abbrev nM (a b c:Nat) (d:List AX):Xv:=fF a b (.pcall c d)
abbrev qT (a:Nat) (b c:AV):Xv:=cN a [b,c]
abbrev PD (a:Nat) (b:SM) (c d:Nat) (e:AX) (f:Nat):Xv:=xO a (yby b c d e f)
abbrev gP (a b c:List Xv) (d:Nat) (e f:Xu):Xu:=bA a (gE b c d e f)
abbrev IY (a:Nat) (b:Xu):Xu:=yT a b .skip
abbrev Nx (a:Nat) (b:List AX):AOp:= .pcallv (.t a) b
abbrev mY (a:List Xv) (b:Nat) (c d:Xv):Xu:=gN a b [c,d]
abbrev iJ (a:Nat):Xv:=xI a (-1)
abbrev yc7 (a b:Nat) (c d e:AX):Xv:=AU a b [c,d,e]
abbrev Ny (a b c:Nat) (d e:AX):Xv:=yc7 a b (.t c) d e
abbrev Nz (a b c d:Nat) (e:AX):Xv:=Ny a b c (.t d) e
abbrev fI (a b c d e:Nat):Xv:=Nz a b c d (.t e)
abbrev bG (a b c:Nat):Xv:=xX a 1 b c
abbrev cV (a:Nat):Xv:=aK a 3
abbrev qU (a:List (Nat×Nat)) (b:List Xv) (c:Option (List Nat)):Xu:= .region true a b c
abbrev nZ (a b:Xv):Xu:=dR [a,b]
abbrev dS:AX:=kS 0
abbrev PF (a b c:Nat) (d:AX) (e:Nat):Xv:=PD a .app b c d e
abbrev xP (a:List Xv) (b c:Nat):Xu:=kT a b (.exit c)
abbrev qV (a:List Xv) (b:Nat) (c:Xv):Xu:=gN a b [c]
abbrev eG (a:List Xv) (b c:Nat) (d:Int):Xu:=qV a b (xI c d)
abbrev bN (a:Nat):Xv:=xM a 8
abbrev AZ (a b:Nat):AOp:=Nt true a b
abbrev gQ (a:Nat) (b:AV):Xv:=qT a b cD
abbrev eB:Xv:=aY 5
abbrev kD:Xv:=rP 2
abbrev fP (a:Nat):Xv:=xC a fH
abbrev dF (a:Nat):Xv:=aI a 3
abbrev bK (a:Nat):Xv:=xM 6 a
abbrev bQ (a:Nat):Xv:=xM 8 a
abbrev rQ (a:Xu) (b:Nat) (c d:Xu):Xu:=nY a (.block b c) d
abbrev bI (a b:Nat):Xv:=xA a 4 b
abbrev B1 (a b c:Nat) (d:AX) (e:Nat) (f:AX):Xv:=HD a b c d (.t e) f
abbrev cO (a:Nat):Xv:=xM a 3
abbrev kE (a b c d e:Nat):Xv:=PF a b c (.t d) e
abbrev bO (a:Nat):Xv:=xM a 2
abbrev ydz (a:Nat) (b:BinOp) (c d e f:Nat) (g:Xu) (h:Nat) (i:BinOp) (j k l:Nat):Xu:=nL a b c d e 0 f g h i j k l
abbrev bE (a:Nat) (b:BinOp) (c d e:Nat) (f:Xu) (g:Nat) (h:BinOp) (i j k:Nat):Xu:=ydz a b c d e 1 f g h i j k
abbrev bM (a b:Nat):Xv:=xS 2 a b
abbrev dK (a:Nat):Xv:=xM 2 a
abbrev n6 (a b c:Nat) (d:Int):Xv:=AW a b c (kS d)
abbrev yd4 (a b c d:Xv) (e:Nat) (f:Xu):Xu:=gO [a,b,c,d] e f
abbrev yd5 (a b c:Xv) (d e:Nat) (f:Xu):Xu:=yd4 a b c (aY d) e f
abbrev xH (a:List Xv) (b:Nat) (c:Xu):Xu:=bA a (.block b c)
abbrev bS (a b:Nat):Xv:=xF a 2 b
abbrev dA (a:Nat) (b:BinOp) (c:Nat):Xv:=xK a b c 1
abbrev AY (a:Nat):Xv:=xC a PB
abbrev o9 (a:Nat):Xu:=eN (AY a)
abbrev kG (a:List Xv) (b:Nat) (c:Xv) (d:Nat) (e:Int):Xu:=mY a b c (xI d e)
abbrev bW (a b:Nat):Xv:=xE a 0 b
abbrev bX (a b:Nat):Xv:=xE a 1 b
abbrev dT (a b c:Nat):Xv:=bU a b 1 c
abbrev qW (a:List Xv) (b:Nat) (c:Xu):Xu:=F6 a (IY b c)
abbrev iY (a b c d:Xv) (e:List Nat) (f:Xu):Xu:=s5 [a,b,c,d] e f
abbrev yeh (a:Xv) (b c:Nat) (d:Xv) (e f:Nat) (g:Xu):Xu:=yd5 a (xL b c) d e f g
abbrev fJ (a:Nat):Xv:=eA a 2
abbrev xY (a b c:Nat) (d:List AX):Xv:=dE a b (.pcall c d)
abbrev cP (a:Nat):Xv:=xM a 6
abbrev yel (a:BinOp) (b:Nat) (c:AV):AOp:=Ey a b (.c c)
abbrev fV:Xv:=aY 2
abbrev iK:Xv:=aY 6
abbrev iQ (a:Xv) (b c d e f g:Nat) (h:Xu):Xu:=yeh a b c (xN d e) f g h
abbrev cW (a:Nat):Xv:=xM a 7
abbrev n7 (a:Nat) (b:BinOp) (c:Nat) (d:AV):Xv:=xO a (yel b c d)
abbrev kH:Xv:=rP 1
abbrev eO (a b c:Nat):Xv:=ycb a b 1 c
abbrev nO (a b c:Nat) (d:Int) (e:Nat) (f:AX):Xv:=B1 a b c (kS d) e f
abbrev cY (a b:Nat):Xv:=xS 4 a b
abbrev gR (a:Nat):Xv:=aK a 2
abbrev dL (a:Nat):Xv:=xM 7 a
abbrev g7 (a:Xv) (b:List Xv):Xu:=eM [a] b
abbrev HE:Xv:=aF 6
abbrev PH (a b c:Nat) (d:AX):AOp:=s6 a (some b) c d
abbrev IZ (a b c:Xv):Xu:=xR [a,b,c]
abbrev yU (a:Xv) (b:Nat) (c:BinOp) (d:Nat) (e:Xv):Xu:=IZ a (dA b c d) e
abbrev iP (a:Nat):Xv:=aI a 1
abbrev B2 (a:IntKind) (b:Nat):AOp:= .conv a (.t b)
abbrev xT (a:Nat):Xv:=xJ a 1
abbrev B4:Xv:=xT 3
abbrev s7:Xv:=rP 3
abbrev PG (a:List Xv) (b c:Xv) (d:Nat) (e:List Xv):Xu:=kY a [b,c] d e
abbrev kF (a:List Xv) (b:Xv) (c:Nat) (d:BinOp) (e f:Nat) (g:List Xv):Xu:=PG a b (b7 c d e) f g
abbrev xU (a b:Nat) (c:List AX):Xv:=xO a (Nx b c)
abbrev qX (a:List Xv) (b:List Nat) (c d:Xu):Xu:=nY (xQ a b) c d
abbrev s8 (a b c d:Nat):Xv:=fF a b (AZ c d)
abbrev xZ (a b c:Nat):Xv:=dE a b (PC c)
abbrev iZ (a:Nat):Xv:=aK a 5
abbrev yfe (a:Nat) (b:Xv):Xu:=nZ (cO a) b
abbrev yV (a b:Nat):Xu:=yfe a (dK b)
abbrev yW (a:Xv) (b:Nat):Xu:=nZ a (aP b)
abbrev yX:Xu:=eN d8
abbrev l5:Xv:=aF 5
abbrev kI (a:Nat):Xv:=eA a 3
abbrev dM (a b c:Nat):Xv:=xX a 2 b c
abbrev yY (a:List Xv):Xu:=F6 a .ret
def Oa:Nat:=6
def HJ:Nat:=8
def FK:Nat:=11
def zI:Nat:=12
def zJ:Nat:=13
def FL:Nat:=15
def FM:Nat:=16
def zK:Nat:=18
def PM:Nat:=19
def zL:Nat:=23
def PN:Nat:=25
def K1:Nat:=26
def K3:Nat:=27
def PO:Nat:=30
def FN:Nat:=40
def FO:Nat:=41
def FP:Nat:=42
def FQ:Nat:=43
def w3:Nat:=44
def zM:Nat:=45
def FR:Nat:=46
def FS:Nat:=47
def KB:Nat:=62
def FT:Nat:=70
def KC:Nat:=71
def FU:Nat:=72
def PP:Nat:=73
def FV:Nat:=74
def zN:Nat:=75
def PQ:Nat:=76
def zO:Nat:=77
def w4:Nat:=82
def PR:Nat:=85
def PS:Nat:=90
def PT:Nat:=91
def PU:Nat:=93
def FW:Nat:=94
def zP:Nat:=95
def w5:Nat:=96
def zQ:Nat:=97
def zR:Nat:=98
def w6:Nat:=99
def tK:Nat:=100
def tL:Nat:=101
def tN:Nat:=102
def gZ:Nat:=103
def oW:Nat:=104
def hS:Nat:=105
def jG:Nat:=106
def oY:Nat:=107
def JF:Nat:=128
def hZ:Nat:=129
def tO:Nat:=130
def tP:Nat:=131
def tQ:Nat:=132
def tR:Nat:=133
def tS:Nat:=134
def JG:Nat:=136
def lS:Nat:=139
def lT:Nat:=140
def tT:Nat:=141
def tU:Nat:=142
def oZ:Nat:=143
def jH:Nat:=144
def tV:Nat:=145
def lU:Nat:=147
def JH:Nat:=151
def eY:Nat:=152
def JI:Nat:=162
def tW:Nat:=165
def i6:Nat:=166
def tX:Nat:=167
def tY:Nat:=168
def aU:Nat:=169
def lW:Nat:=170
def cT:Nat:=171
def fY:Nat:=172
def i7:Nat:=173
def JJ:Nat:=174
def JK:Nat:=175
def i8:Nat:=176
def p5:Nat:=177
def lX:Nat:=178
def p6:Nat:=179
def p7:Nat:=180
def p8:Nat:=181
def tZ:Nat:=182
def lY:Nat:=183
def JL:Nat:=195
def JM:Nat:=197
def aQ:Nat:=203
def bL:Nat:=204
def p9:Nat:=205
def pA:Nat:=206
def lZ:Nat:=207
def fZ:Nat:=208
def i9:Nat:=209
def pB:Nat:=210
def mA:Nat:=211
def u5:Nat:=212
def pC:Nat:=213
def mB:Nat:=214
def u6:Nat:=215
def pD:Nat:=216
def mD:Nat:=217
def pE:Nat:=218
def pF:Nat:=219
def mE:Nat:=220
def pG:Nat:=221
def u9:Nat:=222
def pH:Nat:=223
def JN:Nat:=224
def JO:Nat:=226
def JP:Nat:=227
def JQ:Nat:=228
def JR:Nat:=230
def JS:Nat:=232
def JT:Nat:=234
def uA:Nat:=236
def eC:Nat:=237
def uB:Nat:=238
def uC:Nat:=239
def pI:Nat:=240
def g0:Nat:=241
def uD:Nat:=242
def JU:Nat:=244
def JV:Nat:=245
def JW:Nat:=246
def JX:Nat:=248
def JY:Nat:=250
def JZ:Nat:=251
def K0:Nat:=258
def uE:Nat:=262
def eD:Nat:=263
def g6:Nat:=264
def uF:Nat:=265
def pJ:Nat:=266
def pK:Nat:=267
def uG:Nat:=268
def mF:Nat:=269
def jI:Nat:=270
def iA:Nat:=271
def pL:Nat:=272
def uH:Nat:=273
def uI:Nat:=274
def pM:Nat:=275
def jJ:Nat:=276
def uJ:Nat:=277
def uK:Nat:=278
def jK:Nat:=279
def cF:Nat:=280
def uL:Nat:=281
def jL:Nat:=282
def mG:Nat:=283
def pN:Nat:=284
def uM:Nat:=285
def pO:Nat:=286
def pP:Nat:=287
def pQ:Nat:=288
def pR:Nat:=289
def pS:Nat:=290
def pT:Nat:=291
def pU:Nat:=292
def jM:Nat:=293
def dQ:Nat:=294
def uN:Nat:=295
def mH:Nat:=296
def pV:Nat:=297
def pW:Nat:=298
def jN:Nat:=299
def mI:Nat:=310
def jO:Nat:=311
def pX:Nat:=312
def uO:Nat:=313
def uP:Nat:=314
def uQ:Nat:=315
def uR:Nat:=316
def mJ:Nat:=317
def eZ:Nat:=318
def pY:Nat:=319
def uS:Nat:=320
def uT:Nat:=321
def uU:Nat:=322
def K4:Nat:=323
def K5:Nat:=325
def K6:Nat:=326
def K7:Nat:=327
def pZ:Nat:=328
def uV:Nat:=329
def mK:Nat:=330
def uW:Nat:=331
def uX:Nat:=332
def K8:Nat:=333
def K9:Nat:=346
def jQ:Nat:=348
def mL:Nat:=349
def uY:Nat:=350
def q6:Nat:=351
def jR:Nat:=352
def uZ:Nat:=353
def v5:Nat:=354
def v6:Nat:=355
def q8:Nat:=356
def q9:Nat:=357
def mM:Nat:=358
def v7:Nat:=359
def v8:Nat:=360
def v9:Nat:=361
def vA:Nat:=362
def vB:Nat:=363
def iB:Nat:=364
def vC:Nat:=367
def vD:Nat:=368
def jS:Nat:=369
def qA:Nat:=370
def mN:Nat:=371
def vE:Nat:=372
def qB:Nat:=373
def qC:Nat:=374
def vF:Nat:=375
def qD:Nat:=381
def vG:Nat:=382
def qE:Nat:=383
def qF:Nat:=384
def jT:Nat:=385
def qG:Nat:=386
def qH:Nat:=387
def qI:Nat:=388
def vI:Nat:=389
def vJ:Nat:=390
def vK:Nat:=391
def vL:Nat:=392
def vM:Nat:=393
def vN:Nat:=394
def vO:Nat:=395
def vP:Nat:=396
def qJ:Nat:=397
def vQ:Nat:=398
def qK:Nat:=399
def vR:Nat:=400
def vS:Nat:=401
def vT:Nat:=402
def vU:Nat:=404
def vV:Nat:=405
def iC:Nat:=406
def vW:Nat:=407
def vX:Nat:=408
def jV:Nat:=409
def vY:Nat:=410
def qL:Nat:=428
def qM:Nat:=429
def vZ:Nat:=430
def KA:Nat:=431
def c_8_l0:Xu:=rQ (xP [aJ 30,xF 31 9 1,xF 32 3 31,xL 33 32,xN 34 33,xB 35 .lss 30 34] 35 0) 1 (bA [mZ 6 1] (xR [xM 38 4,cP 39,xF 40 9 1,xF 41 3 40,xL 42 41,aJ 43,bG 44 42 43,xL 45 44,kE 46 1 4 39 45,xO 47 (.bslice .imm 1 (List.replicate 1 [.Xt 1 []]) [(0,(.t 46))]),kE 48 1 24 38 47,aP 48])) (yU (aJ 36) 37 .add 36 (b6 37))
def c_8_k1:Xu:=qX [aK 50 1,eA 51 50,xF 52 9 1,bI 53 52,xF 54 13 1,aV 55 54,fI 56 zJ 51 53 55,xM 49 56,bW 57 49,bX 58 49,eT 7 qS cD (.Xt 1 []) (.Xt 3 []),eT 8 (.Xt 1 []) (.Xt 1 []) (.Xt 2 []) (.Xt 1 []),cY 7 57,cY 8 58] [7,8] (xQ [aK 60 1,eA 61 60,xF 62 9 1,bI 63 62,xF 64 13 1,aV 65 64,fI 66 zJ 61 63 65,xM 59 66,bW 67 59,bX 68 59,eT 9 qS cD (.Xt 1 []) (.Xt 3 []),eT 10 (.Xt 1 []) (.Xt 1 []) (.Xt 2 []) (.Xt 1 []),cY 9 67,cY 10 68] [9,10]) (bA [xF 69 9 1,bI 70 69,eT 11 (.Xt 1 []) (.Xt 1 []) (.Xt 2 []) (.Xt 1 []),cY 11 70] (eM [xM 71 4,xF 72 3 11,xS 1 72 71] [cO 73,xF 74 13 1,aI 75 74,xL 76 75,aN 77 zL 73 76,xM 78 77,s8 79 78 4 7,s8 80 78 4 9,nM 81 78 FL [.t 79,.t 80],xV 82 78 81,xM 83 82,s8 84 83 4 11,eS 85 83 9 1,s8 86 83 4 85,nM 87 83 FM [.t 84,.t 86],xV 88 83 87,xM 89 88,nM 90 89 zI [],xV 91 89 90,dK 91]))
abbrev a9:AV:= .Xt 1 []
abbrev rJ:List AV:=[.str [],.Xt 2 [],.Xt 2 [],.Xt 3 [],.Xt 3 [],.Xt 6 [],.Xt 7 [],.Xt 5 [],.Xt 1 [],.Xt 2 []]
abbrev fR:List AV:=[.int .u32 0,.int .i64 0]
abbrev iV:List AV:=[cD,.Xt 2 [],cD,cD,.Xt 1 []]
abbrev LF:List Xv:=[aG 6,b7 7 .lss 6,bQ 7,bF 9 8 1,bF 10 8 0,d7 11 8 10,dV 12 8 .geq 9 11,xW 13 8 12]
abbrev rK:List AV:=[.int .i64 0,.int .i64 0,.int .i64 0,.int .i64 0]
abbrev GV:AOp:= .bslice .imm 1 (List.replicate 1 [.str []]) [(0,(.t 17))]
abbrev GW:List Xv:=[aG 5,b7 6 .geq 5,cP 7,fG 8 7 1,fG 9 7 0,fF 10 7 (F7 9),iO 11 7 .lss 8 (.t 10),xV 12 7 11,aP 12]
abbrev wL:Xu:=xP [aJ 11,aF 12,xN 13 12,xB 14 .lss 11 13] 14 0
abbrev wM:List AV:=[.bool false,.int .i64 0,.Xt 1 [],.Xt 3 []]
abbrev AC:List AV:=[.int .i64 0,.Xt 2 [],.int .i64 0,.int .i64 0,.Xt 1 []]
abbrev fS:List ARes:=[.tmp 4,.tmp 5]
abbrev wO:List Xv:=[HE,xN 7 6,aG 8,xN 9 8,xB 10 .neq 7 9]
abbrev iW:List Xv:=[HE,xN 7 6,aY 8]
abbrev wP:Xu:=yU (aJ 15) 16 .add 15 (b6 16)
abbrev kR:AX:= .c (.bool true)
abbrev AD:List AV:=[.Xt 1 [],.Xt 1 [],.Xt 1 [],.Xt 1 []]
abbrev fD:AV:= .Xt 2 []
abbrev wQ:List Xv:=[bG 10 6 8,xL 11 10,b6 11]
abbrev LH:Xu:=qW [aF 17,aJ 18,bG 19 17 18,xL 20 19,aG 21,aJ 22,bG 23 21 22,xL 24 23,xB 25 .neq 20 24] 25 yX
abbrev GX:List AV:=[.int .i64 0,.int .i64 0,.Xt 3 [],.Xt 5 [],.Xt 5 []]
abbrev wR:List AV:=[.int .i64 0,.int .i64 0]
abbrev LJ:List AV:=[.str [],.Xt 2 [],.Xt 2 [],.Xt 3 [],.Xt 3 [],.Xt 6 [],.Xt 7 [],.Xt 5 [],.Xt 1 [],.Xt 1 []]
abbrev LK:Xu:=xR [aJ 14,aG 15,xA 16 3 7,xU 17 15 [.t 16],xO 18 GV,kE 19 1 16 14 18,b6 19]
abbrev LL:Xu:=xR [aJ 14,aG 15,aV 16 7,xU 17 15 [.t 16],xO 18 GV,kE 19 1 16 14 18,b6 19]
abbrev wS:List Xv:=[aK 3 1,xL 4 3,dK 4]
abbrev mV:AV:= .int .i64 0
abbrev mW:List Xv:=[kD,B4,bV]
abbrev wT:List Xv:=[fU 2 0,fU 3 1,d8]
abbrev wU:List AV:=[.str [],.int .i64 0]
abbrev wV:List Xv:=[aF 8,xN 9 8,aY 10]
abbrev LM:List Xv:=[xF 12 5 2,xL 13 12,aG 14,xX 15 6 13 14,aI 16 15,xL 17 16,xN 18 17,aY 19]
abbrev wW:List Xv:=[kH,xC 2 (.str [])]
abbrev GY:List AV:=[.int .i64 0,.int .i64 0,.int .i64 0]
abbrev GZ:List AV:=[cD,cD,.Xt 3 [],.Xt 5 [],.Xt 5 []]
abbrev LN:List Xv:=[HE,xN 7 6,xO 8 (.mkslice .row 1 24 [.Xt 1 []] (.t 7) (.t 7)),bN 3]
abbrev LO:List Xv:=[cV 5,xL 6 5,gR 7,aI 8 7,xL 9 8,xO 10 (.tcallv (.t 6) [.t 9])]
abbrev H5:List Xv:=[fU 2 0,fU 3 1,xC 4 (.Xt 5 [])]
abbrev AE:List Xv:=[aF 9,xN 10 9,aY 11]
abbrev wX:List ARes:=[.cell 2 true 4]
abbrev rM:List AV:=[.int .u32 0]
abbrev LG:Xu:=kU [xM 13 11,bG 14 9 11,xL 15 14,aP 13,b6 15] [cO 16,xM 17 4,aJ 18,xN 19 18,xO 20 (.mkslice .row 1 4 rM (.t 19) (.t 19)),bG 21 16 17,xS 1 21 20] (xR [cO 22,xM 23 4,bG 24 22 23,xL 25 24,aJ 26,xO 27 (.copy 1 (.t 25) (.t 26))])
abbrev nX:List Xv:=[xC 4 a9]
abbrev wY:AOp:=PH 1 3 3 dS
abbrev AF:AOp:=PH 1 3 3 (kS 1)
abbrev H6:List AV:=[.str [],.Xt 2 [],.Xt 7 []]
abbrev rN:List Xv:=[xC 2 a9]
abbrev LP:List Xv:=[aF 15,aG 16,dM 17 15 16,aV 18 17,bM 4 18]
abbrev wZ:List AV:=[cD,cD,cD]
abbrev AG:List Xv:=[s7,xJ 5 2,iK]
abbrev LQ:List AV:=[.str [],.Xt 3 [],.Xt 1 [],cD,.Xt 1 [],cD]
abbrev AJ:List ARes:=[.cell 4 true 2]
abbrev LR:List Xv:=[aF 15,aG 16,bG 17 15 16,xL 18 17,aP 18]
abbrev LS:List AV:=[.str [],.Xt 1 [],qS,cD,cD,.Xt 3 [],cD]
abbrev rO:AV:= .Xt 3 []
abbrev H7:List AV:=[.int .i64 0,.Xt 1 []]
abbrev AK:List Xv:=[bN 10,b6 10]
abbrev AM:List Xv:=[aJ 17,aP 17]
abbrev LI:Xu:=kY AK [aG 11,aF 12,aJ 13,bG 14 12 13,xL 15 14,xB 16 .eql 11 15] 16 AM
abbrev AN:List ARes:=[.tmp 2,.tmp 3]
abbrev H8:AX:= .c (.int .i64 (-1))
abbrev LT:List Xv:=[fJ 8,aG 9,aN 10 pI 8 9,bZ 11 10]
abbrev LU:List AV:=[cD,cD,cD,cD,cD,.Xt 3 [],.Xt 3 []]
abbrev AP:List Xv:=[iJ 4,xI 5 8]
abbrev LV:List Xv:=[s7,xT 4,eT 6 a9 a9 a9 a9]
abbrev AQ:List Xv:=[kD,B4,d8]
abbrev LW:List Xv:=[fU 1 0,eT 2 a9 a9 a9 a9]
abbrev LX:Xu:=mY LF 13 (aV 14 5) (bM 4 14)
abbrev LY:Xu:=yU (aJ 25) 26 .add 25 (b6 26)
abbrev H9:AX:= .c (.int .i64 1)
abbrev LZ:AOp:= .bslice .imm 1 (List.replicate 1 [.int .i64 0]) [(0,(.t 5))]
abbrev M0:AOp:= .bslice .imm 1 (List.replicate 1 [.int .i64 0]) [(0,(.t 7))]
abbrev M2:List AV:=[.Xt 1 [],.int .i64 0,.bool false]
abbrev HA:List Xv:=[kD,B4,bV,eB]
abbrev M5:Xu:=mY LF 13 (aJ 14) (aP 14)
abbrev HB:List ARes:=[.cell 2 true 2]
abbrev M6:List Xv:=[bG 22 18 20,xL 23 22,bQ 23]
abbrev AR:List Xv:=[s7,cA 6]
abbrev AS:List Xv:=[kD,cA 3]
def JD:AFn:=⟨1,[.tmp 2],cC [kH,cA 2] (mY [aK 12 1,eA 13 12,xF 14 9 1,bI 15 14,aN 16 FK 13 15,xM 17 16,bU 18 17 13 1,dT 19 17 18,aT 20 17 19,d7 21 17 20,eF 22 17 .gtr 21 600,xW 23 17 22] 23 (AU 24 zI []) (dK 24)) (kU [mZ 3 1] [cO 25,xF 26 13 1,aI 27 26,xL 28 27,kE 29 1 1 25 28,xM 3 29] (gE [mZ 4 1] [eB] 0 c_8_l0 c_8_k1))⟩
def c_11_l0:Xu:=rQ (xP [cW 9,cV 10,xL 11 10,xN 12 11,xB 13 .lss 9 12] 13 0) 1 (xR [aJ 16,cV 17,xL 18 17,cW 19,bG 20 18 19,xL 21 20,xN 22 21,xB 23 .add 16 22,b6 23]) (yU (cW 14) 15 .add 14 (dL 15))
def c_11_l1:Xu:=rQ (xP [bN 24,xF 25 4 2,xL 26 25,xN 27 26,xB 28 .lss 24 27] 28 2) 3 (xR [cP 31,xF 32 4 2,xL 33 32,bN 34,xX 35 3 33 34,bS 36 35,xL 37 36,xN 38 37,xB 39 .add 31 38,bK 39]) (yU (bN 29) 30 .add 29 (bQ 30))
def c_11_k2:Xu:=dR [aJ 40,xK 41 .gtr 40 60,xM 42 41,bF 43 42 6,eF 44 42 .gtr 43 60,xW 45 42 44,xM 46 45,dT 47 46 2,aT 48 46 47,d7 49 46 48,eF 50 46 .gtr 49 12,xW 51 46 50,xM 52 51,bU 53 52 5 2,aT 54 52 53,d7 55 52 54,eF 56 52 .gtr 55 16,xW 57 52 56,xM 58 57,bU 59 58 6 2,aT 60 58 59,d7 61 58 60,eF 62 58 .gtr 61 16,xW 63 58 62,xM 64 63,bU 65 64 7 2,aT 66 64 65,d7 67 64 66,eF 68 64 .gtr 67 30,xW 69 64 68,xM 70 69,bU 71 70 3 3,aT 72 70 71,d7 73 70 72,eF 74 70 .gtr 73 8,xW 75 70 74,aP 75]
def c_11_k3:Xu:= .seq (gO [aY 8] 2 c_11_l1) c_11_k2
def FD:AFn:=⟨2,[.tmp 4],gP AQ [eB,iK] [aY 7] 0 c_11_l0 c_11_k3⟩
def J9:AFn:=⟨3,[.cell 6 true 4,.cell 7 true 4],fE [s7,xT 4,xJ 5 2,eT 6 qS cD a9 rO,eT 7 a9 a9 fD a9] (xQ [kI 11,bI 12 4,aV 13 5,xO 14 (.bslice .imm 2 (List.replicate 1 H7) [(0,(.t 13))]),fI 15 zK 11 12 14,xM 10 15,bW 16 10,bX 17 10,eT 9 a9 a9 fD a9,bQ 16,cY 9 17] [9]) (qU [(3,4)] [⟨some 18,none,.mov (.t 8)⟩,⟨some 19,none,.iaddr 4 none (.t 18) (.c mV)⟩,⟨some 20,none,.load true 4 (.t 19)⟩,⟨some 21,none,.load true 4 (.t 9)⟩,⟨none,none,.store 4 (.t 6) (.t 20)⟩,⟨none,none,.store 4 (.t 7) (.t 21)⟩] none) .ret⟩
def JA:AFn:=⟨2,[.tmp 4],eM AQ [gR 5,xL 6 5,cV 7,xL 8 7,xO 9 (.eqs false false [.b] (.t 6) (.t 8)),xM 10 9,eS 11 10 1 2,eO 12 10 11,eS 13 10 1 3,eO 14 10 13,iO 15 10 .eql 12 (.t 14),xV 16 10 15,xM 17 16,eS 18 17 2 2,eO 19 17 18,eS 20 17 2 3,eO 21 17 20,nM 22 17 zL [.t 19,.t 21],xV 23 17 22,xM 24 23,eS 25 24 3 2,eO 26 24 25,eS 27 24 3 3,eO 28 24 27,nM 29 24 FN [.t 26,.t 28],xV 30 24 29,aP 30]⟩
def c_16_l0:Xu:=rQ (xP [aJ 39,gR 40,xL 41 40,xN 42 41,xB 43 .lss 39 42] 43 0) 1 (qW [gR 46,xL 47 46,aJ 48,bG 49 47 48,xL 50 49,cV 51,xL 52 51,aJ 53,bG 54 52 53,xL 55 54,aN 56 FQ 50 55,bZ 57 56] 57 yX) (yU (aJ 44) 45 .add 44 (b6 45))
def c_16_l1:Xu:=rQ (xP [cP 58,bS 59 2,xL 60 59,xN 61 60,xB 62 .lss 58 61] 62 2) 3 (qW [bS 65 2,xL 66 65,cP 67,dM 68 66 67,aV 69 68,bS 70 3,xL 71 70,cP 72,dM 73 71 72,aV 74 73,aN 75 w3 69 74,bZ 76 75] 76 yX) (yU (cP 63) 64 .add 63 (bK 64))
def c_16_k2:Xu:=o9 4
def c_16_k3:Xu:= .seq (gO [iK] 2 c_16_l1) c_16_k2
def qZ:AFn:=⟨2,[.tmp 4],dZ wT [gR 7,xL 8 7,xN 9 8,cV 10,xL 11 10,xN 12 11,xB 13 .neq 9 12,xM 14 13,dT 15 14 2,aT 16 14 15,dT 17 14 3,aT 18 14 17,xY 19 14 FO [.t 16,.t 18],xZ 20 14 19,xW 21 14 20,xM 22 21,bU 23 22 2 2,aT 24 22 23,d7 25 22 24,bU 26 22 2 3,aT 27 22 26,d7 28 22 27,dV 29 22 .neq 25 28,xW 30 22 29,xM 31 30,bU 32 31 3 2,aT 33 31 32,bU 34 31 3 3,aT 35 31 34,xY 36 31 FP [.t 33,.t 35],xZ 37 31 36,xW 38 31 37] 38 [d8] (gO [eB] 0 c_16_l0) c_16_k3⟩
def c_18_l0:Xu:=bE 26 .lss 25 24 26 (iY (dM 27 23 25) (aV 28 27) (qT 12 cD a9) (bM 12 28) [12] (cC [xO 29 (.build wM [(0,1,kR)]),eT 13 qS cD a9 rO,cY 13 29] (eL [xM 30 9] 30 (s5 [kI 32,bI 33 8,aV 34 12,fI 35 FS 32 33 34,xM 31 35,bW 36 31,bX 37 31,xE 38 2 31,eT 14 qS cD a9 rO,cY 14 36,xM 15 37,xM 16 38] [14] (bA [bI 39 14,cY 13 39] (eL [xM 40 16] 40 (IZ (xM 41 15) (xF 42 3 8) (xS 1 42 41)))))) (xR [xM 43 10,bI 44 13,xO 45 (.bslice .imm 4 (List.replicate 1 wM) [(0,(.t 44))]),kE 46 4 64 43 45,xM 10 46]))) 47 .add 25 25 47
def c_18_k1:Xu:=yY [xM 48 10,bI 49 8,bK 48,cY 7 49]
def sO:AFn:=⟨3,[.tmp 6,.cell 7 true 4],bA [s7,xT 4,xC 6 (.Xt 4 []),eT 7 a9 a9 fD a9] (kU [bI 17 4,aM 18 zM 17,eT 8 a9 a9 fD a9,cY 8 18] [kI 19,bI 20 4,aN 21 FR 19 20,b7 22 .eql 21,xM 9 22] (gE [mZ 10 4] [bO 23,xN 24 23,aY 25] 0 c_18_l0 c_18_k1))⟩
def JB:AFn:=⟨2,[.tmp 4],g7 d8 [l5,xO 6 (.b2s (.t 5)),aG 7,xO 8 (.b2s (.t 7)),xB 9 .eql 6 8,aP 9]⟩
def c_40_l0:Xu:=rQ wL 1 (qW [aF 17,aJ 18,xX 19 3 17 18,xA 20 3 19,aG 21,aJ 22,xX 23 3 21 22,xA 24 3 23,xO 25 (.eqs true true [.i,.i,.i] (.t 20) (.t 24))] 25 yX) wP
def c_40_k1:Xu:=o9 4
def FE:AFn:=⟨2,[.tmp 4],dZ [d8] wO 10 [d8] (gO [eB] 0 c_40_l0) c_40_k1⟩
def c_41_l0:Xu:=rQ wL 1 LH wP
def c_41_k1:Xu:=o9 4
def FF:AFn:=⟨2,[.tmp 4],dZ [d8] wO 10 [d8] (gO [eB] 0 c_41_l0) c_41_k1⟩
def c_42_l0:Xu:=rQ wL 1 (qW [aF 17,aJ 18,bG 19 17 18,xL 20 19,aG 21,aJ 22,bG 23 21 22,xL 24 23,aN 25 FW 20 24,bZ 26 25] 26 yX) wP
def c_42_k1:Xu:=o9 4
def FG:AFn:=⟨2,[.tmp 4],dZ [d8] wO 10 [d8] (gO [eB] 0 c_42_l0) c_42_k1⟩
def c_43_l0:Xu:=rQ wL 1 (qW [aF 17,aJ 18,xX 19 5 17 18,aK 20 19,xL 21 20,aG 22,aJ 23,xX 24 5 22 23,aK 25 24,xL 26 25,xB 27 .neq 21 26,xM 28 27,bF 29 28 0,bF 30 28 5,dE 31 28 (s6 5 none 29 (.t 30)),dT 32 28 31,dT 33 28 32,aT 34 28 33,bF 35 28 1,bF 36 28 5,dE 37 28 (s6 5 none 35 (.t 36)),dT 38 28 37,dT 39 28 38,aT 40 28 39,dV 41 28 .neq 34 40,xW 42 28 41,xM 43 42,bF 44 43 0,bF 45 43 5,dE 46 43 (s6 5 none 44 (.t 45)),dT 47 43 46,dE 48 43 (AZ 4 47),bF 49 43 1,bF 50 43 5,dE 51 43 (s6 5 none 49 (.t 50)),dT 52 43 51,dE 53 43 (AZ 4 52),xY 54 43 zP [.t 48,.t 53],xZ 55 43 54,xW 56 43 55] 56 yX) wP
def c_43_k1:Xu:=o9 4
def FH:AFn:=⟨2,[.tmp 4],dZ [d8] wO 10 [d8] (gO [eB] 0 c_43_l0) c_43_k1⟩
def c_44_l0:Xu:=rQ (xP [aJ 20,aI 21 2,xL 22 21,xN 23 22,xB 24 .lss 20 23] 24 0) 1 (qW [aI 27 2,xL 28 27,aJ 29,bG 30 28 29,xL 31 30,dF 32,xL 33 32,aJ 34,bG 35 33 34,xL 36 35,xB 37 .neq 31 36] 37 yX) LY
def c_44_k1:Xu:=o9 4
def zE:AFn:=⟨2,[.tmp 4],dZ wT [gR 6,xL 7 6,cV 8,xL 9 8,xB 10 .neq 7 9,xM 11 10,dT 12 11 2,aT 13 11 12,d7 14 11 13,dT 15 11 3,aT 16 11 15,d7 17 11 16,dV 18 11 .neq 14 17,xW 19 11 18] 19 [d8] (gO [eB] 0 c_44_l0) c_44_k1⟩
def c_45_l0:Xu:=nL 26 .lss 25 24 26 2 3 (qX [xX 27 5 23 25,xA 28 5 27,cN 8 iV,xS 5 8 28] [8] (xQ [aI 29 8,bI 30 29,eT 9 fD cD cD a9,cY 9 30] [9]) (xD [cP 31,aK 32 8,xL 33 32,aK 34 9,xL 35 34,aM 36 zQ 35,aI 37 9,xL 38 37,bS 39 9,aV 40 39,aM 41 zR 40,xO 42 (.build [.Xt 2 [],.int .i64 0,.int .i64 0,.Xt 1 []] [(0,1,(.t 36)),(1,1,(.t 38)),(2,2,(.t 41))]),xO 43 (.build AC [(0,1,(.t 33)),(1,4,(.t 42))]),xO 44 (.bslice .imm 5 (List.replicate 1 AC) [(0,(.t 43))]),kE 45 5 72 31 44,bK 45])) 46 .add 25 25 46
def c_45_k1:Xu:=xR [cV 47,xL 48 47,cP 49,xO 50 (.bslice .imm 1 (List.replicate 1 [.Xt 5 []]) [(0,(.t 49))]),kE 51 1 24 48 50,cV 52,xS 1 52 51]
def c_45_k2:Xu:=xR [dA 53 .add 19,xM 19 53]
def c_45_l3:Xu:=Ev [xB 20 .lss 19 18] 20 0 1 (gP [bG 21 17 19,xL 22 21,b6 22] [mZ 6 5] [aJ 23,xN 24 23,aY 25] 2 c_45_l0 c_45_k1) c_45_k2
def c_45_l4:Xu:=nL 58 .lss 57 56 58 4 5 (iY (dM 59 55 57) (aV 60 59) (qT 11 cD a9) (bM 11 60) [11] (xD [bS 61 3,xL 62 61,aV 63 11,aM 64 zR 63,xO 65 (.bslice .imm 2 (List.replicate 1 H7) [(0,(.t 64))]),kE 66 2 32 62 65,bS 67 3,xS 1 67 66])) 68 .add 57 57 68
def c_45_k5:Xu:=eM [xF 69 3 1,xL 70 69,aM 71 w6 70,xF 72 3 3,xS 1 72 71] [bI 73 3,cY 2 73]
def c_45_k6:Xu:= .seq (iQ (bS 54 1) 55 54 56 55 57 4 c_45_l4) c_45_k5
def lR:AFn:=⟨1,wX,gP [kH,eT 2 a9 a9 fD a9] [iP 12,xL 13 12,aM 14 w5 13,xO 15 (.build [.Xt 1 [],.Xt 1 [],.Xt 2 [],.Xt 1 []] [(1,1,(.t 14))]),eT 3 a9 a9 fD a9,cY 3 15] [aK 16 1,xL 17 16,xN 18 17,aY 19] 0 c_45_l3 c_45_k6⟩
def c_46_l0:Xu:=bE 40 .lss 39 38 40 (cC [xM 41 39,dL 41] (xD [fJ 42,cW 43,cV 44,xL 45 44,cW 46,bG 47 45 46,xL 48 47,dF 49,xL 50 49,cW 51,bG 52 50 51,xL 53 52,bS 54 3,xL 55 54,cW 56,dM 57 55 56,aV 58 57,AU 59 tK [.t 42,.t 43,.t 48,.t 53,.t 58],bQ 59]) (mY [bN 60,b7 61 .neq 60] 61 (bN 62) (aP 62))) 63 .add 39 39 63
def c_46_k1:Xu:=dR [fJ 64,xF 65 3 3,xL 66 65,aN 67 tL 64 66,aP 67]
def r5:AFn:=⟨2,[.tmp 4],cC mW (iY (fJ 9) (aM 10 FT 9) (eT 5 cD cD cD cD) (cY 5 10) [5] (gN [iZ 11,xL 12 11,b7 13 .neq 12] 13 [iZ 14,xL 15 14,aP 15])) (dZ [xF 16 5 2,xL 17 16,xN 18 17,bK 18] [cV 19,xL 20 19,xN 21 20,cP 22,xB 23 .neq 21 22,xM 24 23,dT 25 24 3,aT 26 24 25,d7 27 24 26,bF 28 24 6,dV 29 24 .neq 27 28,xW 30 24 29,xM 31 30,bU 32 31 2 3,aT 33 31 32,d7 34 31 33,bF 35 31 6,dV 36 31 .neq 34 35,xW 37 31 36] 37 [xI 4 2] (gO [cP 38,aY 39] 0 c_46_l0) c_46_k1)⟩
def nS:AFn:=⟨3,[.cell 6 true 4,.tmp 7,.tmp 8],fE [s7,xT 4,xJ 5 2,eT 6 qS cD a9 rO,xC 7 a9,cA 8] (xQ [kI 14,aI 15 5,xL 16 15,aN 17 tN 14 16,xM 13 17,bW 18 13,bX 19 13,eT 9 a9 a9 a9 a9,cY 9 18,xM 10 19] [9]) (gN [iZ 20,xL 21 20,b7 22 .lss 21,xM 23 22,bU 24 23 0 5,aT 25 23 24,eF 26 23 .gtr 25 255,xW 27 23 26,xM 28 27,bF 29 28 10,eF 30 28 .neq 29 0,xW 31 28 30] 31 [xO 32 (.build wM [(0,1,kR)]),cY 6 32,xC 7 a9,cA 8]) (qX [xO 33 (.build wR [(0,1,H8),(1,1,(.c mV))]),gQ 11 cD,bM 11 33] [11] (xD [kI 34,bI 35 9,aV 36 11,iZ 37,xL 38 37,xO 39 (B2 .u32 38),B1 40 gZ 34 (.t 35) 36 (.t 39),xF 41 3 4,xL 42 41,xO 43 (.build [.Xt 1 [],.Xt 1 [],.Xt 1 [],.Xt 1 [],.Xt 1 [],.Xt 3 []] [(0,4,(.t 40)),(4,1,(.t 42))]),kI 44,bI 45 4,xO 46 (.build [.Xt 1 [],.Xt 1 [],.Xt 1 [],.Xt 1 [],.Xt 1 [],.Xt 3 [],.str [],.Xt 2 [],.Xt 2 [],.Xt 3 [],.Xt 3 [],.Xt 6 [],.Xt 7 [],.Xt 5 [],.Xt 1 [],.Xt 1 [],.Xt 1 [],.Xt 2 [],.Xt 1 []] [(0,6,(.t 43)),(6,9,(.t 44)),(15,4,(.t 45))]),fU 47 46,xM 12 47]) (cC [xF 48 7 3,xL 49 48,xM 50 12,xO 51 (.mkfunc (.func hS) [.t 50] []),xM 52 12,xO 53 (.mkfunc (.func jG) [.t 52] []),dJ 54 oW [.t 49,.t 51,.t 53]] (qU [(1,6)] [⟨some 55,none,.mov (.t 12)⟩,⟨some 56,none,.tcall oY [.t 55]⟩,⟨some 57,none,.mov (.t 12)⟩,⟨some 58,none,.nilchk (.t 57)⟩,⟨some 59,none,.faddr 0 (.t 58)⟩,⟨some 60,none,.faddr 4 (.t 59)⟩,⟨some 61,none,.load false 1 (.t 60)⟩,⟨some 62,none,.pcall w6 [.t 61]⟩,⟨none,none,.store 4 (.t 6) (.t 56)⟩,⟨some 7,none,.mov (.t 62)⟩,⟨some 8,none,.mov kR⟩] none) .ret))⟩
def cG:ADFn:=⟨1,wX,.seq (xR [xO 1 (.box (.t 0)),xO 2 (.alloc rK)]) (.dfr [⟨some 3,none,.mkfunc (.func hZ) [] [.t 2]⟩] 3 (.seq (xR [xA 4 9 1,xO 5 (.pcall tO [.t 4])]) (.seq (xR [xA 6 9 1,xO 7 (.pcall tP [.t 6])]) (.seq (xR [xA 8 9 1,xO 9 (.pcall tQ [.t 8])]) (.seq (xR [xA 10 9 1,xO 11 (.pcall tR [.t 10])]) (.seq (xR [xA 12 9 1,xO 13 (.pcall tS [.t 12])]) (.seq (xR [xO 14 (.build rK []),xS 4 2 14]) (.ret)))))))),hZ,1,(some (4,1)),.seq (.seq (xR [xM 5 1,xO 6 (.eqs false false [] (.t 5) (.c (.niliface)))]) (.cond (.t 6) (.ret) (.skip))) (.seq (.seq (xR [xM 8 1,xO 9 (.tassert 225 true (.agg rK) (.t 8)),xM 7 9,xE 10 0 7,xE 11 1 7,xO 2 (.alloc rK),xS 4 2 10,xM 3 11]) (.seq (xR [xM 12 3]) (.cond (.t 12) (.seq (xR [xF 13 0 2,xA 14 4 13,xS 4 0 14]) (.ret)) (.skip)))) (xR [xM 15 1,⟨none,none,.panic (.t 15)⟩]))⟩
def c_74_l0:Xu:=bE 42 .lss 41 40 42 (qX [xM 43 41,dM 44 39 41,aV 45 44,qT 12 fH fH,xM 11 43,bM 12 45] [12] (xD [aV 46 12,xM 47 9,xM 48 11,xX 49 3 47 48,bS 50 49,xL 51 50,xM 52 10,xM 53 11,bG 54 52 53,xL 55 54,fI 56 tT 46 51 55,xM 13 56]) (mY [xM 57 13,b7 58 .neq 57] 58 (xM 59 13) (bK 59))) 60 .add 41 41 60
def c_74_k1:Xu:= .seq (kZ 2 [aI 62 5,xL 63 62,b7 64 .lss 63,xM 65 64,dT 66 65 5,aT 67 65 66,eF 68 65 .gtr 67 255,xW 69 65 68,xM 61 69] 61 [xI 6 9] (mX [aI 71 5,xL 72 71,b7 73 .neq 72,xM 74 73,s8 75 74 9 3,fG 76 74 1,nM 77 74 tU [.t 75,.t 76],iO 78 74 .neq 77 (kS 3),xV 79 74 78,xM 70 79] 70 [xI 6 11] (eG [kI 81,aG 82,bS 83 5,aK 84 83,xL 85 84,fI 86 oZ 81 82 85,bZ 87 86,xM 80 87] 80 6 8))) (dR [kI 88,bS 89 5,aV 90 89,aN 91 jH 88 90,bK 91])
def zF:AFn:=⟨3,[.tmp 6],fE AG (kF [kI 15,aG 16,aN 17 lS 15 16,xM 14 17,bW 18 14,bX 19 14,dL 18,bQ 19] (bN 20) 21 .neq 20 21 [bN 22,bK 22]) (xD [xF 23 5 3,xL 24 23,aG 25,xX 26 6 24 25,aI 27 26,xL 28 27,kI 29,aG 30,aN 31 lT 29 30,xM 9 28,xM 10 31]) (nY (eG [iZ 32,xL 33 32,xN 34 33,xM 35 9,xN 36 35,xB 37 .neq 34 36] 37 6 2) (iQ (iZ 38) 39 38 40 39 41 0 c_74_l0) c_74_k1)⟩
def JC:AFn:=⟨2,[.tmp 4],g7 d8 [l5,aG 6,aN 7 tV 5 6,b7 8 .geq 7,aP 8]⟩
def c_77_l0:Xu:=bE 25 .lss 24 23 25 (cC [xM 26 24,dM 27 22 24,aV 28 27,qT 6 fH fH,b6 26,bM 6 28] (xD [aV 29 6,cV 30,xL 31 30,aJ 32,dM 33 31 32,aV 34 33,xO 35 (.eqs true true [.i,.i] (.t 29) (.t 34))]) (IY 35 yX)) 36 .add 24 24 36
def c_77_k1:Xu:=o9 4
def zG:AFn:=⟨2,[.tmp 4],dZ wT [aI 7 2,xL 8 7,dF 9,xL 10 9,xB 11 .neq 8 10,xM 12 11,bU 13 12 0 2,aT 14 12 13,d7 15 12 14,bU 16 12 0 3,aT 17 12 16,d7 18 12 17,dV 19 12 .neq 15 18,xW 20 12 19] 20 [d8] (iQ (gR 21) 22 21 23 22 24 0 c_77_l0) c_77_k1⟩
def c_94_l0:Xu:=rQ wL 1 LH wP
def c_94_k1:Xu:=o9 4
def FI:AFn:=⟨2,[.tmp 4],dZ [d8] wO 10 [d8] (gO [eB] 0 c_94_l0) c_94_k1⟩
def zH:AFn:=⟨2,[.tmp 4],eM wT [bI 5 2,bI 6 3,aN 7 tW 5 6,bQ 7,eS 9 8 2 2,s8 10 8 2 9,eS 11 8 2 3,s8 12 8 2 11,nM 13 8 w3 [.t 10,.t 12],xV 14 8 13,aP 14]⟩
def JE:AFn:=⟨1,HB,cC [kH,qT 2 cD a9] (xD [aK 3 1,xL 4 3,iP 5,xL 6 5,aM 7 lU 6,xO 8 (.build H7 [(0,1,(.t 4)),(1,1,(.t 7))]),bM 2 8]) .ret⟩
def c_99_l0:Xu:=bE 9 .lss 8 7 9 (bA wQ (xR [cO 12,aJ 13,aM 14 lU 13,xO 15 (.bslice .imm 1 (List.replicate 1 [.Xt 1 []]) [(0,(.t 14))]),kE 16 1 24 12 15,xM 3 16])) 17 .add 8 8 17
def c_99_k1:Xu:=yV 18 18
def FJ:AFn:=⟨1,[.tmp 2],gP rN [mZ 3 1] iW 0 c_99_l0 c_99_k1⟩
def c_100_l0:Xu:=bE 29 .lss 28 27 29 (qX [xX 30 5 26 28,xA 31 5 30,cN 13 iV,xS 5 13 31] [13] (eG [aK 32 13,xL 33 32,xM 34 11,xB 35 .leq 33 34] 35 10 14) (IZ (aK 36 13) (xL 37 36) (xM 11 37))) 38 .add 28 28 38
def c_100_l1:Xu:=nL 53 .lss 52 51 53 2 3 (qX [xM 54 52,xX 55 5 50 52,xA 56 5 55,cN 15 iV,xM 14 54,xS 5 15 56] [15] (kF [eA 57 5,aG 58,aI 59 15,bI 60 59,fI 61 FV 57 58 60,xM 16 61] (xM 62 16) 63 .neq 62 63 [xM 64 16,xM 10 64]) (eG [bO 65,xM 66 14,xO 67 (.slc 5 (.t 65) none (some (.t 66)) none),xO 68 (.mkfunc (.func i6) [] [.t 15]),aN 69 zN 67 68] 69 10 7)) 70 .add 52 52 70
def c_100_k2:Xu:=dR [eA 71 5,aG 72,aV 73 9,fI 74 tX 71 72 73,xM 10 74]
def c_100_k3:Xu:=nY (eG [cO 39,xM 40 11,xB 41 .leq 39 40,xM 42 41,bF 43 42 3,eF 44 42 .lss 43 1,xW 45 42 44,xM 46 45,bF 47 46 3,eF 48 46 .gtr 47 1073741824,xW 49 46 48] 49 10 14) (gO [bO 50,xN 51 50,aY 52] 2 c_100_l1) c_100_k2
def sD:AFn:=⟨5,[.tmp 10],cC [rP 5,xJ 9 4,aY 10] (eG [bO 17,xN 18 17,xF 19 5 5,xL 20 19,aG 21,xX 22 6 20 21,xF 23 5 22,xL 24 23,xB 25 .gtr 18 24] 25 10 12) (gE [aY 11] [bO 26,xN 27 26,aY 28] 0 c_100_l0 c_100_k3)⟩
def c_101_l0:Xu:=bE 18 .lss 17 16 18 (kY [xM 19 17,bG 20 15 17,xL 21 20,b6 19,bK 21] [cP 22,xN 23 22,xF 24 3 2,xL 25 24,aJ 26,xX 27 3 25 26,bS 28 27,xL 29 28,xB 30 .neq 23 29] 30 [xI 4 2]) 31 .add 17 17 31
def c_101_l1:Xu:=nL 35 .lss 34 33 35 2 3 (cC [xM 36 34,bG 37 32 34,xL 38 37,dL 36,bQ 38] (xD [bN 39,xN 40 39,b7 41 .gtr 40,xM 42 41,fG 43 42 8,nM 44 42 tY [.t 43],eS 45 42 3 2,eO 46 42 45,fG 47 42 7,fF 48 42 (s6 3 none 46 (.t 47)),eS 49 42 1 48,eO 50 42 49,nM 51 42 aU [.t 50],iO 52 42 .gtr 44 (.t 51),xV 53 42 52]) (IY 53 (eN (xI 4 9)))) 54 .add 34 34 54
def c_101_k2:Xu:=eN bV
def c_101_k3:Xu:= .seq (gO [aG 32,xN 33 32,aY 34] 2 c_101_l1) c_101_k2
def sE:AFn:=⟨2,[.tmp 4],dZ [kD,bV] [aG 9,xN 10 9,xF 11 3 2,xL 12 11,xN 13 12,xB 14 .neq 10 13] 14 [xI 4 2] (gO [aG 15,xN 16 15,aY 17] 0 c_101_l0) c_101_k3⟩
def sF:AFn:=⟨2,[.cell 4 true 4,.tmp 5],eE [kD,eT 4 a9 a9 a9 a9,eB] (xQ [fJ 10,aG 11,aN 12 lW 10 11,xM 9 12,bW 13 9,bX 14 9,xE 15 2 9,eT 6 a9 a9 a9 a9,cY 6 13,dL 14,bQ 15] [6]) [bI 16 6,bN 17,cY 4 16,b6 17]⟩
def l8:AFn:=⟨4,[.cell 8 true 4],cC [rP 4,xT 5,xJ 6 2,eT 8 a9 a9 a9 a9] (xQ [bI 13 5,dJ 14 cT [.t 13],eT 9 a9 a9 a9 a9,cY 9 14] [9]) (eE [eA 15 4,aV 16 6,aN 17 fY 15 16,xM 10 17] (bA [bI 19 9,aV 20 6,dJ 21 i7 [.t 19,.t 20],xM 18 21,bW 22 18,bX 23 18,xM 11 22,xM 12 23] (eL [xM 24 12,xM 25 24,fG 26 25 10,iO 27 25 .gtr 26 dS,xV 28 25 27] 28 (xD [xM 29 11,aI 30 6,xL 31 30,cO 32,xM 33 10,aM 34 aU 33,xB 35 .and 32 34,bG 36 29 31,xS 1 36 35]))) [bI 37 9,cY 8 37])⟩
def BF:AFn:=⟨3,[],nY (eL [aG 6,xO 7 (.eqs false false [] (.t 6) (.c (.nilfunc)))] 7 (xR [xC 1 (.func (.func JJ) [] [])])) (eL [bQ 2,xO 9 (.eqs false false [] (.t 8) (.c (.nilfunc)))] 9 (xR [xC 2 (.func (.func JK) [] [])])) (xR [aG 10,bO 11,xO 12 (.build [.nilfunc,.nilfunc] [(0,1,(.t 10)),(1,1,(.t 11))]),aF 13,dJ 14 i8 [.t 12,.t 13]])⟩
def l9:AFn:=⟨2,[.tmp 4],fE [d8] (xD [aF 9,b8 10 9,xF 11 6 10,eA 12 11,aG 13,aF 14,b8 15 14,aK 16 15,aK 17 16,bI 18 17,fI 19 p5 12 13 18,b6 19]) (qU [(3,18),(9,18),(12,18),(14,18)] [⟨some 21,none,.mov (.t 0)⟩,⟨some 22,none,.nilchk (.t 21)⟩,⟨some 23,none,.faddr 6 (.t 22)⟩,⟨some 24,none,.load true 9 (.t 23)⟩,⟨some 25,none,.mov (.t 1)⟩,⟨some 26,none,.mov (.t 0)⟩,⟨some 27,none,.nilchk (.t 26)⟩,⟨some 28,none,.faddr 15 (.t 27)⟩,⟨some 29,none,.faddr 0 (.t 28)⟩,⟨some 30,none,.load false 1 (.t 29)⟩,⟨some 31,none,.mov (.t 1)⟩,⟨some 32,none,.iaddr 1 none (.t 30) (.t 31)⟩,⟨some 33,none,.load false 1 (.t 32)⟩,⟨some 34,none,.mov (.t 5)⟩,⟨some 35,none,.pcall lX [.t 24,.t 25,.t 33,.t 34]⟩,⟨some 20,none,.mov (.t 35)⟩,⟨some 36,none,.ext 0 (.t 20)⟩,⟨some 37,none,.ext 1 (.t 20)⟩,⟨some 6,none,.alloc AC⟩,⟨none,none,.store 5 (.t 6) (.t 36)⟩,⟨some 7,none,.mov (.t 37)⟩] (some [6])) (fE [aF 38,b8 39 38,xF 40 15 39,bS 41 40,xL 42 41,aG 43,dM 44 42 43,aV 45 44,qT 8 cD a9,bM 8 45] (eL [cW 46] 46 (xR [aI 47 6,bS 48 47,aV 49 48,bM 8 49])) (xD [aF 51,aF 52,aF 53,b8 54 53,xF 55 6 54,eA 56 55,aV 57 8,aF 58,b8 59 58,aK 60 59,aK 61 60,bI 62 61,aF 63,b8 64 63,aK 65 64,xF 66 4 65,xL 67 66,B1 68 p6 56 (.t 57) 62 (.t 67),xM 50 68,bW 69 50,bX 70 50,b8 71 51,aK 72 71,aK 73 72,cY 73 69,b8 74 52,aK 75 74,xF 76 4 75,xS 1 76 70]) (F6 [aF 77,aF 78,b8 79 78,aK 80 79,xF 81 5 80,xL 82 81,aG 83,aK 84 6,xL 85 84,aK 86 8,xL 87 86,xO 88 (.build GY [(0,1,(.t 83)),(1,1,(.t 85)),(2,1,(.t 87))]),xO 89 (.bslice .imm 3 (List.replicate 1 GY) [(0,(.t 88))]),kE 90 3 24 82 89,b8 91 77,aK 92 91,xF 93 5 92,xS 1 93 90] (yW (cW 94) 94)))⟩
def BG:AFn:=⟨2,[.tmp 4],cC [d8] (xD [aG 5,HE,b8 7 6,xF 8 6 7,eA 9 8,xO 10 (.build rJ [(0,9,(.t 9))]),aF 11,b8 12 11,aK 13 12,aK 14 13,bI 15 14,B1 16 p7 5 (.t 10) 15 (.c a9),n7 17 .eql 16 (F5 1),aP 17]) .ret⟩
def gS:AFn:=⟨1,wX,fE [eT 2 qS cD a9 rO] (qW [aF 3,n6 4 p8 3 2,n7 5 .eql 4 (F5 1),aJ 6,bF 7 6 0,dE 8 6 (HC 7),bU 9 6 6 8,dE 10 6 (AZ 9 9),bF 11 6 0,dE 12 6 (HC 11),bU 13 6 0 12,bU 14 6 0 13,dE 15 6 (AZ 4 14),xY 16 6 tZ [.t 10,.t 15],eF 17 6 .gtr 16 512,xW 18 6 17] 18 (dR [aF 19,b8 20 19,aK 21 20,xF 22 5 21,xL 23 22,xO 24 (.build wM [(0,1,kR),(3,1,(.t 23))]),cY 2 24])) (xD [aF 25,n6 26 p8 25 1,xO 27 (B2 .i64 26),aF 28,b8 29 28,xF 30 6 29,eA 31 30,aF 32,b8 33 32,aK 34 33,aK 35 34,bI 36 35,aN 37 lY 31 36,aF 38,b8 39 38,aK 40 39,xF 41 5 40,xL 42 41,xO 43 (.build wM [(1,1,(.t 27)),(2,1,(.t 37)),(3,1,(.t 42))]),cY 2 43]) .ret⟩
def gT:AFn:=⟨1,[],bA [kH] (kU [aK 2 1,xL 3 2,aM 4 p9 3,n6 5 bL 4 6,HD 6 aQ 5 dS dS dS] [iP 7,xL 8 7,xN 9 8,xK 10 .gtr 9 8,n6 11 bL 10 12,HD 12 aQ 11 dS (kS 1) dS] (kU [xF 13 3 1,xL 14 13,xN 15 14,xK 16 .gtr 15 4,n6 17 bL 16 12,HD 18 aQ 17 dS (kS 3) dS] [xF 19 4 1,xL 20 19,xN 21 20,xK 22 .gtr 21 16,n6 23 bL 22 12,HD 24 aQ 23 dS (kS 4) dS] (xR [xF 25 5 1,xL 26 25,xN 27 26,xK 28 .gtr 27 12,n6 29 bL 28 12,HD 30 aQ 29 dS (kS 5) dS])))⟩
def c_131_l0:Xu:=bE 12 .lss 11 10 12 (s5 [xM 13 11,dM 14 9 11,aV 15 14,qT 4 (.str []) fD,xM 3 13,bM 4 15] [4] (kU [aV 16 4,aM 17 fZ 16,cO 18,nO 19 aQ 17 1 18 dS] [aK 20 4,xL 21 20,n7 22 .eql 21 (.str [109,101,116,97]),n6 23 bL 22 6,cO 24,nO 25 aQ 23 1 24 dS] (xR [bO 26,cO 27,aN 28 i9 26 27,n6 29 bL 28 7,cO 30,nO 31 aQ 29 1 30 dS]))) 32 .add 11 11 32
def BH:AFn:=⟨1,[],kU [kH] [iP 5,xL 6 5,AW 7 pA 6 (.c (.func (.func lZ) [] [])),dK 7] (iQ (iP 8) 9 8 10 9 11 0 c_131_l0)⟩
def c_132_l0:Xu:=bE 20 .lss 19 18 20 (s5 [xM 21 19,dM 22 17 19,aV 23 22,gQ 4 (.str []),xM 3 21,bM 4 23] [4] (kU [aK 24 4,xL 25 24,aM 26 p9 25,n6 27 bL 26 6,cO 28,nO 29 aQ 27 2 28 dS] [aI 30 4,xL 31 30,aM 32 u5 31,n6 33 bL 32 10,cO 34,nO 35 aQ 33 2 34 dS] (xR [bO 36,cO 37,aN 38 i9 36 37,n6 39 bL 38 7,cO 40,nO 41 aQ 39 2 40 dS]))) 42 .add 19 19 42
def c_132_l1:Xu:=Ez (xK 48 .lss 47 3) 48 2 3 (qX [xM 49 47,xO 50 (.idxa true 3 2 (.t 46) (.t 47)),gQ 6 (.str []),b6 49,bM 6 50] [6] (xD [aJ 51,bS 52 1,xL 53 52,xN 54 53,xB 55 .geq 51 54,xM 56 55,bU 57 56 2 1,aT 58 56 57,bF 59 56 5,dE 60 56 (s6 2 none 58 (.t 59)),dE 61 56 (AZ 2 60),dE 62 56 (AZ 2 6),dE 63 56 (.eqs true true [.s,.i] (.t 61) (.t 62)),xW 64 56 63,n6 65 bL 64 5,aJ 66]) (xR [nO 67 aQ 65 2 66 dS])) 68 .add 47 47 68
def c_132_k2:Xu:=gO [xO 43 (.build wU [(0,1,(.c (.str [105,110]))),(1,1,(.c (.int .i64 8)))]),xO 44 (.build wU [(0,1,(.c (.str [111,117,116]))),(1,1,(.c (.int .i64 8)))]),xO 45 (.build wU [(0,1,(.c (.str [100,114,111,112]))),(1,1,H9)]),xO 46 (.build [.str [],.int .i64 0,.str [],.int .i64 0,.str [],.int .i64 0] [(0,2,(.t 43)),(2,2,(.t 44)),(4,2,(.t 45))]),aY 47] 2 c_132_l1
def sG:AFn:=⟨1,[],kU [kH] [bS 7 1,xL 8 7,xN 9 8,xK 10 .gtr 9 12,n6 11 bL 10 12,HD 12 aQ 11 (kS 2) dS dS] (gE [bS 13 1,xL 14 13,AW 15 pB 14 (.c (.func (.func mA) [] [])),dK 15] [bS 16 1,xL 17 16,xN 18 17,aY 19] 0 c_132_l0 c_132_k2)⟩
def c_133_l0:Xu:=bE 18 .lss 17 16 18 (s5 [xM 19 17,xX 20 3 15 17,xA 21 3 20,cN 4 [.str [],cD,cD],xM 3 19,xS 3 4 21] [4] (bA [xA 22 3 4,aM 23 u6 22,cO 24,nO 25 aQ 23 3 24 dS] (xR [bO 26,cO 27,aN 28 i9 26 27,n6 29 bL 28 7,cO 30,nO 31 aQ 29 3 30 dS]))) 32 .add 17 17 32
def c_133_l1:Xu:=nL 40 .lss 39 38 40 2 3 (bA [xM 41 39,b6 41] (kU [eA 43 1,aJ 44,aN 45 pE 43 44,xM 42 45,bW 46 42,bX 47 42,bK 46,dL 47] [cW 48,aJ 49,cP 50,nO 51 aQ 48 4 49 (.t 50)] (xR [bO 52,aJ 53,aN 54 i9 52 53,n6 55 bL 54 7,aJ 56,nO 57 aQ 55 4 56 dS]))) 58 .add 39 39 58
def c_133_l2:Xu:=nL 66 .lss 65 64 66 4 5 (bA [xM 67 65,bQ 67] (kU [eA 69 1,bN 70,aN 71 lS 69 70,xM 68 71,bW 72 68,bX 73 68,xM 9 72,xM 10 73] [xM 74 10,bN 75,xM 76 9,nO 77 aQ 74 5 75 (.t 76)] (xR [bO 78,bN 79,aN 80 i9 78 79,n6 81 bL 80 7,bN 82,nO 83 aQ 81 5 82 dS]))) 84 .add 65 65 84
def c_133_k3:Xu:=bA [xF 59 5 1,xL 60 59,AW 61 pF 60 (.c (.func (.func mE) [] [])),dK 61] (iQ (xF 62 5 1) 63 62 64 63 65 4 c_133_l2)
def c_133_k4:Xu:=gE [xF 33 4 1,xL 34 33,AW 35 pD 34 (.c (.func (.func mD) [] [])),dK 35] [xF 36 4 1,xL 37 36,xN 38 37,aY 39] 2 c_133_l1 c_133_k3
def BI:AFn:=⟨1,[],gP [kH] [xF 11 3 1,xL 12 11,AW 13 pC 12 (.c (.func (.func mB) [] [])),dK 13] [xF 14 3 1,xL 15 14,xN 16 15,aY 17] 0 c_133_l0 c_133_k4⟩
def lB:AFn:=⟨1,[],kU [kH] [eA 7 1,aM 8 pG 7,bN 6,bW 9 6,bX 10 6,xE 11 2 6,dK 9,xM 3 10,aP 11] (kU [xM 12 4,bO 13,cO 14,nO 15 aQ 12 6 13 (.t 14)] [eA 17 1,aM 18 u9 17,xM 16 18,bW 19 16,bX 20 16,b6 19,aP 20] (kU [xM 21 4,aJ 22,nO 23 aQ 21 7 22 dS] [eA 25 1,aM 26 pH 25,xM 24 26,bW 27 24,bX 28 24,b6 27,aP 28] (IZ (xM 29 4) (aJ 30) (nO 31 aQ 29 8 30 dS))))⟩
def dN:AFn:=⟨2,fS,dZ [kD,bV,eB] [aG 7,b7 8 .lss 7,bN 9,bF 10 9 1,bU 11 9 5 2,aT 12 9 11,d7 13 9 12,dV 14 9 .geq 10 13,xW 15 9 14] 15 AP (xQ [xF 16 5 2,xL 17 16,aG 18,xX 19 6 17 18,xA 20 6 19,cN 6 LQ,xS 6 6 20] [6]) (.seq (kZ 0 [aK 22 6,xL 23 22,aM 24 eC 23,bZ 25 24,xM 21 25] 21 [iJ 4,xI 5 6] (mX [aI 27 6,xL 28 27,xN 29 28,xK 30 .gtr 29 6,xM 31 30,bU 32 31 2 6,aT 33 31 32,d7 34 31 33,eF 35 31 .gtr 34 16,xW 36 31 35,xM 26 36] 26 [iJ 4,xI 5 12] (kG [xF 38 5 6,xL 39 38,dA 40 .lss 39,xM 41 40,bU 42 41 5 6,aT 43 41 42,eF 44 41 .gtr 43 256,xW 45 41 44,xM 37 45] 37 (iJ 4) 5 9))) (nY (kF [fJ 47,xA 48 6 6,aN 49 uB 47 48,xM 46 49,bW 50 46,bX 51 46,aP 50,b6 51] (aJ 52) 53 .neq 52 53 [xM 54 4,aJ 55,aP 54,b6 55]) (kF [fJ 56,xA 57 6 6,aN 58 uC 56 57,b6 58] (aJ 59) 60 .neq 59 60 [aJ 61,xI 4 (-3),b6 61]) (nZ bV eB)))⟩
def c_140_l0:Xu:=bE 20 .lss 19 18 20 (iY (xX 21 3 17 19) (xA 22 3 21) (cN 7 wZ) (xS 3 7 22) [7] (xR [aJ 23,fJ 24,aK 25 7,aV 26 25,aN 27 fY 24 26,xO 28 (.bslice .imm 1 (List.replicate 1 [.int .i64 0]) [(0,(.t 27))]),kE 29 1 8 23 28,b6 29])) 30 .add 19 19 30
def c_140_k1:Xu:=yW (aJ 31) 31
def BJ:AFn:=⟨2,[.tmp 4],cC [kD,xC 4 a9] (qV LT 11 (xC 4 a9)) (gE [mZ 5 1] LM 0 c_140_l0 c_140_k1)⟩
def eU:AFn:=⟨3,[.tmp 6],fE [s7,iK] (kZ 0 [cV 10,xL 11 10,bO 12,aN 13 g0 11 12,bZ 14 13,xM 15 14,dT 16 15 3,aT 17 15 16,bF 18 15 2,xY 19 15 g0 [.t 17,.t 18],xZ 20 15 19,xW 21 15 20,xM 9 21] 9 [xI 6 9] (mX [cV 23,xL 24 23,dF 25,xL 26 25,xB 27 .andNot 24 26,n7 28 .neq 27 fH,xM 22 28] 22 [xI 6 5] (qW [aG 30,dA 31 .eql 30,xM 32 31,eS 33 32 1 3,eO 34 32 33,fG 35 32 2,nM 36 32 aU [.t 35],iO 37 32 .neq 34 (.t 36),xV 38 32 37,xM 29 38] 29 (eN (xI 6 11))))) (eL [aG 39,xK 40 .eql 39 2] 40 (PG [dF 42,xL 43 42,bO 44,aN 45 uD 43 44,xM 41 45,bW 46 41,bX 47 41,dL 46,bQ 47] (bN 48) (bZ 49 48) 49 [xI 6 11])) (eN iK)⟩
def c_142_l0:Xu:=bE 20 .lss 19 18 20 (iY (xX 21 3 17 19) (xA 22 3 21) (cN 7 wZ) (xS 3 7 22) [7] (kZ 2 [bS 24 7,xL 25 24,xK 26 .eql 25 3,xM 23 26] 23 [xI 4 3] (eL [bS 28 7,xL 29 28,xK 30 .eql 29 2,xM 27 30] 27 (xR [xI 5 2])))) 31 .add 19 19 31
def c_142_k1:Xu:=yW (aJ 32) 32
def sH:AFn:=⟨2,[.tmp 4],cC [kD,bV] (qV LT 11 bV) (gE [xI 5 1] LM 0 c_142_l0 c_142_k1)⟩
def c_143_l0:Xu:=bE 21 .lss 20 19 21 (kY M6 [bN 24,bO 25,xB 26 .eql 24 25] 26 [AY 6]) 27 .add 20 20 27
def c_143_k1:Xu:=eN (cA 6)
def sI:AFn:=⟨3,[.tmp 6],dZ AR [kI 9,aG 10,aN 11 pI 9 10,bZ 12 11] 12 [cA 6] (gO [xF 13 5 3,xL 14 13,aG 15,xX 16 6 14 15,bS 17 16,xL 18 17,xN 19 18,aY 20] 0 c_143_l0) c_143_k1⟩
def c_144_l0:Xu:=bE 36 .lss 35 34 36 (kY [xM 37 35,bG 38 33 35,xL 39 38,bK 37,dL 39] [cW 40,aJ 41,cP 42,dM 43 41 42,aI 44 43,xL 45 44,aN 46 g0 40 45,bZ 47 46] 47 [xI 4 9]) 48 .add 35 35 48
def c_144_k1:Xu:=eN bV
def lC:AFn:=⟨2,[.tmp 4],cC mW (eG [cV 8,xL 9 8,b7 10 .lss 9,xM 11 10,bU 12 11 0 3,aT 13 11 12,bU 14 11 4 2,aT 15 11 14,d7 16 11 15,dV 17 11 .geq 13 16,xW 18 11 17] 18 4 8) (dZ [xF 19 4 2,xL 20 19,cV 21,xL 22 21,xX 23 3 20 22,aI 24 23,xL 25 24,b6 25] [dF 26,xL 27 26,xN 28 27,aJ 29,xN 30 29,xB 31 .neq 28 30] 31 [xI 4 2] (iQ (dF 32) 33 32 34 33 35 0 c_144_l0) c_144_k1)⟩
def c_145_l0:Xu:=bE 9 .lss 8 7 9 (kY AK [aG 11,aF 12,aJ 13,xX 14 5 12 13,xA 15 5 14,xU 16 11 [.t 15]] 16 AM) 18 .add 8 8 18
def c_145_k1:Xu:=eN (iJ 4)
def BK:AFn:=⟨2,[.tmp 4],gE [bV] iW 0 c_145_l0 c_145_k1⟩
def c_165_l0:Xu:=rQ (xP [aJ 20,gR 21,xL 22 21,xN 23 22,xB 24 .lss 20 23] 24 0) 1 (qW [gR 27,xL 28 27,aJ 29,dM 30 28 29,aV 31 30,cV 32,xL 33 32,aJ 34,dM 35 33 34,aV 36 35,xO 37 (.eqs true true [.i,.i] (.t 31) (.t 36))] 37 yX) LY
def c_165_k1:Xu:=o9 4
def oC:AFn:=⟨2,[.tmp 4],dZ wT [gR 6,xL 7 6,xN 8 7,cV 9,xL 10 9,xN 11 10,xB 12 .neq 8 11,xM 13 12,dT 14 13 2,aT 15 13 14,dT 16 13 3,aT 17 13 16,dV 18 13 .neq 15 17,xW 19 13 18] 19 [d8] (gO [eB] 0 c_165_l0) c_165_k1⟩
def BL:AFn:=⟨2,[.tmp 3],eM AS [aI 4 2,bI 5 4,iP 6,bI 7 6,aN 8 zO 5 7,bN 3]⟩
def sJ:AFn:=⟨3,[.tmp 6],eE AG (eG [kI 7,aG 8,iZ 9,xL 10 9,fI 11 oZ 7 8 10,bZ 12 11] 12 6 8) [kI 13,aV 14 5,aN 15 jH 13 14,bK 15]⟩
def c_168_l0:Xu:=rQ (xP [xM 12 4,aF 13,xN 14 13,xB 15 .lss 12 14] 15 0) 1 (xR [cO 18,aF 19,xM 20 4,bG 21 19 20,xL 22 21,xO 23 (.minmax true [.t 18,.t 22]),xM 3 23]) (yU (xM 16 4) 17 .add 16 (aP 17))
def c_168_k1:Xu:=yV 24 24
def BM:AFn:=⟨1,[.tmp 2],cC [fP 2] (eL [l5,xN 6 5,dA 7 .lss 6] 7 (xR [xO 8 (.mkiface 9 (.c (.str [115,108,105,99,101,115,46,77,97,120,58,32,101,109,112,116,121,32,108,105,115,116]))),⟨none,none,.panic (.t 8)⟩])) (gE [aF 9,xO 10 (s6 1 none 9 dS),xL 11 10,xM 3 11] [xI 4 1] 0 c_168_l0 c_168_k1)⟩
def sK:AFn:=⟨1,[.tmp 2],eE [fP 2] (qV [aF 3,xO 4 (.bslice .imm 1 (List.replicate 1 [.int .i64 0]) [(0,(.t 3))]),aM 5 eD 4,bZ 6 5] 6 (fP 2)) [aF 7,xO 8 (.bin .sub (kS 32) (.t 7)),xO 9 (.bin .shr (.c (F5 4294967295)) (.t 8)),dK 9]⟩
def c_170_l0:Xu:= .seq (xP [xM 26 11,b7 27 .geq 26] 27 0) (.block 1 (cC [xM 28 10,xM 29 11,xO 30 (.bslice .imm 1 (List.replicate 1 [.int .i64 0]) [(0,(.t 29))]),kE 31 1 8 28 30,xM 10 31] (F6 [fJ 32,xF 33 6 2,xL 34 33,xM 35 11,xX 36 7 34 35,xA 37 7 36,bI 38 7,xM 39 9,dJ 40 pK [.t 32,.t 37,.t 38,.t 39],xM 12 40] (gN [xM 41 12,b7 42 .neq 41] 42 [fJ 43,dJ 44 g6 [.t 43],xM 45 10,xM 46 12,cY 4 44,b6 45,bK 46])) (xD [xF 47 6 2,xL 48 47,xM 49 11,xX 50 7 48 49,xA 51 7 50,bI 52 7,aN 53 uG 51 52,xM 11 53])))
def c_170_k1:Xu:= .seq (gN [xM 54 11,xK 55 .eql 54 (-2)] 55 [fJ 56,dJ 57 g6 [.t 56],xM 58 10,cY 4 57,b6 58,xI 6 15]) (cC [xM 60 9,dJ 61 mF [.t 60],xM 59 61,bW 62 59,bX 63 59,xM 13 62,xM 14 63] (gN [xM 64 14,b7 65 .neq 64] 65 [fJ 66,dJ 67 g6 [.t 66],xM 68 10,xM 69 14,cY 4 67,b6 68,bK 69]) (eM [xM 70 13,xF 71 3 7,xS 1 71 70] [bI 72 7,xM 73 10,cY 4 72,b6 73,iK]))
def gU:AFn:=⟨2,[.cell 4 true 4,.tmp 5,.tmp 6],bA [kD,eT 4 a9 a9 a9 a9,xC 5 a9,iK] (cC [fJ 15,dJ 16 g6 [.t 15],eT 7 a9 a9 a9 a9,cY 7 16] (kF [fJ 17,aG 18,aN 19 uF 17 18,bQ 19] (bN 20) 21 .neq 20 21 [bI 22 7,bN 23,cY 4 22,xC 5 a9,bK 23]) (kU [aG 24,dJ 25 pJ [.t 24],xM 9 25] [mZ 10 1] (cC [aY 11] (Ew 0 c_170_l0) c_170_k1)))⟩
def c_171_l0:Xu:=bE 23 .lss 22 21 23 (bA [bG 24 20 22,xL 25 24,b6 25] (qU [(1,4),(1,5)] [⟨some 26,none,.faddr 1 (.t 3)⟩,⟨some 27,none,.load false 1 (.t 26)⟩,⟨some 28,none,.mov (.t 5)⟩,⟨some 29,none,.bslice .imm 1 (List.replicate 1 [.Xt 1 []]) [(0,(.t 28))]⟩,⟨some 30,none,.pcallr iA [.t 29]⟩,⟨some 31,none,.bslice .row 1 (List.replicate 1 [.Xt 1 []]) [(0,(.t 30))]⟩,⟨some 32,none,.append .row 1 24 (.t 27) (.t 31)⟩,⟨some 33,none,.faddr 1 (.t 3)⟩,⟨none,none,.store 1 (.t 33) (.t 32)⟩] none)) 34 .add 22 22 34
def c_171_k1:Xu:=nZ (bI 35 3) (cY 2 35)
def gV:AFn:=⟨1,wX,fE LW (qU [(3,5),(3,9),(7,9),(1,13),(3,13),(5,13),(7,13),(9,13),(11,13)] [⟨some 6,none,.faddr 0 (.t 1)⟩,⟨some 7,none,.load false 1 (.t 6)⟩,⟨some 8,none,.bslice .imm 1 (List.replicate 1 [.Xt 1 []]) [(0,(.t 7))]⟩,⟨some 9,none,.pcallr jI [.t 8]⟩,⟨some 10,none,.faddr 2 (.t 1)⟩,⟨some 11,none,.load false 1 (.t 10)⟩,⟨some 12,none,.bslice .imm 1 (List.replicate 1 [.Xt 1 []]) [(0,(.t 11))]⟩,⟨some 13,none,.pcallr iA [.t 12]⟩,⟨some 14,none,.faddr 3 (.t 1)⟩,⟨some 15,none,.load false 1 (.t 14)⟩,⟨some 16,none,.bslice .imm 1 (List.replicate 1 [.Xt 1 []]) [(0,(.t 15))]⟩,⟨some 17,none,.pcall pL [.t 16]⟩,⟨some 18,none,.build AD [(0,1,(.t 9)),(2,1,(.t 13)),(3,1,(.t 17))]⟩,⟨some 3,none,.alloc AD⟩,⟨none,none,.store 4 (.t 3) (.t 18)⟩] none) (iQ (iP 19) 20 19 21 20 22 0 c_171_l0) c_171_k1⟩
def oD:AFn:=⟨2,[.tmp 4],fE mW (xD [fJ 6,cV 7,xL 8 7,aN 9 uI 6 8,dF 10,xL 11 10,aN 12 uH 9 11,xO 13 (.fld false 1 1 (.t 12)),b6 13]) (qV [aJ 14,aM 15 aU 14,n7 16 .eql 15 fH] 16 bV) (yW (aJ 17) 17)⟩
def dO:AFn:=⟨2,fS,cC [fU 2 0,fU 3 1,xC 4 a9,cA 5] (eL [aV 7 3,dF 8,xL 9 8,xO 10 (.build wR [(0,1,H8),(1,1,(.t 9))]),xO 11 (.eqs false true [.i,.i] (.t 7) (.t 10))] 11 (yY [bS 12 2,xL 13 12,bS 14 2,xL 15 14,dF 16,xL 17 16,aN 18 pM 15 17,aP 13,b6 18])) (eM [aI 19 2,xL 20 19,cV 21,xL 22 21,dJ 23 jJ [.t 20,.t 22],bK 23] [cP 24,gR 25,xL 26 25,cV 27,xL 28 27,aN 29 uJ 26 28,xM 30 29,fG 31 30 6,eS 32 30 1 3,eO 33 30 32,nM 34 30 pM [.t 31,.t 33],xV 35 30 34,aP 24,b6 35])⟩
def c_176_l0:Xu:=bE 9 .lss 8 7 9 (iY (xX 10 5 6 8) (xA 11 5 10) (cN 5 GZ) (xS 5 5 11) [5] (qU [(0,4)] [⟨some 12,none,.load true 2 (.t 2)⟩,⟨some 13,none,.load true 5 (.t 5)⟩,⟨some 14,none,.pcall uK [.t 13]⟩,⟨some 15,none,.load true 2 (.t 2)⟩,⟨some 16,none,.tinvoke [(413,qL),(414,qM),(415,vZ),(417,KA)] (.t 14) [.t 15]⟩,⟨some 17,none,.tcall i8 [.t 12,.t 16]⟩] none)) 18 .add 8 8 18
def oE:AFn:=⟨2,[],bA [fU 2 0] (gO [aG 6,xN 7 6,aY 8] 0 c_176_l0)⟩
def c_177_l0:Xu:=bE 15 .lss 14 13 15 (bA [xM 16 14,bG 17 12 14,xL 18 17,bQ 16,xM 9 18] (xD [cW 19,bI 20 5,xF 21 5 3,xL 22 21,aG 23,xX 24 6 22 23,aI 25 24,xL 26 25,bN 27,xX 28 3 26 27,aK 29 28,aV 30 29,aN 31 jK 20 30,xM 32 9,aM 33 aU 32,xB 34 .and 31 33,xO 35 (.bslice .imm 1 (List.replicate 1 rM) [(0,(.t 34))]),kE 36 1 4 19 35,dL 36])) 37 .add 14 14 37
def c_177_k1:Xu:=nZ (cW 38) (bK 38)
def sL:AFn:=⟨3,[.tmp 6],gP [s7,xJ 5 2,xC 6 a9] [mZ 7 1] [kI 10,aG 11,aN 12 lT 10 11,xN 13 12,aY 14] 0 c_177_l0 c_177_k1⟩
def sN:AFn:=⟨4,[.cell 8 true 5,.tmp 9],dZ [fU 4 0,fU 5 1,fU 6 2,fU 7 3,cN 8 iV,cA 9] [xL 13 5,b7 14 .lss 13,xM 15 14,aT 16 15 5,bU 17 15 5 4,aT 18 15 17,d7 19 15 18,dV 20 15 .geq 16 19,xW 21 15 20] 21 [xO 22 (.build AC []),xS 5 8 22,cA 9] (xQ [xO 23 (.mkfunc (.func cF) [] [.t 7]),cN 10 [.nilfunc],xS 1 10 23] [10]) (s5 [xL 25 6,xO 26 (.mkfunc (.func mG) [] [.t 10,.t 6,.t 4,.t 5]),dJ 27 jL [.t 25,.t 26],xM 24 27,bW 28 24,bX 29 24,cN 11 iV,xS 5 11 28,xM 12 29] [11] (dR [xA 30 5 11,aM 31 pO 30,xM 32 12,xS 5 8 31,xM 9 32]))⟩
def c_179_l0:Xu:=bE 68 .lss 67 66 68 (iY (xX 69 7 65 67) (xA 70 7 69) (cN 15 LU) (xS 7 15 70) [15] (cC [xC 16 (.func (.func pQ) [] [])] (xH [aK 71 15,xL 72 71] 2 (iX [xK 74 .eql 72 2,xM 73 74] 73 (xR [xC 16 (.func (.func pR) [] [])]) (iX [xK 76 .eql 72 3,xM 75 76] 75 (xR [xC 16 (.func (.func pS) [] [])]) (iX [xK 78 .eql 72 4,xM 77 78] 77 (xR [xC 16 (.func (.func pT) [] [])]) (eL [xK 80 .eql 72 5,xM 79 80] 79 (xR [xC 16 (.func (.func pU) [] [])])))))) (xR [xM 81 16,xM 82 10,xA 83 7 15,xO 84 (.tcallv (.t 81) [.t 82,.t 83])]))) 85 .add 67 67 85
def c_179_k1:Xu:= .seq (qU [(7,8)] [⟨some 86,none,.mov (.t 10)⟩,⟨some 87,none,.nilchk (.t 86)⟩,⟨some 88,none,.faddr 11 (.t 87)⟩,⟨some 89,none,.load true 4 (.t 88)⟩,⟨some 90,none,.mov (.t 10)⟩,⟨some 91,none,.nilchk (.t 90)⟩,⟨some 92,none,.faddr 15 (.t 91)⟩,⟨some 93,none,.load false 1 (.t 92)⟩,⟨none,none,.store 4 (.t 8) (.t 89)⟩,⟨some 9,none,.mov (.t 93)⟩] none) .ret
def j9:AFn:=⟨4,[.cell 8 true 4,.tmp 9],bA [rP 4,xT 5,xJ 6 2,eT 8 a9 a9 a9 a9,xC 9 a9] (fE [bI 17 6,aM 18 cT 17,cO 19,aM 20 pP 19,xO 21 (.build [.str [],.Xt 2 [],.Xt 2 [],.Xt 3 [],.Xt 3 [],.Xt 6 [],.Xt 7 [],.Xt 5 [],.Xt 1 [],.Xt 2 [],.Xt 1 [],.Xt 1 [],.Xt 1 [],.Xt 1 [],.Xt 1 [],.Xt 1 []] [(11,4,(.t 18)),(15,1,(.t 20))]),fU 22 21,xM 10 22] (bA [eA 24 4,iZ 25,xL 26 25,aN 27 pE 24 26,xM 23 27,bW 28 23,bX 29 23,xM 11 28,xM 12 29] (eL [xM 30 12,b7 31 .neq 30,xM 32 31,dE 33 32 (AZ 9 4),dE 34 32 (AZ 2 5),xY 35 32 jH [.t 33,.t 34],eF 36 32 .neq 35 0,xW 37 32 36] 37 (.seq (qU [(7,8)] [⟨some 38,none,.mov (.t 10)⟩,⟨some 39,none,.nilchk (.t 38)⟩,⟨some 40,none,.faddr 11 (.t 39)⟩,⟨some 41,none,.load true 4 (.t 40)⟩,⟨some 42,none,.mov (.t 10)⟩,⟨some 43,none,.nilchk (.t 42)⟩,⟨some 44,none,.faddr 15 (.t 43)⟩,⟨some 45,none,.load false 1 (.t 44)⟩,⟨none,none,.store 4 (.t 8) (.t 41)⟩,⟨some 9,none,.mov (.t 45)⟩] none) .ret))) (xQ [xF 46 4 4,xL 47 46,iZ 48,xL 49 48,xX 50 3 47 49,xA 51 3 50,cN 13 H6,xS 3 13 51] [13]) (gP [xM 52 10,eA 53 4,aI 54 13,xL 55 54,xO 56 (.build rJ [(0,9,(.t 53)),(9,1,(.t 55))]),b8 57 52,aK 58 57,xS 10 58 56] [xM 59 10,aI 60 5,xL 61 60,b8 62 59,xF 63 10 62,xS 1 63 61] [bS 64 13,xL 65 64,xN 66 65,aY 67] 0 c_179_l0 c_179_k1))⟩
def sP:AFn:=⟨4,[.tmp 8],cC [xT 5,xJ 6 2,fP 8] (kF [aF 13,xA 14 10 5,aN 15 jM 13 14,xM 12 15,bW 16 12,bX 17 12,xM 9 16,xM 10 17] (xM 18 10) 19 .neq 18 19 [fP 8]) (eM [xA 20 10 5,bI 21 6,cO 22,aF 23,xO 24 (.build [.str [],.Xt 2 [],.Xt 2 [],.Xt 3 [],.Xt 3 [],.Xt 6 [],.Xt 7 [],.Xt 5 [],.Xt 1 [],.Xt 2 [],.Xt 1 [],.Xt 1 [],.Xt 1 [],.Xt 1 [],.Xt 1 [],.Xt 3 [],.int .i64 0] [(0,10,(.t 20)),(10,4,(.t 21)),(14,1,(.t 22)),(15,1,(.t 23))]),cN 11 [.str [],.Xt 2 [],.Xt 2 [],.Xt 3 [],.Xt 3 [],.Xt 6 [],.Xt 7 [],.Xt 5 [],.Xt 1 [],.Xt 2 [],.Xt 1 [],.Xt 1 [],.Xt 1 [],.Xt 1 [],.Xt 1 [],.Xt 3 [],cD],xS 17 11 24] [dJ 25 dQ [.t 11],xO 26 (.fld false 0 1 (.t 25)),bQ 26])⟩
def BN:AFn:=⟨2,[.tmp 4],g7 (fP 4) [l5,b8 6 5,aK 7 6,aK 8 7,bI 9 8,aG 10,xO 11 (.build wR [(0,1,H8),(1,1,(.t 10))]),aN 12 jK 9 11,aP 12]⟩
def BO:AFn:=⟨2,[.tmp 4],eM mW [fJ 5,bI 6 3,aN 7 lY 5 6,xN 8 7,aP 8]⟩
def c_183_l0:Xu:=bE 21 .lss 20 19 21 (bA M6 (IZ (cP 24) (bN 25) (xO 26 (.tcallv (.t 24) [.t 25])))) 27 .add 20 20 27
def c_183_k1:Xu:=eM [xL 29 5,dJ 30 jN [.t 29],xM 28 30,bW 31 28,bX 32 28,xM 9 31,xM 10 32] [xM 33 9,xF 34 3 3,xL 35 34,kE 36 1 1 33 35,aP 36]
def sQ:AFn:=⟨2,[.tmp 4],dZ [kD,B4,xC 4 a9] [fJ 11,bI 12 3,aN 13 uN 11 12,bZ 14 13] 14 nX (xQ [dJ 15 mH [],cN 5 [.nilptr],xS 1 5 15] [5]) (gE [xO 16 (.mkfunc (.func pV) [] [.t 3,.t 2,.t 5]),bK 16] [xF 17 8 2,xL 18 17,xN 19 18,aY 20] 0 c_183_l0 c_183_k1)⟩
def sR:AFn:=⟨4,[],eL [aF 8,b7 9 .neq 8] 9 (xR [aF 10,aG 11,bO 12,cO 13,xO 14 (.build rK [(0,1,(.t 10)),(1,1,(.t 11)),(2,1,(.t 12)),(3,1,(.t 13))]),xO 15 (.build rK [(0,4,(.t 14))]),xO 16 (.mkiface 225 (.t 15)),⟨none,none,.panic (.t 16)⟩])⟩
def BP:AFn:=⟨2,[.tmp 4],eE [bV] (mY [l5] 5 (aG 6) (aP 6)) [bV]⟩
def BQ:AFn:=⟨1,[.tmp 2],g7 (cA 2) [aF 3,aM 4 eC 3,bZ 5 4,aJ 2]⟩
def c_206_l0:Xu:=bE 11 .lss 10 9 11 (iY (dM 12 8 10) (aV 13 12) (qT 7 (.str []) fD) (bM 7 13) [7] LL) 20 .add 10 10 20
def c_206_k1:Xu:=yW (aJ 21) 21
def BR:AFn:=⟨2,[.tmp 4],gP nX [mZ 5 1] wV 0 c_206_l0 c_206_k1⟩
def BS:AFn:=⟨1,[.tmp 2],eM wW wS⟩
def c_208_l0:Xu:=nL 48 .lss 47 46 48 3 4 (bA [dM 49 45 47,aV 50 49,gQ 6 (.str []),bM 6 50] (kY [aI 51 4,xL 52 51,aI 53 6,xS 1 53 52] [aV 54 6,aV 55 4,xO 56 (.eqs false true [.s,.i] (.t 54) (.t 55))] 56 [xI 2 7])) 57 .add 47 47 57
def c_208_k1:Xu:=xR [dA 58 .add 25,xM 25 58]
def c_208_l2:Xu:=Ev [xB 26 .lss 25 24] 26 1 2 (s5 [xM 27 25,dM 28 23 25,aV 29 28,gQ 4 (.str []),xM 3 27,bM 4 29] [4] (nY (eG [aK 30 4,xL 31 30,aM 32 eC 31,bZ 33 32] 33 2 6) (eG [aI 34 4,xL 35 34,dA 36 .lss 35,xM 37 36,dT 38 37 4,aT 39 37 38,eF 40 37 .gtr 39 32,xW 41 37 40] 41 2 10) (gO [iP 42,xL 43 42,cO 44,xO 45 (.slc 2 (.t 43) none (some (.t 44)) none),xN 46 45,aY 47] 3 c_208_l0))) c_208_k1
def c_208_k3:Xu:= .seq (eG [aV 59 1,aM 60 jO 59,aM 61 mI 60,xK 62 .rem 61 8,b7 63 .neq 62] 63 2 10) (eN fV)
def lD:AFn:=⟨1,[.tmp 2],fE [kH,fV] (kZ 0 [aK 8 1,xL 9 8,aM 10 eC 9,bZ 11 10,dL 11] 7 [xI 2 6] (mX [iP 13,xL 14 13,xN 15 14,b7 16 .eql 15,xM 12 16] 12 [xI 2 8] (eG [iP 18,xL 19 18,xN 20 19,xK 21 .gtr 20 12,xM 17 21] 17 2 12))) (iQ (iP 22) 23 22 24 23 25 1 c_208_l2) c_208_k3⟩
def BT:AFn:=⟨2,[.tmp 4],cC [d8] (xD [l5,aG 6,xO 7 (.slc 1 (.t 5) none (some (.t 6)) none),aF 8,aG 9,bG 10 8 9,xL 11 10,aN 12 pX 7 11,aP 12]) .ret⟩
def c_210_l0:Xu:=bE 11 .lss 10 9 11 (iY (dM 12 8 10) (aV 13 12) (gQ 7 (.str [])) (bM 7 13) [7] LL) 20 .add 10 10 20
def c_210_k1:Xu:=yW (aJ 21) 21
def BU:AFn:=⟨2,[.tmp 4],gP nX [mZ 5 1] wV 0 c_210_l0 c_210_k1⟩
def BV:AFn:=⟨1,[.tmp 2],eM wW wS⟩
def BW:AFn:=⟨1,[.tmp 2],g7 (cA 2) [aF 3,dA 4 .lss 3,b6 4,bF 6 5 0,eF 7 5 .gtr 6 32,xW 8 5 7,bN 2]⟩
def c_213_l0:Xu:=bE 11 .lss 10 9 11 (iY (xX 12 3 8 10) (xA 13 3 12) (cN 7 [.str [],cD,cD]) (xS 3 7 13) [7] LK) 20 .add 10 10 20
def c_213_k1:Xu:=yW (aJ 21) 21
def BZ:AFn:=⟨2,[.tmp 4],gP nX [mZ 5 1] wV 0 c_213_l0 c_213_k1⟩
def C0:AFn:=⟨1,[.tmp 2],eM wW wS⟩
def jA:AFn:=⟨1,[.tmp 2],eE [kH,fV] (kZ 0 [aK 4 1,xL 5 4,aM 6 eC 5,bZ 7 6,cW 3] 3 [xI 2 6] (mX [iP 9,xL 10 9,aM 11 aU 10,n7 12 .eql 11 fH,bQ 12] 8 [xI 2 10] (eG [xA 14 3 1,aM 15 uA 14,bZ 16 15,xM 13 16] 13 2 9))) [fV]⟩
def c_216_l0:Xu:=bE 11 .lss 10 9 11 (iY (xX 12 3 8 10) (xA 13 3 12) (cN 7 H6) (xS 3 7 13) [7] LK) 20 .add 10 10 20
def c_216_k1:Xu:=yW (aJ 21) 21
def C1:AFn:=⟨2,[.tmp 4],gP nX [mZ 5 1] wV 0 c_216_l0 c_216_k1⟩
def C2:AFn:=⟨1,[.tmp 2],eM wW wS⟩
def c_218_l0:Xu:=bE 38 .lss 37 36 38 (s5 [xM 39 37,xX 40 7 35 37,xA 41 7 40,cN 9 LU,bQ 39,xS 7 9 41] [9] (kF [xA 42 10 7,xA 43 7 9,aN 44 uP 42 43,b6 44] (aJ 45) 46 .neq 45 46 [bN 47,aJ 48,aP 47,b6 48])) 49 .add 37 37 49
def c_218_k1:Xu:=nZ bV eB
def lE:AFn:=⟨2,fS,dZ [kD,bV,eB] [aG 10,b7 11 .lss 10,xM 12 11,bF 13 12 1,bU 14 12 4 2,aT 15 12 14,d7 16 12 15,dV 17 12 .geq 13 16,xW 18 12 17] 18 AP (xQ [xF 19 4 2,xL 20 19,aG 21,xX 22 3 20 21,xA 23 3 22,cN 6 H6,xS 3 6 23] [6]) (.seq (kF [xA 24 3 6,aM 25 uO 24,b6 25] (aJ 26) 27 .neq 26 27 [aJ 28,iJ 4,b6 28]) (qX [fJ 29,aI 30 6,xL 31 30,xO 32 (.build rJ [(0,9,(.t 29)),(9,1,(.t 31))]),xO 33 (.build rJ [(0,10,(.t 32))]),cN 7 rJ,xS 10 7 33] [7] (iQ (bS 34 6) 35 34 36 35 37 0 c_218_l0) c_218_k1))⟩
def c_219_l0:Xu:=bE 11 .lss 10 9 11 (iY (xX 12 6 8 10) (xA 13 6 12) (cN 7 LQ) (xS 6 7 13) [7] (xR [aJ 14,aG 15,xA 16 6 7,xU 17 15 [.t 16],xO 18 GV,kE 19 1 16 14 18,b6 19])) 20 .add 10 10 20
def c_219_k1:Xu:=yW (aJ 21) 21
def C3:AFn:=⟨2,[.tmp 4],gP nX [mZ 5 1] wV 0 c_219_l0 c_219_k1⟩
def C4:AFn:=⟨1,[.tmp 2],eM wW wS⟩
def c_221_l0:Xu:=nL 25 .lss 24 23 25 1 2 (qX [xM 26 24,xX 27 7 22 24,xA 28 7 27,cN 7 LS,bK 26,xS 7 7 28] [7] (kZ 3 [aK 30 7,xL 31 30,aM 32 eC 31,bZ 33 32,xM 29 33] 29 [cP 34,dK 34,iJ 3,xI 4 6] (gN [aJ 36,aK 37 7,xL 38 37,xO 39 (.lookup .s (.bool false) false (.t 36) (.t 38)),xM 35 39] 35 [cP 40,dK 40,iJ 3,xI 4 7])) (bA [aJ 41,aK 42 7,xL 43 42,⟨none,none,.update .s (.t 41) (.t 43) kR⟩] (kF [eA 45 1,cP 46,aN 47 uQ 45 46,xM 44 47,bW 48 44,bX 49 44,bQ 48,xM 9 49] (xM 50 9) 51 .neq 50 51 [cP 52,bN 53,xM 54 9,dK 52,xM 3 53,aP 54]))) 55 .add 24 24 55
def c_221_k1:Xu:=dR [fV,aY 3,bV]
def oF:AFn:=⟨1,[.tmp 2,.tmp 3,.tmp 4],cC [kH,fV,aY 3,bV] (kZ 0 [xF 11 6 1,xL 12 11,xN 13 12,b7 14 .eql 13,xM 10 14] 10 [iJ 2,iJ 3,xI 4 8] (gN [xF 16 6 1,xL 17 16,xN 18 17,xK 19 .gtr 18 12,xM 15 19] 15 [iJ 2,iJ 3,xI 4 12])) (gE [xO 20 .mkmap,b6 20] [xF 21 6 1,xL 22 21,xN 23 22,aY 24] 1 c_221_l0 c_221_k1)⟩
def gW:AFn:=⟨1,[.tmp 2,.cell 3 false 1],dZ [kH,fV,cN 3 [cD]] [xF 6 7 1,xL 7 6,aM 8 uR 7,xK 9 .gtr 8 24] 9 [iJ 2,⟨none,none,.store 1 (.t 3) (.c (.int .i64 12))⟩] (mY [xF 10 7 1,xL 11 10,aM 12 mJ 11,xK 13 .gtr 12 6] 13 (iJ 2) ⟨none,none,.store 1 (.t 3) (.c (.int .i64 14))⟩) (kU [cN 4 [cD],⟨none,none,.store 1 (.t 4) (.c mV)⟩] [cN 5 [.Xt 1 []]] (eE [xF 14 7 1,xL 15 14,xO 16 (.mkfunc (.func pY) [] [.t 1,.t 5,.t 3,.t 4]),dJ 17 eZ [.t 15,.t 16]] (eL [xL 18 3,b7 19 .neq 18] 19 (yY [xL 20 4,xL 21 3,dK 20,xS 1 3 21])) [fV,⟨none,none,.store 1 (.t 3) (.c mV)⟩]))⟩
def c_223_l0:Xu:=bE 14 .lss 13 12 14 (bA [xM 15 13,bG 16 11 13,xL 17 16,aP 15,b6 17] (kZ 2 [aJ 19,b7 20 .lss 19,xM 21 20,bF 22 21 5,dT 23 21 1,aT 24 21 23,d7 25 21 24,dV 26 21 .geq 22 25,xW 27 21 26,xM 18 27] 18 [xM 28 4,dK 28,xI 3 8] (gN [xF 30 8 1,xL 31 30,xM 32 4,xO 33 (.slc 1 (.t 31) none (some (.t 32)) none),aJ 34,aN 35 uU 33 34,xM 29 35] 29 [xM 36 4,dK 36,xI 3 7]))) 37 .add 13 13 37
def c_223_k1:Xu:=nZ fV (aY 3)
def sS:AFn:=⟨1,AN,dZ [kH,fV,aY 3] [xF 6 8 1,xL 7 6,xN 8 7,xK 9 .gtr 8 8] 9 [iJ 2,xI 3 12] (iQ (xF 10 8 1) 11 10 12 11 13 0 c_223_l0) c_223_k1⟩
def C5:AFn:=⟨1,[.tmp 2],eM [kH,cA 2] [bS 3 1,xL 4 3,dA 5 .geq 4,aJ 6,eS 7 6 2 1,eO 8 6 7,iO 9 6 .leq 8 (kS 64),xV 10 6 9,dK 10]⟩
def lG:AFn:=⟨1,[.tmp 2],eE [cA 2] (qV [aF 3,xO 4 (.slen (.t 3)),b7 5 .eql 4,aJ 6,bF 7 6 0,dE 8 6 (.slen (.t 7)),eF 9 6 .gtr 8 16,xW 10 6 9,xM 11 10,bF 12 11 0,dE 13 11 (.idxs (.t 12) dS),xY 14 11 pZ [.t 13],xZ 15 11 14,xW 16 11 15] 16 (cA 2)) [aF 17,AW 18 uV 17 (.c (.func (.func mK) [] [])),aF 19,xO 20 (.slen (.t 19)),xB 21 .eql 18 20,dK 21]⟩
def c_238_l0:Xu:=bE 15 .lss 14 13 15 (s5 [xM 16 14,xX 17 3 12 14,xA 18 3 17,cN 9 wZ,bQ 16,xS 3 9 18] [9] (dZ [fJ 19,aK 20 9,aV 21 20,aN 22 fY 19 21,xM 10 22] [xM 23 10,b7 24 .eql 23] 24 [bN 25,aP 25,xI 5 8] (xH [bS 26 9,xL 27 26] 2 (iX [xK 30 .eql 27 2,xM 29 30] 29 (yU (cP 31) 32 .add 31 (bK 32)) (.seq (kT [dA 34 .eql 27,xM 33 34] 33 (xR [xK 35 .eql 27 3,xM 33 35])) (yT 33 .skip (dR [bN 28,aP 28,xI 5 11]))))) (xR [cW 36,xM 37 10,xB 38 .add 36 37,dL 38]))) 39 .add 14 14 39
def c_238_k1:Xu:=nY (kG [cP 40,dA 41 .gtr 40] 41 (xI 4 (-2)) 5 7) (kG [cW 42,xK 43 .gtr 42 64] 43 (xI 4 (-2)) 5 10) (nZ bV eB)
def C6:AFn:=⟨2,fS,gP HA [iK,aY 7] [dF 11,xL 12 11,xN 13 12,aY 14] 0 c_238_l0 c_238_k1⟩
def c_239_l0:Xu:=bE 13 .lss 12 11 13 (dZ [bG 14 10 12,xL 15 14,dL 15] [cW 16,b7 17 .lss 16,xM 18 17,bF 19 18 7,bU 20 18 4 2,aT 21 18 20,d7 22 18 21,dV 23 18 .geq 19 22,xW 24 18 23] 24 [xI 4 8] (eG [aJ 25,cW 26,xO 27 (.lookup .i (.bool false) false (.t 25) (.t 26))] 27 4 7) (IZ (aJ 28) (cW 29) ⟨none,none,.update .i (.t 28) (.t 29) kR⟩)) 30 .add 12 12 30
def c_239_k1:Xu:= .seq (eG [aJ 31,xF 32 3 3,aK 33 32,xL 34 33,xO 35 (.lookup .i (.bool false) false (.t 31) (.t 34)),bZ 36 35] 36 4 8) (dR [fJ 37,xF 38 3 3,aV 39 38,aN 40 jH 37 39,aP 40])
def C7:AFn:=⟨2,[.tmp 4],gP mW [xO 8 .mkmap,b6 8] [bS 9 3,xL 10 9,xN 11 10,aY 12] 0 c_239_l0 c_239_k1⟩
def C8:AFn:=⟨2,[.tmp 4],bA [kD,d8] (eM [fJ 8,aG 9,aN 10 lS 8 9,dL 10,bW 11 7,bX 12 7,b6 11,bK 12] [cP 13,b7 14 .eql 13,aP 14])⟩
def sT:AFn:=⟨2,[.tmp 4],g7 d8 [aG 5,xO 6 LZ,aM 7 eD 6,bQ 7,fG 9 8 0,fG 10 8 1,nM 11 8 aU [.t 10],iO 12 8 .leq 9 (.t 11),xV 13 8 12,aP 13]⟩
def c_242_l0:Xu:=bE 14 .lss 13 12 14 (kY [xM 15 13,bK 15] [cP 16,aG 17,aN 18 uX 16 17,aF 19,xB 20 .eql 18 19] 20 [cP 21,aP 21,AY 5]) 22 .add 13 13 22
def c_242_k1:Xu:=nZ bV (cA 5)
def sW:AFn:=⟨2,fS,dZ [bV,cA 5] [aG 7,xO 8 M0,aM 9 eD 8,bZ 10 9] 10 [bV,cA 5] (gO [aG 11,dA 12 .add 11,aY 13] 0 c_242_l0) c_242_k1⟩
def c_263_l0:Xu:=bE 8 .lss 7 6 8 (kY [bG 9 5 7,xL 10 9,aP 10] [xM 11 4,dA 12 .lss 11,xM 13 12,bF 14 13 4,eF 15 13 .gtr 14 32,xW 16 13 15] 16 [cA 2]) 17 .add 7 7 17
def c_263_k1:Xu:=o9 2
def jC:AFn:=⟨1,[.tmp 2],gE [cA 2] [l5,xN 6 5,aY 7] 0 c_263_l0 c_263_k1⟩
def c_264_l0:Xu:=bE 22 .lss 21 20 22 (bA [xM 23 21,aP 23] (qU [(1,10)] [⟨some 24,none,.faddr 1 (.t 3)⟩,⟨some 25,none,.load false 1 (.t 24)⟩,⟨some 26,none,.mov (.t 4)⟩,⟨some 27,none,.faddr 1 (.t 1)⟩,⟨some 28,none,.load false 1 (.t 27)⟩,⟨some 29,none,.mov (.t 4)⟩,⟨some 30,none,.iaddr 2 none (.t 28) (.t 29)⟩,⟨some 31,none,.faddr 1 (.t 30)⟩,⟨some 32,none,.load false 1 (.t 31)⟩,⟨some 33,none,.len (.t 32)⟩,⟨some 34,none,.mkslice .row 1 4 rM (.t 33) (.t 33)⟩,⟨some 35,none,.iaddr 1 none (.t 25) (.t 26)⟩,⟨none,none,.store 1 (.t 35) (.t 34)⟩] none)) 36 .add 21 21 36
def c_264_k1:Xu:=nZ (bI 37 3) (cY 2 37)
def oG:AFn:=⟨1,wX,fE LW (qU [(3,5),(1,7),(3,7),(3,9),(7,9),(1,11),(3,11),(5,11),(7,11),(1,13),(3,13),(5,13),(7,13),(9,13),(11,13)] [⟨some 5,none,.faddr 1 (.t 1)⟩,⟨some 6,none,.load false 1 (.t 5)⟩,⟨some 7,none,.len (.t 6)⟩,⟨some 8,none,.mkslice .row 1 1 [.bool false] (.t 7) (.t 7)⟩,⟨some 9,none,.faddr 1 (.t 1)⟩,⟨some 10,none,.load false 1 (.t 9)⟩,⟨some 11,none,.len (.t 10)⟩,⟨some 12,none,.mkslice .row 1 24 [.Xt 1 []] (.t 11) (.t 11)⟩,⟨some 13,none,.faddr 2 (.t 1)⟩,⟨some 14,none,.load false 1 (.t 13)⟩,⟨some 15,none,.len (.t 14)⟩,⟨some 16,none,.mkslice .row 1 4 rM (.t 15) (.t 15)⟩,⟨some 17,none,.build AD [(0,1,(.t 8)),(1,1,(.t 12)),(2,1,(.t 16))]⟩,⟨some 3,none,.alloc AD⟩,⟨none,none,.store 4 (.t 3) (.t 17)⟩] (some [3])) (iQ (iP 18) 19 18 20 19 21 0 c_264_l0) c_264_k1⟩
def c_265_l0:Xu:=bE 22 .lss 21 20 22 (iY (dM 23 19 21) (aV 24 23) (qT 9 (.str []) fD) (bM 9 24) [9] (eG [aV 25 9,aM 26 fZ 25,b7 27 .neq 26] 27 4 2)) 28 .add 21 21 28
def c_265_k1:Xu:= .seq (eG [aG 29,xN 30 29,xK 31 .gtr 30 512] 31 4 4) (eN bV)
def C9:AFn:=⟨2,[.tmp 4],fE [kD,bV] (kF [fJ 11,aM 12 pG 11,xM 10 12,bW 13 10,bX 14 10,xE 15 2 10,b6 13,bK 14,dL 15] (cW 16) 17 .neq 16 17 [xI 4 2]) (iQ (aI 18 2) 19 18 20 19 21 0 c_265_l0) c_265_k1⟩
def CA:AFn:=⟨1,[.tmp 2],g7 (xC 2 .nilptr) [aF 3,PF 4 1 1 (.c a9) 3,xO 5 (.build M2 [(0,1,(.t 4)),(2,1,kR)]),fU 6 5,dK 6]⟩
def c_267_l0:Xu:=bE 17 .lss 16 15 17 (bA [bG 18 14 16,xL 19 18,xM 10 19] (cC [aI 21 4,xL 22 21,xM 23 10,dM 24 22 23,aV 25 24,cO 26,dJ 27 jQ [.t 25,.t 26],xM 20 27,bW 28 20,bX 29 20,xM 11 28,xM 12 29] (mY [xM 30 12,b7 31 .neq 30] 31 (xM 32 12) (bQ 32)) (qU [(4,8)] [⟨some 33,none,.faddr 0 (.t 6)⟩,⟨some 34,none,.load false 1 (.t 33)⟩,⟨some 35,none,.mov (.t 10)⟩,⟨some 36,none,.faddr 1 (.t 6)⟩,⟨some 37,none,.load false 1 (.t 36)⟩,⟨some 38,none,.mov (.t 10)⟩,⟨some 39,none,.mov (.t 11)⟩,⟨some 40,none,.iaddr 1 none (.t 34) (.t 35)⟩,⟨none,none,.store 1 (.t 40) kR⟩,⟨some 41,none,.iaddr 1 none (.t 37) (.t 38)⟩,⟨none,none,.store 1 (.t 41) (.t 39)⟩] none))) 42 .add 16 16 42
def c_267_k1:Xu:=eN (aY 8)
def oH:AFn:=⟨4,[.tmp 8],gE [fU 4 0,fU 5 1,fU 6 2,aY 8] [aI 13 5,xL 14 13,xN 15 14,aY 16] 0 c_267_l0 c_267_k1⟩
def c_268_l0:Xu:=bE 18 .lss 17 16 18 (iY (xX 19 3 15 17) (xA 20 3 19) (cN 7 [fH,fH,cD]) (xS 3 7 20) [7] (gN [aJ 21,aK 22 7,xL 23 22,xB 24 .xor 21 23,aI 25 7,xL 26 25,xB 27 .and 24 26,n7 28 .eql 27 fH] 28 [bS 29 7,xL 30 29,aP 30])) 31 .add 17 17 31
def c_268_k1:Xu:=dR [xF 32 6 2,xL 33 32,aP 33]
def sX:AFn:=⟨2,[.tmp 4],cC mW (eL [bS 8 2,xL 9 8] 9 (bA [bI 10 3,xF 11 3 2,aV 12 11,aN 13 jK 10 12,b6 13] (iQ (xF 14 5 2) 15 14 16 15 17 0 c_268_l0))) c_268_k1⟩
def sY:AFn:=⟨1,AN,dZ [xC 2 a9,aY 3] [aF 4,aM 5 mL 4,bZ 6 5] 6 [xC 2 a9,xI 3 1] (kG [aF 7,b8 8 7,aI 9 8,xL 10 9,xK 11 .rem 10 8,b7 12 .neq 11] 12 (xC 2 a9) 3 10) (yY [aF 13,b8 14 13,aK 15 14,xL 16 15,aF 17,b8 18 17,aI 19 18,xL 20 19,xK 21 .quo 20 8,xO 22 (.slc 1 (.t 16) (some (.t 21)) none none),PF 23 1 1 (.c a9) 22,dK 23,aY 3])⟩
def c_270_l0:Xu:=bE 9 .lss 8 7 9 (bA wQ (xR [cO 12,aJ 13,PD 14 .row 1 1 (.t 12) 13,xM 3 14])) 15 .add 8 8 15
def c_270_k1:Xu:=yV 16 16
def oI:AFn:=⟨1,[.tmp 2],gP rN [xC 3 a9] iW 0 c_270_l0 c_270_k1⟩
def c_271_l0:Xu:=bE 9 .lss 8 7 9 (bA wQ (xR [cO 12,aJ 13,PD 14 .row 1 4 (.t 12) 13,xM 3 14])) 15 .add 8 8 15
def c_271_k1:Xu:=yV 16 16
def oJ:AFn:=⟨1,[.tmp 2],gP rN [xC 3 a9] iW 0 c_271_l0 c_271_k1⟩
def c_272_l0:Xu:=bE 9 .lss 8 7 9 (bA wQ (xR [cO 12,aJ 13,kE 14 1 1 12 13,xM 3 14])) 15 .add 8 8 15
def c_272_k1:Xu:=yV 16 16
def CB:AFn:=⟨1,[.tmp 2],gP rN [mZ 3 1] iW 0 c_272_l0 c_272_k1⟩
def oK:AFn:=⟨2,AJ,bA [gQ 4 (.str [])] (eE [gQ 5 (.str [])] LX LP)⟩
def oL:AFn:=⟨2,[.tmp 4],eE [kD,xC 4 fD] (gN [aG 5,xK 6 .eql 5 (-1)] 6 [bS 7 2,xL 8 7,aP 8]) [aI 9 2,xL 10 9,aG 11,aN 12 uY 10 11,xO 13 (.fld false 1 1 (.t 12)),aP 13]⟩
def sZ:AFn:=⟨2,[.tmp 4],g7 d8 GW⟩
def c9:AFn:=⟨2,[.tmp 4],bA nX (eE [xC 5 a9] M5 LR)⟩
def oM:AFn:=⟨2,[.tmp 4],bA [d8] (eE [cA 5] M5 LR)⟩
def lH:AFn:=⟨1,[.tmp 2],eE [kH,xC 2 .niliface] (bA [aK 3 1,xL 4 3] (kZ 0 [dA 6 .eql 4,b6 6] 5 [xA 7 5 1,xO 8 (.build GX [(0,5,(.t 7))]),xO 9 (.mkiface 413 (.t 8)),dK 9] (mX [xK 11 .eql 4 3,xM 10 11] 10 [xA 12 5 1,xO 13 (.build GX [(0,5,(.t 12))]),xO 14 (.mkiface 414 (.t 13)),dK 14] (gN [xK 16 .eql 4 2,xM 15 16] 15 [xA 17 5 1,xO 18 (.build GX [(0,5,(.t 17))]),xO 19 (.mkiface 415 (.t 18)),dK 19])))) [xO 20 (.build [] []),xO 21 (.mkiface 417 (.t 20)),dK 21]⟩
def t6:AFn:=⟨2,[.tmp 4],bA [kD,B4,fP 4] (eE [bI 8 2,aV 9 3,aN 10 i7 8 9,dL 10,bW 11 7,bX 12 7,b6 11,bK 12] (qV [cP 13,bZ 14 13] 14 (fP 4)) [aJ 15,dF 16,xL 17 16,bG 18 15 17,xL 19 18,aP 19])⟩
def CC:AFn:=⟨2,[.tmp 3],eM AS [aI 4 2,bI 5 4,xL 6 1,aN 7 uL 5 6,cW 3]⟩
def c_281_l0:Xu:=bE 17 .lss 16 15 17 (qX [xM 18 16,dM 19 14 16,aV 20 19,qT 6 fH fH,b6 18,bM 6 20] [6] (xD [aG 21,aJ 22,bG 23 21 22,xL 24 23,aK 25 6,xL 26 25,xB 27 .xor 24 26,aI 28 6,xL 29 28,xB 30 .and 27 29,n7 31 .neq 30 fH]) (IY 31 yX)) 32 .add 16 16 32
def c_281_k1:Xu:=o9 4
def t7:AFn:=⟨2,[.tmp 4],dZ [kD,d8] [aG 7,xN 8 7,gR 9,xL 10 9,xN 11 10,xB 12 .neq 8 11] 12 [d8] (iQ (gR 13) 14 13 15 14 16 0 c_281_l0) c_281_k1⟩
def c_282_l0:Xu:=bE 12 .lss 11 10 12 (iY (xX 13 5 9 11) (xA 14 5 13) (cN 7 iV) (xS 5 7 14) [7] (gN [aG 15,xA 16 5 7,xU 17 15 [.t 16]] 17 [xA 18 5 7,xS 5 4 18,AY 5])) 19 .add 11 11 19
def c_282_k1:Xu:=g7 (cN 8 iV) [xA 20 5 8,xS 5 4 20,cA 5]
def CD:AFn:=⟨2,[.cell 4 true 5,.tmp 5],gE [cN 4 iV,cA 5] AE 0 c_282_l0 c_282_k1⟩
def oN:AFn:=⟨5,[.tmp 6],dZ [rP 5,cA 6] [xL 9 1,xA 10 5 5,xU 11 9 [.t 10],bZ 12 11] 12 [cA 6] (xQ [xL 14 2,xO 15 (.mkfunc (.func pN) [] [.t 1,.t 3,.t 4,.t 5]),dJ 16 jL [.t 14,.t 15],xM 13 16,bW 17 13,bX 18 13,cN 7 iV,xS 5 7 17,bQ 18] [7]) (dR [bN 19,bZ 20 19,bK 20])⟩
def CE:AFn:=⟨5,[.tmp 6],eM [rP 5,cA 6] [xL 7 1,xA 8 5 5,xU 9 7 [.t 8],xM 10 9,s8 11 10 9 2,eO 12 10 3,s8 13 10 5 5,s8 14 10 5 4,nM 15 10 uM [.t 11,.t 12,.t 13,.t 14],xV 16 10 15,bK 16]⟩
def oO:AFn:=⟨4,[.tmp 8],dZ [rP 4,xJ 6 2,xJ 7 3,cA 8] [aI 11 6,aI 12 11,xL 13 12,aI 14 7,aI 15 14,xL 16 15,xB 17 .neq 13 16] 17 [aI 18 6,aI 19 18,xL 20 19,aI 21 7,aI 22 21,xL 23 22,xB 24 .gtr 20 23,bQ 24] (F6 [eA 25 4,aG 26,aI 27 6,bI 28 27,fI 29 q6 25 26 28,eA 30 4,aG 31,aI 32 7,bI 33 32,fI 34 q6 30 31 33,xM 9 29,xM 10 34] (gN [xM 35 9,xM 36 10,xB 37 .neq 35 36] 37 [xM 38 9,xM 39 10,xB 40 .gtr 38 39,bQ 40])) (dR [aK 41 6,xL 42 41,aK 43 7,xL 44 43,xB 45 .lss 42 44,bQ 45])⟩
def CG:AFn:=⟨1,[.cell 2 true 5],kU [fU 1 0,cN 2 iV] [iP 3,cV 4,xL 5 4,aM 6 zQ 5,iP 7,aK 8 7,xS 1 8 6] (eM [iP 9,bS 10 9,aI 11 10,xL 12 11,aM 13 lU 12,iP 14,bS 15 14,aI 16 15,xS 1 16 13] [xA 17 5 1,xS 5 2 17])⟩
def c_287_l0:Xu:=bE 12 .lss 11 10 12 LG 28 .add 11 11 28
def c_287_k1:Xu:=yV 29 29
def CH:AFn:=⟨1,[.tmp 2],gP rN LN AE 0 c_287_l0 c_287_k1⟩
def CJ:AFn:=⟨2,[],bA [fU 3 1] (xD [aF 4,l5,b8 6 5,aK 7 6,aK 8 7,eA 9 8,aF 10,b8 11 10,xF 12 11 11,bI 13 12,dF 14,aV 15 14,aF 16,xF 17 6 3,xL 18 17,aN 19 jR 16 18,B1 20 gZ 9 (.t 13) 15 (.t 19),b8 21 4,xF 22 11 21,cY 22 20])⟩
def CK:AFn:=⟨2,[],bA [fU 3 1] (xD [aF 4,l5,b8 6 5,aK 7 6,aK 8 7,eA 9 8,aF 10,b8 11 10,xF 12 11 11,bI 13 12,xF 14 4 3,xL 15 14,fI 16 uZ 9 13 15,b8 17 4,xF 18 11 17,cY 18 16])⟩
def CL:AFn:=⟨2,[],bA [fU 3 1] (xD [aF 4,l5,b8 6 5,aK 7 6,aK 8 7,eA 9 8,aF 10,b8 11 10,xF 12 11 11,bI 13 12,xF 14 4 3,xL 15 14,fI 16 v5 9 13 15,b8 17 4,xF 18 11 17,cY 18 16])⟩
def CM:AFn:=⟨2,[],cC [fU 3 1] (xD [l5,b8 6 5,aK 7 6,aK 8 7,eA 9 8,aF 10,b8 11 10,xF 12 15 11,xL 13 12,xF 14 3 3,xL 15 14,aF 16,xF 17 5 3,xL 18 17,aN 19 jR 16 18,B1 20 v6 9 (.t 13) 15 (.t 19),aP 20]) (xD [aF 21,aF 22,b8 23 22,aK 24 23,aK 25 24,eA 26 25,aF 27,b8 28 27,xF 29 11 28,bI 30 29,dF 31,aV 32 31,xM 33 4,B1 34 gZ 26 (.t 30) 32 (.t 33),b8 35 21,xF 36 11 35,cY 36 34])⟩
def CN:AFn:=⟨2,[],bA [fU 3 1] (xD [aF 4,l5,b8 6 5,aK 7 6,aK 8 7,eA 9 8,aF 10,b8 11 10,xF 12 15 11,xL 13 12,xF 14 3 3,xL 15 14,aF 16,xF 17 5 3,xL 18 17,aN 19 jR 16 18,aF 20,xF 21 6 3,xL 22 21,aN 23 jR 20 22,AU 24 q8 [.t 9,.t 13,.t 15,.t 19,.t 23],b8 25 4,xF 26 15 25,xS 1 26 24])⟩
def lI:AFn:=⟨2,fS,cC [B4,bV,eB] (kG [aF 7,xN 8 7,xK 9 .gtr 8 24] 9 bV 5 12) (eE [xA 11 10 3,aF 12,Nz 13 q9 11 12 dS,xM 10 13,bW 14 10,bX 15 10,xE 16 2 10,aP 14,bK 15,b6 16] (kZ 0 [aJ 18,b7 19 .neq 18,xM 17 19] 17 [aJ 20,bV,b6 20] (kG [cP 22,aF 23,xN 24 23,xB 25 .lss 22 24,xM 21 25] 21 bV 5 4)) [xM 26 4,aP 26,eB])⟩
def cQ:AFn:=⟨1,HB,cC [gQ 2 fH] (qU [(3,10),(7,10),(9,10)] [⟨some 9,none,.mov (.t 0)⟩,⟨some 10,none,.nilchk (.t 9)⟩,⟨some 11,none,.faddr 15 (.t 10)⟩,⟨some 12,none,.load false 1 (.t 11)⟩,⟨some 13,none,.mov (.t 0)⟩,⟨some 14,none,.nilchk (.t 13)⟩,⟨some 15,none,.faddr 16 (.t 14)⟩,⟨some 16,none,.load false 1 (.t 15)⟩,⟨some 17,none,.iaddr 3 none (.t 12) (.t 16)⟩,⟨some 18,none,.load true 3 (.t 17)⟩,⟨some 3,none,.alloc GY⟩,⟨none,none,.store 3 (.t 3) (.t 18)⟩] (some [3])) (fE [aF 19,b8 20 19,xF 21 16 20,xL 22 21,dA 23 .add 22,b8 24 19,xF 25 16 24,xS 1 25 23] (bA [cV 26,xL 27 26,aM 28 mM 27] (kZ 0 [b7 30 .eql 28,xM 29 30] 29 [aF 31,xA 32 3 3,aN 33 v7 31 32,bM 2 33] (iX [dA 35 .eql 28,xM 34 35] 34 (.seq (qU [(0,2)] [⟨some 36,none,.load true 3 (.t 3)⟩,⟨some 37,none,.mov (.t 0)⟩,⟨some 38,none,.tcall dQ [.t 37]⟩,⟨some 39,none,.pcall v8 [.t 36,.t 38]⟩,⟨none,none,.store 2 (.t 2) (.t 39)⟩] none) .ret) (eL [xK 41 .eql 28 2,xM 40 41] 40 (qX [aF 42,dJ 43 dQ [.t 42],gQ 4 fH,bM 4 43] [4] (xQ [aF 44,dJ 45 dQ [.t 44],gQ 5 fH,bM 5 45] [5]) (dR [cV 46,xL 47 46,aV 48 4,aV 49 5,fI 50 v9 47 48 49,bM 2 50])))))) (xQ [aF 51,dJ 52 dQ [.t 51],gQ 6 fH,bM 6 52] [6]) (iY (aF 53) (dJ 54 dQ [.t 53]) (gQ 7 fH) (bM 7 54) [7] (qX [aF 55,dJ 56 dQ [.t 55],gQ 8 fH,bM 8 56] [8] (mY [aK 57 6,xL 58 57,n7 59 .eql 58 (F5 1)] 59 (aV 60 7) (bM 2 60)) (nZ (aV 61 8) (bM 2 61)))))⟩
def c_295_l0:Xu:=bE 20 .lss 19 18 20 (iY (dM 21 17 19) (aV 22 21) (qT 8 (.str []) fD) (bM 8 22) [8] (qV [aV 23 8,aM 24 fZ 23,b7 25 .neq 24] 25 d8)) 26 .add 19 19 26
def c_295_k1:Xu:=dR [fJ 27,bI 28 3,aN 29 vA 27 28,b7 30 .eql 29,aP 30]
def CO:AFn:=⟨2,[.tmp 4],fE AQ (kF [fJ 10,aM 11 pH 10,xM 9 11,bW 12 9,bX 13 9,b6 12,bK 13] (cP 14) 15 .neq 14 15 [d8]) (iQ (aI 16 2) 17 16 18 17 19 0 c_295_l0) c_295_k1⟩
def CP:AFn:=⟨0,[.tmp 0],g7 (xC 0 .nilptr) [xO 1 (.build M2 [(2,1,kR)]),fU 2 1,bO 0]⟩
def t8:AFn:=⟨4,[],eL [aK 5 1,xL 6 5,aF 7,bG 8 6 7,xL 9 8] 9 (xD [aI 10 2,xL 11 10,aF 12,dM 13 11 12,aV 14 13,iP 15,xL 16 15,aF 17,bG 18 16 17,xL 19 18,xL 20 3,dJ 21 pW [.t 14,.t 19,.t 20]])⟩
def c_298_l0:Xu:=bE 47 .lss 46 45 47 (qX [xM 48 46,dM 49 44 46,aV 50 49,gQ 13 (.str []),xM 12 48,bM 13 50] [13] (xD [bO 51,aG 52,xM 53 12,bG 54 52 53,xL 55 54,aI 56 13,xL 57 56,dJ 58 iB [.t 51,.t 55,.t 57],xM 14 58]) (mY [xM 59 14,b7 60 .neq 59] 60 (xM 61 14) (bK 61))) 62 .add 46 46 62
def c_298_k1:Xu:=eN iK
def oP:AFn:=⟨3,[.tmp 6],fE [fU 3 0,iK] (kF [aV 15 3,aM 16 fZ 15,dL 16] (cW 17) 18 .neq 17 18 [cW 19,bK 19]) (PG [bO 21,dJ 22 jN [.t 21],xM 20 22,bW 23 20,bX 24 20,bQ 23,xM 9 24] (xM 25 9) (dA 26 .eql 25) 26 [xI 6 1]) (.seq (eG [aG 27,xN 28 27,dF 29,xL 30 29,xN 31 30,xB 32 .neq 28 31] 32 6 2) (nY (kF [aG 34,aV 35 3,aM 36 jO 35,aN 37 vB 34 36,xM 33 37,bW 38 33,bX 39 33,xM 10 38,xM 11 39] (xM 40 11) 41 .neq 40 41 [xM 42 11,bK 42]) (iQ (dF 43) 44 43 45 44 46 0 c_298_l0) c_298_k1))⟩
def t9:AFn:=⟨1,AN,dZ [xC 2 a9,aY 3] [aF 4,xO 5 (.eqn false (.t 4) (.c .nilptr)),aJ 6,bF 7 6 0,dE 8 6 (HC 7),bU 9 6 2 8,aT 10 6 9,xZ 11 6 10,xW 12 6 11] 12 [xC 2 a9,xI 3 1] (kG [aF 13,b8 14 13,aI 15 14,xL 16 15,xK 17 .rem 16 8,b7 18 .neq 17] 18 (xC 2 a9) 3 10) (dR [aF 19,b8 20 19,aK 21 20,xL 22 21,PF 23 1 1 (.c a9) 22,dK 23,aY 3])⟩
def c_310_l0:Xu:=bE 9 .lss 8 7 9 (bA wQ (xR [cO 12,aJ 13,xB 14 .add 12 13,xM 3 14])) 15 .add 8 8 15
def c_310_k1:Xu:=yV 16 16
def CQ:AFn:=⟨1,[.tmp 2],gP [fV] [aY 3] iW 0 c_310_l0 c_310_k1⟩
def c_311_l0:Xu:=bE 10 .lss 9 8 10 (iY (dM 11 7 9) (aV 12 11) (gQ 5 (.str [])) (bM 5 12) [5] (xR [cO 13,aI 14 5,xL 15 14,xO 16 (.bslice .imm 1 (List.replicate 1 [.int .i64 0]) [(0,(.t 15))]),kE 17 1 8 13 16,xM 3 17])) 18 .add 9 9 18
def c_311_k1:Xu:=yV 19 19
def CR:AFn:=⟨1,[.tmp 2],gP [kH,xC 2 a9] [mZ 3 1] [iP 6,xL 7 6,xN 8 7,aY 9] 0 c_311_l0 c_311_k1⟩
def CT:AFn:=⟨2,[.tmp 4],g7 d8 [l5,aG 6,aN 7 vC 5 6,b7 8 .geq 7,aP 8]⟩
def c_313_l0:Xu:=nL 25 .lss 24 23 25 1 2 (s5 [xM 26 24,dM 27 22 24,aV 28 27,gQ 4 (.str []),xM 3 26,bM 4 28] [4] (kZ 3 [aK 30 4,xL 31 30,aM 32 eC 31,bZ 33 32,xM 29 33] 29 [xI 2 6] (mX [aI 35 4,xL 36 35,dA 37 .lss 36,xM 38 37,dT 39 38 4,aT 40 38 39,eF 41 38 .gtr 40 32,xW 42 38 41,xM 34 42] 34 [xI 2 10] (eG [iP 44,xL 45 44,cO 46,xO 47 (.slc 2 (.t 45) none (some (.t 46)) none),xO 48 (.mkfunc (.func jS) [] [.t 4]),aN 49 vD 47 48,xM 43 49] 43 2 7)))) 50 .add 24 24 50
def c_313_k1:Xu:=eN fV
def lJ:AFn:=⟨1,[.tmp 2],fE [kH,fV] (kZ 0 [aK 6 1,xL 7 6,aM 8 eC 7,bZ 9 8,b6 9] 5 [xI 2 6] (eG [iP 11,xL 12 11,xN 13 12,xK 14 .gtr 13 4,xM 15 14,bU 16 15 2 1,aT 17 15 16,d7 18 15 17,eF 19 15 .gtr 18 12,xW 20 15 19,xM 10 20] 10 2 12)) (iQ (iP 21) 22 21 23 22 24 1 c_313_l0) c_313_k1⟩
def aO:AFn:=⟨2,[.tmp 4],cC mW (xQ [gR 11,aK 12 11,eA 13 12,cN 5 [.str [],.Xt 2 [],.Xt 2 [],.Xt 3 [],.Xt 3 [],.Xt 6 [],.Xt 7 [],.Xt 5 [],.Xt 1 []],xS 9 5 13] [5]) (bA [eA 15 5,dF 16,aV 17 16,aN 18 qA 15 17,xM 14 18,bW 19 14,bX 20 14,bK 19,dL 20] (eE [xF 21 3 3,xL 22 21,b7 23 .geq 22,xM 24 23,eS 25 24 3 3,eO 26 24 25,eS 27 24 3 5,eO 28 24 27,fF 29 24 (F7 28),iO 30 24 .lss 26 (.t 29),xV 31 24 30,bQ 31] (xH [cV 32,xL 33 32] 0 (iX [dA 35 .eql 33,xM 34 35] 34 (.seq (eG [cW 36,bZ 37 36] 37 4 8) (dR [xA 38 10 2,xF 39 6 3,xL 40 39,cP 41,fI 42 mN 38 40 41,aP 42])) (.seq (kT [xK 44 .eql 33 2,xM 43 44] 43 (xR [xK 45 .eql 33 3,xM 43 45])) (yT 43 (.seq (eG [xF 46 4 3,xL 47 46,b7 48 .lss 47,xM 49 48,bU 50 49 4 3,aT 51 49 50,dT 52 49 5,aT 53 49 52,d7 54 49 53,dV 55 49 .geq 51 54,xW 56 49 55] 56 4 8) (eN bV)) (.seq (kT [xK 58 .eql 33 4,xM 57 58] 57 (xR [xK 59 .eql 33 5,xM 57 59])) (IY 57 (nY (eG [bN 60,bZ 61 60,xM 62 61,bU 63 62 0 3,aT 64 62 63,eF 65 62 .eql 64 4,bF 66 62 65,fG 67 66 7,fF 68 66 (PC 67),dE 69 62 (.pick (.t 66) (.t 68) (.c qS)),xW 70 62 69] 70 4 8) (kF [xF 72 5 3,xL 73 72,gR 74,xA 75 10 74,aN 76 jM 73 75,xM 71 76,bW 77 71,bX 78 71,xM 9 77,xM 10 78] (xM 79 10) 80 .neq 79 80 [xM 81 10,aP 81]) (nY (eL [cV 82,xL 83 82,xK 84 .eql 83 5] 84 (yY [xA 85 10 2,xF 86 6 3,xL 87 86,xF 88 3 5,xL 89 88,xF 90 3 3,xL 91 90,xX 92 3 89 91,aI 93 92,xL 94 93,fI 95 mN 85 87 94,aP 95])) (eG [cP 96,xF 97 3 5,xL 98 97,xF 99 3 3,xL 100 99,xX 101 3 98 100,aI 102 101,xL 103 102,xB 104 .neq 96 103] 104 4 10) (eN bV))))))))) [xI 4 11]))⟩
def c_315_l0:Xu:=bE 31 .lss 30 29 31 (kY [bG 32 28 30,xL 33 32,bQ 33] [bN 34,b7 35 .lss 34,xM 36 35,bF 37 36 8,dT 38 36 2,aT 39 36 38,d7 40 36 39,dV 41 36 .geq 37 40,xW 42 36 41] 42 AP) 43 .add 30 30 43
def c_315_l1:Xu:=nL 68 .lss 67 66 68 3 4 (s5 [xM 69 67,xX 70 3 65 67,xA 71 3 70,cN 10 [fH,fH,cD],xM 9 69,xS 3 10 71] [10] (kF [fJ 72,aG 73,xA 74 3 10,fI 75 vE 72 73 74,xM 11 75] (xM 76 11) 77 .neq 76 77 [xM 78 9,xM 79 11,aP 78,b6 79])) 80 .add 67 67 80
def c_315_k2:Xu:= .seq (kG [fJ 81,aG 82,xF 83 6 6,xL 84 83,fI 85 qB 81 82 84,bZ 86 85] 86 (iJ 4) 5 14) (nZ bV eB)
def c_315_k3:Xu:=nY (kZ 2 [bS 45 6,xL 46 45,xM 47 46,s8 48 47 9 2,eS 49 47 3 6,s8 50 47 2 49,nM 51 47 fY [.t 48,.t 50],iO 52 47 .eql 51 dS,xV 53 47 52,xM 44 53] 44 AP (kG [bS 55 6,xL 56 55,bZ 57 56,xM 58 57,eS 59 58 5 6,eO 60 58 59,fF 61 58 (F7 60),iO 62 58 .gtr 61 dS,xV 63 58 62,xM 54 63] 54 (iJ 4) 5 11)) (iQ (xF 64 5 6) 65 64 66 65 67 3 c_315_l1) c_315_k2
def oQ:AFn:=⟨2,fS,fE [kD,bV,eB] (xQ [xF 12 6 2,xL 13 12,aG 14,xX 15 7 13 14,xA 16 7 15,cN 6 LS,xS 7 6 16] [6]) (kG [aI 17 6,xL 18 17,xN 19 18,xK 20 .gtr 19 4,xM 21 20,bU 22 21 5 6,aT 23 21 22,d7 24 21 23,eF 25 21 .gtr 24 8,xW 26 21 25] 26 (iJ 4) 5 12) (.seq (iQ (aI 27 6) 28 27 29 28 30 0 c_315_l0) c_315_k3)⟩
def CU:AFn:=⟨1,[.tmp 2],kU [fV] [cN 3 [cD],⟨none,none,.store 1 (.t 3) (.c mV)⟩] (eM [aF 4,xO 5 (.mkfunc (.func qC) [] [.t 3]),dJ 6 eZ [.t 4,.t 5]] [xL 7 3,dK 7])⟩
def c_317_l0:Xu:=bE 12 .lss 11 10 12 (iY (xX 13 5 9 11) (xA 14 5 13) (cN 5 GZ) (xS 5 5 14) [5] (xD [cO 15,xF 16 3 5,xL 17 16,aM 18 mJ 17,xF 19 4 5,xL 20 19,aM 21 mJ 20,xO 22 (.minmax true [.t 15,.t 18,.t 21]),xM 3 22])) 23 .add 11 11 23
def c_317_k1:Xu:=dR [cO 24,dA 25 .add 24,dK 25]
def tA:AFn:=⟨1,[.tmp 2],cC [fV] (qV [HE,xN 7 6,b7 8 .eql 7] 8 fV) (gE [aY 3] AE 0 c_317_l0 c_317_k1)⟩
def c_318_l0:Xu:=bE 10 .lss 9 8 10 (iY (xX 11 5 7 9) (xA 12 5 11) (cN 6 GZ) (xS 5 6 12) [6] (qV [aG 13,xA 14 5 6,xO 15 (.tcallv (.t 13) [.t 14]),bZ 16 15,xM 17 16,bU 18 17 3 6,aT 19 17 18,bF 20 17 1,dE 21 17 (.tcall eZ [.t 19,.t 20]),xZ 22 17 21,xW 23 17 22,xM 24 23,bU 25 24 4 6,aT 26 24 25,bF 27 24 1,dE 28 24 (.tcall eZ [.t 26,.t 27]),xZ 29 24 28,xW 30 24 29] 30 d8)) 31 .add 9 9 31
def c_318_k1:Xu:=o9 4
def lK:AFn:=⟨2,[.tmp 4],gE [d8] [aF 7,xN 8 7,aY 9] 0 c_318_l0 c_318_k1⟩
def gX:AFn:=⟨5,[.tmp 6],fE [rP 5,cA 6] (kF [eA 7 1,xA 8 5 5,xL 9 2,fI 10 uS 7 8 9,xS 1 3 10] (xL 11 3) 12 .neq 11 12 [cA 6]) (eL [xA 13 5 5,aM 14 uT 13] 14 (xR [xL 15 2,aI 16 5,xL 17 16,xO 18 (.bslice .imm 1 (List.replicate 1 [.int .i64 0]) [(0,(.t 17))]),kE 19 1 8 15 18,xS 1 2 19])) (eM [xL 20 4,dA 21 .add 20,xS 1 4 21] [AY 6])⟩
def c_320_l0:Xu:=nL 30 .lss 29 28 30 1 2 (kY [bG 31 27 29,xL 32 31,bQ 32] [bN 33,aI 34 4,xL 35 34,xB 36 .eql 33 35] 36 [xI 6 7]) 37 .add 29 29 37
def c_320_k1:Xu:=eG [aK 38 4,xL 39 38,dA 40 .eql 39,xM 41 40,eS 42 41 3 4,eO 43 41 42,fF 44 41 (F7 43),eS 45 41 4 4,eO 46 41 45,fF 47 41 (F7 46),iO 48 41 .add 44 (.t 47),iO 49 41 .gtr 48 dS,xV 50 41 49] 50 6 5
def c_320_k2:Xu:=eN iK
def dP:AFn:=⟨3,[.tmp 6],cC [s7,xT 4,iK] (xH [aK 11 4,xL 12 11] 0 (.seq (kT [dA 14 .eql 12,xM 13 14] 13 (xR [xK 15 .eql 12 3,xM 13 15])) (yT 13 (nY (eG [aI 16 4,xL 17 16,b7 18 .lss 17,xM 19 18,dT 20 19 4,aT 21 19 20,bU 22 19 5 3,aT 23 19 22,d7 24 19 23,dV 25 19 .geq 21 24,xW 26 19 25] 26 6 8) (gO [bO 27,xN 28 27,aY 29] 1 c_320_l0) c_320_k1) (iX [xK 52 .eql 12 2,xM 51 52] 51 (cC [bS 54 4,xL 55 54,kI 56,xO 57 (.build rJ [(0,9,(.t 56))]),aN 58 jM 55 57,xM 53 58,bW 59 53,bX 60 53,xM 9 59,xM 10 60] (mY [xM 61 10,b7 62 .neq 61] 62 (xM 63 10) (bK 63)) (eG [xM 64 9,dA 65 .neq 64] 65 6 10)) (eN (xI 6 11)))))) c_320_k2⟩
def tB:AFn:=⟨1,[.tmp 2],eM [kH,cA 2] [aK 3 1,xL 4 3,dA 5 .eql 4,aJ 6,bU 7 6 0 1,aT 8 6 7,eF 9 6 .eql 8 3,xW 10 6 9,dK 10]⟩
def CV:AFn:=⟨2,[.tmp 4],g7 d8 [l5,aG 6,aN 7 vF 5 6,b7 8 .geq 7,aP 8]⟩
def CW:AFn:=⟨1,[.tmp 2],g7 (cA 2) [aF 3,n7 4 .geq 3 (.int .u8 97),b6 4,fG 6 5 0,iO 7 5 .leq 6 (.c (.int .u8 122)),xV 8 5 7,bN 9,bF 10 9 0,PA 11 9 .geq 10 (.c (.int .u8 65)),bF 12 9 11,fG 13 12 0,iO 14 12 .leq 13 (.c (.int .u8 90)),dE 15 9 (.pick (.t 12) (.t 14) (.c qS)),xW 16 9 15,dK 16]⟩
def c_329_l0:Xu:= .seq (xP [aJ 6,aF 7,xO 8 (.slen (.t 7)),xB 9 .lss 6 8,xM 10 9,fG 11 10 1,fG 12 10 0,fG 13 10 5,fF 14 10 (.idxs (.t 12) (.t 13)),fF 15 10 (Nx 11 [.t 14]),xV 16 10 15] 16 0) (.block 1 (yU (aJ 17) 18 .add 17 (b6 18)))
def c_329_k1:Xu:=yW (aJ 19) 19
def CX:AFn:=⟨2,[.tmp 4],bA [bV] (cC [eB] (Ew 0 c_329_l0) c_329_k1)⟩
def CY:AFn:=⟨1,[.tmp 2],g7 (cA 2) [aF 3,aM 4 pZ 3,b6 4,bF 6 5 0,xY 7 5 uW [.t 6],xW 8 5 7,bN 9,bF 10 9 0,PA 11 9 .eql 10 (.c (.int .u8 95)),xW 12 9 11,dK 12]⟩
def CZ:AFn:=⟨1,[.tmp 2],g7 (cA 2) [aF 3,n7 4 .geq 3 (.int .u8 48),b6 4,fG 6 5 0,iO 7 5 .leq 6 (.c (.int .u8 57)),xV 8 5 7,bN 2]⟩
def D0:AFn:=⟨2,[.tmp 4],eE [fP 4] (qV [aG 5,xO 6 LZ,aM 7 eD 6,bZ 8 7] 8 (fP 4)) [aG 9,aM 10 aU 9,aG 11,aM 12 aU 11,aF 13,xO 14 (.minmax true [.t 13,.c mV]),aG 15,xO 16 (.minmax false [.t 14,.t 15]),xB 17 .shr 12 16,xB 18 .andNot 10 17,aP 18]⟩
def c_348_l0:Xu:=bE 35 .lss 34 33 35 (iY (dM 36 32 34) (aV 37 36) (gQ 11 (.str [])) (bM 11 37) [11] (cC [aG 39,aI 40 11,xL 41 40,dJ 42 qE [.t 39,.t 41],xM 38 42,bW 43 38,bX 44 38,xM 12 43,xM 13 44] (gN [xM 45 13,b7 46 .neq 45] 46 [xM 47 13,xC 4 a9,b6 47]) (xR [xM 48 9,xM 49 12,xO 50 (.bslice .imm 1 (List.replicate 1 rM) [(0,(.t 49))]),kE 51 1 4 48 50,xM 9 51]))) 52 .add 34 34 52
def c_348_k1:Xu:=dR [xM 53 9,aP 53,eB]
def jD:AFn:=⟨2,fS,fE [fU 2 0,xC 4 a9,eB] (kF [aV 14 2,aM 15 fZ 14,bK 15] (cP 16) 17 .neq 16 17 [cP 18,xC 4 a9,b6 18]) (PG [aG 20,dJ 21 mF [.t 20],xM 19 21,bW 22 19,bX 23 19,dL 22,bQ 23] (bN 24) (dA 25 .eql 24) 25 [xC 4 a9,xI 5 1]) (.seq (qW [aG 26,aM 27 qD 26,aV 28 2,aM 29 vG 28,xB 30 .lss 27 29] 30 (nZ (xC 4 a9) (xI 5 3))) (gE [mZ 9 1] [aI 31 2,xL 32 31,xN 33 32,aY 34] 0 c_348_l0 c_348_k1))⟩
def D1:AFn:=⟨1,[.tmp 2],g7 (cA 2) [aF 3,xO 4 (.eqn true (.t 3) (.c .nilptr)),b6 4,fG 6 5 0,fF 7 5 (HC 6),eS 8 5 2 7,eO 9 5 8,xV 10 5 9,dK 10]⟩
def oR:AFn:=⟨2,AJ,bA [qT 4 (.str []) fD] (eE [qT 5 (.str []) fD] LX LP)⟩
def c_351_l0:Xu:=bE 26 .lss 25 24 26 (s5 [xM 27 25,xX 28 3 23 25,xA 29 3 28,cN 8 wZ,dL 27,xS 3 8 29] [8] (eL [bS 30 8,xL 31 30,xK 32 .eql 31 2] 32 (.seq (gN [cW 33,iZ 34,xL 35 34,xN 36 35,xB 37 .lss 33 36] 37 [iZ 38,xL 39 38,cW 40,dM 41 39 40,aI 42 41,xL 43 42,aM 44 qF 43,bK 44]) (eN iK)))) 45 .add 25 25 45
def c_351_k1:Xu:=eN iK
def oS:AFn:=⟨3,[.tmp 6],dZ AG [aG 9,b7 10 .lss 9,xM 11 10,bF 12 11 1,bU 13 11 5 3,aT 14 11 13,d7 15 11 14,dV 16 11 .geq 12 15,xW 17 11 16] 17 [iK] (gO [xF 18 5 3,xL 19 18,aG 20,xX 21 6 19 20,aI 22 21,xL 23 22,xN 24 23,aY 25] 0 c_351_l0) c_351_k1⟩
def D3:AFn:=⟨2,[.tmp 4],cC [fP 4] (xD [aG 5,HE,b8 7 6,aK 8 7,xA 9 10 8,aF 10,b8 11 10,xF 12 11 11,bI 13 12,aF 14,b8 15 14,xF 16 10 15,xL 17 16,B1 18 p7 5 (.t 9) 13 (.t 17),aP 18]) .ret⟩
def D4:AFn:=⟨3,[.cell 6 true 4],eM LV [kI 7,bI 8 4,bO 9,AU 10 jT [.t 7,.t 8,.t 9,.c PB,.c PB],cY 6 10]⟩
def D5:AFn:=⟨3,[.cell 6 true 4],eM LV [kI 7,bI 8 4,bO 9,AU 10 jT [.t 7,.t 8,.t 9,.c qS,.c qS],cY 6 10]⟩
def tC:AFn:=⟨4,[.tmp 8],bA [rP 4,fP 8] (eE [xC 9 (.func (.func qG) [] [])] (qV [xM 10 9,eA 11 4,aG 12,xO 13 (.build LJ [(0,9,(.t 11)),(9,1,(.t 12))]),bO 14,cO 15,xU 16 10 [.t 13,.t 14,.t 15],bZ 17 16] 17 (fP 8)) [aG 18,bO 19,bG 20 18 19,xL 21 20,cO 22,bG 23 21 22,xL 24 23,bQ 24])⟩
def oT:AFn:=⟨5,[.tmp 10],kU [rP 5,xC 10 a9] [aG 13,dJ 14 qH [.t 13],xM 11 14] (eE [xC 12 (.func (.func qG) [] [])] (eL [xM 15 12,eA 16 5,aG 17,xO 18 (.build LJ [(0,9,(.t 16)),(9,1,(.t 17))]),bO 19,cO 20,xU 21 15 [.t 18,.t 19,.t 20],xM 22 21,eS 23 22 3 5,eO 24 22 23,fG 25 22 2,fF 26 22 (s6 3 none 24 (.t 25)),eS 27 22 1 26,eO 28 22 27,nM 29 22 aU [.t 28],iO 30 22 .gtr 29 (.c fH),xV 31 22 30] 31 (xD [xM 32 11,bO 33,bG 34 32 33,xL 35 34,cO 36,xM 37 4,xF 38 3 5,xL 39 38,bO 40,xX 41 3 39 40,aI 42 41,xL 43 42,aM 44 aU 43,xB 45 .and 37 44,bG 46 35 36,xS 1 46 45])) [xM 47 11,xM 10 47])⟩
def c_357_l0:Xu:=nL 45 .lss 44 43 45 1 2 (bA [xM 46 44,xM 11 46] (kF [xM 48 11,xA 49 10 3,aG 50,cW 51,fI 52 q9 49 50 51,xM 47 52,bW 53 47,bX 54 47,xE 55 2 47,xO 56 (PH 1 3 10 (.t 48)),xS 1 56 53,dL 54,bQ 55] (bN 57) 58 .neq 57 58 [bN 59,iK,aY 7,bQ 59])) 60 .add 44 44 60
def c_357_k1:Xu:=F6 [aG 62,bO 63,xX 64 3 62 63,xA 65 3 64,xA 66 3 10,aN 67 vI 65 66,xM 61 67,bW 68 61,bX 69 61,bK 68,bQ 69] (dR [cP 70,cW 71,bN 72,bK 70,dL 71,bQ 72])
def fW:AFn:=⟨3,[.tmp 6,.tmp 7,.tmp 8],cC [s7,iK,aY 7,aY 8] (gN [bO 12,aG 13,xN 14 13,xB 15 .geq 12 14] 15 [iK,aY 7,xI 8 3]) (cC [aG 16,bO 17,xX 18 3 16 17,aK 19 18,xL 20 19,aM 21 mM 20,xM 9 21] (kZ 0 [xM 23 9,b7 24 .lss 23,xM 22 24] 22 [iK,aY 7,xI 8 11] (eL [xM 26 9,b7 27 .eql 26,xM 25 27] 25 (F6 [xA 29 10 3,aG 30,bO 31,xX 32 3 30 31,xA 33 3 32,aN 34 qI 29 33,xM 28 34,bW 35 28,bX 36 28,bK 35,bQ 36] (dR [cP 37,bO 38,dA 39 .add 38,bN 40,bK 37,dL 39,bQ 40])))) (gP [cN 10 wZ] [bO 41,dA 42 .add 41,dL 42] [xM 43 9,aY 44] 1 c_357_l0 c_357_k1))⟩
def tD:AFn:=⟨1,[.tmp 2],eE [fV] (xH [aF 3] 0 (.seq (kT [dA 5 .eql 3,aJ 4] 4 (kT [xK 6 .eql 3 2,aP 6] 4 (kT [xK 7 .eql 3 3,aP 7] 4 (xR [xK 8 .eql 3 4,aP 8])))) (yT 4 (eN fV) (.seq (kT [xK 10 .eql 3 5,xM 9 10] 9 (kT [xK 11 .eql 3 6,xM 9 11] 9 (kT [xK 12 .eql 3 7,xM 9 12] 9 (xR [xK 13 .eql 3 8,xM 9 13])))) (yT 9 (eN (xI 2 1)) (.seq (kT [xK 15 .eql 3 9,xM 14 15] 14 (kT [xK 16 .eql 3 10,xM 14 16] 14 (kT [xK 17 .eql 3 11,xM 14 17] 14 (kT [xK 18 .eql 3 12,xM 14 18] 14 (kT [xK 19 .eql 3 13,xM 14 19] 14 (kT [xK 20 .eql 3 14,xM 14 20] 14 (kT [xK 21 .eql 3 15,xM 14 21] 14 (xR [xK 22 .eql 3 16,xM 14 22])))))))) (yT 14 (eN (xI 2 2)) (eG [xK 24 .eql 3 17,xM 23 24] 23 2 3)))))))) [iJ 2]⟩
def gY:AFn:=⟨2,AJ,cC [B4,gQ 4 fH] (xD [aF 9,b8 10 9,aK 11 10,xA 12 10 11,xA 13 3 3,aN 14 qI 12 13,bQ 14,bW 15 8,bX 16 8,b6 15,bK 16]) (eE [fP 7] (xH [cV 17,xL 18 17] 0 (iX [dA 20 .eql 18,xM 19 20] 19 (xR [dF 21,xL 22 21,xO 23 (B2 .u32 22),dL 23]) (iX [xK 25 .eql 18 2,xM 24 25] 24 (xD [aF 26,b8 27 26,xF 28 10 27,bI 29 28,dF 30,xL 31 30,bS 32 3,xL 33 32,xO 34 (.build wR [(0,1,(.t 31)),(1,1,(.t 33))]),aN 35 jK 29 34,dL 35]) (iX [xK 37 .eql 18 3,xM 36 37] 36 (qW [dF 38,xL 39 38,aF 40,b8 41 40,xF 42 14 41,xL 43 42,xN 44 43,xB 45 .lss 39 44] 45 (xD [aF 46,b8 47 46,xF 48 14 47,xL 49 48,dF 50,xL 51 50,bG 52 49 51,xL 53 52,dL 53])) (eL [xK 55 .eql 18 4,xM 54 55] 54 (qW [dF 56,xL 57 56,aF 58,b8 59 58,xF 60 10 59,aK 61 60,xL 62 61,xN 63 62,xB 64 .lss 57 63,xM 65 64,fG 66 65 0,fF 67 65 (HC 66),eS 68 65 10 67,eS 69 65 0 68,eO 70 65 69,eS 71 65 1 3,eO 72 65 71,fF 73 65 (s6 1 none 70 (.t 72)),eO 74 65 73,xV 75 65 74] 75 (xR [xC 7 (F5 1)]))))))) [cW 76,aJ 77,aM 78 aU 77,xB 79 .and 76 78,aJ 80,xO 81 (.build fR [(0,1,(.t 79)),(1,1,(.t 80))]),bM 4 81])⟩
def lO:AFn:=⟨2,AJ,fE [kD,B4,gQ 4 fH] (xH [gR 5,xL 6 5] 0 (iX [xK 8 .eql 6 5,bN 7] 7 (yY [cV 9,xL 10 9,dF 11,xL 12 11,aN 13 vJ 10 12,dF 14,xL 15 14,xO 16 (.build fR [(0,1,(.t 13)),(1,1,(.t 15))]),bM 4 16]) (iX [xK 18 .eql 6 6,xM 17 18] 17 (yY [cV 19,xL 20 19,aI 21 2,xL 22 21,dF 23,xL 24 23,fI 25 vK 20 22 24,dF 26,xL 27 26,xO 28 (.build fR [(0,1,(.t 25)),(1,1,(.t 27))]),bM 4 28]) (eL [xK 30 .eql 6 7,xM 29 30] 29 (yY [cV 31,xL 32 31,aI 33 2,xL 34 33,dF 35,xL 36 35,fI 37 vL 32 34 36,dF 38,xL 39 38,xO 40 (.build fR [(0,1,(.t 37)),(1,1,(.t 39))]),bM 4 40]))))) (xD [cV 41,xL 42 41,aI 43 2,xL 44 43,bS 45 2,xL 46 45,fI 47 vM 42 44 46,bS 48 2,xL 49 48,xO 50 (.build fR [(0,1,(.t 47)),(1,1,(.t 49))]),bM 4 50]) .ret⟩
def eV:AFn:=⟨3,[.cell 6 true 2],eE [xT 4,xJ 5 2,gQ 6 fH] (xH [aF 9] 0 (iX [xK 11 .eql 9 9,xM 10 11] 10 (yY [aK 12 4,xL 13 12,iZ 14,xL 15 14,aI 16 4,xL 17 16,fI 18 vN 13 15 17,aI 19 4,xL 20 19,xO 21 (.build fR [(0,1,(.t 18)),(1,1,(.t 20))]),bM 6 21]) (iX [xK 23 .eql 9 10,xM 22 23] 22 (yY [aK 24 4,xL 25 24,iZ 26,xL 27 26,aI 28 4,xL 29 28,fI 30 vO 25 27 29,aI 31 4,xL 32 31,xO 33 (.build fR [(0,1,(.t 30)),(1,1,(.t 32))]),bM 6 33]) (mX [xK 35 .eql 9 11,xM 34 35] 34 [aK 36 4,xL 37 36,iZ 38,xL 39 38,xB 40 .and 37 39,aI 41 4,xL 42 41,xO 43 (.build fR [(0,1,(.t 40)),(1,1,(.t 42))]),bM 6 43] (mX [xK 45 .eql 9 12,xM 44 45] 44 [aK 46 4,xL 47 46,iZ 48,xL 49 48,xB 50 .or 47 49,aI 51 4,xL 52 51,xO 53 (.build fR [(0,1,(.t 50)),(1,1,(.t 52))]),bM 6 53] (mX [xK 55 .eql 9 13,xM 54 55] 54 [aK 56 4,xL 57 56,iZ 58,xL 59 58,xB 60 .xor 57 59,aI 61 4,xL 62 61,xO 63 (.build fR [(0,1,(.t 60)),(1,1,(.t 62))]),bM 6 63] (iX [xK 65 .eql 9 14,xM 64 65] 64 (eM [aK 67 4,xL 68 67,aI 69 4,xL 70 69,iZ 71,xL 72 71,aI 73 5,xL 74 73,B1 75 vP 68 (.t 70) 72 (.t 74),xM 66 75,bW 76 66,bX 77 66,dL 76,bQ 77] [cW 78,aI 79 4,xL 80 79,aI 81 5,xL 82 81,xB 83 .add 80 82,xO 84 (.build fR [(0,1,(.t 78)),(1,1,(.t 83))]),bM 6 84]) (gN [xK 86 .eql 9 15,xM 85 86] 85 [aK 87 4,xL 88 87,iZ 89,xL 90 89,xB 91 .eql 88 90,aM 92 qJ 91,bM 6 92])))))))) [aK 93 4,xL 94 93,iZ 95,xL 96 95,xB 97 .lss 94 96,aM 98 qJ 97,bM 6 98]⟩
def c_362_l0:Xu:=bE 22 .lss 21 20 22 (kY [xM 23 21,bG 24 19 21,xL 25 24,b6 23,bK 25] [fJ 26,aJ 27,cP 28,fI 29 qK 26 27 28,bZ 30 29] 30 [xI 4 9]) 31 .add 21 21 31
def c_362_l1:Xu:=nL 36 .lss 35 34 36 2 3 (kY [xM 37 35,bG 38 33 35,xL 39 38,dL 37,bQ 39] [cV 40,xL 41 40,cW 42,bG 43 41 42,xL 44 43,bZ 45 44,xM 46 45,fG 47 46 8,nM 48 46 vR [.t 47],fF 49 46 (PC 48),xV 50 46 49] 50 [xI 4 5]) 51 .add 35 35 51
def c_362_k2:Xu:=eN bV
def c_362_k3:Xu:= .seq (iQ (dF 32) 33 32 34 33 35 2 c_362_l1) c_362_k2
def D6:AFn:=⟨2,[.tmp 4],dZ mW [fJ 9,bI 10 3,aN 11 vQ 9 10,bZ 12 11] 12 [xI 4 2] (eG [fJ 13,bS 14 3,xL 15 14,Ny 16 qK 13 (kS (-1)) (.t 15),bZ 17 16] 17 4 9) (.seq (iQ (dF 18) 19 18 20 19 21 0 c_362_l0) c_362_k3)⟩
def c_363_l0:Xu:=bE 19 .lss 18 17 19 (bA [xM 20 18,bG 21 16 18,xL 22 21,bQ 20,xM 9 22] (kF [cW 23,cP 24,xM 25 9,aG 26,bN 27,bG 28 26 27,xL 29 28,dJ 30 iB [.t 24,.t 25,.t 29],xO 31 (.bslice .imm 1 (List.replicate 2 [.int .i64 0]) [(0,(.t 23)),(1,(.t 30))]),aM 32 vS 31,dL 32] (cW 33) 34 .neq 33 34 [cW 35,xC 4 a9,b6 35])) 36 .add 18 18 36
def c_363_k1:Xu:=dR [cP 37,dJ 38 jN [.t 37],bW 39 38,bX 40 38,aP 39,b6 40]
def tE:AFn:=⟨2,fS,cC [xC 4 a9,eB] (kG [aF 10,xN 11 10,aG 12,xN 13 12,xB 14 .neq 11 13] 14 (xC 4 a9) 5 2) (gP [dJ 15 mH [],bK 15] [aY 7] [aF 16,xN 17 16,aY 18] 0 c_363_l0 c_363_k1)⟩
def c_364_l0:Xu:=nL 33 .lss 32 31 33 1 2 (cC [xM 34 32,dL 34] (eL [aF 35,b8 36 35,aI 37 36,xL 38 37,xK 39 .rem 38 8,b7 40 .eql 39] 40 (xR [aF 41,aF 42,b8 43 42,aK 44 43,xL 45 44,xO 46 (.bslice .row 1 (List.replicate 1 [.int .u8 0]) [(0,(.c (.int .u8 0)))]),PD 47 .row 1 1 (.t 45) 46,b8 48 41,aK 49 48,xS 1 49 47])) (cC [aG 50,bO 51,dA 52 .sub 51,cW 53,xB 54 .sub 52 53,xB 55 .shr 50 54,n7 56 .and 55 (F5 1),xO 57 (B2 .u8 56),bQ 57] (xD [aF 58,b8 59 58,aK 60 59,xL 61 60,aF 62,b8 63 62,aI 64 63,xL 65 64,xK 66 .quo 65 8,bG 67 61 66,xL 68 67,bN 69,aF 70,b8 71 70,aI 72 71,xL 73 72,xK 74 .rem 73 8,xO 75 (.bin .sub (kS 7) (.t 74)),xB 76 .shl 69 75,xB 77 .or 68 76,bG 78 61 66,xS 1 78 77]) (xR [aF 79,b8 80 79,aI 81 80,xL 82 81,dA 83 .add 82,b8 84 79,aI 85 84,xS 1 85 83]))) 86 .add 32 32 86
def c_364_k1:Xu:=eN iK
def lP:AFn:=⟨3,[.tmp 6],fE [iK] (kZ 0 [aF 10,xO 11 (.eqn false (.t 10) (.c .nilptr)),xM 12 11,bF 13 12 0,dE 14 12 (HC 13),bU 15 12 2 14,aT 16 12 15,xZ 17 12 16,xW 18 12 17,xM 9 18] 9 [xI 6 1] (mX [bO 20,dA 21 .lss 20,xM 22 21,bF 23 22 2,eF 24 22 .gtr 23 32,xW 25 22 24,xM 19 25] 19 [xI 6 10] (eG [aG 27,bO 28,aN 29 g0 27 28,bZ 30 29,xM 26 30] 26 6 9))) (gO [bO 31,aY 32] 1 c_364_l0) c_364_k1⟩
def c_367_l0:Xu:=bE 9 .lss 8 7 9 LI 18 .add 8 8 18
def c_367_k1:Xu:=eN (iJ 4)
def D7:AFn:=⟨2,[.tmp 4],gE [bV] iW 0 c_367_l0 c_367_k1⟩
def D8:AFn:=⟨2,[.tmp 4],g7 d8 [l5,aG 6,aN 7 vT 5 6,b7 8 .geq 7,aP 8]⟩
def D9:AFn:=⟨2,[.tmp 3],eM AS [gR 4,xL 5 4,aK 6 1,xL 7 6,xB 8 .eql 5 7,bN 3]⟩
def eW:AFn:=⟨2,fS,bA [kD,B4,bV,cA 5] (fE [bS 7 2,xL 8 7,bN 6] (eL [cV 9,xL 10 9,xK 11 .neq 10 (-1)] 11 (.seq (mY [cV 12,xL 13 12,b7 14 .lss 13,xM 15 14,bU 16 15 0 3,aT 17 15 16,dT 18 15 2,aT 19 15 18,d7 20 15 19,dV 21 15 .geq 17 20,xW 22 15 21] 22 bV (cA 5)) (xR [aI 23 2,xL 24 23,cV 25,xL 26 25,dM 27 24 26,aI 28 27,xL 29 28,bK 29]))) (mY [dF 30,xL 31 30,b7 32 .lss 31,xM 33 32,dT 34 33 3,aT 35 33 34,bF 36 33 6,d7 37 33 36,dV 38 33 .geq 35 37,xW 39 33 38] 39 bV (cA 5)) (dR [cP 40,dF 41,xL 42 41,dM 43 40 42,aI 44 43,xL 45 44,aP 45,AY 5]))⟩
def oU:AFn:=⟨3,[.tmp 6],bA [s7,iK] (eE [aG 10,cV 11,xA 12 10 11,aN 13 jM 10 12,xM 9 13,bW 14 9,bX 15 9,dL 14,bQ 15] (eG [bN 16,b7 17 .eql 16,xM 18 17,fG 19 18 7,fG 20 18 2,iO 21 18 .neq 19 (.t 20),xV 22 18 21] 22 6 10) [bN 23,bK 23])⟩
def jE:AFn:=⟨3,[.tmp 6],Nu AG (xD [kI 8,xF 9 6 3,xL 10 9,aG 11,xX 12 7 10 11,xF 13 3 12,aV 14 13,aN 15 fY 8 14,dL 15]) 0 (mX [iZ 17,xL 18 17,cW 19,aN 20 g0 18 19,bZ 21 20,xM 22 21,dT 23 22 5,aT 24 22 23,bF 25 22 7,xY 26 22 g0 [.t 24,.t 25],xZ 27 22 26,xW 28 22 27,xM 16 28] 16 [xI 6 9] (mX [iZ 30,xL 31 30,aI 32 5,xL 33 32,xB 34 .andNot 31 33,n7 35 .neq 34 fH,xM 29 35] 29 [xI 6 5] (eG [kI 37,aG 38,bS 39 5,xL 40 39,fI 41 qB 37 38 40,bZ 42 41,xM 36 42] 36 6 14))) (eN iK)⟩
def lQ:AFn:=⟨3,[.tmp 6],eE AR (xH [bO 7] 0 (nY (.block 2 (.block 1 (.seq (.seq (eL [xK 9 .eql 7 (-1),bQ 9] 8 (.exit 1)) (eL [xK 11 .eql 7 (-2),xM 10 11] 10 (.exit 2))) (.exit 0)))) (o9 6) (.exit 0))) [bO 12,aG 13,xB 14 .gtr 12 13,xM 15 14,fG 16 15 2,eS 17 15 6 3,eO 18 15 17,fF 19 15 (F7 18),iO 20 15 .lss 16 (.t 19),xV 21 15 20,bK 21]⟩
def DA:AFn:=⟨2,[.tmp 3],bA AS (eM [xL 4 1,dA 5 .add 4,xS 1 1 5] [AY 3])⟩
def c_375_l0:Xu:=bE 9 .lss 8 7 9 LI 18 .add 8 8 18
def c_375_k1:Xu:=eN (iJ 4)
def DB:AFn:=⟨2,[.tmp 4],gE [bV] iW 0 c_375_l0 c_375_k1⟩
def DC:AFn:=⟨1,[.tmp 2],dZ [fV] [aF 3,aM 4 mL 3,bZ 5 4] 5 [fV] (xD [HE,b8 7 6,aK 8 7,xL 9 8,xN 10 9,xO 11 (.bin .mul (kS 8) (.t 10)),aF 12,b8 13 12,aI 14 13,xL 15 14,xB 16 .sub 11 15,dK 16]) .ret⟩
def DE:AFn:=⟨1,[.tmp 2],eE [kH,fV] (qV [aV 3 1,aM 4 fZ 3,b7 5 .neq 4] 5 fV) [aV 6 1,aM 7 jO 6,aM 8 mI 7,bN 2]⟩
def c_383_l0:Xu:=nL 26 .lss 25 24 26 1 2 (F6 [aF 27,b8 28 27,aK 29 28,xL 30 29,aF 31,b8 32 31,aI 33 32,xL 34 33,xK 35 .quo 34 8,bG 36 30 35,xL 37 36,aF 38,b8 39 38,aI 40 39,xL 41 40,xK 42 .rem 41 8,xO 43 (.bin .sub (kS 7) (.t 42)),xB 44 .shr 37 43,n7 45 .and 44 (.int .u8 1),dL 45] (bA [cP 46,n7 47 .shl 46 (.int .u64 1),cW 48,xO 49 (B2 .u32 48),xB 50 .or 47 49,bK 50] (xR [aF 51,b8 52 51,aI 53 52,xL 54 53,dA 55 .add 54,b8 56 51,aI 57 56,xS 1 57 55]))) 58 .add 25 25 58
def c_383_k1:Xu:=dR [cP 59,aP 59,eB]
def DF:AFn:=⟨2,fS,cC [fP 4,eB] (kZ 0 [aF 9,aM 10 mL 9,bZ 11 10,bQ 11] 8 [fP 4,xI 5 1] (mX [aG 13,dA 14 .lss 13,xM 15 14,bF 16 15 1,eF 17 15 .gtr 16 32,xW 18 15 17,xM 12 18] 12 [fP 4,xI 5 10] (kG [aF 20,aM 21 qD 20,aG 22,xB 23 .lss 21 22,xM 19 23] 19 (fP 4) 5 3))) (gE [fP 6] [aG 24,aY 25] 1 c_383_l0 c_383_k1)⟩
def c_384_l0:Xu:=Ez (xK 6 .lss 5 32) 6 0 1 (bA [aJ 7,aP 7] (xR [bQ 3,aF 9,xM 10 4,xB 11 .shr 9 10,n7 12 .and 11 (F5 1),xO 13 (B2 .i64 12),xB 14 .add 8 13,xM 3 14])) 15 .add 5 5 15
def c_384_k1:Xu:=yV 16 16
def DG:AFn:=⟨1,[.tmp 2],gP [fV] [aY 3] [eB] 0 c_384_l0 c_384_k1⟩
def fX:AFn:=⟨5,[.cell 10 true 4],fE [rP 5,xT 6,eT 10 a9 a9 a9 a9] (xQ [bI 12 6,dJ 13 cT [.t 12],eT 11 a9 a9 a9 a9,cY 11 13] [11]) (mY [aI 14 5,xL 15 14,bO 16,aN 17 vU 15 16,bZ 18 17,xM 19 18,bU 20 19 0 11,aT 21 19 20,bF 22 19 2,xY 23 19 vV [.t 21,.t 22],xZ 24 19 23,xW 25 19 24,xM 26 25,bF 27 26 4,bF 28 26 27,eS 29 28 0 11,eO 30 28 29,fG 31 28 2,fF 32 28 (s6 1 none 30 (.t 31)),eO 33 28 32,fG 34 28 3,fF 35 28 (.eqs false false [.b] (.t 33) (.t 34)),dE 36 26 (.pick (.t 28) (.t 35) (.c qS)),xW 37 26 36] 37 (bI 38 11) (cY 10 38)) (bA [aK 39 11,xL 40 39,bO 41,cO 42,bG 43 40 41,xS 1 43 42] (eM [aI 44 11,xL 45 44,bO 46,dJ 47 jJ [.t 45,.t 46],⟨none,none,.clear rM (.t 47)⟩] [bI 48 11,cY 10 48]))⟩
def jF:AFn:=⟨3,[.tmp 6],eE AR (qV [aG 7,b7 8 .lss 7,bN 9,bF 10 9 1,bU 11 9 0 3,bU 12 9 3 11,aT 13 9 12,d7 14 9 13,dV 15 9 .geq 10 14,xW 16 9 15,xM 17 16,bF 18 17 1,bU 19 17 9 3,aT 20 17 19,d7 21 17 20,dV 22 17 .geq 18 21,xW 23 17 22] 23 (cA 6)) [bO 24,xO 25 (B2 .i64 24),cV 26,xF 27 3 26,xL 28 27,aG 29,xX 30 3 28 29,bS 31 30,xL 32 31,xB 33 .lss 25 32,xM 34 33,fG 35 34 2,fF 36 34 (B2 .i64 35),eS 37 34 9 3,eO 38 34 37,fG 39 34 1,fF 40 34 (s6 1 none 38 (.t 39)),eO 41 34 40,fF 42 34 (F7 41),iO 43 34 .lss 36 (.t 42),xV 44 34 43,bK 44]⟩
def c_387_l0:Xu:=bE 12 .lss 11 10 12 LG 28 .add 11 11 28
def c_387_k1:Xu:=yV 29 29
def DH:AFn:=⟨1,[.tmp 2],gP rN LN AE 0 c_387_l0 c_387_k1⟩
def cR:AFn:=⟨2,fS,fE HA (xH [cV 10,xL 11 10] 0 (iX [dA 13 .eql 11,xM 12 13] 12 (eE [bS 15 3,xL 16 15,aM 17 iC 16,xM 14 17,bW 18 14,bX 19 14,bK 18,dL 19] (qW [cW 20,b7 21 .eql 20,xM 22 21,eS 23 22 1 3,eO 24 22 23,iO 25 22 .lss 24 dS,fG 26 22 25,dT 27 26 3,aT 28 26 27,bF 29 26 6,xY 30 26 aU [.t 29],dE 31 26 (B2 .i64 30),dV 32 26 .gtr 28 31,fF 33 22 (.pick (.t 26) (.c PB) (.t 32)),xV 34 22 33] 34 (nZ bV (xI 5 9))) [cP 35,cW 36,aP 35,b6 36]) (iX [xK 38 .eql 11 2,xM 37 38] 37 (qX [xA 40 10 2,dF 41,xL 42 41,bS 43 3,xL 44 43,fI 45 vW 40 42 44,xM 39 45,bW 46 39,bX 47 39,gQ 8 (.str []),bM 8 46,xM 9 47] [8] (kG [xM 48 9,bZ 49 48] 49 bV 5 8) (dR [aI 50 8,xL 51 50,aM 52 iC 51,bW 53 52,bX 54 52,aP 53,b6 54])) (eL [xK 56 .eql 11 3,xM 55 56] 55 (.seq (kG [dF 57,xL 58 57,b7 59 .lss 58,xM 60 59,dT 61 60 3,aT 62 60 61,bU 63 60 9 2,aT 64 60 63,d7 65 60 64,dV 66 60 .geq 62 65,xW 67 60 66] 67 bV 5 8) (dR [xF 68 9 2,xL 69 68,dF 70,xL 71 70,dM 72 69 71,aI 73 72,xL 74 73,aM 75 iC 74,bW 76 75,bX 77 75,aP 76,b6 77])))))) (kG [dF 78,xL 79 78,b7 80 .lss 79,xM 81 80,dT 82 81 3,aT 83 81 82,bU 84 81 0 2,dT 85 81 84,aT 86 81 85,d7 87 81 86,dV 88 81 .geq 83 87,xW 89 81 88] 89 bV 5 8) (nZ (xI 4 1) eB)⟩
def bB:AFn:=⟨2,fS,fE HA (xH [gR 8,xL 9 8] 0 (.seq (kT [xK 11 .eql 9 6,xM 10 11] 10 (xR [xK 12 .eql 9 7,xM 10 12])) (yT 10 (kG [aI 13 2,xL 14 13,b7 15 .lss 14,xM 16 15,dT 17 16 2,aT 18 16 17,eF 19 16 .gtr 18 31,xW 20 16 19] 20 bV 5 9) (iX [xK 22 .eql 9 8,xM 21 22] 21 (nY (kG [aI 23 2,xL 24 23,b7 25 .lss 24] 25 bV 5 9) (kY [bS 27 2,xL 28 27,aM 29 iC 28,xM 26 29,bW 30 26,bX 31 26,bK 30,dL 31] [cW 32,b7 33 .neq 32,xM 34 33,dT 35 34 2,aT 36 34 35,dE 37 34 wY,aT 38 34 37,bU 39 34 2 2,aT 40 34 39,dV 41 34 .sub 38 40,dV 42 34 .gtr 36 41,xW 43 34 42] 43 [bV,xI 5 10]) (dR [bS 44 2,xL 45 44,aP 45,eB])) (mX [xK 47 .eql 9 14,xM 46 47] 46 [xO 48 wY,xL 49 48,xO 50 AF,xL 51 50,xB 52 .add 49 51,aM 53 iC 52,bW 54 53,bX 55 53,aP 54,b6 55] (eL [xK 57 .eql 9 17,xM 56 57] 56 (.seq (kG [xO 58 wY,xL 59 58,dA 60 .neq 59,xM 61 60,dE 62 61 AF,aT 63 61 62,dE 64 61 (PH 1 3 3 (kS 2)),aT 65 61 64,dV 66 61 .neq 63 65,xW 67 61 66] 67 bV 5 10) (dR [xO 68 AF,xL 69 68,aP 69,eB])))))))) (kG [gR 70,xL 71 70,aM 72 mM 71,xK 73 .eql 72 2,xM 74 73,fF 75 74 wY,eO 76 74 75,fF 77 74 AF,eO 78 74 77,iO 79 74 .neq 76 (.t 78),xV 80 74 79] 80 bV 5 10) (.seq (mY [gR 81,xL 82 81,xK 83 .eql 82 15,xM 84 83,bU 85 84 0 2,aT 86 84 85,eF 87 84 .eql 86 16,xW 88 84 87] 88 (xI 4 1) eB) (dR [xO 89 wY,xL 90 89,aP 90,eB]))⟩
def DI:AFn:=⟨2,[.tmp 4],g7 (fP 4) [l5,xO 6 (.un .xor (.t 5)),aG 7,aM 8 aU 7,xB 9 .and 6 8,aP 9]⟩
def DJ:AFn:=⟨3,[.tmp 6],cC [fP 6] (xD [aF 7,aG 8,xO 9 (.minmax true [.t 8,.c mV]),xB 10 .shl 7 9,bO 11,aM 12 aU 11,xB 13 .and 10 12,bK 13]) .ret⟩
def DK:AFn:=⟨3,[.tmp 6],g7 (fP 6) [aF 7,bQ 2,aM 9 aU 8,xB 10 .and 7 9,aG 11,xO 12 (.minmax true [.t 11,.c mV]),xB 13 .shr 10 12,bK 13]⟩
def DL:AFn:=⟨3,[.tmp 6],dZ [fP 6] [bO 7,xO 8 M0,aM 9 eD 8,bZ 10 9,xM 11 10,bF 12 11 1,eF 13 11 .lss 12 0,xW 14 11 13,xM 15 14,bF 16 15 1,bF 17 15 2,dE 18 15 (.bin .sub (kS 32) (.t 17)),dV 19 15 .gtr 16 18,xW 20 15 19] 20 [fP 6] (xD [aF 21,aG 22,xB 23 .shr 21 22,bO 24,aM 25 aU 24,xB 26 .and 23 25,bK 26]) .ret⟩
def DM:AFn:=⟨3,[.tmp 6],g7 (fP 6) [aF 7,aG 8,xB 9 .add 7 8,bO 10,aM 11 aU 10,xB 12 .and 9 11,bK 12]⟩
def DN:AFn:=⟨3,[.tmp 6],g7 (fP 6) [aF 7,aG 8,xB 9 .sub 7 8,bO 10,aM 11 aU 10,xB 12 .and 9 11,bK 12]⟩
def DO:AFn:=⟨4,[.tmp 8,.tmp 9],dZ [fP 8,cA 9] [aG 10,cO 11,xO 12 (.bslice .imm 1 (List.replicate 2 [.int .i64 0]) [(0,(.t 10)),(1,(.t 11))]),aM 13 eD 12,bZ 14 13,xM 15 14,bF 16 15 1,bF 17 15 3,dV 18 15 .add 16 17,eF 19 15 .gtr 18 32,xW 20 15 19] 20 [fP 8,cA 9] (xD [aF 21,aG 22,aM 23 aU 22,xB 24 .and 21 23,cO 25,xB 26 .shl 24 25,bO 27,cO 28,aM 29 aU 28,xB 30 .and 27 29,xB 31 .or 26 30,bQ 31,AY 9]) .ret⟩
def DP:AFn:=⟨1,HB,eE [gQ 2 fH] (mY [aF 3] 3 (xO 4 (.build fR [(0,1,(.c (.int .u32 1))),(1,1,H9)])) (bM 2 4)) [xO 5 (.build fR [(0,1,(.c (.int .u32 0))),(1,1,H9)]),bM 2 5]⟩
def c_398_l0:Xu:=bE 36 .lss 35 34 36 (kY [xM 37 35,bG 38 33 35,xL 39 38,b6 37,bK 39] [cP 40,xN 41 40,aI 42 2,xL 43 42,aJ 44,dM 45 43 44,aI 46 45,xL 47 46,xN 48 47,xB 49 .neq 41 48] 49 [d8]) 50 .add 35 35 50
def c_398_k1:Xu:=o9 4
def DQ:AFn:=⟨2,[.tmp 4],dZ AQ [cV 7,xL 8 7,xN 9 8,aI 10 2,xL 11 10,xN 12 11,xB 13 .neq 9 12,xM 14 13,dT 15 14 3,aT 16 14 15,d7 17 14 16,dT 18 14 2,aT 19 14 18,d7 20 14 19,dV 21 14 .neq 17 20,xW 22 14 21,xM 23 22,bU 24 23 2 3,aT 25 23 24,d7 26 23 25,bU 27 23 2 2,aT 28 23 27,d7 29 23 28,dV 30 23 .neq 26 29,xW 31 23 30] 31 [d8] (iQ (dF 32) 33 32 34 33 35 0 c_398_l0) c_398_k1⟩
def c_399_l0:Xu:=bE 12 .lss 11 10 12 (kY [xM 13 11,bG 14 9 11,xL 15 14,dL 13,bQ 15] [bN 16,kI 17,aG 18,cW 19,xO 20 (.build wR [(0,1,(.t 18)),(1,1,(.t 19))]),aN 21 fY 17 20,aM 22 aU 21,xB 23 .gtr 16 22] 23 [cA 6]) 24 .add 11 11 24
def c_399_k1:Xu:=o9 6
def DR:AFn:=⟨3,[.tmp 6],gE AR [bO 9,xN 10 9,aY 11] 0 c_399_l0 c_399_k1⟩
def DS:AFn:=⟨1,[.tmp 2],g7 (cA 2) [aF 3,AW 4 vX 3 (.c (.func (.func jV) [] [])),bZ 5 4,aJ 2]⟩
def c_401_l0:Xu:=bE 8 .lss 7 6 8 (kF [bG 9 5 7,xL 10 9,aP 10] (xM 11 4) 12 .neq 11 12 [xM 13 4,dK 13]) 14 .add 7 7 14
def c_401_k1:Xu:=eN fV
def DT:AFn:=⟨1,[.tmp 2],gE [fV] [l5,xN 6 5,aY 7] 0 c_401_l0 c_401_k1⟩
def c_402_l0:Xu:=bE 9 .lss 8 7 9 (kY AK [aG 11,aF 12,aJ 13,dM 14 12 13,aV 15 14,xU 16 11 [.t 15]] 16 AM) 18 .add 8 8 18
def c_402_k1:Xu:=eN (iJ 4)
def DU:AFn:=⟨2,[.tmp 4],gE [bV] iW 0 c_402_l0 c_402_k1⟩
def tG:AFn:=⟨2,[.tmp 4],g7 d8 GW⟩
def tH:AFn:=⟨2,[.tmp 4],g7 d8 GW⟩
def oV:AFn:=⟨1,AN,eE [fV,aY 3] (kG [aF 4,dA 5 .lss 4,aJ 6,bF 7 6 0,eF 8 6 .gtr 7 32,xW 9 6 8] 9 fV 3 10) [aF 10,dK 10,aY 3]⟩
def eX:AFn:=⟨3,[.cell 6 true 2,.tmp 7],bA [s7,gQ 6 (.str []),cA 7] (fE [cV 9,bS 10 9,xL 11 10,bQ 11] (eL [aG 12,xK 13 .neq 12 (-1)] 13 (.seq (gN [aG 14,b7 15 .lss 14,xM 16 15,bF 17 16 1,bU 18 16 0 3,dT 19 16 18,aT 20 16 19,d7 21 16 20,dV 22 16 .geq 17 21,xW 23 16 22] 23 [xO 24 (.build wU []),bM 6 24,cA 7]) (xR [cV 25,aI 26 25,xL 27 26,aG 28,dM 29 27 28,aI 30 29,xL 31 30,bQ 31]))) (gN [bO 32,b7 33 .lss 32,xM 34 33,bF 35 34 2,bF 36 34 8,d7 37 34 36,dV 38 34 .geq 35 37,xW 39 34 38] 39 [xO 40 (.build wU []),bM 6 40,cA 7]) (dR [bN 41,bO 42,dM 43 41 42,aV 44 43,bM 6 44,AY 7]))⟩
def DV:AFn:=⟨2,[.tmp 4],g7 d8 [l5,aG 6,aN 7 vY 5 6,b7 8 .geq 7,aP 8]⟩
def DW:AFn:=⟨1,[.tmp 2],g7 (cA 2) [aF 3,n7 4 .neq 3 fH,dK 4]⟩
def c_410_l0:Xu:=bE 9 .lss 8 7 9 (kY AK [aG 11,aF 12,aJ 13,bG 14 12 13,xL 15 14,xU 16 11 [.t 15]] 16 AM) 18 .add 8 8 18
def c_410_k1:Xu:=eN (iJ 4)
def DX:AFn:=⟨2,[.tmp 4],gE [bV] iW 0 c_410_l0 c_410_k1⟩
def DY:AFn:=⟨2,[.tmp 4],bA H5 (eM LO [xC 4 (.Xt 5 [])])⟩
def tI:AFn:=⟨2,[.tmp 4],eE H5 (gN LO 10 [gR 11,xF 12 3 11,xL 13 12,aP 13]) [gR 14,xF 15 4 14,xL 16 15,aP 16]⟩
def tJ:AFn:=⟨2,[.tmp 4],eE H5 (.seq (qU [(1,5)] [⟨some 5,none,.faddr 1 (.t 3)⟩,⟨some 6,none,.load false 1 (.t 5)⟩,⟨some 7,none,.faddr 0 (.t 2)⟩,⟨some 8,none,.faddr 2 (.t 7)⟩,⟨some 9,none,.load false 1 (.t 8)⟩,⟨some 10,none,.append .app 3 24 (.c rO) (.t 9)⟩,⟨some 11,none,.pcallv (.t 6) [.t 10]⟩] none) (IY 11 (dR [gR 12,xF 13 3 12,xL 14 13,aP 14]))) [gR 15,xF 16 4 15,xL 17 16,aP 17]⟩
def tabL:List (Nat×AFn):=[(HJ,JD),
  (FK,FD),
  (zJ,J9),
  (FL,JA),
  (FM,qZ),
  (zK,sO),
  (zL,JB),
  (FN,FE),
  (FO,FF),
  (FP,FG),
  (FQ,FH),
  (w3,zE),
  (zM,lR),
  (FR,r5),
  (FS,nS),
  (FV,zF),
  (zN,JC),
  (zO,zG),
  (FW,FI),
  (zP,zH),
  (zR,JE),
  (w6,FJ),
  (tK,sD),
  (tL,sE),
  (tN,sF),
  (gZ,l8),
  (oW,BF),
  (hS,l9),
  (jG,BG),
  (oY,gS),
  (tO,gT),
  (tP,BH),
  (tQ,sG),
  (tR,BI),
  (tS,lB),
  (lS,dN),
  (lT,BJ),
  (tT,eU),
  (tU,sH),
  (oZ,sI),
  (jH,lC),
  (tV,BK),
  (tW,oC),
  (i6,BL),
  (tX,sJ),
  (tY,BM),
  (aU,sK),
  (lW,gU),
  (cT,gV),
  (fY,oD),
  (i7,dO),
  (i8,oE),
  (p5,sL),
  (lX,sN),
  (p6,j9),
  (p7,sP),
  (p8,BN),
  (tZ,BO),
  (lY,sQ),
  (aQ,sR),
  (bL,BP),
  (p9,BQ),
  (pA,BR),
  (lZ,BS),
  (fZ,lD),
  (i9,BT),
  (pB,BU),
  (mA,BV),
  (u5,BW),
  (pC,BZ),
  (mB,C0),
  (u6,jA),
  (pD,C1),
  (mD,C2),
  (pE,lE),
  (pF,C3),
  (mE,C4),
  (pG,oF),
  (u9,gW),
  (pH,sS),
  (uA,C5),
  (eC,lG),
  (uB,C6),
  (uC,C7),
  (pI,C8),
  (g0,sT),
  (uD,sW),
  (eD,jC),
  (g6,oG),
  (uF,C9),
  (pJ,CA),
  (pK,oH),
  (uG,sX),
  (mF,sY),
  (jI,oI),
  (iA,oJ),
  (pL,CB),
  (uH,oK),
  (uI,oL),
  (pM,sZ),
  (jJ,c9),
  (uJ,oM),
  (uK,lH),
  (jK,t6),
  (cF,CC),
  (uL,t7),
  (jL,CD),
  (mG,oN),
  (pN,CE),
  (uM,oO),
  (pO,CG),
  (pP,CH),
  (pQ,CJ),
  (pR,CK),
  (pS,CL),
  (pT,CM),
  (pU,CN),
  (jM,lI),
  (dQ,cQ),
  (uN,CO),
  (mH,CP),
  (pV,t8),
  (pW,oP),
  (jN,t9),
  (mI,CQ),
  (jO,CR),
  (pX,CT),
  (uO,lJ),
  (uP,aO),
  (uQ,oQ),
  (uR,CU),
  (mJ,tA),
  (eZ,lK),
  (pY,gX),
  (uS,dP),
  (uT,tB),
  (uU,CV),
  (pZ,CW),
  (uV,CX),
  (mK,CY),
  (uW,CZ),
  (uX,D0),
  (jQ,jD),
  (mL,D1),
  (uY,oR),
  (q6,oS),
  (jR,D3),
  (uZ,D4),
  (v5,D5),
  (v6,tC),
  (q8,oT),
  (q9,fW),
  (mM,tD),
  (v7,gY),
  (v8,lO),
  (v9,eV),
  (vA,D6),
  (vB,tE),
  (iB,lP),
  (vC,D7),
  (vD,D8),
  (jS,D9),
  (qA,eW),
  (mN,oU),
  (vE,jE),
  (qB,lQ),
  (qC,DA),
  (vF,DB),
  (qD,DC),
  (vG,DE),
  (qE,DF),
  (qF,DG),
  (jT,fX),
  (qG,jF),
  (qH,DH),
  (qI,cR),
  (vI,bB),
  (vJ,DI),
  (vK,DJ),
  (vL,DK),
  (vM,DL),
  (vN,DM),
  (vO,DN),
  (vP,DO),
  (qJ,DP),
  (vQ,DQ),
  (qK,DR),
  (vR,DS),
  (vS,DT),
  (vT,DU),
  (vU,tG),
  (vV,tH),
  (iC,oV),
  (vW,eX),
  (vX,DV),
  (jV,DW),
  (vY,DX),
  (qL,DY),
  (qM,tI),
  (vZ,tJ)]
def tabD:List (Nat×ADFn):=[(FT,cG)]
def tabC:List CloneD:=[⟨w5,1,8,.row⟩,⟨zQ,2,8,.app⟩,⟨lU,1,4,.app⟩,⟨JO,2,24,.app⟩,⟨JP,3,32,.app⟩,⟨K5,3,24,.app⟩,⟨K6,3,16,.app⟩,⟨K7,3,24,.app⟩]
def nilL:List (Nat×Nat):=[(Oa,14),(HJ,3),(HJ,4),(HJ,6),(zK,10),(PM,8),(zM,6),(KB,3),(PR,4),(PT,15),(PU,14),(w6,3),(JF,5),(lT,5),(JH,10),(JI,16),(lW,10),(p5,7),(JL,3),(JM,5),(pA,5),(pB,5),(pC,5),(pD,5),(pF,5),(JN,5),(JQ,5),(JR,5),(JS,5),(JT,5),(JV,3),(JX,4),(JY,8),(JZ,12),(K0,8),(pL,3),(jO,3),(K4,5),(K8,8),(jQ,9),(cT,9),(cT,13),(cT,30)]
def thr:List Nat:=[K1,K3,PO,KC,PP,PQ,w4,oW,hS,oY,JG,i8,pJ,pK,mF,pQ,pR,pS,pT,pU,dQ,mH,pW,jN,eZ,jQ,iB,qE]
def thrAt:List (Nat×Nat):=[(PS,eY),(K9,eY),(lX,jL),(mG,jL),(w4,w5),(PN,KB),(lW,g6),(JW,eY),(gZ,cT),(jT,cT),(gZ,i7),(i7,jJ),(jT,jJ),(q8,qH)]
def thrV:List Nat:=[eZ,i8,qL,qM,lY,p6]
def rowAt:List (Nat×Nat):=[(uE,27),(uE,29),(eY,26),(eY,34),(K3,112),(w5,7),(eY,9),(eY,28),(cT,32)]
def thrVAt:List (Nat×Nat):=[]
def rowF:List Nat:=[w4,FU,jI,iA,iB]
def rowFB:List Nat:=[jI,iA,iB]
def appAt:List (Nat×Nat):=[(FU,32),(w4,70)]
def immAt:List (Nat×Nat):=[(JU,26)]
def slcHL:List Nat:=[]
def browAt:List (Nat×Nat):=[(uE,28),(eY,27),(w4,39),(cT,31)]
def boxiAt:List (Nat×Nat):=[(eY,1),(KC,2),(K1,1),(FU,1)]
def takeAt:List (Nat×Nat):=[]
def boxiL:List (Nat×List Nat):=[(3,[1]),(4,[2]),(5,[1]),(6,[3]),(7,[1]),(8,[1]),(9,[2]),(10,[1]),(11,[2,3]),(13,[3,4,5]),(14,[3,4,5]),(15,[2,3]),(18,[3,4]),(19,[3]),(21,[1]),(22,[2,3]),(29,[5]),(31,[8,9]),(32,[2]),(34,[1]),(37,[3,4,5]),(38,[3,5]),(39,[4,5]),(45,[1]),(46,[2,3]),(47,[3,4,5]),(48,[1]),(49,[1]),(50,[1]),(51,[1]),(52,[1]),(53,[1]),(54,[1]),(55,[4]),(56,[3,5]),(57,[2]),(59,[2,3]),(67,[1]),(74,[3,5]),(78,[1]),(79,[3]),(81,[1]),(89,[2]),(90,[4,5,6]),(91,[2,3]),(92,[5,6]),(93,[4,5,7]),(98,[1]),(100,[5,9]),(101,[2]),(102,[2]),(103,[4,5,6]),(110,[1]),(112,[1]),(113,[2]),(114,[2]),(115,[1]),(116,[1]),(117,[1]),(118,[3,5]),(119,[3]),(120,[3]),(121,[2,3]),(123,[1]),(126,[2]),(130,[1]),(131,[1]),(132,[1]),(133,[1]),(134,[1]),(135,[1]),(137,[1]),(138,[1]),(139,[2]),(140,[2]),(141,[3]),(142,[2]),(143,[3]),(144,[2,3]),(146,[1]),(148,[2]),(151,[2]),(153,[2,3]),(154,[2,3]),(155,[2]),(157,[2,3]),(159,[3,5]),(160,[1]),(161,[3]),(162,[7,8]),(163,[4,5,7]),(164,[4,5]),(166,[2]),(167,[3,5]),(170,[2]),(172,[2,3]),(177,[3,5]),(179,[4,5,6]),(180,[5,6]),(182,[2,3]),(183,[2,3]),(186,[2]),(188,[3,4,5]),(189,[2]),(190,[2,3]),(191,[2,3]),(192,[2]),(196,[3]),(197,[2]),(198,[3]),(199,[2]),(200,[2]),(207,[1]),(208,[1]),(211,[1]),(214,[1]),(215,[1]),(217,[1]),(218,[2]),(220,[1]),(221,[1]),(222,[1]),(223,[1]),(236,[1]),(238,[2,3]),(239,[2,3]),(240,[2]),(243,[2]),(244,[1]),(246,[4,5]),(247,[2,3]),(248,[1]),(249,[2,3]),(250,[3]),(251,[5]),(253,[2,3]),(256,[2]),(257,[4]),(258,[3,5]),(259,[3,4]),(260,[3,4]),(261,[4]),(262,[5]),(265,[2]),(268,[2,3]),(274,[2]),(278,[1]),(279,[2,3]),(280,[2]),(281,[2]),(283,[5]),(284,[5]),(285,[4,6,7]),(293,[3]),(295,[2,3]),(300,[2,3]),(301,[4]),(302,[2,3]),(303,[2]),(304,[3]),(311,[1]),(313,[1]),(314,[2,3]),(315,[2]),(319,[5]),(320,[3,4]),(321,[1]),(333,[2]),(335,[2,3]),(336,[2]),(344,[2]),(345,[4,6,7]),(346,[3]),(347,[4]),(351,[3,5]),(353,[3,4]),(354,[3,4]),(355,[4]),(356,[5]),(357,[3]),(359,[3]),(360,[2,3]),(361,[4,5]),(362,[2,3]),(365,[1]),(369,[2]),(370,[2,3]),(371,[3]),(372,[3,5]),(373,[3]),(374,[2]),(376,[1]),(377,[1]),(380,[3,5]),(382,[1]),(385,[5,6]),(386,[3]),(388,[2,3]),(389,[2,3]),(398,[2,3]),(399,[3]),(407,[3])]
def keepL:List (Nat×List (Nat×List Nat)):=[(3,[(3,[3,4]),(4,[5,6])]),(4,[(3,[6]),(4,[8])]),(5,[(3,[3])]),(6,[(4,[9]),(5,[11]),(6,[13])]),(7,[(3,[3,4])]),(8,[(11,[7,8]),(12,[9,10])]),(9,[(3,[5]),(10,[13,14])]),(10,[(1,[3]),(2,[4]),(8,[11,12])]),(12,[(1,[1,2]),(2,[3,4]),(3,[5,6]),(4,[8])]),(13,[(1,[9])]),(14,[(1,[8])]),(18,[(6,[12]),(9,[14])]),(19,[(5,[10,11])]),(24,[(1,[1,2])]),(26,[(1,[4])]),(33,[(7,[3]),(8,[4])]),(35,[(6,[3]),(7,[4]),(8,[5]),(9,[6])]),(37,[(3,[8])]),(45,[(8,[8]),(9,[9]),(16,[11])]),(46,[(1,[5])]),(47,[(1,[9]),(4,[11])]),(58,[(1,[6])]),(63,[(2,[2])]),(64,[(2,[2]),(3,[3])]),(72,[(4,[5])]),(74,[(9,[12])]),(82,[(8,[8]),(15,[10])]),(85,[(2,[2])]),(89,[(1,[6])]),(90,[(1,[9])]),(91,[(15,[11])]),(93,[(1,[10,11]),(2,[12])]),(100,[(6,[13]),(15,[15])]),(102,[(1,[6])]),(103,[(1,[9])]),(105,[(2,[6])]),(110,[(11,[5])]),(113,[(3,[6])]),(114,[(3,[6])]),(128,[(4,[7])]),(131,[(4,[4])]),(132,[(5,[4]),(12,[6])]),(133,[(4,[4])]),(136,[(3,[5])]),(137,[(4,[5])]),(139,[(3,[6])]),(140,[(6,[7])]),(142,[(6,[7])]),(159,[(10,[11])]),(162,[(1,[11]),(20,[19])]),(163,[(1,[10])]),(164,[(4,[12]),(9,[15])]),(176,[(3,[5])]),(178,[(3,[10]),(4,[11])]),(179,[(5,[13]),(10,[15])]),(183,[(3,[5])]),(192,[(1,[6])]),(196,[(1,[7])]),(206,[(4,[7])]),(208,[(9,[4])]),(210,[(4,[7])]),(213,[(4,[7])]),(216,[(4,[7])]),(218,[(3,[6]),(7,[7]),(10,[9])]),(219,[(4,[7])]),(221,[(8,[7])]),(224,[(4,[7])]),(228,[(4,[7])]),(230,[(4,[7])]),(232,[(4,[7])]),(234,[(4,[7])]),(238,[(4,[9])]),(246,[(5,[13])]),(264,[(1,[3])]),(265,[(6,[9])]),(268,[(5,[7])]),(281,[(5,[6])]),(282,[(3,[7])]),(283,[(3,[7])]),(294,[(1,[3]),(9,[4]),(10,[5]),(12,[6]),(13,[7]),(14,[8])]),(295,[(6,[8])]),(298,[(14,[13])]),(303,[(1,[6]),(6,[9])]),(311,[(4,[5])]),(313,[(7,[4])]),(314,[(1,[5])]),(315,[(1,[6]),(16,[10])]),(317,[(6,[5])]),(318,[(3,[6])]),(323,[(4,[7])]),(333,[(10,[10])]),(346,[(1,[7])]),(348,[(12,[11])]),(351,[(5,[8])]),(385,[(1,[11])]),(388,[(8,[8])])]
def Y':List (Nat×List Nat):=[(130,[1,2,3,4,5]),(131,[5,6,7]),(132,[1,6,7,8,13]),(133,[5,6,13,14,21,22]),(134,[2,4,6]),(168,[2]),(203,[1])]
def ann:Ann:=
  { pure:=fun fn f _=> !(gB f thr)&& !(thrAt.any fun p=>p.1 == fn&&p.2 == f)
    purev:=fun fn d=> !(gB fn thrV)&& !(match d with | some t=>thrVAt.any (fun q=>q.1 == fn&&q.2 == t) | none=>false),bmode:=fun fn d=>if gB fn rowFB || (match d with | some t=>browAt.any (fun q=>q.1 == fn&&q.2 == t) | none=>false) then .row else .imm,smode:=fun fn d=>match d with | some t=>if immAt.any (fun q=>q.1 == fn&&q.2 == t) then .imm else .row | none=> .row,amode:=fun fn d=>match d with | some t=>if rowAt.any (fun q=>q.1 == fn&&q.2 == t) || (gB fn rowF&& !(appAt.any fun q=>q.1 == fn&&q.2 == t)) then .row else .app | none=> .app
    nilapp:=fun fn d=>match d with | some t=>nilL.any (fun q=>q.1 == fn&&q.2 == t) | none=>false
    slch:=fun fn d=>(gB fn slcHL&&(match d with | some t=>t == 13 || t == 31 | none=>false)) || (match d with | some t=>takeAt.any (fun q=>q.1 == fn&&q.2 == t) | none=>false)
    boxi:=fun fn d=>match d with | some t=>boxiAt.any (fun q=>q.1 == fn&&q.2 == t) || (match look fn boxiL with | some l=>gB t l | none=>false) | none=>false
    keep:=fun fn id=>(look fn keepL).bind (look id)
    split:=fun fn id=>match look fn Y' with | some l=>gB id l | none=>false }
def ktabL:List Nat:=[174,175,431,36,35,12]
def P7 (b:FuncId->Option AFun) (P:Program) (A:Ann) (l:List Nat) (f:FuncId):Option AFun:=match b f with
  | some x=>some x
  | none=>if gB f l then (cFn P A f).map .code else none
def Φ:FuncId->Option AFun:=P7 (OZ tabL tabD tabC) Go.Proofs.Tryz.prog ann ktabL
end
end Go.Av
