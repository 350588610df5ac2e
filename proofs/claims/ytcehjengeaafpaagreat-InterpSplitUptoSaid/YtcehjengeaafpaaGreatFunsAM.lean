/-
  The compact form of the program's functions, printed by a program.
-/
import Derived.Test.YtcehjengeaafpaaGreatAvD
import Derived.Test.YtcehjengeaafpaaGreatRows
set_option linter.unusedVariables false
set_option linter.unusedSimpArgs false
set_option linter.constructorNameAsVariable false
namespace Go.Av
noncomputable section
abbrev xM (d s:Nat):Xv:=⟨some d,none,.mov (.t s)⟩
abbrev xI (d:Nat) (n:Int):Xv:=⟨some d,none,.mov (.c (.int .i64 n))⟩
abbrev xC (d:Nat) (v:AV):Xv:=⟨some d,none,.mov (.c v)⟩
abbrev xF (d o s:Nat):Xv:=⟨some d,none,.faddr o (.t s)⟩
abbrev xL (d s:Nat):Xv:=⟨some d,none,.load false 1 (.t s)⟩
abbrev xA (d n s:Nat):Xv:=⟨some d,none,.load true n (.t s)⟩
abbrev xX (d z a i:Nat):Xv:=⟨some d,none,.iaddr z none (.t a) (.t i)⟩
abbrev xS (n p v:Nat):Xv:=⟨none,none,.store n (.t p) (.t v)⟩
abbrev xN (d s:Nat):Xv:=⟨some d,none,.len (.t s)⟩
abbrev xE (d i s:Nat):Xv:=⟨some d,none,.ext i (.t s)⟩
abbrev xB (d:Nat) (p:BinOp) (a b:Nat):Xv:=⟨some d,none,.bin p (.t a) (.t b)⟩
abbrev xK (d:Nat) (p:BinOp) (a:Nat) (n:Int):Xv:=⟨some d,none,.bin p (.t a) (.c (.int .i64 n))⟩
abbrev xW (d a b:Nat):Xv:=⟨some d,none,.pick (.t a) (.c (.bool true)) (.t b)⟩
abbrev xV (d a b:Nat):Xv:=⟨some d,none,.pick (.t a) (.t b) (.c (.bool false))⟩
abbrev xJ (d s:Nat):Xv:=⟨some d,none,.boxi (.t s)⟩
abbrev xO (d:Nat) (p:AOp):Xv:=⟨some d,none,p⟩
abbrev xG (d g:Nat) (b:Bool) (p:AOp):Xv:=⟨some d,some (g,b),p⟩
abbrev xR (l:List Xv):Xu:= .region false [] l none
abbrev xD (l:List Xv):Xu:= .region true [] l none
abbrev xQ (l:List Xv) (k:List Nat):Xu:= .region false [] l (some k)
abbrev bC (a:List Xv) (b:Xu):Xu:= .seq (xR a) b
abbrev yV (a:Nat) (b c:Xu):Xu:= .cond (.t a) b c
abbrev dS (a:List Xv):Xu:=bC a .ret
abbrev B2 (a b:Nat) (c:List AX):Xv:=xO a (.pcall b c)
abbrev dE (a b:Nat) (c:AOp):Xv:=xG a b false c
abbrev c9 (a:List Xv) (b c:Xu):Xu:=bC a (.seq b c)
abbrev j6 (a:List Xv) (b:Nat) (c d:Xu):Xu:=bC a (yV b c d)
abbrev a7 (a:Int):AV:= .int .i64 a
abbrev mY (a:List Xv) (b:Nat) (c:List Xv) (d:Xu):Xu:=j6 a b (dS c) d
abbrev gP (a:List Xv) (b:Nat) (c:List Xv):Xu:=mY a b c .skip
abbrev Fu (a:Nat) (b:Xu):Xu:= .block a (.loop b)
abbrev wY:AV:= .bool false
abbrev fB (a:List Xv) (b c d:Xu):Xu:=c9 a b (.seq c d)
abbrev Oo (a b:Nat):AOp:= .faddr a (.t b)
abbrev Oq (a:Bool) (b c:Nat):AOp:= .load a b (.t c)
abbrev cQ (a:Nat) (b:List AV):Xv:=xO a (.alloc b)
abbrev dB (a b:Nat) (c:AOp):Xv:=xG a b true c
abbrev Ot (a:List Xv) (b:Xu) (c:Nat) (d e:Xu):Xu:=fB a b (.block c d) e
abbrev Fv (a:BinOp) (b:Nat) (c:AX):AOp:= .bin a (.t b) c
abbrev Ou (a b:Nat):AOp:=Oq false a b
abbrev kR (a:Int):AX:= .c (a7 a)
abbrev HB (a:Nat):AOp:= .nilchk (.t a)
abbrev yaw (a:Nat) (b:Xu) (c:Nat):Xu:=yV a b (.exit c)
abbrev Ov (a:Nat):AOp:= .mov (.t a)
abbrev g9 (a:List Xv) (b:Nat) (c:Xu):Xu:=bC a (Fu b c)
abbrev bY (a b c d:Nat):Xv:=dE a b (Oo c d)
abbrev ya0 (a b:Nat):Xu:=yaw a .skip b
abbrev Ft (a:List Xv) (b c d:Nat) (e f:Xu):Xu:=Ot a (ya0 b c) d e f
abbrev ya2 (a b c d:Nat):Xv:=dE a b (Ou c d)
abbrev aW (a:Nat):Xv:=xI a 0
abbrev PB (a b:Nat) (c:BinOp) (d:Nat) (e:AX):Xv:=dE a b (Fv c d e)
abbrev bX (a:Nat):Xv:=xC a wY
abbrev bF (a b c:Nat):Xv:=dE a b (Ov c)
abbrev EZ (a:Int):AV:= .int .u32 a
abbrev ya8 (a b:Nat) (c d:AX):Xv:=B2 a b [c,d]
abbrev B1 (a b c:Nat) (d:AX):Xv:=ya8 a b (.t c) d
abbrev aN (a b c d:Nat):Xv:=B1 a b c (.t d)
abbrev ybb (a:List Xv) (b c d:Nat) (e:Xu) (f:List Xv):Xu:=Ft a b c d e (xR f)
abbrev fR (a b c:Xu):Xu:= .seq a (.seq b c)
abbrev b8 (a b:Nat):Xv:=xO a (HB b)
abbrev eN (a b:List Xv):Xu:=bC a (dS b)
abbrev aF (a:Nat):Xv:=xM a 0
abbrev ybg (a:AX):AOp:= .un .not a
abbrev PD (a:Nat):AOp:=ybg (.t a)
abbrev aL (a b:Nat):Xv:=xF a 0 b
abbrev cG:AV:=a7 0
abbrev F2 (a:Nat):AOp:= .len (.t a)
abbrev aI (a b:Nat):Xv:=xF a 1 b
abbrev dM (a b:Nat) (c:List AX):Xv:=xO a (.tcall b c)
abbrev gQ (a b:List Xv) (c:Nat) (d e:Xu):Xu:=c9 a (g9 b c d) e
abbrev bT (a b:Nat):Xv:=xO a (PD b)
abbrev aG (a:Nat):Xv:=xM a 1
abbrev dA (a b c:Nat):Xv:=dE a b (F2 c)
abbrev ybr (a:Nat):AOp:= .box (.t a)
abbrev ybs (a:List Xv) (b c d:Nat) (e:Xu) (f g:Xv):Xu:=ybb a b c d e [f,g]
abbrev ybt (a:List Xv) (b c d:Nat) (e:Xu) (f:Xv) (g h:Nat):Xu:=ybs a b c d e f (xM g h)
abbrev ybu (a:List Xv) (b c d:Nat) (e:Xu) (f:Nat) (g:BinOp) (h:Nat) (i:Int) (j k:Nat):Xu:=ybt a b c d e (xK f g h i) j k
abbrev l5 (a b:List Xv) (c:Nat) (d:List Xv):Xu:=bC a (gP b c d)
abbrev ybw (a b:Nat) (c:AX):Xv:=B2 a b [c]
abbrev aM (a b c:Nat):Xv:=ybw a b (.t c)
abbrev aJ (a:Nat):Xv:=xM a 5
abbrev ybz (a:SM) (b c:Nat) (d:AX) (e:Nat):AOp:= .append a b c d (.t e)
abbrev PC:AV:= .bool true
abbrev fQ (a b:Nat):Xv:=xO a (ybr b)
abbrev kS (a:List Xv) (b:Nat) (c:Xu):Xu:=j6 a b .skip c
abbrev rR (a:List Xv) (b:List Nat) (c:Xu):Xu:= .seq (xQ a b) c
abbrev F0 (a:List Xv) (b:Xu):Xu:= .seq (xD a) b
abbrev fC (a b c:Nat):Xv:=dB a b (Ov c)
abbrev aT (a b c:Nat):Xv:=ya2 a b 1 c
abbrev dT (a b:List Xv) (c:Nat) (d:List Xv) (e f:Xu):Xu:=fB a (gP b c d) e f
abbrev eG (a:List Xv) (b:Xu) (c:List Xv):Xu:=c9 a b (dS c)
abbrev eM (a:List Xv) (b:Nat) (c:Xu):Xu:=j6 a b c .skip
abbrev yca (a b c d:Nat):Xv:=dB a b (Ou c d)
abbrev aQ (a:Nat):Xv:=xM 4 a
abbrev dW (a b:Nat) (c:BinOp) (d e:Nat):Xv:=PB a b c d (.t e)
abbrev eO (a b:Nat) (c:BinOp) (d:Nat) (e:Int):Xv:=PB a b c d (kR e)
abbrev cR:Xv:=bX 4
abbrev fD (a b c d:Nat):Xv:=dB a b (Oo c d)
abbrev bU:Xv:=aW 4
abbrev s8 (a:Nat) (b:Option Nat) (c:Nat) (d:AX):AOp:= .iaddr a b (.t c) d
abbrev kT (a b:List Xv) (c:Xu):Xu:=bC a (bC b c)
abbrev fE:AV:=EZ 0
abbrev rS (a:Nat):Xv:=xJ a 0
abbrev eH (a:Xv):Xu:=dS [a]
abbrev b6 (a:Nat):Xv:=xM 5 a
abbrev ycn (a:List Xv) (b c d:Nat) (e:Xu) (f:Nat) (g:BinOp) (h i j:Nat):Xu:=ybu a b c d e f g h 1 i j
abbrev Fy (a:Xv) (b c d:Nat) (e:Xu) (f:Nat) (g:BinOp) (h i j:Nat):Xu:=ycn [a] b c d e f g h i j
abbrev nM (a:Nat) (b:BinOp) (c d e f g:Nat) (h:Xu) (i:Nat) (j:BinOp) (k l m:Nat):Xu:=Fy (xB a b c d) e f g h i j k l m
abbrev b7 (a:Nat) (b:BinOp) (c:Nat):Xv:=xK a b c 0
abbrev l6 (a:Nat) (b:List Xv) (c:Nat) (d:List Xv) (e:Xu):Xu:= .block a (mY b c d e)
abbrev bQ (a b:Nat):Xv:=xA a 9 b
abbrev yct (a b:Nat) (c d e f:AX):Xv:=B2 a b [c,d,e,f]
abbrev HC (a b c:Nat) (d e f:AX):Xv:=yct a b (.t c) d e f
abbrev oA (a b:Nat):Xv:=xO a (.nilapp b)
abbrev aY (a b:Nat):Xv:=xA a 2 b
abbrev iR (a b:Nat) (c:BinOp) (d:Nat) (e:AX):Xv:=dB a b (Fv c d e)
abbrev IX (a:Nat) (b:Xu):Xu:=yV a b .skip
abbrev oC (a:List (Nat×Nat)) (b:List Xv) (c:Option (List Nat)):Xu:= .region true a b c
abbrev qW (a:Nat) (b c:AV):Xv:=cQ a [b,c]
abbrev gR (a b c:List Xv) (d:Nat) (e f:Xu):Xu:=bC a (gQ b c d e f)
abbrev Ow (a:Nat) (b:List AX):AOp:= .pcallv (.t a) b
abbrev cN (a:Nat):Xv:=aL a 3
abbrev mZ (a:List Xv) (b:Nat) (c d:Xv):Xu:=gP a b [c,d]
abbrev Fw (a:List Xv) (b c:Nat):Xu:=kS a b (.exit c)
abbrev iL (a:Nat):Xv:=xI a (-1)
abbrev nZ (a b c:Nat) (d:List AX):Xv:=dB a b (.pcall c d)
abbrev PF (a:Nat) (b:SM) (c d:Nat) (e:AX) (f:Nat):Xv:=xO a (ybz b c d e f)
abbrev o9 (a b:Xv):Xu:=dS [a,b]
abbrev bI (a b c:Nat):Xv:=xX a 1 b c
abbrev oE (a:List Xv) (b:Nat) (c:Xv):Xu:=gP a b [c]
abbrev eI (a:List Xv) (b c:Nat) (d:Int):Xu:=oE a b (xI c d)
abbrev dU:AX:=kR 0
abbrev iM (a:Nat) (b c d e:AV):Xv:=cQ a [b,c,d,e]
abbrev ydf (a:Xu) (b:Nat) (c d:Xu):Xu:=fR a (.block b c) d
abbrev bG (a:Nat):Xv:=xM 6 a
abbrev ydh (a b:Nat) (c d e:AX):Xv:=B2 a b [c,d,e]
abbrev Ox (a b c:Nat) (d e:AX):Xv:=ydh a b (.t c) d e
abbrev Oy (a b c d:Nat) (e:AX):Xv:=Ox a b c (.t d) e
abbrev fS (a b c d e:Nat):Xv:=Oy a b c d (.t e)
abbrev PG (a b c:Nat) (d:AX) (e:Nat):Xv:=PF a .app b c d e
abbrev gS (a:Nat) (b:AV):Xv:=qW a b cG
abbrev bP (a:Nat):Xv:=xM a 8
abbrev kF:Xv:=rS 2
abbrev eB:Xv:=aW 5
abbrev fK (a:Nat):Xv:=xC a fE
abbrev dF (a:Nat):Xv:=aI a 3
abbrev bL (a:Nat):Xv:=xM a 2
abbrev cH (a:Nat):Xv:=xM a 3
abbrev B4 (a b c:Nat) (d:AX) (e:Nat) (f:AX):Xv:=HC a b c d (.t e) f
abbrev bJ (a b:Nat):Xv:=xA a 4 b
abbrev wZ (a:Nat):Xv:=xC a PC
abbrev nO (a:Nat):Xu:=eH (wZ a)
abbrev ydy (a:Nat) (b:BinOp) (c d e f:Nat) (g:Xu) (h:Nat) (i:BinOp) (j k l:Nat):Xu:=nM a b c d e 0 f g h i j k l
abbrev bE (a:Nat) (b:BinOp) (c d e:Nat) (f:Xu) (g:Nat) (h:BinOp) (i j k:Nat):Xu:=ydy a b c d e 1 f g h i j k
abbrev cA (a:Nat):Xv:=xM 8 a
abbrev l7 (a b:Nat):AOp:=Oq true a b
abbrev bN (a b:Nat):Xv:=xS 2 a b
abbrev s9 (a b c:Nat) (d:List AX):Xv:=dE a b (.pcall c d)
abbrev kU (a b c d e:Nat):Xv:=PG a b c (.t d) e
abbrev oD (a:List Xv) (b:Nat) (c:Xu):Xu:=F0 a (IX b c)
abbrev n6 (a b c:Nat) (d:Int):Xv:=B1 a b c (kR d)
abbrev yd7 (a b c d:Xv) (e:Nat) (f:Xu):Xu:=g9 [a,b,c,d] e f
abbrev yd8 (a b c:Xv) (d e:Nat) (f:Xu):Xu:=yd7 a b c (aW d) e f
abbrev d8 (a:Nat) (b:BinOp) (c:Nat):Xv:=xK a b c 1
abbrev xU (a:List Xv) (b:Nat) (c:Xu):Xu:=bC a (.block b c)
abbrev dX (a:Nat):Xv:=xM 2 a
abbrev bR (a b:Nat):Xv:=xF a 2 b
abbrev kH (a:List Xv) (b:Nat) (c:Xv) (d:Nat) (e:Int):Xu:=mZ a b c (xI d e)
abbrev j9 (a b c d:Xv) (e:List Nat) (f:Xu):Xu:=rR [a,b,c,d] e f
abbrev yef (a:Xv) (b c:Nat) (d:Xv) (e f:Nat) (g:Xu):Xu:=yd8 a (xL b c) d e f g
abbrev fF (a:Nat):Xv:=bQ a 2
abbrev dY (a b c:Nat):Xv:=bY a b 1 c
abbrev yei (a:BinOp) (b:Nat) (c:AV):AOp:=Fv a b (.c c)
abbrev fU:Xv:=aW 2
abbrev cC (a b:Nat):Xv:=xE a 0 b
abbrev cD (a b:Nat):Xv:=xE a 1 b
abbrev cY (a:Nat):Xv:=xM a 6
abbrev iN:Xv:=aW 6
abbrev iT (a:Xv) (b c d e f g:Nat) (h:Xu):Xu:=yef a b c (xN d e) f g h
abbrev cZ (a:Nat):Xv:=xM a 7
abbrev n7 (a:Nat) (b:BinOp) (c:Nat) (d:AV):Xv:=xO a (yei b c d)
abbrev eP (a b c:Nat):Xv:=yca a b 1 c
abbrev nP (a b c:Nat) (d:Int) (e:Nat) (f:AX):Xv:=B4 a b c (kR d) e f
abbrev kV:Xv:=rS 1
abbrev gT (a:Nat):Xv:=aL a 2
abbrev dG (a:Nat):Xv:=xM 7 a
abbrev yX (a:IntKind) (b:Nat):AOp:= .conv a (.t b)
abbrev HD:Xv:=aF 6
abbrev gA (a:Xv) (b:List Xv):Xu:=eN [a] b
abbrev IY (a b c:Xv):Xu:=xR [a,b,c]
abbrev yW (a:Xv) (b:Nat) (c:BinOp) (d:Nat) (e:Xv):Xu:=IY a (d8 b c d) e
abbrev xH:Xu:=eH cR
abbrev PH (a b c:Nat) (d:AX):AOp:=s8 a (some b) c d
abbrev iS (a:Nat):Xv:=aI a 1
abbrev dN (a b:Nat):Xv:=xS 4 a b
abbrev xP:Xv:=rS 3
abbrev PI (a:List Xv) (b c:Xv) (d:Nat) (e:List Xv):Xu:=l5 a [b,c] d e
abbrev kG (a:List Xv) (b:Xv) (c:Nat) (d:BinOp) (e f:Nat) (g:List Xv):Xu:=PI a b (b7 c d e) f g
abbrev xT (a b:Nat) (c:List AX):Xv:=xO a (Ow b c)
abbrev qX (a:List Xv) (b c d:Nat) (e f:Xu):Xu:=ydf (Fw a b c) d e f
abbrev xY (a b c:Nat):Xv:=dE a b (PD c)
abbrev jA (a:Nat):Xv:=aL a 5
abbrev yfc (a:Nat) (b:Xv):Xu:=o9 (cH a) b
abbrev yY (a b:Nat):Xu:=yfc a (dX b)
abbrev yZ (a:Xv) (b:Nat):Xu:=o9 a (aQ b)
abbrev z7 (a:Nat):Xv:=xJ a 1
abbrev B5:Xv:=z7 3
abbrev dH (a b c:Nat):Xv:=xX a 2 b c
abbrev l8:Xv:=aF 5
abbrev z8 (a:List Xv):Xu:=F0 a .ret
def MO:Nat:=6
def PS:Nat:=8
def FG:Nat:=11
def zO:Nat:=12
def FH:Nat:=15
def FI:Nat:=16
def FJ:Nat:=17
def r6:Nat:=18
def PN:Nat:=19
def FK:Nat:=20
def FL:Nat:=23
def PO:Nat:=25
def JY:Nat:=26
def JZ:Nat:=27
def PP:Nat:=30
def FM:Nat:=40
def FN:Nat:=41
def FO:Nat:=42
def FP:Nat:=43
def w3:Nat:=44
def zP:Nat:=45
def FQ:Nat:=46
def FR:Nat:=47
def K8:Nat:=62
def FS:Nat:=70
def K9:Nat:=71
def FT:Nat:=72
def PQ:Nat:=73
def FU:Nat:=74
def zQ:Nat:=75
def PR:Nat:=76
def zR:Nat:=77
def w4:Nat:=82
def PT:Nat:=85
def PU:Nat:=90
def PV:Nat:=91
def PX:Nat:=93
def FV:Nat:=94
def zS:Nat:=95
def w5:Nat:=96
def zT:Nat:=97
def zU:Nat:=98
def w6:Nat:=99
def tK:Nat:=100
def tL:Nat:=101
def tN:Nat:=102
def hZ:Nat:=103
def p5:Nat:=104
def i6:Nat:=105
def jJ:Nat:=106
def p6:Nat:=107
def JC:Nat:=128
def i7:Nat:=129
def tO:Nat:=130
def tP:Nat:=131
def tQ:Nat:=132
def tR:Nat:=133
def tS:Nat:=134
def JD:Nat:=136
def lU:Nat:=139
def lW:Nat:=140
def tT:Nat:=141
def tU:Nat:=142
def p7:Nat:=143
def jK:Nat:=144
def tV:Nat:=145
def lX:Nat:=147
def JE:Nat:=151
def fY:Nat:=152
def JF:Nat:=162
def tW:Nat:=165
def i8:Nat:=166
def tX:Nat:=167
def tY:Nat:=168
def aU:Nat:=169
def lY:Nat:=170
def cV:Nat:=171
def fZ:Nat:=172
def i9:Nat:=173
def JG:Nat:=174
def JH:Nat:=175
def iA:Nat:=176
def p8:Nat:=177
def lZ:Nat:=178
def p9:Nat:=179
def pA:Nat:=180
def pB:Nat:=181
def tZ:Nat:=182
def mA:Nat:=183
def JI:Nat:=195
def JJ:Nat:=197
def aR:Nat:=203
def bM:Nat:=204
def pC:Nat:=205
def pD:Nat:=206
def mB:Nat:=207
def g0:Nat:=208
def iB:Nat:=209
def pE:Nat:=210
def mD:Nat:=211
def u5:Nat:=212
def pF:Nat:=213
def mE:Nat:=214
def u6:Nat:=215
def pG:Nat:=216
def mF:Nat:=217
def pH:Nat:=218
def pI:Nat:=219
def mG:Nat:=220
def pJ:Nat:=221
def u9:Nat:=222
def pK:Nat:=223
def JK:Nat:=224
def JL:Nat:=226
def JM:Nat:=227
def JN:Nat:=228
def JO:Nat:=230
def JP:Nat:=232
def JQ:Nat:=234
def uA:Nat:=236
def eD:Nat:=237
def uB:Nat:=238
def uC:Nat:=239
def pL:Nat:=240
def g6:Nat:=241
def uD:Nat:=242
def JR:Nat:=244
def JS:Nat:=245
def JT:Nat:=246
def JU:Nat:=248
def JV:Nat:=250
def JW:Nat:=251
def JX:Nat:=258
def uE:Nat:=262
def eE:Nat:=263
def g7:Nat:=264
def uF:Nat:=265
def pM:Nat:=266
def pN:Nat:=267
def uG:Nat:=268
def mH:Nat:=269
def jL:Nat:=270
def iC:Nat:=271
def pO:Nat:=272
def uH:Nat:=273
def uI:Nat:=274
def pP:Nat:=275
def jM:Nat:=276
def uJ:Nat:=277
def uK:Nat:=278
def jN:Nat:=279
def cF:Nat:=280
def uL:Nat:=281
def jO:Nat:=282
def mI:Nat:=283
def pQ:Nat:=284
def uM:Nat:=285
def pR:Nat:=286
def pS:Nat:=287
def pT:Nat:=288
def pU:Nat:=289
def pV:Nat:=290
def pW:Nat:=291
def pX:Nat:=292
def jQ:Nat:=293
def dR:Nat:=294
def uN:Nat:=295
def mJ:Nat:=296
def pY:Nat:=297
def pZ:Nat:=298
def jR:Nat:=299
def mK:Nat:=310
def jS:Nat:=311
def q6:Nat:=312
def uO:Nat:=313
def uP:Nat:=314
def uQ:Nat:=315
def uR:Nat:=316
def mL:Nat:=317
def eX:Nat:=318
def q8:Nat:=319
def uS:Nat:=320
def uT:Nat:=321
def uU:Nat:=322
def K0:Nat:=323
def K1:Nat:=325
def K3:Nat:=326
def K4:Nat:=327
def q9:Nat:=328
def uV:Nat:=329
def mM:Nat:=330
def uW:Nat:=331
def uX:Nat:=332
def K5:Nat:=333
def K6:Nat:=346
def jT:Nat:=348
def mN:Nat:=349
def uY:Nat:=350
def qA:Nat:=351
def jV:Nat:=352
def uZ:Nat:=353
def v5:Nat:=354
def v6:Nat:=355
def qB:Nat:=356
def qC:Nat:=357
def mO:Nat:=358
def v7:Nat:=359
def v8:Nat:=360
def v9:Nat:=361
def vA:Nat:=362
def vB:Nat:=363
def iD:Nat:=364
def vC:Nat:=367
def vD:Nat:=368
def jW:Nat:=369
def qD:Nat:=370
def mP:Nat:=371
def vE:Nat:=372
def qE:Nat:=373
def qF:Nat:=374
def vF:Nat:=375
def qG:Nat:=381
def vG:Nat:=382
def qH:Nat:=383
def qI:Nat:=384
def jX:Nat:=385
def qJ:Nat:=386
def qK:Nat:=387
def qL:Nat:=388
def vI:Nat:=389
def vJ:Nat:=390
def vK:Nat:=391
def vL:Nat:=392
def vM:Nat:=393
def vN:Nat:=394
def vO:Nat:=395
def vP:Nat:=396
def qM:Nat:=397
def vQ:Nat:=398
def qN:Nat:=399
def vR:Nat:=400
def vS:Nat:=401
def vT:Nat:=402
def vU:Nat:=404
def vV:Nat:=405
def iE:Nat:=406
def vW:Nat:=407
def vX:Nat:=408
def jY:Nat:=409
def vY:Nat:=410
def qO:Nat:=428
def qP:Nat:=429
def vZ:Nat:=430
def K7:Nat:=431
abbrev a9:AV:= .Xt 1 []
abbrev rK:List AV:=[.str [],.Xt 2 [],.Xt 2 [],.Xt 3 [],.Xt 3 [],.Xt 6 [],.Xt 7 [],.Xt 5 [],.Xt 1 [],.Xt 2 []]
abbrev fM:List AV:=[.int .u32 0,.int .i64 0]
abbrev iZ:List AV:=[cG,.Xt 2 [],cG,cG,.Xt 1 []]
abbrev LH:List Xv:=[aG 6,b7 7 .lss 6,cA 7,bF 9 8 1,bF 10 8 0,dA 11 8 10,dW 12 8 .geq 9 11,xW 13 8 12]
abbrev rL:List AV:=[.int .i64 0,.int .i64 0,.int .i64 0,.int .i64 0]
abbrev GU:AOp:= .bslice .imm 1 (List.replicate 1 [.str []]) [(0,(.t 17))]
abbrev GV:List Xv:=[aG 5,b7 6 .geq 5,cY 7,fC 8 7 1,fC 9 7 0,dB 10 7 (F2 9),iR 11 7 .lss 8 (.t 10),xV 12 7 11,aQ 12]
abbrev rM:List Xv:=[aJ 11,aF 12,xN 13 12,xB 14 .lss 11 13]
abbrev rN:List Xv:=[HD,xN 7 6,aG 8,xN 9 8,xB 10 .neq 7 9]
abbrev wK:List AV:=[.bool false,.int .i64 0,.Xt 1 [],.Xt 3 []]
abbrev rO:Xu:=yW (aJ 15) 16 .add 15 (b6 16)
abbrev AJ:List AV:=[.int .i64 0,.Xt 2 [],.int .i64 0,.int .i64 0,.Xt 1 []]
abbrev fO:List ARes:=[.tmp 4,.tmp 5]
abbrev j5:List Xv:=[HD,xN 7 6,aW 8]
abbrev kO:AX:= .c (.bool true)
abbrev kP:List AV:=[.int .i64 0]
abbrev AK:List AV:=[.Xt 1 [],.Xt 1 [],.Xt 1 [],.Xt 1 []]
abbrev wL:List Xv:=[bI 10 6 8,xL 11 10,b6 11]
abbrev LJ:Xu:=oD [aF 17,aJ 18,bI 19 17 18,xL 20 19,aG 21,aJ 22,bI 23 21 22,xL 24 23,xB 25 .neq 20 24] 25 xH
abbrev GW:List AV:=[.int .i64 0,.int .i64 0,.Xt 3 [],.Xt 5 [],.Xt 5 []]
abbrev fP:AV:= .Xt 2 []
abbrev wM:List AV:=[.int .i64 0,.int .i64 0]
abbrev LL:List AV:=[.str [],.Xt 2 [],.Xt 2 [],.Xt 3 [],.Xt 3 [],.Xt 6 [],.Xt 7 [],.Xt 5 [],.Xt 1 [],.Xt 1 []]
abbrev LM:Xu:=xR [aJ 14,aG 15,xA 16 3 7,xT 17 15 [.t 16],xO 18 GU,kU 19 1 16 14 18,b6 19]
abbrev LN:Xu:=xR [aJ 14,aG 15,aY 16 7,xT 17 15 [.t 16],xO 18 GU,kU 19 1 16 14 18,b6 19]
abbrev wO:List Xv:=[aL 3 1,xL 4 3,dX 4]
abbrev mX:List Xv:=[kF,B5,bU]
abbrev wP:List Xv:=[fQ 2 0,fQ 3 1,cR]
abbrev wQ:List AV:=[.str [],.int .i64 0]
abbrev wR:List Xv:=[aF 8,xN 9 8,aW 10]
abbrev LO:List Xv:=[xF 12 5 2,xL 13 12,aG 14,xX 15 6 13 14,aI 16 15,xL 17 16,xN 18 17,aW 19]
abbrev kQ:List AV:=[.Xt 1 []]
abbrev wS:List Xv:=[kV,xC 2 (.str [])]
abbrev GX:List AV:=[.Xt 1 [],.Xt 1 [],.Xt 2 [],.Xt 1 []]
abbrev GY:List AV:=[.int .i64 0,.int .i64 0,.int .i64 0]
abbrev GZ:List AV:=[cG,cG,.Xt 3 [],.Xt 5 [],.Xt 5 []]
abbrev nX:AV:= .int .i64 0
abbrev LP:List Xv:=[cN 5,xL 6 5,gT 7,aI 8 7,xL 9 8,xO 10 (.tcallv (.t 6) [.t 9])]
abbrev H5:List Xv:=[fQ 2 0,fQ 3 1,xC 4 (.Xt 5 [])]
abbrev LQ:List Xv:=[HD,xN 7 6,xO 8 (.mkslice .row 1 24 kQ (.t 7) (.t 7)),bP 3]
abbrev AM:List Xv:=[aF 9,xN 10 9,aW 11]
abbrev wT:List ARes:=[.cell 2 true 4]
abbrev rP:List AV:=[.int .u32 0]
abbrev LI:Xu:=kT [xM 13 11,bI 14 9 11,xL 15 14,aQ 13,b6 15] [cH 16,xM 17 4,aJ 18,xN 19 18,xO 20 (.mkslice .row 1 4 rP (.t 19) (.t 19)),bI 21 16 17,xS 1 21 20] (xR [cH 22,xM 23 4,bI 24 22 23,xL 25 24,aJ 26,xO 27 (.copy 1 (.t 25) (.t 26))])
abbrev nY:List Xv:=[xC 4 a9]
abbrev wU:AOp:=PH 1 3 3 dU
abbrev LR:AOp:= .bslice .imm 1 (List.replicate 1 kP) [(0,(.t 5))]
abbrev LS:AOp:= .bslice .imm 1 (List.replicate 1 kP) [(0,(.t 7))]
abbrev AN:AOp:=PH 1 3 3 (kR 1)
abbrev H6:List AV:=[.str [],.Xt 2 [],.Xt 7 []]
abbrev rQ:List Xv:=[xC 2 a9]
abbrev LT:List Xv:=[aF 15,aG 16,dH 17 15 16,aY 18 17,bN 4 18]
abbrev wV:List AV:=[cG,cG,cG]
abbrev AP:List Xv:=[xP,xJ 5 2,iN]
abbrev LU:List AV:=[.str [],.Xt 3 [],.Xt 1 [],cG,.Xt 1 [],cG]
abbrev AQ:List ARes:=[.cell 4 true 2]
abbrev LV:List Xv:=[aF 15,aG 16,bI 17 15 16,xL 18 17,aQ 18]
abbrev LW:List AV:=[.str [],.Xt 1 [],wY,cG,cG,.Xt 3 [],cG]
abbrev AR:List Xv:=[bP 10,b6 10]
abbrev AS:List Xv:=[aJ 17,aQ 17]
abbrev LK:Xu:=l5 AR [aG 11,aF 12,aJ 13,bI 14 12 13,xL 15 14,xB 16 .eql 11 15] 16 AS
abbrev AU:List ARes:=[.tmp 2,.tmp 3]
abbrev H7:AX:= .c (.int .i64 (-1))
abbrev LX:List Xv:=[fF 8,aG 9,aN 10 pL 8 9,bT 11 10]
abbrev LY:List AV:=[cG,cG,cG,cG,cG,.Xt 3 [],.Xt 3 []]
abbrev wW:List Xv:=[xP,bX 6]
abbrev AW:List Xv:=[iL 4,xI 5 8]
abbrev LZ:List Xv:=[xP,z7 4,iM 6 a9 a9 a9 a9]
abbrev AY:List Xv:=[kF,B5,cR]
abbrev M0:List Xv:=[fQ 1 0,iM 2 a9 a9 a9 a9]
abbrev M2:Xu:=mZ LH 13 (aY 14 5) (bN 4 14)
abbrev wX:AV:= .Xt 3 []
abbrev M4:Xu:=yW (aJ 25) 26 .add 25 (b6 26)
abbrev H8:AX:= .c (.int .i64 1)
abbrev M5:List AV:=[.Xt 1 [],.int .i64 0,.bool false]
abbrev H9:List Xv:=[kF,B5,bU,eB]
abbrev M6:Xu:=mZ LH 13 (aJ 14) (aQ 14)
abbrev HA:List ARes:=[.cell 2 true 2]
abbrev M7:List Xv:=[bI 22 18 20,xL 23 22,cA 23]
abbrev AZ:List Xv:=[kF,bX 3]
def MN:AFn:=⟨3,[.tmp 6],c9 wW (mZ [cN 15,bQ 16 15,xF 17 9 3,bJ 18 17,aN 19 FG 16 18,xM 20 19,bF 21 20 1,s9 22 20 FJ [.t 21],xW 23 20 22] 23 (B2 24 zO []) (bG 24)) (fB [bL 25,xO 26 (yX .i64 25),aG 27,xN 28 27,d8 29 .add 28,xB 30 .rem 26 29,dG 30] (oC [(1,11),(3,11),(7,11)] [⟨some 32,none,.faddr 0 (.t 3)⟩,⟨some 33,none,.load true 9 (.t 32)⟩,⟨some 34,none,.faddr 9 (.t 3)⟩,⟨some 35,none,.load true 4 (.t 34)⟩,⟨some 36,none,.mov (.t 1)⟩,⟨some 37,none,.mov (.t 7)⟩,⟨some 38,none,.slc 2 (.t 36) none (some (.t 37)) none⟩,⟨some 39,none,.pcall r6 [.t 33,.t 35,.t 38]⟩,⟨some 31,none,.mov (.t 39)⟩,⟨some 40,none,.ext 0 (.t 31)⟩,⟨some 41,none,.ext 1 (.t 31)⟩,⟨some 9,none,.alloc GX⟩,⟨some 8,none,.mov (.t 40)⟩,⟨none,none,.store 4 (.t 9) (.t 41)⟩] (some [9])) (oC [(1,10),(2,10),(6,10)] [⟨some 43,none,.faddr 0 (.t 3)⟩,⟨some 44,none,.load true 9 (.t 43)⟩,⟨some 45,none,.load true 4 (.t 9)⟩,⟨some 46,none,.mov (.t 1)⟩,⟨some 47,none,.mov (.t 7)⟩,⟨some 48,none,.slc 2 (.t 46) (some (.t 47)) none none⟩,⟨some 49,none,.pcall r6 [.t 44,.t 45,.t 48]⟩,⟨some 42,none,.mov (.t 49)⟩,⟨some 50,none,.ext 0 (.t 42)⟩,⟨some 51,none,.ext 1 (.t 42)⟩,⟨some 11,none,.alloc GX⟩,⟨some 10,none,.mov (.t 50)⟩,⟨none,none,.store 4 (.t 11) (.t 51)⟩] (some [11])) (rR [cN 53,bQ 54 53,xF 55 9 3,bJ 56 55,aG 57,fS 58 r6 54 56 57,xM 52 58,cC 59 52,cD 60 52,iM 13 a9 a9 fP a9,xM 12 59,dN 13 60] [13] (kT [oA 14 4] [xM 61 14,bP 62,kU 63 4 64 61 62,xM 14 63] (eN [xM 64 14,xM 65 10,kU 66 4 64 64 65,xM 14 66] [xM 67 14,xM 68 12,aN 69 FK 67 68,xM 70 69,dB 71 70 (l7 4 11),dB 72 70 (l7 4 13),nZ 73 70 FI [.t 71,.t 72],xV 74 70 73,xM 75 74,nZ 76 75 zO [],xV 77 75 76,bG 77]))))⟩
def c_11_l0:Xu:=qX [cZ 9,cN 10,xL 11 10,xN 12 11,xB 13 .lss 9 12] 13 0 1 (xR [aJ 16,cN 17,xL 18 17,cZ 19,bI 20 18 19,xL 21 20,xN 22 21,xB 23 .add 16 22,b6 23]) (yW (cZ 14) 15 .add 14 (dG 15))
def c_11_l1:Xu:=qX [bP 24,xF 25 4 2,xL 26 25,xN 27 26,xB 28 .lss 24 27] 28 2 3 (xR [cY 31,xF 32 4 2,xL 33 32,bP 34,xX 35 3 33 34,bR 36 35,xL 37 36,xN 38 37,xB 39 .add 31 38,bG 39]) (yW (bP 29) 30 .add 29 (cA 30))
def c_11_k2:Xu:=dS [aJ 40,xK 41 .gtr 40 60,xM 42 41,bF 43 42 6,eO 44 42 .gtr 43 60,xW 45 42 44,xM 46 45,dY 47 46 2,aT 48 46 47,dA 49 46 48,eO 50 46 .gtr 49 12,xW 51 46 50,xM 52 51,bY 53 52 5 2,aT 54 52 53,dA 55 52 54,eO 56 52 .gtr 55 16,xW 57 52 56,xM 58 57,bY 59 58 6 2,aT 60 58 59,dA 61 58 60,eO 62 58 .gtr 61 16,xW 63 58 62,xM 64 63,bY 65 64 7 2,aT 66 64 65,dA 67 64 66,eO 68 64 .gtr 67 30,xW 69 64 68,xM 70 69,bY 71 70 3 3,aT 72 70 71,dA 73 70 72,eO 74 70 .gtr 73 8,xW 75 70 74,aQ 75]
def c_11_k3:Xu:= .seq (g9 [aW 8] 2 c_11_l1) c_11_k2
def F8:AFn:=⟨2,[.tmp 4],gR AY [eB,iN] [aW 7] 0 c_11_l0 c_11_k3⟩
def J8:AFn:=⟨2,[.tmp 4],eN AY [gT 5,xL 6 5,cN 7,xL 8 7,xO 9 (.eqs false false [.b] (.t 6) (.t 8)),xM 10 9,fD 11 10 1 2,eP 12 10 11,fD 13 10 1 3,eP 14 10 13,iR 15 10 .eql 12 (.t 14),xV 16 10 15,xM 17 16,fD 18 17 2 2,eP 19 17 18,fD 20 17 2 3,eP 21 17 20,nZ 22 17 FL [.t 19,.t 21],xV 23 17 22,xM 24 23,fD 25 24 3 2,eP 26 24 25,fD 27 24 3 3,eP 28 24 27,nZ 29 24 FM [.t 26,.t 28],xV 30 24 29,aQ 30]⟩
def c_16_l0:Xu:=qX [aJ 39,gT 40,xL 41 40,xN 42 41,xB 43 .lss 39 42] 43 0 1 (oD [gT 46,xL 47 46,aJ 48,bI 49 47 48,xL 50 49,cN 51,xL 52 51,aJ 53,bI 54 52 53,xL 55 54,aN 56 FP 50 55,bT 57 56] 57 xH) (yW (aJ 44) 45 .add 44 (b6 45))
def c_16_l1:Xu:=qX [cY 58,bR 59 2,xL 60 59,xN 61 60,xB 62 .lss 58 61] 62 2 3 (oD [bR 65 2,xL 66 65,cY 67,dH 68 66 67,aY 69 68,bR 70 3,xL 71 70,cY 72,dH 73 71 72,aY 74 73,aN 75 w3 69 74,bT 76 75] 76 xH) (yW (cY 63) 64 .add 63 (bG 64))
def c_16_k2:Xu:=nO 4
def c_16_k3:Xu:= .seq (g9 [iN] 2 c_16_l1) c_16_k2
def qZ:AFn:=⟨2,[.tmp 4],dT wP [gT 7,xL 8 7,xN 9 8,cN 10,xL 11 10,xN 12 11,xB 13 .neq 9 12,xM 14 13,dY 15 14 2,aT 16 14 15,dY 17 14 3,aT 18 14 17,s9 19 14 FN [.t 16,.t 18],xY 20 14 19,xW 21 14 20,xM 22 21,bY 23 22 2 2,aT 24 22 23,dA 25 22 24,bY 26 22 2 3,aT 27 22 26,dA 28 22 27,dW 29 22 .neq 25 28,xW 30 22 29,xM 31 30,bY 32 31 3 2,aT 33 31 32,bY 34 31 3 3,aT 35 31 34,s9 36 31 FO [.t 33,.t 35],xY 37 31 36,xW 38 31 37] 38 [cR] (g9 [eB] 0 c_16_l0) c_16_k3⟩
def c_17_l0:Xu:=qX [cH 7,aF 8,xN 9 8,xB 10 .lss 7 9] 10 0 1 (oE [aF 13,cH 14,dH 15 13 14,aI 16 15,xL 17 16,xN 18 17,xK 19 .gtr 18 200] 19 (wZ 2)) (yW (cH 11) 12 .add 11 (xM 3 12))
def c_17_k1:Xu:=eH (bX 2)
def zJ:AFn:=⟨1,[.tmp 2],dT [bX 2] [aF 4,xN 5 4,xK 6 .gtr 5 6] 6 [wZ 2] (g9 [aW 3] 0 c_17_l0) c_17_k1⟩
def c_18_l0:Xu:=bE 26 .lss 25 24 26 (j9 (dH 27 23 25) (aY 28 27) (qW 12 cG a9) (bN 12 28) [12] (c9 [xO 29 (.build wK [(0,1,kO)]),iM 13 wY cG a9 wX,dN 13 29] (eM [xM 30 9] 30 (rR [bQ 32 3,bJ 33 8,aY 34 12,fS 35 FR 32 33 34,xM 31 35,cC 36 31,cD 37 31,xE 38 2 31,iM 14 wY cG a9 wX,dN 14 36,xM 15 37,xM 16 38] [14] (bC [bJ 39 14,dN 13 39] (eM [xM 40 16] 40 (IY (xM 41 15) (xF 42 3 8) (xS 1 42 41)))))) (xR [xM 43 10,bJ 44 13,xO 45 (.bslice .imm 4 (List.replicate 1 wK) [(0,(.t 44))]),kU 46 4 64 43 45,xM 10 46]))) 47 .add 25 25 47
def c_18_k1:Xu:=z8 [xM 48 10,bJ 49 8,bG 48,dN 7 49]
def sO:AFn:=⟨3,[.tmp 6,.cell 7 true 4],bC [xP,z7 4,xC 6 (.Xt 4 []),iM 7 a9 a9 fP a9] (kT [bJ 17 4,aM 18 zP 17,iM 8 a9 a9 fP a9,dN 8 18] [bQ 19 3,bJ 20 4,aN 21 FQ 19 20,b7 22 .eql 21,xM 9 22] (gQ [oA 10 4] [bL 23,xN 24 23,aW 25] 0 c_18_l0 c_18_k1))⟩
def c_20_l0:Xu:=qX rM 14 0 1 (oD [aF 17,aJ 18,xX 19 4 17 18,bJ 20 19,aG 21,aJ 22,xX 23 4 21 22,bJ 24 23,aN 25 FH 20 24,bT 26 25] 26 xH) rO
def c_20_k1:Xu:=nO 4
def F9:AFn:=⟨2,[.tmp 4],dT [cR] rN 10 [cR] (g9 [eB] 0 c_20_l0) c_20_k1⟩
def J9:AFn:=⟨2,[.tmp 4],gA cR [l8,xO 6 (.b2s (.t 5)),aG 7,xO 8 (.b2s (.t 7)),xB 9 .eql 6 8,aQ 9]⟩
def c_40_l0:Xu:=qX rM 14 0 1 (oD [aF 17,aJ 18,xX 19 3 17 18,xA 20 3 19,aG 21,aJ 22,xX 23 3 21 22,xA 24 3 23,xO 25 (.eqs true true [.i,.i,.i] (.t 20) (.t 24))] 25 xH) rO
def c_40_k1:Xu:=nO 4
def FA:AFn:=⟨2,[.tmp 4],dT [cR] rN 10 [cR] (g9 [eB] 0 c_40_l0) c_40_k1⟩
def c_41_l0:Xu:=qX rM 14 0 1 LJ rO
def c_41_k1:Xu:=nO 4
def FB:AFn:=⟨2,[.tmp 4],dT [cR] rN 10 [cR] (g9 [eB] 0 c_41_l0) c_41_k1⟩
def c_42_l0:Xu:=qX rM 14 0 1 (oD [aF 17,aJ 18,bI 19 17 18,xL 20 19,aG 21,aJ 22,bI 23 21 22,xL 24 23,aN 25 FV 20 24,bT 26 25] 26 xH) rO
def c_42_k1:Xu:=nO 4
def FC:AFn:=⟨2,[.tmp 4],dT [cR] rN 10 [cR] (g9 [eB] 0 c_42_l0) c_42_k1⟩
def c_43_l0:Xu:=qX rM 14 0 1 (oD [aF 17,aJ 18,xX 19 5 17 18,aL 20 19,xL 21 20,aG 22,aJ 23,xX 24 5 22 23,aL 25 24,xL 26 25,xB 27 .neq 21 26,xM 28 27,bF 29 28 0,bF 30 28 5,dE 31 28 (s8 5 none 29 (.t 30)),dY 32 28 31,dY 33 28 32,aT 34 28 33,bF 35 28 1,bF 36 28 5,dE 37 28 (s8 5 none 35 (.t 36)),dY 38 28 37,dY 39 28 38,aT 40 28 39,dW 41 28 .neq 34 40,xW 42 28 41,xM 43 42,bF 44 43 0,bF 45 43 5,dE 46 43 (s8 5 none 44 (.t 45)),dY 47 43 46,dE 48 43 (l7 4 47),bF 49 43 1,bF 50 43 5,dE 51 43 (s8 5 none 49 (.t 50)),dY 52 43 51,dE 53 43 (l7 4 52),s9 54 43 zS [.t 48,.t 53],xY 55 43 54,xW 56 43 55] 56 xH) rO
def c_43_k1:Xu:=nO 4
def FD:AFn:=⟨2,[.tmp 4],dT [cR] rN 10 [cR] (g9 [eB] 0 c_43_l0) c_43_k1⟩
def c_44_l0:Xu:=qX [aJ 20,aI 21 2,xL 22 21,xN 23 22,xB 24 .lss 20 23] 24 0 1 (oD [aI 27 2,xL 28 27,aJ 29,bI 30 28 29,xL 31 30,dF 32,xL 33 32,aJ 34,bI 35 33 34,xL 36 35,xB 37 .neq 31 36] 37 xH) M4
def c_44_k1:Xu:=nO 4
def zK:AFn:=⟨2,[.tmp 4],dT wP [gT 6,xL 7 6,cN 8,xL 9 8,xB 10 .neq 7 9,xM 11 10,dY 12 11 2,aT 13 11 12,dA 14 11 13,dY 15 11 3,aT 16 11 15,dA 17 11 16,dW 18 11 .neq 14 17,xW 19 11 18] 19 [cR] (g9 [eB] 0 c_44_l0) c_44_k1⟩
def c_45_l0:Xu:=nM 26 .lss 25 24 26 2 3 (fR (xQ [xX 27 5 23 25,xA 28 5 27,cQ 8 iZ,xS 5 8 28] [8]) (xQ [aI 29 8,bJ 30 29,iM 9 fP cG cG a9,dN 9 30] [9]) (xD [cY 31,aL 32 8,xL 33 32,aL 34 9,xL 35 34,aM 36 zT 35,aI 37 9,xL 38 37,bR 39 9,aY 40 39,aM 41 zU 40,xO 42 (.build [.Xt 2 [],.int .i64 0,.int .i64 0,.Xt 1 []] [(0,1,(.t 36)),(1,1,(.t 38)),(2,2,(.t 41))]),xO 43 (.build AJ [(0,1,(.t 33)),(1,4,(.t 42))]),xO 44 (.bslice .imm 5 (List.replicate 1 AJ) [(0,(.t 43))]),kU 45 5 72 31 44,bG 45])) 46 .add 25 25 46
def c_45_k1:Xu:=xR [cN 47,xL 48 47,cY 49,xO 50 (.bslice .imm 1 (List.replicate 1 [.Xt 5 []]) [(0,(.t 49))]),kU 51 1 24 48 50,cN 52,xS 1 52 51]
def c_45_k2:Xu:=xR [d8 53 .add 19,xM 19 53]
def c_45_l3:Xu:=Ft [xB 20 .lss 19 18] 20 0 1 (gR [bI 21 17 19,xL 22 21,b6 22] [oA 6 5] [aJ 23,xN 24 23,aW 25] 2 c_45_l0 c_45_k1) c_45_k2
def c_45_l4:Xu:=nM 58 .lss 57 56 58 4 5 (j9 (dH 59 55 57) (aY 60 59) (qW 11 cG a9) (bN 11 60) [11] (xD [bR 61 3,xL 62 61,aY 63 11,aM 64 zU 63,xO 65 (.bslice .imm 2 (List.replicate 1 [.int .i64 0,.Xt 1 []]) [(0,(.t 64))]),kU 66 2 32 62 65,bR 67 3,xS 1 67 66])) 68 .add 57 57 68
def c_45_k5:Xu:=eN [xF 69 3 1,xL 70 69,aM 71 w6 70,xF 72 3 3,xS 1 72 71] [bJ 73 3,dN 2 73]
def c_45_k6:Xu:= .seq (iT (bR 54 1) 55 54 56 55 57 4 c_45_l4) c_45_k5
def lT:AFn:=⟨1,wT,gR [kV,iM 2 a9 a9 fP a9] [iS 12,xL 13 12,aM 14 w5 13,xO 15 (.build GX [(1,1,(.t 14))]),iM 3 a9 a9 fP a9,dN 3 15] [aL 16 1,xL 17 16,xN 18 17,aW 19] 0 c_45_l3 c_45_k6⟩
def c_46_l0:Xu:=bE 40 .lss 39 38 40 (c9 [xM 41 39,dG 41] (xD [fF 42,cZ 43,cN 44,xL 45 44,cZ 46,bI 47 45 46,xL 48 47,dF 49,xL 50 49,cZ 51,bI 52 50 51,xL 53 52,bR 54 3,xL 55 54,cZ 56,dH 57 55 56,aY 58 57,B2 59 tK [.t 42,.t 43,.t 48,.t 53,.t 58],cA 59]) (mZ [bP 60,b7 61 .neq 60] 61 (bP 62) (aQ 62))) 63 .add 39 39 63
def c_46_k1:Xu:=dS [fF 64,xF 65 3 3,xL 66 65,aN 67 tL 64 66,aQ 67]
def r5:AFn:=⟨2,[.tmp 4],c9 mX (j9 (fF 9) (aM 10 FS 9) (iM 5 cG cG cG cG) (dN 5 10) [5] (gP [jA 11,xL 12 11,b7 13 .neq 12] 13 [jA 14,xL 15 14,aQ 15])) (dT [xF 16 5 2,xL 17 16,xN 18 17,bG 18] [cN 19,xL 20 19,xN 21 20,cY 22,xB 23 .neq 21 22,xM 24 23,dY 25 24 3,aT 26 24 25,dA 27 24 26,bF 28 24 6,dW 29 24 .neq 27 28,xW 30 24 29,xM 31 30,bY 32 31 2 3,aT 33 31 32,dA 34 31 33,bF 35 31 6,dW 36 31 .neq 34 35,xW 37 31 36] 37 [xI 4 2] (g9 [cY 38,aW 39] 0 c_46_l0) c_46_k1)⟩
def nT:AFn:=⟨3,[.cell 6 true 4,.tmp 7,.tmp 8],fB [xP,z7 4,xJ 5 2,iM 6 wY cG a9 wX,xC 7 a9,bX 8] (xQ [bQ 14 3,aI 15 5,xL 16 15,aN 17 tN 14 16,xM 13 17,cC 18 13,cD 19 13,iM 9 a9 a9 a9 a9,dN 9 18,xM 10 19] [9]) (gP [jA 20,xL 21 20,b7 22 .lss 21,xM 23 22,bY 24 23 0 5,aT 25 23 24,eO 26 23 .gtr 25 255,xW 27 23 26,xM 28 27,bF 29 28 10,eO 30 28 .neq 29 0,xW 31 28 30] 31 [xO 32 (.build wK [(0,1,kO)]),dN 6 32,xC 7 a9,bX 8]) (fR (xQ [xO 33 (.build wM [(0,1,H7),(1,1,(.c nX))]),gS 11 cG,bN 11 33] [11]) (xD [bQ 34 3,bJ 35 9,aY 36 11,jA 37,xL 38 37,xO 39 (yX .u32 38),B4 40 hZ 34 (.t 35) 36 (.t 39),xF 41 3 4,xL 42 41,xO 43 (.build [.Xt 1 [],.Xt 1 [],.Xt 1 [],.Xt 1 [],.Xt 1 [],.Xt 3 []] [(0,4,(.t 40)),(4,1,(.t 42))]),bQ 44 3,bJ 45 4,xO 46 (.build [.Xt 1 [],.Xt 1 [],.Xt 1 [],.Xt 1 [],.Xt 1 [],.Xt 3 [],.str [],.Xt 2 [],.Xt 2 [],.Xt 3 [],.Xt 3 [],.Xt 6 [],.Xt 7 [],.Xt 5 [],.Xt 1 [],.Xt 1 [],.Xt 1 [],.Xt 2 [],.Xt 1 []] [(0,6,(.t 43)),(6,9,(.t 44)),(15,4,(.t 45))]),fQ 47 46,xM 12 47]) (c9 [xF 48 7 3,xL 49 48,xM 50 12,xO 51 (.mkfunc (.func i6) [.t 50] []),xM 52 12,xO 53 (.mkfunc (.func jJ) [.t 52] []),dM 54 p5 [.t 49,.t 51,.t 53]] (oC [(1,6)] [⟨some 55,none,.mov (.t 12)⟩,⟨some 56,none,.tcall p6 [.t 55]⟩,⟨some 57,none,.mov (.t 12)⟩,⟨some 58,none,.nilchk (.t 57)⟩,⟨some 59,none,.faddr 0 (.t 58)⟩,⟨some 60,none,.faddr 4 (.t 59)⟩,⟨some 61,none,.load false 1 (.t 60)⟩,⟨some 62,none,.pcall w6 [.t 61]⟩,⟨none,none,.store 4 (.t 6) (.t 56)⟩,⟨some 7,none,.mov (.t 62)⟩,⟨some 8,none,.mov kO⟩] none) .ret))⟩
def cJ:ADFn:=⟨1,wT,.seq (xR [xO 1 (.box (.t 0)),xO 2 (.alloc rL)]) (.dfr [⟨some 3,none,.mkfunc (.func i7) [] [.t 2]⟩] 3 (.seq (xR [xA 4 9 1,xO 5 (.pcall tO [.t 4])]) (.seq (xR [xA 6 9 1,xO 7 (.pcall tP [.t 6])]) (.seq (xR [xA 8 9 1,xO 9 (.pcall tQ [.t 8])]) (.seq (xR [xA 10 9 1,xO 11 (.pcall tR [.t 10])]) (.seq (xR [xA 12 9 1,xO 13 (.pcall tS [.t 12])]) (.seq (xR [xO 14 (.build rL []),xS 4 2 14]) (.ret)))))))),i7,1,(some (4,1)),.seq (.seq (xR [xM 5 1,xO 6 (.eqs false false [] (.t 5) (.c (.niliface)))]) (.cond (.t 6) (.ret) (.skip))) (.seq (.seq (xR [xM 8 1,xO 9 (.tassert 225 true (.agg rL) (.t 8)),xM 7 9,xE 10 0 7,xE 11 1 7,xO 2 (.alloc rL),xS 4 2 10,xM 3 11]) (.seq (xR [xM 12 3]) (.cond (.t 12) (.seq (xR [xF 13 0 2,xA 14 4 13,xS 4 0 14]) (.ret)) (.skip)))) (xR [xM 15 1,⟨none,none,.panic (.t 15)⟩]))⟩
def c_74_l0:Xu:=bE 42 .lss 41 40 42 (fR (xQ [xM 43 41,dH 44 39 41,aY 45 44,qW 12 fE fE,xM 11 43,bN 12 45] [12]) (xD [aY 46 12,xM 47 9,xM 48 11,xX 49 3 47 48,bR 50 49,xL 51 50,xM 52 10,xM 53 11,bI 54 52 53,xL 55 54,fS 56 tT 46 51 55,xM 13 56]) (mZ [xM 57 13,b7 58 .neq 57] 58 (xM 59 13) (bG 59))) 60 .add 41 41 60
def c_74_k1:Xu:= .seq (l6 2 [aI 62 5,xL 63 62,b7 64 .lss 63,xM 65 64,dY 66 65 5,aT 67 65 66,eO 68 65 .gtr 67 255,xW 69 65 68,xM 61 69] 61 [xI 6 9] (mY [aI 71 5,xL 72 71,b7 73 .neq 72,xM 74 73,dB 75 74 (l7 9 3),fC 76 74 1,nZ 77 74 tU [.t 75,.t 76],iR 78 74 .neq 77 (kR 3),xV 79 74 78,xM 70 79] 70 [xI 6 11] (eI [bQ 81 3,aG 82,bR 83 5,aL 84 83,xL 85 84,fS 86 p7 81 82 85,bT 87 86,xM 80 87] 80 6 8))) (dS [bQ 88 3,bR 89 5,aY 90 89,aN 91 jK 88 90,bG 91])
def zL:AFn:=⟨3,[.tmp 6],fB AP (kG [bQ 15 3,aG 16,aN 17 lU 15 16,xM 14 17,cC 18 14,cD 19 14,dG 18,cA 19] (bP 20) 21 .neq 20 21 [bP 22,bG 22]) (xD [xF 23 5 3,xL 24 23,aG 25,xX 26 6 24 25,aI 27 26,xL 28 27,bQ 29 3,aG 30,aN 31 lW 29 30,xM 9 28,xM 10 31]) (fR (eI [jA 32,xL 33 32,xN 34 33,xM 35 9,xN 36 35,xB 37 .neq 34 36] 37 6 2) (iT (jA 38) 39 38 40 39 41 0 c_74_l0) c_74_k1)⟩
def JA:AFn:=⟨2,[.tmp 4],gA cR [l8,aG 6,aN 7 tV 5 6,b7 8 .geq 7,aQ 8]⟩
def c_77_l0:Xu:=bE 25 .lss 24 23 25 (c9 [xM 26 24,dH 27 22 24,aY 28 27,qW 6 fE fE,b6 26,bN 6 28] (xD [aY 29 6,cN 30,xL 31 30,aJ 32,dH 33 31 32,aY 34 33,xO 35 (.eqs true true [.i,.i] (.t 29) (.t 34))]) (IX 35 xH)) 36 .add 24 24 36
def c_77_k1:Xu:=nO 4
def zM:AFn:=⟨2,[.tmp 4],dT wP [aI 7 2,xL 8 7,dF 9,xL 10 9,xB 11 .neq 8 10,xM 12 11,bY 13 12 0 2,aT 14 12 13,dA 15 12 14,bY 16 12 0 3,aT 17 12 16,dA 18 12 17,dW 19 12 .neq 15 18,xW 20 12 19] 20 [cR] (iT (gT 21) 22 21 23 22 24 0 c_77_l0) c_77_k1⟩
def c_94_l0:Xu:=qX rM 14 0 1 LJ rO
def c_94_k1:Xu:=nO 4
def FE:AFn:=⟨2,[.tmp 4],dT [cR] rN 10 [cR] (g9 [eB] 0 c_94_l0) c_94_k1⟩
def zN:AFn:=⟨2,[.tmp 4],eN wP [bJ 5 2,bJ 6 3,aN 7 tW 5 6,cA 7,fD 9 8 2 2,dB 10 8 (l7 2 9),fD 11 8 2 3,dB 12 8 (l7 2 11),nZ 13 8 w3 [.t 10,.t 12],xV 14 8 13,aQ 14]⟩
def JB:AFn:=⟨1,HA,c9 [kV,qW 2 cG a9] (xD [aL 3 1,xL 4 3,iS 5,xL 6 5,aM 7 lX 6,xO 8 (.build [.int .i64 0,.Xt 1 []] [(0,1,(.t 4)),(1,1,(.t 7))]),bN 2 8]) .ret⟩
def c_99_l0:Xu:=bE 9 .lss 8 7 9 (bC wL (xR [cH 12,aJ 13,aM 14 lX 13,xO 15 (.bslice .imm 1 (List.replicate 1 kQ) [(0,(.t 14))]),kU 16 1 24 12 15,xM 3 16])) 17 .add 8 8 17
def c_99_k1:Xu:=yY 18 18
def FF:AFn:=⟨1,[.tmp 2],gR rQ [oA 3 1] j5 0 c_99_l0 c_99_k1⟩
def c_100_l0:Xu:=bE 29 .lss 28 27 29 (fR (xQ [xX 30 5 26 28,xA 31 5 30,cQ 13 iZ,xS 5 13 31] [13]) (eI [aL 32 13,xL 33 32,xM 34 11,xB 35 .leq 33 34] 35 10 14) (IY (aL 36 13) (xL 37 36) (xM 11 37))) 38 .add 28 28 38
def c_100_l1:Xu:=nM 53 .lss 52 51 53 2 3 (fR (xQ [xM 54 52,xX 55 5 50 52,xA 56 5 55,cQ 15 iZ,xM 14 54,xS 5 15 56] [15]) (kG [bQ 57 5,aG 58,aI 59 15,bJ 60 59,fS 61 FU 57 58 60,xM 16 61] (xM 62 16) 63 .neq 62 63 [xM 64 16,xM 10 64]) (eI [bL 65,xM 66 14,xO 67 (.slc 5 (.t 65) none (some (.t 66)) none),xO 68 (.mkfunc (.func i8) [] [.t 15]),aN 69 zQ 67 68] 69 10 7)) 70 .add 52 52 70
def c_100_k2:Xu:=dS [bQ 71 5,aG 72,aY 73 9,fS 74 tX 71 72 73,xM 10 74]
def c_100_k3:Xu:=fR (eI [cH 39,xM 40 11,xB 41 .leq 39 40,xM 42 41,bF 43 42 3,eO 44 42 .lss 43 1,xW 45 42 44,xM 46 45,bF 47 46 3,eO 48 46 .gtr 47 1073741824,xW 49 46 48] 49 10 14) (g9 [bL 50,xN 51 50,aW 52] 2 c_100_l1) c_100_k2
def sD:AFn:=⟨5,[.tmp 10],c9 [rS 5,xJ 9 4,aW 10] (eI [bL 17,xN 18 17,xF 19 5 5,xL 20 19,aG 21,xX 22 6 20 21,xF 23 5 22,xL 24 23,xB 25 .gtr 18 24] 25 10 12) (gQ [aW 11] [bL 26,xN 27 26,aW 28] 0 c_100_l0 c_100_k3)⟩
def c_101_l0:Xu:=bE 18 .lss 17 16 18 (l5 [xM 19 17,bI 20 15 17,xL 21 20,b6 19,bG 21] [cY 22,xN 23 22,xF 24 3 2,xL 25 24,aJ 26,xX 27 3 25 26,bR 28 27,xL 29 28,xB 30 .neq 23 29] 30 [xI 4 2]) 31 .add 17 17 31
def c_101_l1:Xu:=nM 35 .lss 34 33 35 2 3 (c9 [xM 36 34,bI 37 32 34,xL 38 37,dG 36,cA 38] (xD [bP 39,xN 40 39,b7 41 .gtr 40,xM 42 41,fC 43 42 8,nZ 44 42 tY [.t 43],fD 45 42 3 2,eP 46 42 45,fC 47 42 7,dB 48 42 (s8 3 none 46 (.t 47)),fD 49 42 1 48,eP 50 42 49,nZ 51 42 aU [.t 50],iR 52 42 .gtr 44 (.t 51),xV 53 42 52]) (IX 53 (eH (xI 4 9)))) 54 .add 34 34 54
def c_101_k2:Xu:=eH bU
def c_101_k3:Xu:= .seq (g9 [aG 32,xN 33 32,aW 34] 2 c_101_l1) c_101_k2
def sE:AFn:=⟨2,[.tmp 4],dT [kF,bU] [aG 9,xN 10 9,xF 11 3 2,xL 12 11,xN 13 12,xB 14 .neq 10 13] 14 [xI 4 2] (g9 [aG 15,xN 16 15,aW 17] 0 c_101_l0) c_101_k3⟩
def sF:AFn:=⟨2,[.cell 4 true 4,.tmp 5],eG [kF,iM 4 a9 a9 a9 a9,eB] (xQ [fF 10,aG 11,aN 12 lY 10 11,xM 9 12,cC 13 9,cD 14 9,xE 15 2 9,iM 6 a9 a9 a9 a9,dN 6 13,dG 14,cA 15] [6]) [bJ 16 6,bP 17,dN 4 16,b6 17]⟩
def lB:AFn:=⟨4,[.cell 8 true 4],c9 [rS 4,z7 5,xJ 6 2,iM 8 a9 a9 a9 a9] (xQ [bJ 13 5,dM 14 cV [.t 13],iM 9 a9 a9 a9 a9,dN 9 14] [9]) (eG [bQ 15 4,aY 16 6,aN 17 fZ 15 16,xM 10 17] (bC [bJ 19 9,aY 20 6,dM 21 i9 [.t 19,.t 20],xM 18 21,cC 22 18,cD 23 18,xM 11 22,xM 12 23] (eM [xM 24 12,xM 25 24,fC 26 25 10,iR 27 25 .gtr 26 dU,xV 28 25 27] 28 (xD [xM 29 11,aI 30 6,xL 31 30,cH 32,xM 33 10,aM 34 aU 33,xB 35 .and 32 34,bI 36 29 31,xS 1 36 35]))) [bJ 37 9,dN 8 37])⟩
def BD:AFn:=⟨3,[],fR (eM [aG 6,xO 7 (.eqs false false [] (.t 6) (.c (.nilfunc)))] 7 (xR [xC 1 (.func (.func JG) [] [])])) (eM [bL 8,xO 9 (.eqs false false [] (.t 8) (.c (.nilfunc)))] 9 (xR [xC 2 (.func (.func JH) [] [])])) (xR [aG 10,bL 11,xO 12 (.build [.nilfunc,.nilfunc] [(0,1,(.t 10)),(1,1,(.t 11))]),aF 13,dM 14 iA [.t 12,.t 13]])⟩
def lC:AFn:=⟨2,[.tmp 4],fB [cR] (xD [aF 9,b8 10 9,xF 11 6 10,bQ 12 11,aG 13,aF 14,b8 15 14,aL 16 15,aL 17 16,bJ 18 17,fS 19 p8 12 13 18,b6 19]) (oC [(3,18),(9,18),(12,18),(14,18)] [⟨some 21,none,.mov (.t 0)⟩,⟨some 22,none,.nilchk (.t 21)⟩,⟨some 23,none,.faddr 6 (.t 22)⟩,⟨some 24,none,.load true 9 (.t 23)⟩,⟨some 25,none,.mov (.t 1)⟩,⟨some 26,none,.mov (.t 0)⟩,⟨some 27,none,.nilchk (.t 26)⟩,⟨some 28,none,.faddr 15 (.t 27)⟩,⟨some 29,none,.faddr 0 (.t 28)⟩,⟨some 30,none,.load false 1 (.t 29)⟩,⟨some 31,none,.mov (.t 1)⟩,⟨some 32,none,.iaddr 1 none (.t 30) (.t 31)⟩,⟨some 33,none,.load false 1 (.t 32)⟩,⟨some 34,none,.mov (.t 5)⟩,⟨some 35,none,.pcall lZ [.t 24,.t 25,.t 33,.t 34]⟩,⟨some 20,none,.mov (.t 35)⟩,⟨some 36,none,.ext 0 (.t 20)⟩,⟨some 37,none,.ext 1 (.t 20)⟩,⟨some 6,none,.alloc AJ⟩,⟨none,none,.store 5 (.t 6) (.t 36)⟩,⟨some 7,none,.mov (.t 37)⟩] (some [6])) (fB [aF 38,b8 39 38,xF 40 15 39,bR 41 40,xL 42 41,aG 43,dH 44 42 43,aY 45 44,qW 8 cG a9,bN 8 45] (eM [cZ 46] 46 (xR [aI 47 6,bR 48 47,aY 49 48,bN 8 49])) (xD [aF 51,aF 52,aF 53,b8 54 53,xF 55 6 54,bQ 56 55,aY 57 8,aF 58,b8 59 58,aL 60 59,aL 61 60,bJ 62 61,aF 63,b8 64 63,aL 65 64,xF 66 4 65,xL 67 66,B4 68 p9 56 (.t 57) 62 (.t 67),xM 50 68,cC 69 50,cD 70 50,b8 71 51,aL 72 71,aL 73 72,dN 73 69,b8 74 52,aL 75 74,xF 76 4 75,xS 1 76 70]) (F0 [aF 77,aF 78,b8 79 78,aL 80 79,xF 81 5 80,xL 82 81,aG 83,aL 84 6,xL 85 84,aL 86 8,xL 87 86,xO 88 (.build GY [(0,1,(.t 83)),(1,1,(.t 85)),(2,1,(.t 87))]),xO 89 (.bslice .imm 3 (List.replicate 1 GY) [(0,(.t 88))]),kU 90 3 24 82 89,b8 91 77,aL 92 91,xF 93 5 92,xS 1 93 90] (yZ (cZ 94) 94)))⟩
def BE:AFn:=⟨2,[.tmp 4],c9 [cR] (xD [aG 5,HD,b8 7 6,xF 8 6 7,bQ 9 8,xO 10 (.build rK [(0,9,(.t 9))]),aF 11,b8 12 11,aL 13 12,aL 14 13,bJ 15 14,B4 16 pA 5 (.t 10) 15 (.c a9),n7 17 .eql 16 (EZ 1),aQ 17]) .ret⟩
def gU:AFn:=⟨1,wT,fB [iM 2 wY cG a9 wX] (oD [aF 3,n6 4 pB 3 2,n7 5 .eql 4 (EZ 1),aJ 6,bF 7 6 0,dE 8 6 (HB 7),bY 9 6 6 8,dE 10 6 (l7 9 9),bF 11 6 0,dE 12 6 (HB 11),bY 13 6 0 12,bY 14 6 0 13,dE 15 6 (l7 4 14),s9 16 6 tZ [.t 10,.t 15],eO 17 6 .gtr 16 512,xW 18 6 17] 18 (dS [aF 19,b8 20 19,aL 21 20,xF 22 5 21,xL 23 22,xO 24 (.build wK [(0,1,kO),(3,1,(.t 23))]),dN 2 24])) (xD [aF 25,n6 26 pB 25 1,xO 27 (yX .i64 26),aF 28,b8 29 28,xF 30 6 29,bQ 31 30,aF 32,b8 33 32,aL 34 33,aL 35 34,bJ 36 35,aN 37 mA 31 36,aF 38,b8 39 38,aL 40 39,xF 41 5 40,xL 42 41,xO 43 (.build wK [(1,1,(.t 27)),(2,1,(.t 37)),(3,1,(.t 42))]),dN 2 43]) .ret⟩
def gV:AFn:=⟨1,[],bC [kV] (kT [aL 2 1,xL 3 2,aM 4 pC 3,n6 5 bM 4 6,HC 6 aR 5 dU dU dU] [iS 7,xL 8 7,xN 9 8,xK 10 .gtr 9 8,n6 11 bM 10 12,HC 12 aR 11 dU (kR 1) dU] (kT [xF 13 3 1,xL 14 13,xN 15 14,xK 16 .gtr 15 4,n6 17 bM 16 12,HC 18 aR 17 dU (kR 3) dU] [xF 19 4 1,xL 20 19,xN 21 20,xK 22 .gtr 21 16,n6 23 bM 22 12,HC 24 aR 23 dU (kR 4) dU] (xR [xF 25 5 1,xL 26 25,xN 27 26,xK 28 .gtr 27 12,n6 29 bM 28 12,HC 30 aR 29 dU (kR 5) dU])))⟩
def c_131_l0:Xu:=bE 12 .lss 11 10 12 (rR [xM 13 11,dH 14 9 11,aY 15 14,qW 4 (.str []) fP,xM 3 13,bN 4 15] [4] (kT [aY 16 4,aM 17 g0 16,cH 18,nP 19 aR 17 1 18 dU] [aL 20 4,xL 21 20,n7 22 .eql 21 (.str [109,101,116,97]),n6 23 bM 22 6,cH 24,nP 25 aR 23 1 24 dU] (xR [bL 26,cH 27,aN 28 iB 26 27,n6 29 bM 28 7,cH 30,nP 31 aR 29 1 30 dU]))) 32 .add 11 11 32
def BF:AFn:=⟨1,[],kT [kV] [iS 5,xL 6 5,B1 7 pD 6 (.c (.func (.func mB) [] [])),dX 7] (iT (iS 8) 9 8 10 9 11 0 c_131_l0)⟩
def c_132_l0:Xu:=bE 20 .lss 19 18 20 (rR [xM 21 19,dH 22 17 19,aY 23 22,gS 4 (.str []),xM 3 21,bN 4 23] [4] (kT [aL 24 4,xL 25 24,aM 26 pC 25,n6 27 bM 26 6,cH 28,nP 29 aR 27 2 28 dU] [aI 30 4,xL 31 30,aM 32 u5 31,n6 33 bM 32 10,cH 34,nP 35 aR 33 2 34 dU] (xR [bL 36,cH 37,aN 38 iB 36 37,n6 39 bM 38 7,cH 40,nP 41 aR 39 2 40 dU]))) 42 .add 19 19 42
def c_132_l1:Xu:=Fy (xK 48 .lss 47 3) 48 2 3 (fR (xQ [xM 49 47,xO 50 (.idxa true 3 2 (.t 46) (.t 47)),gS 6 (.str []),b6 49,bN 6 50] [6]) (xD [aJ 51,bR 52 1,xL 53 52,xN 54 53,xB 55 .geq 51 54,xM 56 55,bY 57 56 2 1,aT 58 56 57,bF 59 56 5,dE 60 56 (s8 2 none 58 (.t 59)),dE 61 56 (l7 2 60),dE 62 56 (l7 2 6),dE 63 56 (.eqs true true [.s,.i] (.t 61) (.t 62)),xW 64 56 63,n6 65 bM 64 5,aJ 66]) (xR [nP 67 aR 65 2 66 dU])) 68 .add 47 47 68
def c_132_k2:Xu:=g9 [xO 43 (.build wQ [(0,1,(.c (.str [105,110]))),(1,1,(.c (.int .i64 8)))]),xO 44 (.build wQ [(0,1,(.c (.str [111,117,116]))),(1,1,(.c (.int .i64 8)))]),xO 45 (.build wQ [(0,1,(.c (.str [100,114,111,112]))),(1,1,H8)]),xO 46 (.build [.str [],.int .i64 0,.str [],.int .i64 0,.str [],.int .i64 0] [(0,2,(.t 43)),(2,2,(.t 44)),(4,2,(.t 45))]),aW 47] 2 c_132_l1
def sG:AFn:=⟨1,[],kT [kV] [bR 7 1,xL 8 7,xN 9 8,xK 10 .gtr 9 12,n6 11 bM 10 12,HC 12 aR 11 (kR 2) dU dU] (gQ [bR 13 1,xL 14 13,B1 15 pE 14 (.c (.func (.func mD) [] [])),dX 15] [bR 16 1,xL 17 16,xN 18 17,aW 19] 0 c_132_l0 c_132_k2)⟩
def c_133_l0:Xu:=bE 18 .lss 17 16 18 (rR [xM 19 17,xX 20 3 15 17,xA 21 3 20,cQ 4 [.str [],cG,cG],xM 3 19,xS 3 4 21] [4] (bC [xA 22 3 4,aM 23 u6 22,cH 24,nP 25 aR 23 3 24 dU] (xR [bL 26,cH 27,aN 28 iB 26 27,n6 29 bM 28 7,cH 30,nP 31 aR 29 3 30 dU]))) 32 .add 17 17 32
def c_133_l1:Xu:=nM 40 .lss 39 38 40 2 3 (bC [xM 41 39,b6 41] (kT [bQ 43 1,aJ 44,aN 45 pH 43 44,xM 42 45,cC 46 42,cD 47 42,bG 46,dG 47] [cZ 48,aJ 49,cY 50,nP 51 aR 48 4 49 (.t 50)] (xR [bL 52,aJ 53,aN 54 iB 52 53,n6 55 bM 54 7,aJ 56,nP 57 aR 55 4 56 dU]))) 58 .add 39 39 58
def c_133_l2:Xu:=nM 66 .lss 65 64 66 4 5 (bC [xM 67 65,cA 67] (kT [bQ 69 1,bP 70,aN 71 lU 69 70,xM 68 71,cC 72 68,cD 73 68,xM 9 72,xM 10 73] [xM 74 10,bP 75,xM 76 9,nP 77 aR 74 5 75 (.t 76)] (xR [bL 78,bP 79,aN 80 iB 78 79,n6 81 bM 80 7,bP 82,nP 83 aR 81 5 82 dU]))) 84 .add 65 65 84
def c_133_k3:Xu:=bC [xF 59 5 1,xL 60 59,B1 61 pI 60 (.c (.func (.func mG) [] [])),dX 61] (iT (xF 62 5 1) 63 62 64 63 65 4 c_133_l2)
def c_133_k4:Xu:=gQ [xF 33 4 1,xL 34 33,B1 35 pG 34 (.c (.func (.func mF) [] [])),dX 35] [xF 36 4 1,xL 37 36,xN 38 37,aW 39] 2 c_133_l1 c_133_k3
def BG:AFn:=⟨1,[],gR [kV] [xF 11 3 1,xL 12 11,B1 13 pF 12 (.c (.func (.func mE) [] [])),dX 13] [xF 14 3 1,xL 15 14,xN 16 15,aW 17] 0 c_133_l0 c_133_k4⟩
def lD:AFn:=⟨1,[],kT [kV] [bQ 7 1,aM 8 pJ 7,bG 8,cC 9 6,cD 10 6,xE 11 2 6,dX 9,xM 3 10,aQ 11] (kT [xM 12 4,bL 13,cH 14,nP 15 aR 12 6 13 (.t 14)] [bQ 17 1,aM 18 u9 17,xM 16 18,cC 19 16,cD 20 16,b6 19,aQ 20] (kT [xM 21 4,aJ 22,nP 23 aR 21 7 22 dU] [bQ 25 1,aM 26 pK 25,xM 24 26,cC 27 24,cD 28 24,b6 27,aQ 28] (IY (xM 29 4) (aJ 30) (nP 31 aR 29 8 30 dU))))⟩
def dO:AFn:=⟨2,fO,dT [kF,bU,eB] [aG 7,b7 8 .lss 7,bP 9,bF 10 9 1,bY 11 9 5 2,aT 12 9 11,dA 13 9 12,dW 14 9 .geq 10 13,xW 15 9 14] 15 AW (xQ [xF 16 5 2,xL 17 16,aG 18,xX 19 6 17 18,xA 20 6 19,cQ 6 LU,xS 6 6 20] [6]) (.seq (l6 0 [aL 22 6,xL 23 22,aM 24 eD 23,bT 25 24,xM 21 25] 21 [iL 4,xI 5 6] (mY [aI 27 6,xL 28 27,xN 29 28,xK 30 .gtr 29 6,xM 31 30,bY 32 31 2 6,aT 33 31 32,dA 34 31 33,eO 35 31 .gtr 34 16,xW 36 31 35,xM 26 36] 26 [iL 4,xI 5 12] (kH [xF 38 5 6,xL 39 38,d8 40 .lss 39,xM 41 40,bY 42 41 5 6,aT 43 41 42,eO 44 41 .gtr 43 256,xW 45 41 44,xM 37 45] 37 (iL 4) 5 9))) (fR (kG [fF 47,xA 48 6 6,aN 49 uB 47 48,xM 46 49,cC 50 46,cD 51 46,aQ 50,b6 51] (aJ 52) 53 .neq 52 53 [xM 54 4,aJ 55,aQ 54,b6 55]) (kG [fF 56,xA 57 6 6,aN 58 uC 56 57,b6 58] (aJ 59) 60 .neq 59 60 [aJ 61,xI 4 (-3),b6 61]) (o9 bU eB)))⟩
def c_140_l0:Xu:=bE 20 .lss 19 18 20 (j9 (xX 21 3 17 19) (xA 22 3 21) (cQ 7 wV) (xS 3 7 22) [7] (xR [aJ 23,fF 24,aL 25 7,aY 26 25,aN 27 fZ 24 26,xO 28 (.bslice .imm 1 (List.replicate 1 kP) [(0,(.t 27))]),kU 29 1 8 23 28,b6 29])) 30 .add 19 19 30
def c_140_k1:Xu:=yZ (aJ 31) 31
def BH:AFn:=⟨2,[.tmp 4],c9 [kF,xC 4 a9] (oE LX 11 (xC 4 a9)) (gQ [oA 5 1] LO 0 c_140_l0 c_140_k1)⟩
def eT:AFn:=⟨3,[.tmp 6],fB [xP,iN] (l6 0 [cN 10,xL 11 10,bL 12,aN 13 g6 11 12,bT 14 13,xM 15 14,dY 16 15 3,aT 17 15 16,bF 18 15 2,s9 19 15 g6 [.t 17,.t 18],xY 20 15 19,xW 21 15 20,xM 9 21] 9 [xI 6 9] (mY [cN 23,xL 24 23,dF 25,xL 26 25,xB 27 .andNot 24 26,n7 28 .neq 27 fE,xM 22 28] 22 [xI 6 5] (oD [aG 30,d8 31 .eql 30,xM 32 31,fD 33 32 1 3,eP 34 32 33,fC 35 32 2,nZ 36 32 aU [.t 35],iR 37 32 .neq 34 (.t 36),xV 38 32 37,xM 29 38] 29 (eH (xI 6 11))))) (eM [aG 39,xK 40 .eql 39 2] 40 (PI [dF 42,xL 43 42,bL 44,aN 45 uD 43 44,xM 41 45,cC 46 41,cD 47 41,dG 46,cA 47] (bP 48) (bT 49 48) 49 [xI 6 11])) (eH iN)⟩
def c_142_l0:Xu:=bE 20 .lss 19 18 20 (j9 (xX 21 3 17 19) (xA 22 3 21) (cQ 7 wV) (xS 3 7 22) [7] (l6 2 [bR 24 7,xL 25 24,xK 26 .eql 25 3,xM 23 26] 23 [xI 4 3] (eM [bR 28 7,xL 29 28,xK 30 .eql 29 2,xM 27 30] 27 (xR [xI 5 2])))) 31 .add 19 19 31
def c_142_k1:Xu:=yZ (aJ 32) 32
def sH:AFn:=⟨2,[.tmp 4],c9 [kF,bU] (oE LX 11 bU) (gQ [xI 5 1] LO 0 c_142_l0 c_142_k1)⟩
def c_143_l0:Xu:=bE 21 .lss 20 19 21 (l5 M7 [bP 24,bL 25,xB 26 .eql 24 25] 26 [wZ 6]) 27 .add 20 20 27
def c_143_k1:Xu:=eH (bX 6)
def sI:AFn:=⟨3,[.tmp 6],dT wW [bQ 9 3,aG 10,aN 11 pL 9 10,bT 12 11] 12 [bX 6] (g9 [xF 13 5 3,xL 14 13,aG 15,xX 16 6 14 15,bR 17 16,xL 18 17,xN 19 18,aW 20] 0 c_143_l0) c_143_k1⟩
def c_144_l0:Xu:=bE 36 .lss 35 34 36 (l5 [xM 37 35,bI 38 33 35,xL 39 38,bG 37,dG 39] [cZ 40,aJ 41,cY 42,dH 43 41 42,aI 44 43,xL 45 44,aN 46 g6 40 45,bT 47 46] 47 [xI 4 9]) 48 .add 35 35 48
def c_144_k1:Xu:=eH bU
def lE:AFn:=⟨2,[.tmp 4],c9 mX (eI [cN 8,xL 9 8,b7 10 .lss 9,xM 11 10,bY 12 11 0 3,aT 13 11 12,bY 14 11 4 2,aT 15 11 14,dA 16 11 15,dW 17 11 .geq 13 16,xW 18 11 17] 18 4 8) (dT [xF 19 4 2,xL 20 19,cN 21,xL 22 21,xX 23 3 20 22,aI 24 23,xL 25 24,b6 25] [dF 26,xL 27 26,xN 28 27,aJ 29,xN 30 29,xB 31 .neq 28 30] 31 [xI 4 2] (iT (dF 32) 33 32 34 33 35 0 c_144_l0) c_144_k1)⟩
def c_145_l0:Xu:=bE 9 .lss 8 7 9 (l5 AR [aG 11,aF 12,aJ 13,xX 14 5 12 13,xA 15 5 14,xT 16 11 [.t 15]] 16 AS) 18 .add 8 8 18
def c_145_k1:Xu:=eH (iL 4)
def BI:AFn:=⟨2,[.tmp 4],gQ [bU] j5 0 c_145_l0 c_145_k1⟩
def c_165_l0:Xu:=qX [aJ 20,gT 21,xL 22 21,xN 23 22,xB 24 .lss 20 23] 24 0 1 (oD [gT 27,xL 28 27,aJ 29,dH 30 28 29,aY 31 30,cN 32,xL 33 32,aJ 34,dH 35 33 34,aY 36 35,xO 37 (.eqs true true [.i,.i] (.t 31) (.t 36))] 37 xH) M4
def c_165_k1:Xu:=nO 4
def oF:AFn:=⟨2,[.tmp 4],dT wP [gT 6,xL 7 6,xN 8 7,cN 9,xL 10 9,xN 11 10,xB 12 .neq 8 11,xM 13 12,dY 14 13 2,aT 15 13 14,dY 16 13 3,aT 17 13 16,dW 18 13 .neq 15 17,xW 19 13 18] 19 [cR] (g9 [eB] 0 c_165_l0) c_165_k1⟩
def BJ:AFn:=⟨2,[.tmp 3],eN AZ [aI 4 2,bJ 5 4,iS 6,bJ 7 6,aN 8 zR 5 7,bP 3]⟩
def sJ:AFn:=⟨3,[.tmp 6],eG AP (eI [bQ 7 3,aG 8,jA 9,xL 10 9,fS 11 p7 7 8 10,bT 12 11] 12 6 8) [bQ 13 3,aY 14 5,aN 15 jK 13 14,bG 15]⟩
def c_168_l0:Xu:=qX [xM 12 4,aF 13,xN 14 13,xB 15 .lss 12 14] 15 0 1 (xR [cH 18,aF 19,xM 20 4,bI 21 19 20,xL 22 21,xO 23 (.minmax true [.t 18,.t 22]),xM 3 23]) (yW (xM 16 4) 17 .add 16 (aQ 17))
def c_168_k1:Xu:=yY 24 24
def BK:AFn:=⟨1,[.tmp 2],c9 [fK 2] (eM [l8,xN 6 5,d8 7 .lss 6] 7 (xR [xO 8 (.mkiface 9 (.c (.str [115,108,105,99,101,115,46,77,97,120,58,32,101,109,112,116,121,32,108,105,115,116]))),⟨none,none,.panic (.t 8)⟩])) (gQ [aF 9,xO 10 (s8 1 none 9 dU),xL 11 10,xM 3 11] [xI 4 1] 0 c_168_l0 c_168_k1)⟩
def sK:AFn:=⟨1,[.tmp 2],eG [fK 2] (oE [aF 3,xO 4 (.bslice .imm 1 (List.replicate 1 kP) [(0,(.t 3))]),aM 5 eE 4,bT 6 5] 6 (fK 2)) [aF 7,xO 8 (.bin .sub (kR 32) (.t 7)),xO 9 (.bin .shr (.c (EZ 4294967295)) (.t 8)),dX 9]⟩
def c_170_l0:Xu:= .seq (Fw [xM 26 11,b7 27 .geq 26] 27 0) (.block 1 (c9 [xM 28 10,xM 29 11,xO 30 (.bslice .imm 1 (List.replicate 1 kP) [(0,(.t 29))]),kU 31 1 8 28 30,xM 10 31] (F0 [fF 32,xF 33 6 2,xL 34 33,xM 35 11,xX 36 7 34 35,xA 37 7 36,bJ 38 7,xM 39 9,dM 40 pN [.t 32,.t 37,.t 38,.t 39],xM 12 40] (gP [xM 41 12,b7 42 .neq 41] 42 [fF 43,dM 44 g7 [.t 43],xM 45 10,xM 46 12,dN 4 44,b6 45,bG 46])) (xD [xF 47 6 2,xL 48 47,xM 49 11,xX 50 7 48 49,xA 51 7 50,bJ 52 7,aN 53 uG 51 52,xM 11 53])))
def c_170_k1:Xu:= .seq (gP [xM 54 11,xK 55 .eql 54 (-2)] 55 [fF 56,dM 57 g7 [.t 56],xM 58 10,dN 4 57,b6 58,xI 6 15]) (c9 [xM 60 9,dM 61 mH [.t 60],xM 59 61,cC 62 59,cD 63 59,xM 13 62,xM 14 63] (gP [xM 64 14,b7 65 .neq 64] 65 [fF 66,dM 67 g7 [.t 66],xM 68 10,xM 69 14,dN 4 67,b6 68,bG 69]) (eN [xM 70 13,xF 71 3 7,xS 1 71 70] [bJ 72 7,xM 73 10,dN 4 72,b6 73,iN]))
def gW:AFn:=⟨2,[.cell 4 true 4,.tmp 5,.tmp 6],bC [kF,iM 4 a9 a9 a9 a9,xC 5 a9,iN] (c9 [fF 15,dM 16 g7 [.t 15],iM 7 a9 a9 a9 a9,dN 7 16] (kG [fF 17,aG 18,aN 19 uF 17 18,cA 19] (bP 20) 21 .neq 20 21 [bJ 22 7,bP 23,dN 4 22,xC 5 a9,bG 23]) (kT [aG 24,dM 25 pM [.t 24],xM 9 25] [oA 10 1] (c9 [aW 11] (Fu 0 c_170_l0) c_170_k1)))⟩
def c_171_l0:Xu:=bE 23 .lss 22 21 23 (bC [bI 24 20 22,xL 25 24,b6 25] (oC [(1,4),(1,5)] [⟨some 26,none,.faddr 1 (.t 3)⟩,⟨some 27,none,.load false 1 (.t 26)⟩,⟨some 28,none,.mov (.t 5)⟩,⟨some 29,none,.bslice .imm 1 (List.replicate 1 kQ) [(0,(.t 28))]⟩,⟨some 30,none,.pcallr iC [.t 29]⟩,⟨some 31,none,.bslice .row 1 (List.replicate 1 kQ) [(0,(.t 30))]⟩,⟨some 32,none,.append .row 1 24 (.t 27) (.t 31)⟩,⟨some 33,none,.faddr 1 (.t 3)⟩,⟨none,none,.store 1 (.t 33) (.t 32)⟩] none)) 34 .add 22 22 34
def c_171_k1:Xu:=o9 (bJ 35 3) (dN 2 35)
def gX:AFn:=⟨1,wT,fB M0 (oC [(3,5),(3,9),(7,9),(1,13),(3,13),(5,13),(7,13),(9,13),(11,13)] [⟨some 6,none,.faddr 0 (.t 1)⟩,⟨some 7,none,.load false 1 (.t 6)⟩,⟨some 8,none,.bslice .imm 1 (List.replicate 1 kQ) [(0,(.t 7))]⟩,⟨some 9,none,.pcallr jL [.t 8]⟩,⟨some 10,none,.faddr 2 (.t 1)⟩,⟨some 11,none,.load false 1 (.t 10)⟩,⟨some 12,none,.bslice .imm 1 (List.replicate 1 kQ) [(0,(.t 11))]⟩,⟨some 13,none,.pcallr iC [.t 12]⟩,⟨some 14,none,.faddr 3 (.t 1)⟩,⟨some 15,none,.load false 1 (.t 14)⟩,⟨some 16,none,.bslice .imm 1 (List.replicate 1 kQ) [(0,(.t 15))]⟩,⟨some 17,none,.pcall pO [.t 16]⟩,⟨some 18,none,.build AK [(0,1,(.t 9)),(2,1,(.t 13)),(3,1,(.t 17))]⟩,⟨some 3,none,.alloc AK⟩,⟨none,none,.store 4 (.t 3) (.t 18)⟩] none) (iT (iS 19) 20 19 21 20 22 0 c_171_l0) c_171_k1⟩
def oG:AFn:=⟨2,[.tmp 4],fB mX (xD [fF 6,cN 7,xL 8 7,aN 9 uI 6 8,dF 10,xL 11 10,aN 12 uH 9 11,xO 13 (.fld false 1 1 (.t 12)),b6 13]) (oE [aJ 14,aM 15 aU 14,n7 16 .eql 15 fE] 16 bU) (yZ (aJ 17) 17)⟩
def dP:AFn:=⟨2,fO,c9 [fQ 2 0,fQ 3 1,xC 4 a9,bX 5] (eM [aY 7 3,dF 8,xL 9 8,xO 10 (.build wM [(0,1,H7),(1,1,(.t 9))]),xO 11 (.eqs false true [.i,.i] (.t 7) (.t 10))] 11 (z8 [bR 12 2,xL 13 12,bR 14 2,xL 15 14,dF 16,xL 17 16,aN 18 pP 15 17,aQ 13,b6 18])) (eN [aI 19 2,xL 20 19,cN 21,xL 22 21,dM 23 jM [.t 20,.t 22],bG 23] [cY 24,gT 25,xL 26 25,cN 27,xL 28 27,aN 29 uJ 26 28,xM 30 29,fC 31 30 6,fD 32 30 1 3,eP 33 30 32,nZ 34 30 pP [.t 31,.t 33],xV 35 30 34,aQ 24,b6 35])⟩
def c_176_l0:Xu:=bE 9 .lss 8 7 9 (j9 (xX 10 5 6 8) (xA 11 5 10) (cQ 5 GZ) (xS 5 5 11) [5] (oC [(0,4)] [⟨some 12,none,.load true 2 (.t 2)⟩,⟨some 13,none,.load true 5 (.t 5)⟩,⟨some 14,none,.pcall uK [.t 13]⟩,⟨some 15,none,.load true 2 (.t 2)⟩,⟨some 16,none,.tinvoke [(413,qO),(414,qP),(415,vZ),(417,K7)] (.t 14) [.t 15]⟩,⟨some 17,none,.tcall iA [.t 12,.t 16]⟩] none)) 18 .add 8 8 18
def oH:AFn:=⟨2,[],bC [fQ 2 0] (g9 [aG 6,xN 7 6,aW 8] 0 c_176_l0)⟩
def c_177_l0:Xu:=bE 15 .lss 14 13 15 (bC [xM 16 14,bI 17 12 14,xL 18 17,cA 16,xM 9 18] (xD [cZ 19,bJ 20 5,xF 21 5 3,xL 22 21,aG 23,xX 24 6 22 23,aI 25 24,xL 26 25,bP 27,xX 28 3 26 27,aL 29 28,aY 30 29,aN 31 jN 20 30,xM 32 9,aM 33 aU 32,xB 34 .and 31 33,xO 35 (.bslice .imm 1 (List.replicate 1 rP) [(0,(.t 34))]),kU 36 1 4 19 35,dG 36])) 37 .add 14 14 37
def c_177_k1:Xu:=o9 (cZ 38) (bG 38)
def sL:AFn:=⟨3,[.tmp 6],gR [xP,xJ 5 2,xC 6 a9] [oA 7 1] [bQ 10 3,aG 11,aN 12 lW 10 11,xN 13 12,aW 14] 0 c_177_l0 c_177_k1⟩
def sN:AFn:=⟨4,[.cell 8 true 5,.tmp 9],dT [fQ 4 0,fQ 5 1,fQ 6 2,fQ 7 3,cQ 8 iZ,bX 9] [xL 13 5,b7 14 .lss 13,xM 15 14,aT 16 15 5,bY 17 15 5 4,aT 18 15 17,dA 19 15 18,dW 20 15 .geq 16 19,xW 21 15 20] 21 [xO 22 (.build AJ []),xS 5 8 22,bX 9] (xQ [xO 23 (.mkfunc (.func cF) [] [.t 7]),cQ 10 [.nilfunc],xS 1 10 23] [10]) (rR [xL 25 6,xO 26 (.mkfunc (.func mI) [] [.t 10,.t 6,.t 4,.t 5]),dM 27 jO [.t 25,.t 26],xM 24 27,cC 28 24,cD 29 24,cQ 11 iZ,xS 5 11 28,xM 12 29] [11] (dS [xA 30 5 11,aM 31 pR 30,xM 32 12,xS 5 8 31,xM 9 32]))⟩
def c_179_l0:Xu:=bE 68 .lss 67 66 68 (j9 (xX 69 7 65 67) (xA 70 7 69) (cQ 15 LY) (xS 7 15 70) [15] (c9 [xC 16 (.func (.func pT) [] [])] (xU [aL 71 15,xL 72 71] 2 (j6 [xK 74 .eql 72 2,xM 73 74] 73 (xR [xC 16 (.func (.func pU) [] [])]) (j6 [xK 76 .eql 72 3,xM 75 76] 75 (xR [xC 16 (.func (.func pV) [] [])]) (j6 [xK 78 .eql 72 4,xM 77 78] 77 (xR [xC 16 (.func (.func pW) [] [])]) (eM [xK 80 .eql 72 5,xM 79 80] 79 (xR [xC 16 (.func (.func pX) [] [])])))))) (xR [xM 81 16,xM 82 10,xA 83 7 15,xO 84 (.tcallv (.t 81) [.t 82,.t 83])]))) 85 .add 67 67 85
def c_179_k1:Xu:= .seq (oC [(7,8)] [⟨some 86,none,.mov (.t 10)⟩,⟨some 87,none,.nilchk (.t 86)⟩,⟨some 88,none,.faddr 11 (.t 87)⟩,⟨some 89,none,.load true 4 (.t 88)⟩,⟨some 90,none,.mov (.t 10)⟩,⟨some 91,none,.nilchk (.t 90)⟩,⟨some 92,none,.faddr 15 (.t 91)⟩,⟨some 93,none,.load false 1 (.t 92)⟩,⟨none,none,.store 4 (.t 8) (.t 89)⟩,⟨some 9,none,.mov (.t 93)⟩] none) .ret
def jD:AFn:=⟨4,[.cell 8 true 4,.tmp 9],bC [rS 4,z7 5,xJ 6 2,iM 8 a9 a9 a9 a9,xC 9 a9] (fB [bJ 17 6,aM 18 cV 17,cH 19,aM 20 pS 19,xO 21 (.build [.str [],.Xt 2 [],.Xt 2 [],.Xt 3 [],.Xt 3 [],.Xt 6 [],.Xt 7 [],.Xt 5 [],.Xt 1 [],.Xt 2 [],.Xt 1 [],.Xt 1 [],.Xt 1 [],.Xt 1 [],.Xt 1 [],.Xt 1 []] [(11,4,(.t 18)),(15,1,(.t 20))]),fQ 22 21,xM 10 22] (bC [bQ 24 4,jA 25,xL 26 25,aN 27 pH 24 26,xM 23 27,cC 28 23,cD 29 23,xM 11 28,xM 12 29] (eM [xM 30 12,b7 31 .neq 30,xM 32 31,dE 33 32 (l7 9 4),dE 34 32 (l7 2 5),s9 35 32 jK [.t 33,.t 34],eO 36 32 .neq 35 0,xW 37 32 36] 37 (.seq (oC [(7,8)] [⟨some 38,none,.mov (.t 10)⟩,⟨some 39,none,.nilchk (.t 38)⟩,⟨some 40,none,.faddr 11 (.t 39)⟩,⟨some 41,none,.load true 4 (.t 40)⟩,⟨some 42,none,.mov (.t 10)⟩,⟨some 43,none,.nilchk (.t 42)⟩,⟨some 44,none,.faddr 15 (.t 43)⟩,⟨some 45,none,.load false 1 (.t 44)⟩,⟨none,none,.store 4 (.t 8) (.t 41)⟩,⟨some 9,none,.mov (.t 45)⟩] none) .ret))) (xQ [xF 46 4 4,xL 47 46,jA 48,xL 49 48,xX 50 3 47 49,xA 51 3 50,cQ 13 H6,xS 3 13 51] [13]) (gR [xM 52 10,bQ 53 4,aI 54 13,xL 55 54,xO 56 (.build rK [(0,9,(.t 53)),(9,1,(.t 55))]),b8 57 52,aL 58 57,xS 10 58 56] [xM 59 10,aI 60 5,xL 61 60,b8 62 59,xF 63 10 62,xS 1 63 61] [bR 64 13,xL 65 64,xN 66 65,aW 67] 0 c_179_l0 c_179_k1))⟩
def sP:AFn:=⟨4,[.tmp 8],c9 [z7 5,xJ 6 2,fK 8] (kG [aF 13,xA 14 10 5,aN 15 jQ 13 14,xM 12 15,cC 16 12,cD 17 12,xM 9 16,xM 10 17] (xM 18 10) 19 .neq 18 19 [fK 8]) (eN [xA 20 10 5,bJ 21 6,cH 22,aF 23,xO 24 (.build [.str [],.Xt 2 [],.Xt 2 [],.Xt 3 [],.Xt 3 [],.Xt 6 [],.Xt 7 [],.Xt 5 [],.Xt 1 [],.Xt 2 [],.Xt 1 [],.Xt 1 [],.Xt 1 [],.Xt 1 [],.Xt 1 [],.Xt 3 [],.int .i64 0] [(0,10,(.t 20)),(10,4,(.t 21)),(14,1,(.t 22)),(15,1,(.t 23))]),cQ 11 [.str [],.Xt 2 [],.Xt 2 [],.Xt 3 [],.Xt 3 [],.Xt 6 [],.Xt 7 [],.Xt 5 [],.Xt 1 [],.Xt 2 [],.Xt 1 [],.Xt 1 [],.Xt 1 [],.Xt 1 [],.Xt 1 [],.Xt 3 [],cG],xS 17 11 24] [dM 25 dR [.t 11],xO 26 (.fld false 0 1 (.t 25)),cA 26])⟩
def BL:AFn:=⟨2,[.tmp 4],gA (fK 4) [l8,b8 6 5,aL 7 6,aL 8 7,bJ 9 8,aG 10,xO 11 (.build wM [(0,1,H7),(1,1,(.t 10))]),aN 12 jN 9 11,aQ 12]⟩
def BM:AFn:=⟨2,[.tmp 4],eN mX [fF 5,bJ 6 3,aN 7 mA 5 6,xN 8 7,aQ 8]⟩
def c_183_l0:Xu:=bE 21 .lss 20 19 21 (bC M7 (IY (cY 24) (bP 25) (xO 26 (.tcallv (.t 24) [.t 25])))) 27 .add 20 20 27
def c_183_k1:Xu:=eN [xL 29 5,dM 30 jR [.t 29],xM 28 30,cC 31 28,cD 32 28,xM 9 31,xM 10 32] [xM 33 9,xF 34 3 3,xL 35 34,kU 36 1 1 33 35,aQ 36]
def sQ:AFn:=⟨2,[.tmp 4],dT [kF,B5,xC 4 a9] [fF 11,bJ 12 3,aN 13 uN 11 12,bT 14 13] 14 nY (xQ [dM 15 mJ [],cQ 5 [.nilptr],xS 1 5 15] [5]) (gQ [xO 16 (.mkfunc (.func pY) [] [.t 3,.t 2,.t 5]),bG 16] [xF 17 8 2,xL 18 17,xN 19 18,aW 20] 0 c_183_l0 c_183_k1)⟩
def sR:AFn:=⟨4,[],eM [aF 8,b7 9 .neq 8] 9 (xR [aF 10,aG 11,bL 12,cH 13,xO 14 (.build rL [(0,1,(.t 10)),(1,1,(.t 11)),(2,1,(.t 12)),(3,1,(.t 13))]),xO 15 (.build rL [(0,4,(.t 14))]),xO 16 (.mkiface 225 (.t 15)),⟨none,none,.panic (.t 16)⟩])⟩
def BN:AFn:=⟨2,[.tmp 4],eG [bU] (mZ [l8] 5 (aG 6) (aQ 6)) [bU]⟩
def BO:AFn:=⟨1,[.tmp 2],gA (bX 2) [aF 3,aM 4 eD 3,bT 5 4,aJ 2]⟩
def c_206_l0:Xu:=bE 11 .lss 10 9 11 (j9 (dH 12 8 10) (aY 13 12) (qW 7 (.str []) fP) (bN 7 13) [7] LN) 20 .add 10 10 20
def c_206_k1:Xu:=yZ (aJ 21) 21
def BP:AFn:=⟨2,[.tmp 4],gR nY [oA 5 1] wR 0 c_206_l0 c_206_k1⟩
def BQ:AFn:=⟨1,[.tmp 2],eN wS wO⟩
def c_208_l0:Xu:=nM 48 .lss 47 46 48 3 4 (bC [dH 49 45 47,aY 50 49,gS 6 (.str []),bN 6 50] (l5 [aI 51 4,xL 52 51,aI 53 6,xS 1 53 52] [aY 54 6,aY 55 4,xO 56 (.eqs false true [.s,.i] (.t 54) (.t 55))] 56 [xI 2 7])) 57 .add 47 47 57
def c_208_k1:Xu:=xR [d8 58 .add 25,xM 25 58]
def c_208_l2:Xu:=Ft [xB 26 .lss 25 24] 26 1 2 (rR [xM 27 25,dH 28 23 25,aY 29 28,gS 4 (.str []),xM 3 27,bN 4 29] [4] (fR (eI [aL 30 4,xL 31 30,aM 32 eD 31,bT 33 32] 33 2 6) (eI [aI 34 4,xL 35 34,d8 36 .lss 35,xM 37 36,dY 38 37 4,aT 39 37 38,eO 40 37 .gtr 39 32,xW 41 37 40] 41 2 10) (g9 [iS 42,xL 43 42,cH 44,xO 45 (.slc 2 (.t 43) none (some (.t 44)) none),xN 46 45,aW 47] 3 c_208_l0))) c_208_k1
def c_208_k3:Xu:= .seq (eI [aY 59 1,aM 60 jS 59,aM 61 mK 60,xK 62 .rem 61 8,b7 63 .neq 62] 63 2 10) (eH fU)
def lG:AFn:=⟨1,[.tmp 2],fB [kV,fU] (l6 0 [aL 8 1,xL 9 8,aM 10 eD 9,bT 11 10,dG 11] 7 [xI 2 6] (mY [iS 13,xL 14 13,xN 15 14,b7 16 .eql 15,xM 12 16] 12 [xI 2 8] (eI [iS 18,xL 19 18,xN 20 19,xK 21 .gtr 20 12,xM 17 21] 17 2 12))) (iT (iS 22) 23 22 24 23 25 1 c_208_l2) c_208_k3⟩
def BR:AFn:=⟨2,[.tmp 4],c9 [cR] (xD [l8,aG 6,xO 7 (.slc 1 (.t 5) none (some (.t 6)) none),aF 8,aG 9,bI 10 8 9,xL 11 10,aN 12 q6 7 11,aQ 12]) .ret⟩
def c_210_l0:Xu:=bE 11 .lss 10 9 11 (j9 (dH 12 8 10) (aY 13 12) (gS 7 (.str [])) (bN 7 13) [7] LN) 20 .add 10 10 20
def c_210_k1:Xu:=yZ (aJ 21) 21
def BS:AFn:=⟨2,[.tmp 4],gR nY [oA 5 1] wR 0 c_210_l0 c_210_k1⟩
def BT:AFn:=⟨1,[.tmp 2],eN wS wO⟩
def BU:AFn:=⟨1,[.tmp 2],gA (bX 2) [aF 3,d8 4 .lss 3,b6 4,bF 6 5 0,eO 7 5 .gtr 6 32,xW 8 5 7,bP 2]⟩
def c_213_l0:Xu:=bE 11 .lss 10 9 11 (j9 (xX 12 3 8 10) (xA 13 3 12) (cQ 7 [.str [],cG,cG]) (xS 3 7 13) [7] LM) 20 .add 10 10 20
def c_213_k1:Xu:=yZ (aJ 21) 21
def BV:AFn:=⟨2,[.tmp 4],gR nY [oA 5 1] wR 0 c_213_l0 c_213_k1⟩
def BW:AFn:=⟨1,[.tmp 2],eN wS wO⟩
def jE:AFn:=⟨1,[.tmp 2],eG [kV,fU] (l6 0 [aL 4 1,xL 5 4,aM 6 eD 5,bT 7 6,cZ 3] 3 [xI 2 6] (mY [iS 9,xL 10 9,aM 11 aU 10,n7 12 .eql 11 fE,cA 12] 8 [xI 2 10] (eI [xA 14 3 1,aM 15 uA 14,bT 16 15,xM 13 16] 13 2 9))) [fU]⟩
def c_216_l0:Xu:=bE 11 .lss 10 9 11 (j9 (xX 12 3 8 10) (xA 13 3 12) (cQ 7 H6) (xS 3 7 13) [7] LM) 20 .add 10 10 20
def c_216_k1:Xu:=yZ (aJ 21) 21
def BZ:AFn:=⟨2,[.tmp 4],gR nY [oA 5 1] wR 0 c_216_l0 c_216_k1⟩
def C0:AFn:=⟨1,[.tmp 2],eN wS wO⟩
def c_218_l0:Xu:=bE 38 .lss 37 36 38 (rR [xM 39 37,xX 40 7 35 37,xA 41 7 40,cQ 9 LY,cA 39,xS 7 9 41] [9] (kG [xA 42 10 7,xA 43 7 9,aN 44 uP 42 43,b6 44] (aJ 45) 46 .neq 45 46 [bP 47,aJ 48,aQ 47,b6 48])) 49 .add 37 37 49
def c_218_k1:Xu:=o9 bU eB
def lH:AFn:=⟨2,fO,dT [kF,bU,eB] [aG 10,b7 11 .lss 10,xM 12 11,bF 13 12 1,bY 14 12 4 2,aT 15 12 14,dA 16 12 15,dW 17 12 .geq 13 16,xW 18 12 17] 18 AW (xQ [xF 19 4 2,xL 20 19,aG 21,xX 22 3 20 21,xA 23 3 22,cQ 6 H6,xS 3 6 23] [6]) (.seq (kG [xA 24 3 6,aM 25 uO 24,b6 25] (aJ 26) 27 .neq 26 27 [aJ 28,iL 4,b6 28]) (fR (xQ [fF 29,aI 30 6,xL 31 30,xO 32 (.build rK [(0,9,(.t 29)),(9,1,(.t 31))]),xO 33 (.build rK [(0,10,(.t 32))]),cQ 7 rK,xS 10 7 33] [7]) (iT (bR 34 6) 35 34 36 35 37 0 c_218_l0) c_218_k1))⟩
def c_219_l0:Xu:=bE 11 .lss 10 9 11 (j9 (xX 12 6 8 10) (xA 13 6 12) (cQ 7 LU) (xS 6 7 13) [7] (xR [aJ 14,aG 15,xA 16 6 7,xT 17 15 [.t 16],xO 18 GU,kU 19 1 16 14 18,b6 19])) 20 .add 10 10 20
def c_219_k1:Xu:=yZ (aJ 21) 21
def C1:AFn:=⟨2,[.tmp 4],gR nY [oA 5 1] wR 0 c_219_l0 c_219_k1⟩
def C2:AFn:=⟨1,[.tmp 2],eN wS wO⟩
def c_221_l0:Xu:=nM 25 .lss 24 23 25 1 2 (fR (xQ [xM 26 24,xX 27 7 22 24,xA 28 7 27,cQ 7 LW,bG 26,xS 7 7 28] [7]) (l6 3 [aL 30 7,xL 31 30,aM 32 eD 31,bT 33 32,xM 29 33] 29 [cY 34,dX 34,iL 3,xI 4 6] (gP [aJ 36,aL 37 7,xL 38 37,xO 39 (.lookup .s (.bool false) false (.t 36) (.t 38)),xM 35 39] 35 [cY 40,dX 40,iL 3,xI 4 7])) (bC [aJ 41,aL 42 7,xL 43 42,⟨none,none,.update .s (.t 41) (.t 43) kO⟩] (kG [bQ 45 1,cY 46,aN 47 uQ 45 46,xM 44 47,cC 48 44,cD 49 44,cA 48,xM 9 49] (xM 50 9) 51 .neq 50 51 [cY 52,bP 53,xM 54 9,dX 52,xM 3 53,aQ 54]))) 55 .add 24 24 55
def c_221_k1:Xu:=dS [fU,aW 3,bU]
def oI:AFn:=⟨1,[.tmp 2,.tmp 3,.tmp 4],c9 [kV,fU,aW 3,bU] (l6 0 [xF 11 6 1,xL 12 11,xN 13 12,b7 14 .eql 13,xM 10 14] 10 [iL 2,iL 3,xI 4 8] (gP [xF 16 6 1,xL 17 16,xN 18 17,xK 19 .gtr 18 12,xM 15 19] 15 [iL 2,iL 3,xI 4 12])) (gQ [xO 20 .mkmap,b6 20] [xF 21 6 1,xL 22 21,xN 23 22,aW 24] 1 c_221_l0 c_221_k1)⟩
def gY:AFn:=⟨1,[.tmp 2,.cell 3 false 1],dT [kV,fU,cQ 3 [cG]] [xF 6 7 1,xL 7 6,aM 8 uR 7,xK 9 .gtr 8 24] 9 [iL 2,⟨none,none,.store 1 (.t 3) (.c (.int .i64 12))⟩] (mZ [xF 10 7 1,xL 11 10,aM 12 mL 11,xK 13 .gtr 12 6] 13 (iL 2) ⟨none,none,.store 1 (.t 3) (.c (.int .i64 14))⟩) (kT [cQ 4 [cG],⟨none,none,.store 1 (.t 4) (.c nX)⟩] [cQ 5 kQ] (eG [xF 14 7 1,xL 15 14,xO 16 (.mkfunc (.func q8) [] [.t 1,.t 5,.t 3,.t 4]),dM 17 eX [.t 15,.t 16]] (eM [xL 18 3,b7 19 .neq 18] 19 (z8 [xL 20 4,xL 21 3,dX 20,xS 1 3 21])) [fU,⟨none,none,.store 1 (.t 3) (.c nX)⟩]))⟩
def c_223_l0:Xu:=bE 14 .lss 13 12 14 (bC [xM 15 13,bI 16 11 13,xL 17 16,aQ 15,b6 17] (l6 2 [aJ 19,b7 20 .lss 19,xM 21 20,bF 22 21 5,dY 23 21 1,aT 24 21 23,dA 25 21 24,dW 26 21 .geq 22 25,xW 27 21 26,xM 18 27] 18 [xM 28 4,dX 28,xI 3 8] (gP [xF 30 8 1,xL 31 30,xM 32 4,xO 33 (.slc 1 (.t 31) none (some (.t 32)) none),aJ 34,aN 35 uU 33 34,xM 29 35] 29 [xM 36 4,dX 36,xI 3 7]))) 37 .add 13 13 37
def c_223_k1:Xu:=o9 fU (aW 3)
def sS:AFn:=⟨1,AU,dT [kV,fU,aW 3] [xF 6 8 1,xL 7 6,xN 8 7,xK 9 .gtr 8 8] 9 [iL 2,xI 3 12] (iT (xF 10 8 1) 11 10 12 11 13 0 c_223_l0) c_223_k1⟩
def C3:AFn:=⟨1,[.tmp 2],eN [kV,bX 2] [bR 3 1,xL 4 3,d8 5 .geq 4,aJ 6,fD 7 6 2 1,eP 8 6 7,iR 9 6 .leq 8 (kR 64),xV 10 6 9,dX 10]⟩
def lI:AFn:=⟨1,[.tmp 2],eG [bX 2] (oE [aF 3,xO 4 (.slen (.t 3)),b7 5 .eql 4,aJ 6,bF 7 6 0,dE 8 6 (.slen (.t 7)),eO 9 6 .gtr 8 16,xW 10 6 9,xM 11 10,bF 12 11 0,dE 13 11 (.idxs (.t 12) dU),s9 14 11 q9 [.t 13],xY 15 11 14,xW 16 11 15] 16 (bX 2)) [aF 17,B1 18 uV 17 (.c (.func (.func mM) [] [])),aF 19,xO 20 (.slen (.t 19)),xB 21 .eql 18 20,dX 21]⟩
def c_238_l0:Xu:=bE 15 .lss 14 13 15 (rR [xM 16 14,xX 17 3 12 14,xA 18 3 17,cQ 9 wV,cA 16,xS 3 9 18] [9] (dT [fF 19,aL 20 9,aY 21 20,aN 22 fZ 19 21,xM 10 22] [xM 23 10,b7 24 .eql 23] 24 [bP 25,aQ 25,xI 5 8] (xU [bR 26 9,xL 27 26] 2 (j6 [xK 30 .eql 27 2,xM 29 30] 29 (yW (cY 31) 32 .add 31 (bG 32)) (.seq (kS [d8 34 .eql 27,xM 33 34] 33 (xR [xK 35 .eql 27 3,xM 33 35])) (yV 33 .skip (dS [bP 28,aQ 28,xI 5 11]))))) (xR [cZ 36,xM 37 10,xB 38 .add 36 37,dG 38]))) 39 .add 14 14 39
def c_238_k1:Xu:=fR (kH [cY 40,d8 41 .gtr 40] 41 (xI 4 (-2)) 5 7) (kH [cZ 42,xK 43 .gtr 42 64] 43 (xI 4 (-2)) 5 10) (o9 bU eB)
def C4:AFn:=⟨2,fO,gR H9 [iN,aW 7] [dF 11,xL 12 11,xN 13 12,aW 14] 0 c_238_l0 c_238_k1⟩
def c_239_l0:Xu:=bE 13 .lss 12 11 13 (dT [bI 14 10 12,xL 15 14,dG 15] [cZ 16,b7 17 .lss 16,xM 18 17,bF 19 18 7,bY 20 18 4 2,aT 21 18 20,dA 22 18 21,dW 23 18 .geq 19 22,xW 24 18 23] 24 [xI 4 8] (eI [aJ 25,cZ 26,xO 27 (.lookup .i (.bool false) false (.t 25) (.t 26))] 27 4 7) (IY (aJ 28) (cZ 29) ⟨none,none,.update .i (.t 28) (.t 29) kO⟩)) 30 .add 12 12 30
def c_239_k1:Xu:= .seq (eI [aJ 31,xF 32 3 3,aL 33 32,xL 34 33,xO 35 (.lookup .i (.bool false) false (.t 31) (.t 34)),bT 36 35] 36 4 8) (dS [fF 37,xF 38 3 3,aY 39 38,aN 40 jK 37 39,aQ 40])
def C5:AFn:=⟨2,[.tmp 4],gR mX [xO 8 .mkmap,b6 8] [bR 9 3,xL 10 9,xN 11 10,aW 12] 0 c_239_l0 c_239_k1⟩
def C6:AFn:=⟨2,[.tmp 4],bC [kF,cR] (eN [fF 8,aG 9,aN 10 lU 8 9,dG 10,cC 11 7,cD 12 7,b6 11,bG 12] [cY 13,b7 14 .eql 13,aQ 14])⟩
def sT:AFn:=⟨2,[.tmp 4],gA cR [aG 5,xO 6 LR,aM 7 eE 6,cA 7,fC 9 8 0,fC 10 8 1,nZ 11 8 aU [.t 10],iR 12 8 .leq 9 (.t 11),xV 13 8 12,aQ 13]⟩
def c_242_l0:Xu:=bE 14 .lss 13 12 14 (l5 [xM 15 13,bG 15] [cY 16,aG 17,aN 18 uX 16 17,aF 19,xB 20 .eql 18 19] 20 [cY 21,aQ 21,wZ 5]) 22 .add 13 13 22
def c_242_k1:Xu:=o9 bU (bX 5)
def sW:AFn:=⟨2,fO,dT [bU,bX 5] [aG 7,xO 8 LS,aM 9 eE 8,bT 10 9] 10 [bU,bX 5] (g9 [aG 11,d8 12 .add 11,aW 13] 0 c_242_l0) c_242_k1⟩
def c_263_l0:Xu:=bE 8 .lss 7 6 8 (l5 [bI 9 5 7,xL 10 9,aQ 10] [xM 11 4,d8 12 .lss 11,xM 13 12,bF 14 13 4,eO 15 13 .gtr 14 32,xW 16 13 15] 16 [bX 2]) 17 .add 7 7 17
def c_263_k1:Xu:=nO 2
def jF:AFn:=⟨1,[.tmp 2],gQ [bX 2] [l8,xN 6 5,aW 7] 0 c_263_l0 c_263_k1⟩
def c_264_l0:Xu:=bE 22 .lss 21 20 22 (bC [xM 23 21,aQ 23] (oC [(1,10)] [⟨some 24,none,.faddr 1 (.t 3)⟩,⟨some 25,none,.load false 1 (.t 24)⟩,⟨some 26,none,.mov (.t 4)⟩,⟨some 27,none,.faddr 1 (.t 1)⟩,⟨some 28,none,.load false 1 (.t 27)⟩,⟨some 29,none,.mov (.t 4)⟩,⟨some 30,none,.iaddr 2 none (.t 28) (.t 29)⟩,⟨some 31,none,.faddr 1 (.t 30)⟩,⟨some 32,none,.load false 1 (.t 31)⟩,⟨some 33,none,.len (.t 32)⟩,⟨some 34,none,.mkslice .row 1 4 rP (.t 33) (.t 33)⟩,⟨some 35,none,.iaddr 1 none (.t 25) (.t 26)⟩,⟨none,none,.store 1 (.t 35) (.t 34)⟩] none)) 36 .add 21 21 36
def c_264_k1:Xu:=o9 (bJ 37 3) (dN 2 37)
def oJ:AFn:=⟨1,wT,fB M0 (oC [(3,5),(1,7),(3,7),(3,9),(7,9),(1,11),(3,11),(5,11),(7,11),(1,13),(3,13),(5,13),(7,13),(9,13),(11,13)] [⟨some 5,none,.faddr 1 (.t 1)⟩,⟨some 6,none,.load false 1 (.t 5)⟩,⟨some 7,none,.len (.t 6)⟩,⟨some 8,none,.mkslice .row 1 1 [.bool false] (.t 7) (.t 7)⟩,⟨some 9,none,.faddr 1 (.t 1)⟩,⟨some 10,none,.load false 1 (.t 9)⟩,⟨some 11,none,.len (.t 10)⟩,⟨some 12,none,.mkslice .row 1 24 kQ (.t 11) (.t 11)⟩,⟨some 13,none,.faddr 2 (.t 1)⟩,⟨some 14,none,.load false 1 (.t 13)⟩,⟨some 15,none,.len (.t 14)⟩,⟨some 16,none,.mkslice .row 1 4 rP (.t 15) (.t 15)⟩,⟨some 17,none,.build AK [(0,1,(.t 8)),(1,1,(.t 12)),(2,1,(.t 16))]⟩,⟨some 3,none,.alloc AK⟩,⟨none,none,.store 4 (.t 3) (.t 17)⟩] (some [3])) (iT (iS 18) 19 18 20 19 21 0 c_264_l0) c_264_k1⟩
def c_265_l0:Xu:=bE 22 .lss 21 20 22 (j9 (dH 23 19 21) (aY 24 23) (qW 9 (.str []) fP) (bN 9 24) [9] (eI [aY 25 9,aM 26 g0 25,b7 27 .neq 26] 27 4 2)) 28 .add 21 21 28
def c_265_k1:Xu:= .seq (eI [aG 29,xN 30 29,xK 31 .gtr 30 512] 31 4 4) (eH bU)
def C7:AFn:=⟨2,[.tmp 4],fB [kF,bU] (kG [fF 11,aM 12 pJ 11,xM 10 12,cC 13 10,cD 14 10,xE 15 2 10,b6 13,bG 14,dG 15] (cZ 16) 17 .neq 16 17 [xI 4 2]) (iT (aI 18 2) 19 18 20 19 21 0 c_265_l0) c_265_k1⟩
def C8:AFn:=⟨1,[.tmp 2],gA (xC 2 .nilptr) [aF 3,PG 4 1 1 (.c a9) 3,xO 5 (.build M5 [(0,1,(.t 4)),(2,1,kO)]),fQ 6 5,dX 6]⟩
def c_267_l0:Xu:=bE 17 .lss 16 15 17 (bC [bI 18 14 16,xL 19 18,xM 10 19] (c9 [aI 21 4,xL 22 21,xM 23 10,dH 24 22 23,aY 25 24,cH 26,dM 27 jT [.t 25,.t 26],xM 20 27,cC 28 20,cD 29 20,xM 11 28,xM 12 29] (mZ [xM 30 12,b7 31 .neq 30] 31 (xM 32 12) (cA 32)) (oC [(4,8)] [⟨some 33,none,.faddr 0 (.t 6)⟩,⟨some 34,none,.load false 1 (.t 33)⟩,⟨some 35,none,.mov (.t 10)⟩,⟨some 36,none,.faddr 1 (.t 6)⟩,⟨some 37,none,.load false 1 (.t 36)⟩,⟨some 38,none,.mov (.t 10)⟩,⟨some 39,none,.mov (.t 11)⟩,⟨some 40,none,.iaddr 1 none (.t 34) (.t 35)⟩,⟨none,none,.store 1 (.t 40) kO⟩,⟨some 41,none,.iaddr 1 none (.t 37) (.t 38)⟩,⟨none,none,.store 1 (.t 41) (.t 39)⟩] none))) 42 .add 16 16 42
def c_267_k1:Xu:=eH (aW 8)
def oK:AFn:=⟨4,[.tmp 8],gQ [fQ 4 0,fQ 5 1,fQ 6 2,aW 8] [aI 13 5,xL 14 13,xN 15 14,aW 16] 0 c_267_l0 c_267_k1⟩
def c_268_l0:Xu:=bE 18 .lss 17 16 18 (j9 (xX 19 3 15 17) (xA 20 3 19) (cQ 7 [fE,fE,cG]) (xS 3 7 20) [7] (gP [aJ 21,aL 22 7,xL 23 22,xB 24 .xor 21 23,aI 25 7,xL 26 25,xB 27 .and 24 26,n7 28 .eql 27 fE] 28 [bR 29 7,xL 30 29,aQ 30])) 31 .add 17 17 31
def c_268_k1:Xu:=dS [xF 32 6 2,xL 33 32,aQ 33]
def sX:AFn:=⟨2,[.tmp 4],c9 mX (eM [bR 8 2,xL 9 8] 9 (bC [bJ 10 3,xF 11 3 2,aY 12 11,aN 13 jN 10 12,b6 13] (iT (xF 14 5 2) 15 14 16 15 17 0 c_268_l0))) c_268_k1⟩
def sY:AFn:=⟨1,AU,dT [xC 2 a9,aW 3] [aF 4,aM 5 mN 4,bT 6 5] 6 [xC 2 a9,xI 3 1] (kH [aF 7,b8 8 7,aI 9 8,xL 10 9,xK 11 .rem 10 8,b7 12 .neq 11] 12 (xC 2 a9) 3 10) (z8 [aF 13,b8 14 13,aL 15 14,xL 16 15,aF 17,b8 18 17,aI 19 18,xL 20 19,xK 21 .quo 20 8,xO 22 (.slc 1 (.t 16) (some (.t 21)) none none),PG 23 1 1 (.c a9) 22,dX 23,aW 3])⟩
def c_270_l0:Xu:=bE 9 .lss 8 7 9 (bC wL (xR [cH 12,aJ 13,PF 14 .row 1 1 (.t 12) 13,xM 3 14])) 15 .add 8 8 15
def c_270_k1:Xu:=yY 16 16
def oL:AFn:=⟨1,[.tmp 2],gR rQ [xC 3 a9] j5 0 c_270_l0 c_270_k1⟩
def c_271_l0:Xu:=bE 9 .lss 8 7 9 (bC wL (xR [cH 12,aJ 13,PF 14 .row 1 4 (.t 12) 13,xM 3 14])) 15 .add 8 8 15
def c_271_k1:Xu:=yY 16 16
def oM:AFn:=⟨1,[.tmp 2],gR rQ [xC 3 a9] j5 0 c_271_l0 c_271_k1⟩
def c_272_l0:Xu:=bE 9 .lss 8 7 9 (bC wL (xR [cH 12,aJ 13,kU 14 1 1 12 13,xM 3 14])) 15 .add 8 8 15
def c_272_k1:Xu:=yY 16 16
def C9:AFn:=⟨1,[.tmp 2],gR rQ [oA 3 1] j5 0 c_272_l0 c_272_k1⟩
def oN:AFn:=⟨2,AQ,bC [gS 4 (.str [])] (eG [gS 5 (.str [])] M2 LT)⟩
def oO:AFn:=⟨2,[.tmp 4],eG [kF,xC 4 fP] (gP [aG 5,xK 6 .eql 5 (-1)] 6 [bR 7 2,xL 8 7,aQ 8]) [aI 9 2,xL 10 9,aG 11,aN 12 uY 10 11,xO 13 (.fld false 1 1 (.t 12)),aQ 13]⟩
def sZ:AFn:=⟨2,[.tmp 4],gA cR GV⟩
def bZ:AFn:=⟨2,[.tmp 4],bC nY (eG [xC 5 a9] M6 LV)⟩
def oP:AFn:=⟨2,[.tmp 4],bC [cR] (eG [bX 5] M6 LV)⟩
def lJ:AFn:=⟨1,[.tmp 2],eG [kV,xC 2 .niliface] (bC [aL 3 1,xL 4 3] (l6 0 [d8 6 .eql 4,b6 6] 5 [xA 7 5 1,xO 8 (.build GW [(0,5,(.t 7))]),xO 9 (.mkiface 413 (.t 8)),dX 9] (mY [xK 11 .eql 4 3,xM 10 11] 10 [xA 12 5 1,xO 13 (.build GW [(0,5,(.t 12))]),xO 14 (.mkiface 414 (.t 13)),dX 14] (gP [xK 16 .eql 4 2,xM 15 16] 15 [xA 17 5 1,xO 18 (.build GW [(0,5,(.t 17))]),xO 19 (.mkiface 415 (.t 18)),dX 19])))) [xO 20 (.build [] []),xO 21 (.mkiface 417 (.t 20)),dX 21]⟩
def t6:AFn:=⟨2,[.tmp 4],bC [kF,B5,fK 4] (eG [bJ 8 2,aY 9 3,aN 10 i9 8 9,dG 10,cC 11 7,cD 12 7,b6 11,bG 12] (oE [cY 13,bT 14 13] 14 (fK 4)) [aJ 15,dF 16,xL 17 16,bI 18 15 17,xL 19 18,aQ 19])⟩
def CA:AFn:=⟨2,[.tmp 3],eN AZ [aI 4 2,bJ 5 4,xL 6 1,aN 7 uL 5 6,cZ 3]⟩
def c_281_l0:Xu:=bE 17 .lss 16 15 17 (fR (xQ [xM 18 16,dH 19 14 16,aY 20 19,qW 6 fE fE,b6 18,bN 6 20] [6]) (xD [aG 21,aJ 22,bI 23 21 22,xL 24 23,aL 25 6,xL 26 25,xB 27 .xor 24 26,aI 28 6,xL 29 28,xB 30 .and 27 29,n7 31 .neq 30 fE]) (IX 31 xH)) 32 .add 16 16 32
def c_281_k1:Xu:=nO 4
def t7:AFn:=⟨2,[.tmp 4],dT [kF,cR] [aG 7,xN 8 7,gT 9,xL 10 9,xN 11 10,xB 12 .neq 8 11] 12 [cR] (iT (gT 13) 14 13 15 14 16 0 c_281_l0) c_281_k1⟩
def c_282_l0:Xu:=bE 12 .lss 11 10 12 (j9 (xX 13 5 9 11) (xA 14 5 13) (cQ 7 iZ) (xS 5 7 14) [7] (gP [aG 15,xA 16 5 7,xT 17 15 [.t 16]] 17 [xA 18 5 7,xS 5 4 18,wZ 5])) 19 .add 11 11 19
def c_282_k1:Xu:=gA (cQ 8 iZ) [xA 20 5 8,xS 5 4 20,bX 5]
def CB:AFn:=⟨2,[.cell 4 true 5,.tmp 5],gQ [cQ 4 iZ,bX 5] AM 0 c_282_l0 c_282_k1⟩
def oQ:AFn:=⟨5,[.tmp 6],dT [rS 5,bX 6] [xL 9 1,xA 10 5 5,xT 11 9 [.t 10],bT 12 11] 12 [bX 6] (xQ [xL 14 2,xO 15 (.mkfunc (.func pQ) [] [.t 1,.t 3,.t 4,.t 5]),dM 16 jO [.t 14,.t 15],xM 13 16,cC 17 13,cD 18 13,cQ 7 iZ,xS 5 7 17,cA 18] [7]) (dS [bP 19,bT 20 19,bG 20])⟩
def CC:AFn:=⟨5,[.tmp 6],eN [rS 5,bX 6] [xL 7 1,xA 8 5 5,xT 9 7 [.t 8],xM 10 9,dB 11 10 (l7 9 2),eP 12 10 3,dB 13 10 (l7 5 5),dB 14 10 (l7 5 4),nZ 15 10 uM [.t 11,.t 12,.t 13,.t 14],xV 16 10 15,bG 16]⟩
def oR:AFn:=⟨4,[.tmp 8],dT [rS 4,xJ 6 2,xJ 7 3,bX 8] [aI 11 6,aI 12 11,xL 13 12,aI 14 7,aI 15 14,xL 16 15,xB 17 .neq 13 16] 17 [aI 18 6,aI 19 18,xL 20 19,aI 21 7,aI 22 21,xL 23 22,xB 24 .gtr 20 23,cA 24] (F0 [bQ 25 4,aG 26,aI 27 6,bJ 28 27,fS 29 qA 25 26 28,bQ 30 4,aG 31,aI 32 7,bJ 33 32,fS 34 qA 30 31 33,xM 9 29,xM 10 34] (gP [xM 35 9,xM 36 10,xB 37 .neq 35 36] 37 [xM 38 9,xM 39 10,xB 40 .gtr 38 39,cA 40])) (dS [aL 41 6,xL 42 41,aL 43 7,xL 44 43,xB 45 .lss 42 44,cA 45])⟩
def CD:AFn:=⟨1,[.cell 2 true 5],kT [fQ 1 0,cQ 2 iZ] [iS 3,cN 4,xL 5 4,aM 6 zT 5,iS 7,aL 8 7,xS 1 8 6] (eN [iS 9,bR 10 9,aI 11 10,xL 12 11,aM 13 lX 12,iS 14,bR 15 14,aI 16 15,xS 1 16 13] [xA 17 5 1,xS 5 2 17])⟩
def c_287_l0:Xu:=bE 12 .lss 11 10 12 LI 28 .add 11 11 28
def c_287_k1:Xu:=yY 29 29
def CE:AFn:=⟨1,[.tmp 2],gR rQ LQ AM 0 c_287_l0 c_287_k1⟩
def CG:AFn:=⟨2,[],bC [fQ 3 1] (xD [aF 4,l8,b8 6 5,aL 7 6,aL 8 7,bQ 9 8,aF 10,b8 11 10,xF 12 11 11,bJ 13 12,dF 14,aY 15 14,aF 16,xF 17 6 3,xL 18 17,aN 19 jV 16 18,B4 20 hZ 9 (.t 13) 15 (.t 19),b8 21 4,xF 22 11 21,dN 22 20])⟩
def CH:AFn:=⟨2,[],bC [fQ 3 1] (xD [aF 4,l8,b8 6 5,aL 7 6,aL 8 7,bQ 9 8,aF 10,b8 11 10,xF 12 11 11,bJ 13 12,xF 14 4 3,xL 15 14,fS 16 uZ 9 13 15,b8 17 4,xF 18 11 17,dN 18 16])⟩
def CJ:AFn:=⟨2,[],bC [fQ 3 1] (xD [aF 4,l8,b8 6 5,aL 7 6,aL 8 7,bQ 9 8,aF 10,b8 11 10,xF 12 11 11,bJ 13 12,xF 14 4 3,xL 15 14,fS 16 v5 9 13 15,b8 17 4,xF 18 11 17,dN 18 16])⟩
def CK:AFn:=⟨2,[],c9 [fQ 3 1] (xD [l8,b8 6 5,aL 7 6,aL 8 7,bQ 9 8,aF 10,b8 11 10,xF 12 15 11,xL 13 12,xF 14 3 3,xL 15 14,aF 16,xF 17 5 3,xL 18 17,aN 19 jV 16 18,B4 20 v6 9 (.t 13) 15 (.t 19),aQ 20]) (xD [aF 21,aF 22,b8 23 22,aL 24 23,aL 25 24,bQ 26 25,aF 27,b8 28 27,xF 29 11 28,bJ 30 29,dF 31,aY 32 31,xM 33 4,B4 34 hZ 26 (.t 30) 32 (.t 33),b8 35 21,xF 36 11 35,dN 36 34])⟩
def CL:AFn:=⟨2,[],bC [fQ 3 1] (xD [aF 4,l8,b8 6 5,aL 7 6,aL 8 7,bQ 9 8,aF 10,b8 11 10,xF 12 15 11,xL 13 12,xF 14 3 3,xL 15 14,aF 16,xF 17 5 3,xL 18 17,aN 19 jV 16 18,aF 20,xF 21 6 3,xL 22 21,aN 23 jV 20 22,B2 24 qB [.t 9,.t 13,.t 15,.t 19,.t 23],b8 25 4,xF 26 15 25,xS 1 26 24])⟩
def lK:AFn:=⟨2,fO,c9 [B5,bU,eB] (kH [aF 7,xN 8 7,xK 9 .gtr 8 24] 9 bU 5 12) (eG [xA 11 10 3,aF 12,Oy 13 qC 11 12 dU,xM 10 13,cC 14 10,cD 15 10,xE 16 2 10,aQ 14,bG 15,b6 16] (l6 0 [aJ 18,b7 19 .neq 18,xM 17 19] 17 [aJ 20,bU,b6 20] (kH [cY 22,aF 23,xN 24 23,xB 25 .lss 22 24,xM 21 25] 21 bU 5 4)) [xM 26 4,aQ 26,eB])⟩
def cT:AFn:=⟨1,HA,c9 [gS 2 fE] (oC [(3,10),(7,10),(9,10)] [⟨some 9,none,.mov (.t 0)⟩,⟨some 10,none,.nilchk (.t 9)⟩,⟨some 11,none,.faddr 15 (.t 10)⟩,⟨some 12,none,.load false 1 (.t 11)⟩,⟨some 13,none,.mov (.t 0)⟩,⟨some 14,none,.nilchk (.t 13)⟩,⟨some 15,none,.faddr 16 (.t 14)⟩,⟨some 16,none,.load false 1 (.t 15)⟩,⟨some 17,none,.iaddr 3 none (.t 12) (.t 16)⟩,⟨some 18,none,.load true 3 (.t 17)⟩,⟨some 3,none,.alloc GY⟩,⟨none,none,.store 3 (.t 3) (.t 18)⟩] (some [3])) (fB [aF 19,b8 20 19,xF 21 16 20,xL 22 21,d8 23 .add 22,b8 24 19,xF 25 16 24,xS 1 25 23] (bC [cN 26,xL 27 26,aM 28 mO 27] (l6 0 [b7 30 .eql 28,xM 29 30] 29 [aF 31,xA 32 3 3,aN 33 v7 31 32,bN 2 33] (j6 [d8 35 .eql 28,xM 34 35] 34 (.seq (oC [(0,2)] [⟨some 36,none,.load true 3 (.t 3)⟩,⟨some 37,none,.mov (.t 0)⟩,⟨some 38,none,.tcall dR [.t 37]⟩,⟨some 39,none,.pcall v8 [.t 36,.t 38]⟩,⟨none,none,.store 2 (.t 2) (.t 39)⟩] none) .ret) (eM [xK 41 .eql 28 2,xM 40 41] 40 (fR (xQ [aF 42,dM 43 dR [.t 42],gS 4 fE,bN 4 43] [4]) (xQ [aF 44,dM 45 dR [.t 44],gS 5 fE,bN 5 45] [5]) (dS [cN 46,xL 47 46,aY 48 4,aY 49 5,fS 50 v9 47 48 49,bN 2 50])))))) (xQ [aF 51,dM 52 dR [.t 51],gS 6 fE,bN 6 52] [6]) (j9 (aF 53) (dM 54 dR [.t 53]) (gS 7 fE) (bN 7 54) [7] (fR (xQ [aF 55,dM 56 dR [.t 55],gS 8 fE,bN 8 56] [8]) (mZ [aL 57 6,xL 58 57,n7 59 .eql 58 (EZ 1)] 59 (aY 60 7) (bN 2 60)) (o9 (aY 61 8) (bN 2 61)))))⟩
def c_295_l0:Xu:=bE 20 .lss 19 18 20 (j9 (dH 21 17 19) (aY 22 21) (qW 8 (.str []) fP) (bN 8 22) [8] (oE [aY 23 8,aM 24 g0 23,b7 25 .neq 24] 25 cR)) 26 .add 19 19 26
def c_295_k1:Xu:=dS [fF 27,bJ 28 3,aN 29 vA 27 28,b7 30 .eql 29,aQ 30]
def CM:AFn:=⟨2,[.tmp 4],fB AY (kG [fF 10,aM 11 pK 10,xM 9 11,cC 12 9,cD 13 9,b6 12,bG 13] (cY 14) 15 .neq 14 15 [cR]) (iT (aI 16 2) 17 16 18 17 19 0 c_295_l0) c_295_k1⟩
def CN:AFn:=⟨0,[.tmp 0],gA (xC 0 .nilptr) [xO 1 (.build M5 [(2,1,kO)]),fQ 2 1,bL 0]⟩
def t8:AFn:=⟨4,[],eM [aL 5 1,xL 6 5,aF 7,bI 8 6 7,xL 9 8] 9 (xD [aI 10 2,xL 11 10,aF 12,dH 13 11 12,aY 14 13,iS 15,xL 16 15,aF 17,bI 18 16 17,xL 19 18,xL 20 3,dM 21 pZ [.t 14,.t 19,.t 20]])⟩
def c_298_l0:Xu:=bE 47 .lss 46 45 47 (fR (xQ [xM 48 46,dH 49 44 46,aY 50 49,gS 13 (.str []),xM 12 48,bN 13 50] [13]) (xD [bL 51,aG 52,xM 53 12,bI 54 52 53,xL 55 54,aI 56 13,xL 57 56,dM 58 iD [.t 51,.t 55,.t 57],xM 14 58]) (mZ [xM 59 14,b7 60 .neq 59] 60 (xM 61 14) (bG 61))) 62 .add 46 46 62
def c_298_k1:Xu:=eH iN
def oS:AFn:=⟨3,[.tmp 6],fB [fQ 3 0,iN] (kG [aY 15 3,aM 16 g0 15,dG 16] (cZ 17) 18 .neq 17 18 [cZ 19,bG 19]) (PI [bL 21,dM 22 jR [.t 21],xM 20 22,cC 23 20,cD 24 20,cA 23,xM 9 24] (xM 25 9) (d8 26 .eql 25) 26 [xI 6 1]) (.seq (eI [aG 27,xN 28 27,dF 29,xL 30 29,xN 31 30,xB 32 .neq 28 31] 32 6 2) (fR (kG [aG 34,aY 35 3,aM 36 jS 35,aN 37 vB 34 36,xM 33 37,cC 38 33,cD 39 33,xM 10 38,xM 11 39] (xM 40 11) 41 .neq 40 41 [xM 42 11,bG 42]) (iT (dF 43) 44 43 45 44 46 0 c_298_l0) c_298_k1))⟩
def t9:AFn:=⟨1,AU,dT [xC 2 a9,aW 3] [aF 4,xO 5 (.eqn false (.t 4) (.c .nilptr)),aJ 6,bF 7 6 0,dE 8 6 (HB 7),bY 9 6 2 8,aT 10 6 9,xY 11 6 10,xW 12 6 11] 12 [xC 2 a9,xI 3 1] (kH [aF 13,b8 14 13,aI 15 14,xL 16 15,xK 17 .rem 16 8,b7 18 .neq 17] 18 (xC 2 a9) 3 10) (dS [aF 19,b8 20 19,aL 21 20,xL 22 21,PG 23 1 1 (.c a9) 22,dX 23,aW 3])⟩
def c_310_l0:Xu:=bE 9 .lss 8 7 9 (bC wL (xR [cH 12,aJ 13,xB 14 .add 12 13,xM 3 14])) 15 .add 8 8 15
def c_310_k1:Xu:=yY 16 16
def CO:AFn:=⟨1,[.tmp 2],gR [fU] [aW 3] j5 0 c_310_l0 c_310_k1⟩
def c_311_l0:Xu:=bE 10 .lss 9 8 10 (j9 (dH 11 7 9) (aY 12 11) (gS 5 (.str [])) (bN 5 12) [5] (xR [cH 13,aI 14 5,xL 15 14,xO 16 (.bslice .imm 1 (List.replicate 1 kP) [(0,(.t 15))]),kU 17 1 8 13 16,xM 3 17])) 18 .add 9 9 18
def c_311_k1:Xu:=yY 19 19
def CP:AFn:=⟨1,[.tmp 2],gR [kV,xC 2 a9] [oA 3 1] [iS 6,xL 7 6,xN 8 7,aW 9] 0 c_311_l0 c_311_k1⟩
def CQ:AFn:=⟨2,[.tmp 4],gA cR [l8,aG 6,aN 7 vC 5 6,b7 8 .geq 7,aQ 8]⟩
def c_313_l0:Xu:=nM 25 .lss 24 23 25 1 2 (rR [xM 26 24,dH 27 22 24,aY 28 27,gS 4 (.str []),xM 3 26,bN 4 28] [4] (l6 3 [aL 30 4,xL 31 30,aM 32 eD 31,bT 33 32,xM 29 33] 29 [xI 2 6] (mY [aI 35 4,xL 36 35,d8 37 .lss 36,xM 38 37,dY 39 38 4,aT 40 38 39,eO 41 38 .gtr 40 32,xW 42 38 41,xM 34 42] 34 [xI 2 10] (eI [iS 44,xL 45 44,cH 46,xO 47 (.slc 2 (.t 45) none (some (.t 46)) none),xO 48 (.mkfunc (.func jW) [] [.t 4]),aN 49 vD 47 48,xM 43 49] 43 2 7)))) 50 .add 24 24 50
def c_313_k1:Xu:=eH fU
def lO:AFn:=⟨1,[.tmp 2],fB [kV,fU] (l6 0 [aL 6 1,xL 7 6,aM 8 eD 7,bT 9 8,b6 9] 5 [xI 2 6] (eI [iS 11,xL 12 11,xN 13 12,xK 14 .gtr 13 4,xM 15 14,bY 16 15 2 1,aT 17 15 16,dA 18 15 17,eO 19 15 .gtr 18 12,xW 20 15 19,xM 10 20] 10 2 12)) (iT (iS 21) 22 21 23 22 24 1 c_313_l0) c_313_k1⟩
def aO:AFn:=⟨2,[.tmp 4],c9 mX (xQ [gT 11,aL 12 11,bQ 13 12,cQ 5 [.str [],.Xt 2 [],.Xt 2 [],.Xt 3 [],.Xt 3 [],.Xt 6 [],.Xt 7 [],.Xt 5 [],.Xt 1 []],xS 9 5 13] [5]) (bC [bQ 15 5,dF 16,aY 17 16,aN 18 qD 15 17,xM 14 18,cC 19 14,cD 20 14,bG 19,dG 20] (eG [xF 21 3 3,xL 22 21,b7 23 .geq 22,xM 24 23,fD 25 24 3 3,eP 26 24 25,fD 27 24 3 5,eP 28 24 27,dB 29 24 (F2 28),iR 30 24 .lss 26 (.t 29),xV 31 24 30,cA 31] (xU [cN 32,xL 33 32] 0 (j6 [d8 35 .eql 33,xM 34 35] 34 (.seq (eI [cZ 36,bT 37 36] 37 4 8) (dS [xA 38 10 2,xF 39 6 3,xL 40 39,cY 41,fS 42 mP 38 40 41,aQ 42])) (.seq (kS [xK 44 .eql 33 2,xM 43 44] 43 (xR [xK 45 .eql 33 3,xM 43 45])) (yV 43 (.seq (eI [xF 46 4 3,xL 47 46,b7 48 .lss 47,xM 49 48,bY 50 49 4 3,aT 51 49 50,dY 52 49 5,aT 53 49 52,dA 54 49 53,dW 55 49 .geq 51 54,xW 56 49 55] 56 4 8) (eH bU)) (.seq (kS [xK 58 .eql 33 4,xM 57 58] 57 (xR [xK 59 .eql 33 5,xM 57 59])) (IX 57 (fR (eI [bP 60,bT 61 60,xM 62 61,bY 63 62 0 3,aT 64 62 63,eO 65 62 .eql 64 4,bF 66 62 65,fC 67 66 7,dB 68 66 (PD 67),dE 69 62 (.pick (.t 66) (.t 68) (.c wY)),xW 70 62 69] 70 4 8) (kG [xF 72 5 3,xL 73 72,gT 74,xA 75 10 74,aN 76 jQ 73 75,xM 71 76,cC 77 71,cD 78 71,xM 9 77,xM 10 78] (xM 79 10) 80 .neq 79 80 [xM 81 10,aQ 81]) (fR (eM [cN 82,xL 83 82,xK 84 .eql 83 5] 84 (z8 [xA 85 10 2,xF 86 6 3,xL 87 86,xF 88 3 5,xL 89 88,xF 90 3 3,xL 91 90,xX 92 3 89 91,aI 93 92,xL 94 93,fS 95 mP 85 87 94,aQ 95])) (eI [cY 96,xF 97 3 5,xL 98 97,xF 99 3 3,xL 100 99,xX 101 3 98 100,aI 102 101,xL 103 102,xB 104 .neq 96 103] 104 4 10) (eH bU))))))))) [xI 4 11]))⟩
def c_315_l0:Xu:=bE 31 .lss 30 29 31 (l5 [bI 32 28 30,xL 33 32,cA 33] [bP 34,b7 35 .lss 34,xM 36 35,bF 37 36 8,dY 38 36 2,aT 39 36 38,dA 40 36 39,dW 41 36 .geq 37 40,xW 42 36 41] 42 AW) 43 .add 30 30 43
def c_315_l1:Xu:=nM 68 .lss 67 66 68 3 4 (rR [xM 69 67,xX 70 3 65 67,xA 71 3 70,cQ 10 [fE,fE,cG],xM 9 69,xS 3 10 71] [10] (kG [fF 72,aG 73,xA 74 3 10,fS 75 vE 72 73 74,xM 11 75] (xM 76 11) 77 .neq 76 77 [xM 78 9,xM 79 11,aQ 78,b6 79])) 80 .add 67 67 80
def c_315_k2:Xu:= .seq (kH [fF 81,aG 82,xF 83 6 6,xL 84 83,fS 85 qE 81 82 84,bT 86 85] 86 (iL 4) 5 14) (o9 bU eB)
def c_315_k3:Xu:=fR (l6 2 [bR 45 6,xL 46 45,xM 47 46,dB 48 47 (l7 9 2),fD 49 47 3 6,dB 50 47 (l7 2 49),nZ 51 47 fZ [.t 48,.t 50],iR 52 47 .eql 51 dU,xV 53 47 52,xM 44 53] 44 AW (kH [bR 55 6,xL 56 55,bT 57 56,xM 58 57,fD 59 58 5 6,eP 60 58 59,dB 61 58 (F2 60),iR 62 58 .gtr 61 dU,xV 63 58 62,xM 54 63] 54 (iL 4) 5 11)) (iT (xF 64 5 6) 65 64 66 65 67 3 c_315_l1) c_315_k2
def oT:AFn:=⟨2,fO,fB [kF,bU,eB] (xQ [xF 12 6 2,xL 13 12,aG 14,xX 15 7 13 14,xA 16 7 15,cQ 6 LW,xS 7 6 16] [6]) (kH [aI 17 6,xL 18 17,xN 19 18,xK 20 .gtr 19 4,xM 21 20,bY 22 21 5 6,aT 23 21 22,dA 24 21 23,eO 25 21 .gtr 24 8,xW 26 21 25] 26 (iL 4) 5 12) (.seq (iT (aI 27 6) 28 27 29 28 30 0 c_315_l0) c_315_k3)⟩
def CR:AFn:=⟨1,[.tmp 2],kT [fU] [cQ 3 [cG],⟨none,none,.store 1 (.t 3) (.c nX)⟩] (eN [aF 4,xO 5 (.mkfunc (.func qF) [] [.t 3]),dM 6 eX [.t 4,.t 5]] [xL 7 3,dX 7])⟩
def c_317_l0:Xu:=bE 12 .lss 11 10 12 (j9 (xX 13 5 9 11) (xA 14 5 13) (cQ 5 GZ) (xS 5 5 14) [5] (xD [cH 15,xF 16 3 5,xL 17 16,aM 18 mL 17,xF 19 4 5,xL 20 19,aM 21 mL 20,xO 22 (.minmax true [.t 15,.t 18,.t 21]),xM 3 22])) 23 .add 11 11 23
def c_317_k1:Xu:=dS [cH 24,d8 25 .add 24,dX 25]
def tA:AFn:=⟨1,[.tmp 2],c9 [fU] (oE [HD,xN 7 6,b7 8 .eql 7] 8 fU) (gQ [aW 3] AM 0 c_317_l0 c_317_k1)⟩
def c_318_l0:Xu:=bE 10 .lss 9 8 10 (j9 (xX 11 5 7 9) (xA 12 5 11) (cQ 6 GZ) (xS 5 6 12) [6] (oE [aG 13,xA 14 5 6,xO 15 (.tcallv (.t 13) [.t 14]),bT 16 15,xM 17 16,bY 18 17 3 6,aT 19 17 18,bF 20 17 1,dE 21 17 (.tcall eX [.t 19,.t 20]),xY 22 17 21,xW 23 17 22,xM 24 23,bY 25 24 4 6,aT 26 24 25,bF 27 24 1,dE 28 24 (.tcall eX [.t 26,.t 27]),xY 29 24 28,xW 30 24 29] 30 cR)) 31 .add 9 9 31
def c_318_k1:Xu:=nO 4
def lP:AFn:=⟨2,[.tmp 4],gQ [cR] [aF 7,xN 8 7,aW 9] 0 c_318_l0 c_318_k1⟩
def gZ:AFn:=⟨5,[.tmp 6],fB [rS 5,bX 6] (kG [bQ 7 1,xA 8 5 5,xL 9 2,fS 10 uS 7 8 9,xS 1 3 10] (xL 11 3) 12 .neq 11 12 [bX 6]) (eM [xA 13 5 5,aM 14 uT 13] 14 (xR [xL 15 2,aI 16 5,xL 17 16,xO 18 (.bslice .imm 1 (List.replicate 1 kP) [(0,(.t 17))]),kU 19 1 8 15 18,xS 1 2 19])) (eN [xL 20 4,d8 21 .add 20,xS 1 4 21] [wZ 6])⟩
def c_320_l0:Xu:=nM 30 .lss 29 28 30 1 2 (l5 [bI 31 27 29,xL 32 31,cA 32] [bP 33,aI 34 4,xL 35 34,xB 36 .eql 33 35] 36 [xI 6 7]) 37 .add 29 29 37
def c_320_k1:Xu:=eI [aL 38 4,xL 39 38,d8 40 .eql 39,xM 41 40,fD 42 41 3 4,eP 43 41 42,dB 44 41 (F2 43),fD 45 41 4 4,eP 46 41 45,dB 47 41 (F2 46),iR 48 41 .add 44 (.t 47),iR 49 41 .gtr 48 dU,xV 50 41 49] 50 6 5
def c_320_k2:Xu:=eH iN
def dQ:AFn:=⟨3,[.tmp 6],c9 [xP,z7 4,iN] (xU [aL 11 4,xL 12 11] 0 (.seq (kS [d8 14 .eql 12,xM 13 14] 13 (xR [xK 15 .eql 12 3,xM 13 15])) (yV 13 (fR (eI [aI 16 4,xL 17 16,b7 18 .lss 17,xM 19 18,dY 20 19 4,aT 21 19 20,bY 22 19 5 3,aT 23 19 22,dA 24 19 23,dW 25 19 .geq 21 24,xW 26 19 25] 26 6 8) (g9 [bL 27,xN 28 27,aW 29] 1 c_320_l0) c_320_k1) (j6 [xK 52 .eql 12 2,xM 51 52] 51 (c9 [bR 54 4,xL 55 54,bQ 56 3,xO 57 (.build rK [(0,9,(.t 56))]),aN 58 jQ 55 57,xM 53 58,cC 59 53,cD 60 53,xM 9 59,xM 10 60] (mZ [xM 61 10,b7 62 .neq 61] 62 (xM 63 10) (bG 63)) (eI [xM 64 9,d8 65 .neq 64] 65 6 10)) (eH (xI 6 11)))))) c_320_k2⟩
def tB:AFn:=⟨1,[.tmp 2],eN [kV,bX 2] [aL 3 1,xL 4 3,d8 5 .eql 4,aJ 6,bY 7 6 0 1,aT 8 6 7,eO 9 6 .eql 8 3,xW 10 6 9,dX 10]⟩
def CT:AFn:=⟨2,[.tmp 4],gA cR [l8,aG 6,aN 7 vF 5 6,b7 8 .geq 7,aQ 8]⟩
def CU:AFn:=⟨1,[.tmp 2],gA (bX 2) [aF 3,n7 4 .geq 3 (.int .u8 97),b6 4,fC 6 5 0,iR 7 5 .leq 6 (.c (.int .u8 122)),xV 8 5 7,bP 9,bF 10 9 0,PB 11 9 .geq 10 (.c (.int .u8 65)),bF 12 9 11,fC 13 12 0,iR 14 12 .leq 13 (.c (.int .u8 90)),dE 15 9 (.pick (.t 12) (.t 14) (.c wY)),xW 16 9 15,dX 16]⟩
def c_329_l0:Xu:= .seq (Fw [aJ 6,aF 7,xO 8 (.slen (.t 7)),xB 9 .lss 6 8,xM 10 9,fC 11 10 1,fC 12 10 0,fC 13 10 5,dB 14 10 (.idxs (.t 12) (.t 13)),dB 15 10 (Ow 11 [.t 14]),xV 16 10 15] 16 0) (.block 1 (yW (aJ 17) 18 .add 17 (b6 18)))
def c_329_k1:Xu:=yZ (aJ 19) 19
def CV:AFn:=⟨2,[.tmp 4],bC [bU] (c9 [eB] (Fu 0 c_329_l0) c_329_k1)⟩
def CW:AFn:=⟨1,[.tmp 2],gA (bX 2) [aF 3,aM 4 q9 3,b6 4,bF 6 5 0,s9 7 5 uW [.t 6],xW 8 5 7,bP 9,bF 10 9 0,PB 11 9 .eql 10 (.c (.int .u8 95)),xW 12 9 11,dX 12]⟩
def CX:AFn:=⟨1,[.tmp 2],gA (bX 2) [aF 3,n7 4 .geq 3 (.int .u8 48),b6 4,fC 6 5 0,iR 7 5 .leq 6 (.c (.int .u8 57)),xV 8 5 7,bP 2]⟩
def CY:AFn:=⟨2,[.tmp 4],eG [fK 4] (oE [aG 5,xO 6 LR,aM 7 eE 6,bT 8 7] 8 (fK 4)) [aG 9,aM 10 aU 9,aG 11,aM 12 aU 11,aF 13,xO 14 (.minmax true [.t 13,.c nX]),aG 15,xO 16 (.minmax false [.t 14,.t 15]),xB 17 .shr 12 16,xB 18 .andNot 10 17,aQ 18]⟩
def c_348_l0:Xu:=bE 35 .lss 34 33 35 (j9 (dH 36 32 34) (aY 37 36) (gS 11 (.str [])) (bN 11 37) [11] (c9 [aG 39,aI 40 11,xL 41 40,dM 42 qH [.t 39,.t 41],xM 38 42,cC 43 38,cD 44 38,xM 12 43,xM 13 44] (gP [xM 45 13,b7 46 .neq 45] 46 [xM 47 13,xC 4 a9,b6 47]) (xR [xM 48 9,xM 49 12,xO 50 (.bslice .imm 1 (List.replicate 1 rP) [(0,(.t 49))]),kU 51 1 4 48 50,xM 9 51]))) 52 .add 34 34 52
def c_348_k1:Xu:=dS [xM 53 9,aQ 53,eB]
def jG:AFn:=⟨2,fO,fB [fQ 2 0,xC 4 a9,eB] (kG [aY 14 2,aM 15 g0 14,bG 15] (cY 16) 17 .neq 16 17 [cY 18,xC 4 a9,b6 18]) (PI [aG 20,dM 21 mH [.t 20],xM 19 21,cC 22 19,cD 23 19,dG 22,cA 23] (bP 24) (d8 25 .eql 24) 25 [xC 4 a9,xI 5 1]) (.seq (oD [aG 26,aM 27 qG 26,aY 28 2,aM 29 vG 28,xB 30 .lss 27 29] 30 (o9 (xC 4 a9) (xI 5 3))) (gQ [oA 9 1] [aI 31 2,xL 32 31,xN 33 32,aW 34] 0 c_348_l0 c_348_k1))⟩
def CZ:AFn:=⟨1,[.tmp 2],gA (bX 2) [aF 3,xO 4 (.eqn true (.t 3) (.c .nilptr)),b6 4,fC 6 5 0,dB 7 5 (HB 6),fD 8 5 2 7,eP 9 5 8,xV 10 5 9,dX 10]⟩
def oU:AFn:=⟨2,AQ,bC [qW 4 (.str []) fP] (eG [qW 5 (.str []) fP] M2 LT)⟩
def c_351_l0:Xu:=bE 26 .lss 25 24 26 (rR [xM 27 25,xX 28 3 23 25,xA 29 3 28,cQ 8 wV,dG 27,xS 3 8 29] [8] (eM [bR 30 8,xL 31 30,xK 32 .eql 31 2] 32 (.seq (gP [cZ 33,jA 34,xL 35 34,xN 36 35,xB 37 .lss 33 36] 37 [jA 38,xL 39 38,cZ 40,dH 41 39 40,aI 42 41,xL 43 42,aM 44 qI 43,bG 44]) (eH iN)))) 45 .add 25 25 45
def c_351_k1:Xu:=eH iN
def oV:AFn:=⟨3,[.tmp 6],dT AP [aG 9,b7 10 .lss 9,xM 11 10,bF 12 11 1,bY 13 11 5 3,aT 14 11 13,dA 15 11 14,dW 16 11 .geq 12 15,xW 17 11 16] 17 [iN] (g9 [xF 18 5 3,xL 19 18,aG 20,xX 21 6 19 20,aI 22 21,xL 23 22,xN 24 23,aW 25] 0 c_351_l0) c_351_k1⟩
def D0:AFn:=⟨2,[.tmp 4],c9 [fK 4] (xD [aG 5,HD,b8 7 6,aL 8 7,xA 9 10 8,aF 10,b8 11 10,xF 12 11 11,bJ 13 12,aF 14,b8 15 14,xF 16 10 15,xL 17 16,B4 18 pA 5 (.t 9) 13 (.t 17),aQ 18]) .ret⟩
def D1:AFn:=⟨3,[.cell 6 true 4],eN LZ [bQ 7 3,bJ 8 4,bL 9,B2 10 jX [.t 7,.t 8,.t 9,.c PC,.c PC],dN 6 10]⟩
def D3:AFn:=⟨3,[.cell 6 true 4],eN LZ [bQ 7 3,bJ 8 4,bL 9,B2 10 jX [.t 7,.t 8,.t 9,.c wY,.c wY],dN 6 10]⟩
def tC:AFn:=⟨4,[.tmp 8],bC [rS 4,fK 8] (eG [xC 9 (.func (.func qJ) [] [])] (oE [xM 10 9,bQ 11 4,aG 12,xO 13 (.build LL [(0,9,(.t 11)),(9,1,(.t 12))]),bL 14,cH 15,xT 16 10 [.t 13,.t 14,.t 15],bT 17 16] 17 (fK 8)) [aG 18,bL 19,bI 20 18 19,xL 21 20,cH 22,bI 23 21 22,xL 24 23,cA 24])⟩
def oW:AFn:=⟨5,[.tmp 10],kT [rS 5,xC 10 a9] [aG 13,dM 14 qK [.t 13],xM 11 14] (eG [xC 12 (.func (.func qJ) [] [])] (eM [xM 15 12,bQ 16 5,aG 17,xO 18 (.build LL [(0,9,(.t 16)),(9,1,(.t 17))]),bL 19,cH 20,xT 21 15 [.t 18,.t 19,.t 20],xM 22 21,fD 23 22 3 5,eP 24 22 23,fC 25 22 2,dB 26 22 (s8 3 none 24 (.t 25)),fD 27 22 1 26,eP 28 22 27,nZ 29 22 aU [.t 28],iR 30 22 .gtr 29 (.c fE),xV 31 22 30] 31 (xD [xM 32 11,bL 33,bI 34 32 33,xL 35 34,cH 36,xM 37 4,xF 38 3 5,xL 39 38,bL 40,xX 41 3 39 40,aI 42 41,xL 43 42,aM 44 aU 43,xB 45 .and 37 44,bI 46 35 36,xS 1 46 45])) [xM 47 11,xM 10 47])⟩
def c_357_l0:Xu:=nM 45 .lss 44 43 45 1 2 (bC [xM 46 44,xM 11 46] (kG [xM 48 11,xA 49 10 3,aG 50,cZ 51,fS 52 qC 49 50 51,xM 47 52,cC 53 47,cD 54 47,xE 55 2 47,xO 56 (PH 1 3 10 (.t 48)),xS 1 56 53,dG 54,cA 55] (bP 57) 58 .neq 57 58 [bP 59,iN,aW 7,cA 59])) 60 .add 44 44 60
def c_357_k1:Xu:=F0 [aG 62,bL 63,xX 64 3 62 63,xA 65 3 64,xA 66 3 10,aN 67 vI 65 66,xM 61 67,cC 68 61,cD 69 61,bG 68,cA 69] (dS [cY 70,cZ 71,bP 72,bG 70,dG 71,cA 72])
def fW:AFn:=⟨3,[.tmp 6,.tmp 7,.tmp 8],c9 [xP,iN,aW 7,aW 8] (gP [bL 12,aG 13,xN 14 13,xB 15 .geq 12 14] 15 [iN,aW 7,xI 8 3]) (c9 [aG 16,bL 17,xX 18 3 16 17,aL 19 18,xL 20 19,aM 21 mO 20,xM 9 21] (l6 0 [xM 23 9,b7 24 .lss 23,xM 22 24] 22 [iN,aW 7,xI 8 11] (eM [xM 26 9,b7 27 .eql 26,xM 25 27] 25 (F0 [xA 29 10 3,aG 30,bL 31,xX 32 3 30 31,xA 33 3 32,aN 34 qL 29 33,xM 28 34,cC 35 28,cD 36 28,bG 35,cA 36] (dS [cY 37,bL 38,d8 39 .add 38,bP 40,bG 37,dG 39,cA 40])))) (gR [cQ 10 wV] [bL 41,d8 42 .add 41,dG 42] [xM 43 9,aW 44] 1 c_357_l0 c_357_k1))⟩
def tD:AFn:=⟨1,[.tmp 2],eG [fU] (xU [aF 3] 0 (.seq (kS [d8 5 .eql 3,aJ 4] 4 (kS [xK 6 .eql 3 2,aQ 6] 4 (kS [xK 7 .eql 3 3,aQ 7] 4 (xR [xK 8 .eql 3 4,aQ 8])))) (yV 4 (eH fU) (.seq (kS [xK 10 .eql 3 5,xM 9 10] 9 (kS [xK 11 .eql 3 6,xM 9 11] 9 (kS [xK 12 .eql 3 7,xM 9 12] 9 (xR [xK 13 .eql 3 8,xM 9 13])))) (yV 9 (eH (xI 2 1)) (.seq (kS [xK 15 .eql 3 9,xM 14 15] 14 (kS [xK 16 .eql 3 10,xM 14 16] 14 (kS [xK 17 .eql 3 11,xM 14 17] 14 (kS [xK 18 .eql 3 12,xM 14 18] 14 (kS [xK 19 .eql 3 13,xM 14 19] 14 (kS [xK 20 .eql 3 14,xM 14 20] 14 (kS [xK 21 .eql 3 15,xM 14 21] 14 (xR [xK 22 .eql 3 16,xM 14 22])))))))) (yV 14 (eH (xI 2 2)) (eI [xK 24 .eql 3 17,xM 23 24] 23 2 3)))))))) [iL 2]⟩
def hS:AFn:=⟨2,AQ,c9 [B5,gS 4 fE] (xD [aF 9,b8 10 9,aL 11 10,xA 12 10 11,xA 13 3 3,aN 14 qL 12 13,cA 14,cC 15 8,cD 16 8,b6 15,bG 16]) (eG [fK 7] (xU [cN 17,xL 18 17] 0 (j6 [d8 20 .eql 18,xM 19 20] 19 (xR [dF 21,xL 22 21,xO 23 (yX .u32 22),dG 23]) (j6 [xK 25 .eql 18 2,xM 24 25] 24 (xD [aF 26,b8 27 26,xF 28 10 27,bJ 29 28,dF 30,xL 31 30,bR 32 3,xL 33 32,xO 34 (.build wM [(0,1,(.t 31)),(1,1,(.t 33))]),aN 35 jN 29 34,dG 35]) (j6 [xK 37 .eql 18 3,xM 36 37] 36 (oD [dF 38,xL 39 38,aF 40,b8 41 40,xF 42 14 41,xL 43 42,xN 44 43,xB 45 .lss 39 44] 45 (xD [aF 46,b8 47 46,xF 48 14 47,xL 49 48,dF 50,xL 51 50,bI 52 49 51,xL 53 52,dG 53])) (eM [xK 55 .eql 18 4,xM 54 55] 54 (oD [dF 56,xL 57 56,aF 58,b8 59 58,xF 60 10 59,aL 61 60,xL 62 61,xN 63 62,xB 64 .lss 57 63,xM 65 64,fC 66 65 0,dB 67 65 (HB 66),fD 68 65 10 67,fD 69 65 0 68,eP 70 65 69,fD 71 65 1 3,eP 72 65 71,dB 73 65 (s8 1 none 70 (.t 72)),eP 74 65 73,xV 75 65 74] 75 (xR [xC 7 (EZ 1)]))))))) [cZ 76,aJ 77,aM 78 aU 77,xB 79 .and 76 78,aJ 80,xO 81 (.build fM [(0,1,(.t 79)),(1,1,(.t 80))]),bN 4 81])⟩
def lQ:AFn:=⟨2,AQ,fB [kF,B5,gS 4 fE] (xU [gT 5,xL 6 5] 0 (j6 [xK 8 .eql 6 5,bP 7] 7 (z8 [cN 9,xL 10 9,dF 11,xL 12 11,aN 13 vJ 10 12,dF 14,xL 15 14,xO 16 (.build fM [(0,1,(.t 13)),(1,1,(.t 15))]),bN 4 16]) (j6 [xK 18 .eql 6 6,xM 17 18] 17 (z8 [cN 19,xL 20 19,aI 21 2,xL 22 21,dF 23,xL 24 23,fS 25 vK 20 22 24,dF 26,xL 27 26,xO 28 (.build fM [(0,1,(.t 25)),(1,1,(.t 27))]),bN 4 28]) (eM [xK 30 .eql 6 7,xM 29 30] 29 (z8 [cN 31,xL 32 31,aI 33 2,xL 34 33,dF 35,xL 36 35,fS 37 vL 32 34 36,dF 38,xL 39 38,xO 40 (.build fM [(0,1,(.t 37)),(1,1,(.t 39))]),bN 4 40]))))) (xD [cN 41,xL 42 41,aI 43 2,xL 44 43,bR 45 2,xL 46 45,fS 47 vM 42 44 46,bR 48 2,xL 49 48,xO 50 (.build fM [(0,1,(.t 47)),(1,1,(.t 49))]),bN 4 50]) .ret⟩
def eU:AFn:=⟨3,[.cell 6 true 2],eG [z7 4,xJ 5 2,gS 6 fE] (xU [aF 9] 0 (j6 [xK 11 .eql 9 9,xM 10 11] 10 (z8 [aL 12 4,xL 13 12,jA 14,xL 15 14,aI 16 4,xL 17 16,fS 18 vN 13 15 17,aI 19 4,xL 20 19,xO 21 (.build fM [(0,1,(.t 18)),(1,1,(.t 20))]),bN 6 21]) (j6 [xK 23 .eql 9 10,xM 22 23] 22 (z8 [aL 24 4,xL 25 24,jA 26,xL 27 26,aI 28 4,xL 29 28,fS 30 vO 25 27 29,aI 31 4,xL 32 31,xO 33 (.build fM [(0,1,(.t 30)),(1,1,(.t 32))]),bN 6 33]) (mY [xK 35 .eql 9 11,xM 34 35] 34 [aL 36 4,xL 37 36,jA 38,xL 39 38,xB 40 .and 37 39,aI 41 4,xL 42 41,xO 43 (.build fM [(0,1,(.t 40)),(1,1,(.t 42))]),bN 6 43] (mY [xK 45 .eql 9 12,xM 44 45] 44 [aL 46 4,xL 47 46,jA 48,xL 49 48,xB 50 .or 47 49,aI 51 4,xL 52 51,xO 53 (.build fM [(0,1,(.t 50)),(1,1,(.t 52))]),bN 6 53] (mY [xK 55 .eql 9 13,xM 54 55] 54 [aL 56 4,xL 57 56,jA 58,xL 59 58,xB 60 .xor 57 59,aI 61 4,xL 62 61,xO 63 (.build fM [(0,1,(.t 60)),(1,1,(.t 62))]),bN 6 63] (j6 [xK 65 .eql 9 14,xM 64 65] 64 (eN [aL 67 4,xL 68 67,aI 69 4,xL 70 69,jA 71,xL 72 71,aI 73 5,xL 74 73,B4 75 vP 68 (.t 70) 72 (.t 74),xM 66 75,cC 76 66,cD 77 66,dG 76,cA 77] [cZ 78,aI 79 4,xL 80 79,aI 81 5,xL 82 81,xB 83 .add 80 82,xO 84 (.build fM [(0,1,(.t 78)),(1,1,(.t 83))]),bN 6 84]) (gP [xK 86 .eql 9 15,xM 85 86] 85 [aL 87 4,xL 88 87,jA 89,xL 90 89,xB 91 .eql 88 90,aM 92 qM 91,bN 6 92])))))))) [aL 93 4,xL 94 93,jA 95,xL 96 95,xB 97 .lss 94 96,aM 98 qM 97,bN 6 98]⟩
def c_362_l0:Xu:=bE 22 .lss 21 20 22 (l5 [xM 23 21,bI 24 19 21,xL 25 24,b6 23,bG 25] [fF 26,aJ 27,cY 28,fS 29 qN 26 27 28,bT 30 29] 30 [xI 4 9]) 31 .add 21 21 31
def c_362_l1:Xu:=nM 36 .lss 35 34 36 2 3 (l5 [xM 37 35,bI 38 33 35,xL 39 38,dG 37,cA 39] [cN 40,xL 41 40,cZ 42,bI 43 41 42,xL 44 43,bT 45 44,xM 46 45,fC 47 46 8,nZ 48 46 vR [.t 47],dB 49 46 (PD 48),xV 50 46 49] 50 [xI 4 5]) 51 .add 35 35 51
def c_362_k2:Xu:=eH bU
def c_362_k3:Xu:= .seq (iT (dF 32) 33 32 34 33 35 2 c_362_l1) c_362_k2
def D4:AFn:=⟨2,[.tmp 4],dT mX [fF 9,bJ 10 3,aN 11 vQ 9 10,bT 12 11] 12 [xI 4 2] (eI [fF 13,bR 14 3,xL 15 14,Ox 16 qN 13 (kR (-1)) (.t 15),bT 17 16] 17 4 9) (.seq (iT (dF 18) 19 18 20 19 21 0 c_362_l0) c_362_k3)⟩
def c_363_l0:Xu:=bE 19 .lss 18 17 19 (bC [xM 20 18,bI 21 16 18,xL 22 21,cA 20,xM 9 22] (kG [cZ 23,cY 24,xM 25 9,aG 26,bP 27,bI 28 26 27,xL 29 28,dM 30 iD [.t 24,.t 25,.t 29],xO 31 (.bslice .imm 1 (List.replicate 2 kP) [(0,(.t 23)),(1,(.t 30))]),aM 32 vS 31,dG 32] (cZ 33) 34 .neq 33 34 [cZ 35,xC 4 a9,b6 35])) 36 .add 18 18 36
def c_363_k1:Xu:=dS [cY 37,dM 38 jR [.t 37],cC 39 38,cD 40 38,aQ 39,b6 40]
def tE:AFn:=⟨2,fO,c9 [xC 4 a9,eB] (kH [aF 10,xN 11 10,aG 12,xN 13 12,xB 14 .neq 11 13] 14 (xC 4 a9) 5 2) (gR [dM 15 mJ [],bG 15] [aW 7] [aF 16,xN 17 16,aW 18] 0 c_363_l0 c_363_k1)⟩
def c_364_l0:Xu:=nM 33 .lss 32 31 33 1 2 (c9 [xM 34 32,dG 34] (eM [aF 35,b8 36 35,aI 37 36,xL 38 37,xK 39 .rem 38 8,b7 40 .eql 39] 40 (xR [aF 41,aF 42,b8 43 42,aL 44 43,xL 45 44,xO 46 (.bslice .row 1 (List.replicate 1 [.int .u8 0]) [(0,(.c (.int .u8 0)))]),PF 47 .row 1 1 (.t 45) 46,b8 48 41,aL 49 48,xS 1 49 47])) (c9 [aG 50,bL 51,d8 52 .sub 51,cZ 53,xB 54 .sub 52 53,xB 55 .shr 50 54,n7 56 .and 55 (EZ 1),xO 57 (yX .u8 56),cA 57] (xD [aF 58,b8 59 58,aL 60 59,xL 61 60,aF 62,b8 63 62,aI 64 63,xL 65 64,xK 66 .quo 65 8,bI 67 61 66,xL 68 67,bP 69,aF 70,b8 71 70,aI 72 71,xL 73 72,xK 74 .rem 73 8,xO 75 (.bin .sub (kR 7) (.t 74)),xB 76 .shl 69 75,xB 77 .or 68 76,bI 78 61 66,xS 1 78 77]) (xR [aF 79,b8 80 79,aI 81 80,xL 82 81,d8 83 .add 82,b8 84 79,aI 85 84,xS 1 85 83]))) 86 .add 32 32 86
def c_364_k1:Xu:=eH iN
def lR:AFn:=⟨3,[.tmp 6],fB [iN] (l6 0 [aF 10,xO 11 (.eqn false (.t 10) (.c .nilptr)),xM 12 11,bF 13 12 0,dE 14 12 (HB 13),bY 15 12 2 14,aT 16 12 15,xY 17 12 16,xW 18 12 17,xM 9 18] 9 [xI 6 1] (mY [bL 20,d8 21 .lss 20,xM 22 21,bF 23 22 2,eO 24 22 .gtr 23 32,xW 25 22 24,xM 19 25] 19 [xI 6 10] (eI [aG 27,bL 28,aN 29 g6 27 28,bT 30 29,xM 26 30] 26 6 9))) (g9 [bL 31,aW 32] 1 c_364_l0) c_364_k1⟩
def c_367_l0:Xu:=bE 9 .lss 8 7 9 LK 18 .add 8 8 18
def c_367_k1:Xu:=eH (iL 4)
def D5:AFn:=⟨2,[.tmp 4],gQ [bU] j5 0 c_367_l0 c_367_k1⟩
def D6:AFn:=⟨2,[.tmp 4],gA cR [l8,aG 6,aN 7 vT 5 6,b7 8 .geq 7,aQ 8]⟩
def D7:AFn:=⟨2,[.tmp 3],eN AZ [gT 4,xL 5 4,aL 6 1,xL 7 6,xB 8 .eql 5 7,bP 3]⟩
def eV:AFn:=⟨2,fO,bC [kF,B5,bU,bX 5] (fB [bR 7 2,xL 8 7,bG 8] (eM [cN 9,xL 10 9,xK 11 .neq 10 (-1)] 11 (.seq (mZ [cN 12,xL 13 12,b7 14 .lss 13,xM 15 14,bY 16 15 0 3,aT 17 15 16,dY 18 15 2,aT 19 15 18,dA 20 15 19,dW 21 15 .geq 17 20,xW 22 15 21] 22 bU (bX 5)) (xR [aI 23 2,xL 24 23,cN 25,xL 26 25,dH 27 24 26,aI 28 27,xL 29 28,bG 29]))) (mZ [dF 30,xL 31 30,b7 32 .lss 31,xM 33 32,dY 34 33 3,aT 35 33 34,bF 36 33 6,dA 37 33 36,dW 38 33 .geq 35 37,xW 39 33 38] 39 bU (bX 5)) (dS [cY 40,dF 41,xL 42 41,dH 43 40 42,aI 44 43,xL 45 44,aQ 45,wZ 5]))⟩
def oY:AFn:=⟨3,[.tmp 6],bC [xP,iN] (eG [aG 10,cN 11,xA 12 10 11,aN 13 jQ 10 12,xM 9 13,cC 14 9,cD 15 9,dG 14,cA 15] (eI [bP 16,b7 17 .eql 16,xM 18 17,fC 19 18 7,fC 20 18 2,iR 21 18 .neq 19 (.t 20),xV 22 18 21] 22 6 10) [bP 23,bG 23])⟩
def jH:AFn:=⟨3,[.tmp 6],Ot AP (xD [bQ 8 3,xF 9 6 3,xL 10 9,aG 11,xX 12 7 10 11,xF 13 3 12,aY 14 13,aN 15 fZ 8 14,dG 15]) 0 (mY [jA 17,xL 18 17,cZ 19,aN 20 g6 18 19,bT 21 20,xM 22 21,dY 23 22 5,aT 24 22 23,bF 25 22 7,s9 26 22 g6 [.t 24,.t 25],xY 27 22 26,xW 28 22 27,xM 16 28] 16 [xI 6 9] (mY [jA 30,xL 31 30,aI 32 5,xL 33 32,xB 34 .andNot 31 33,n7 35 .neq 34 fE,xM 29 35] 29 [xI 6 5] (eI [bQ 37 3,aG 38,bR 39 5,xL 40 39,fS 41 qE 37 38 40,bT 42 41,xM 36 42] 36 6 14))) (eH iN)⟩
def lS:AFn:=⟨3,[.tmp 6],eG wW (xU [bL 7] 0 (fR (.block 2 (.block 1 (.seq (.seq (eM [xK 9 .eql 7 (-1),cA 9] 8 (.exit 1)) (eM [xK 11 .eql 7 (-2),xM 10 11] 10 (.exit 2))) (.exit 0)))) (nO 6) (.exit 0))) [bL 12,aG 13,xB 14 .gtr 12 13,xM 15 14,fC 16 15 2,fD 17 15 6 3,eP 18 15 17,dB 19 15 (F2 18),iR 20 15 .lss 16 (.t 19),xV 21 15 20,bG 21]⟩
def D8:AFn:=⟨2,[.tmp 3],bC AZ (eN [xL 4 1,d8 5 .add 4,xS 1 1 5] [wZ 3])⟩
def c_375_l0:Xu:=bE 9 .lss 8 7 9 LK 18 .add 8 8 18
def c_375_k1:Xu:=eH (iL 4)
def D9:AFn:=⟨2,[.tmp 4],gQ [bU] j5 0 c_375_l0 c_375_k1⟩
def DA:AFn:=⟨1,[.tmp 2],dT [fU] [aF 3,aM 4 mN 3,bT 5 4] 5 [fU] (xD [HD,b8 7 6,aL 8 7,xL 9 8,xN 10 9,xO 11 (.bin .mul (kR 8) (.t 10)),aF 12,b8 13 12,aI 14 13,xL 15 14,xB 16 .sub 11 15,dX 16]) .ret⟩
def DB:AFn:=⟨1,[.tmp 2],eG [kV,fU] (oE [aY 3 1,aM 4 g0 3,b7 5 .neq 4] 5 fU) [aY 6 1,aM 7 jS 6,aM 8 mK 7,bP 2]⟩
def c_383_l0:Xu:=nM 26 .lss 25 24 26 1 2 (F0 [aF 27,b8 28 27,aL 29 28,xL 30 29,aF 31,b8 32 31,aI 33 32,xL 34 33,xK 35 .quo 34 8,bI 36 30 35,xL 37 36,aF 38,b8 39 38,aI 40 39,xL 41 40,xK 42 .rem 41 8,xO 43 (.bin .sub (kR 7) (.t 42)),xB 44 .shr 37 43,n7 45 .and 44 (.int .u8 1),dG 45] (bC [cY 46,n7 47 .shl 46 (.int .u64 1),cZ 48,xO 49 (yX .u32 48),xB 50 .or 47 49,bG 50] (xR [aF 51,b8 52 51,aI 53 52,xL 54 53,d8 55 .add 54,b8 56 51,aI 57 56,xS 1 57 55]))) 58 .add 25 25 58
def c_383_k1:Xu:=dS [cY 59,aQ 59,eB]
def DC:AFn:=⟨2,fO,c9 [fK 4,eB] (l6 0 [aF 9,aM 10 mN 9,bT 11 10,cA 11] 8 [fK 4,xI 5 1] (mY [aG 13,d8 14 .lss 13,xM 15 14,bF 16 15 1,eO 17 15 .gtr 16 32,xW 18 15 17,xM 12 18] 12 [fK 4,xI 5 10] (kH [aF 20,aM 21 qG 20,aG 22,xB 23 .lss 21 22,xM 19 23] 19 (fK 4) 5 3))) (gQ [fK 6] [aG 24,aW 25] 1 c_383_l0 c_383_k1)⟩
def c_384_l0:Xu:=Fy (xK 6 .lss 5 32) 6 0 1 (bC [aJ 7,aQ 7] (xR [cH 8,aF 9,xM 10 4,xB 11 .shr 9 10,n7 12 .and 11 (EZ 1),xO 13 (yX .i64 12),xB 14 .add 8 13,xM 3 14])) 15 .add 5 5 15
def c_384_k1:Xu:=yY 16 16
def DE:AFn:=⟨1,[.tmp 2],gR [fU] [aW 3] [eB] 0 c_384_l0 c_384_k1⟩
def fX:AFn:=⟨5,[.cell 10 true 4],fB [rS 5,z7 6,iM 10 a9 a9 a9 a9] (xQ [bJ 12 6,dM 13 cV [.t 12],iM 11 a9 a9 a9 a9,dN 11 13] [11]) (mZ [aI 14 5,xL 15 14,bL 16,aN 17 vU 15 16,bT 18 17,xM 19 18,bY 20 19 0 11,aT 21 19 20,bF 22 19 2,s9 23 19 vV [.t 21,.t 22],xY 24 19 23,xW 25 19 24,xM 26 25,bF 27 26 4,bF 28 26 27,fD 29 28 0 11,eP 30 28 29,fC 31 28 2,dB 32 28 (s8 1 none 30 (.t 31)),eP 33 28 32,fC 34 28 3,dB 35 28 (.eqs false false [.b] (.t 33) (.t 34)),dE 36 26 (.pick (.t 28) (.t 35) (.c wY)),xW 37 26 36] 37 (bJ 38 11) (dN 10 38)) (bC [aL 39 11,xL 40 39,bL 41,cH 42,bI 43 40 41,xS 1 43 42] (eN [aI 44 11,xL 45 44,bL 46,dM 47 jM [.t 45,.t 46],⟨none,none,.clear rP (.t 47)⟩] [bJ 48 11,dN 10 48]))⟩
def jI:AFn:=⟨3,[.tmp 6],eG wW (oE [aG 7,b7 8 .lss 7,bP 9,bF 10 9 1,bY 11 9 0 3,bY 12 9 3 11,aT 13 9 12,dA 14 9 13,dW 15 9 .geq 10 14,xW 16 9 15,xM 17 16,bF 18 17 1,bY 19 17 9 3,aT 20 17 19,dA 21 17 20,dW 22 17 .geq 18 21,xW 23 17 22] 23 (bX 6)) [bL 24,xO 25 (yX .i64 24),cN 26,xF 27 3 26,xL 28 27,aG 29,xX 30 3 28 29,bR 31 30,xL 32 31,xB 33 .lss 25 32,xM 34 33,fC 35 34 2,dB 36 34 (yX .i64 35),fD 37 34 9 3,eP 38 34 37,fC 39 34 1,dB 40 34 (s8 1 none 38 (.t 39)),eP 41 34 40,dB 42 34 (F2 41),iR 43 34 .lss 36 (.t 42),xV 44 34 43,bG 44]⟩
def c_387_l0:Xu:=bE 12 .lss 11 10 12 LI 28 .add 11 11 28
def c_387_k1:Xu:=yY 29 29
def DF:AFn:=⟨1,[.tmp 2],gR rQ LQ AM 0 c_387_l0 c_387_k1⟩
def cU:AFn:=⟨2,fO,fB H9 (xU [cN 10,xL 11 10] 0 (j6 [d8 13 .eql 11,xM 12 13] 12 (eG [bR 15 3,xL 16 15,aM 17 iE 16,xM 14 17,cC 18 14,cD 19 14,bG 18,dG 19] (oD [cZ 20,b7 21 .eql 20,xM 22 21,fD 23 22 1 3,eP 24 22 23,iR 25 22 .lss 24 dU,fC 26 22 25,dY 27 26 3,aT 28 26 27,bF 29 26 6,s9 30 26 aU [.t 29],dE 31 26 (yX .i64 30),dW 32 26 .gtr 28 31,dB 33 22 (.pick (.t 26) (.c PC) (.t 32)),xV 34 22 33] 34 (o9 bU (xI 5 9))) [cY 35,cZ 36,aQ 35,b6 36]) (j6 [xK 38 .eql 11 2,xM 37 38] 37 (fR (xQ [xA 40 10 2,dF 41,xL 42 41,bR 43 3,xL 44 43,fS 45 vW 40 42 44,xM 39 45,cC 46 39,cD 47 39,gS 8 (.str []),bN 8 46,xM 9 47] [8]) (kH [xM 48 9,bT 49 48] 49 bU 5 8) (dS [aI 50 8,xL 51 50,aM 52 iE 51,cC 53 52,cD 54 52,aQ 53,b6 54])) (eM [xK 56 .eql 11 3,xM 55 56] 55 (.seq (kH [dF 57,xL 58 57,b7 59 .lss 58,xM 60 59,dY 61 60 3,aT 62 60 61,bY 63 60 9 2,aT 64 60 63,dA 65 60 64,dW 66 60 .geq 62 65,xW 67 60 66] 67 bU 5 8) (dS [xF 68 9 2,xL 69 68,dF 70,xL 71 70,dH 72 69 71,aI 73 72,xL 74 73,aM 75 iE 74,cC 76 75,cD 77 75,aQ 76,b6 77])))))) (kH [dF 78,xL 79 78,b7 80 .lss 79,xM 81 80,dY 82 81 3,aT 83 81 82,bY 84 81 0 2,dY 85 81 84,aT 86 81 85,dA 87 81 86,dW 88 81 .geq 83 87,xW 89 81 88] 89 bU 5 8) (o9 (xI 4 1) eB)⟩
def bA:AFn:=⟨2,fO,fB H9 (xU [gT 8,xL 9 8] 0 (.seq (kS [xK 11 .eql 9 6,xM 10 11] 10 (xR [xK 12 .eql 9 7,xM 10 12])) (yV 10 (kH [aI 13 2,xL 14 13,b7 15 .lss 14,xM 16 15,dY 17 16 2,aT 18 16 17,eO 19 16 .gtr 18 31,xW 20 16 19] 20 bU 5 9) (j6 [xK 22 .eql 9 8,xM 21 22] 21 (fR (kH [aI 23 2,xL 24 23,b7 25 .lss 24] 25 bU 5 9) (l5 [bR 27 2,xL 28 27,aM 29 iE 28,xM 26 29,cC 30 26,cD 31 26,bG 30,dG 31] [cZ 32,b7 33 .neq 32,xM 34 33,dY 35 34 2,aT 36 34 35,dE 37 34 wU,aT 38 34 37,bY 39 34 2 2,aT 40 34 39,dW 41 34 .sub 38 40,dW 42 34 .gtr 36 41,xW 43 34 42] 43 [bU,xI 5 10]) (dS [bR 44 2,xL 45 44,aQ 45,eB])) (mY [xK 47 .eql 9 14,xM 46 47] 46 [xO 48 wU,xL 49 48,xO 50 AN,xL 51 50,xB 52 .add 49 51,aM 53 iE 52,cC 54 53,cD 55 53,aQ 54,b6 55] (eM [xK 57 .eql 9 17,xM 56 57] 56 (.seq (kH [xO 58 wU,xL 59 58,d8 60 .neq 59,xM 61 60,dE 62 61 AN,aT 63 61 62,dE 64 61 (PH 1 3 3 (kR 2)),aT 65 61 64,dW 66 61 .neq 63 65,xW 67 61 66] 67 bU 5 10) (dS [xO 68 AN,xL 69 68,aQ 69,eB])))))))) (kH [gT 70,xL 71 70,aM 72 mO 71,xK 73 .eql 72 2,xM 74 73,dB 75 74 wU,eP 76 74 75,dB 77 74 AN,eP 78 74 77,iR 79 74 .neq 76 (.t 78),xV 80 74 79] 80 bU 5 10) (.seq (mZ [gT 81,xL 82 81,xK 83 .eql 82 15,xM 84 83,bY 85 84 0 2,aT 86 84 85,eO 87 84 .eql 86 16,xW 88 84 87] 88 (xI 4 1) eB) (dS [xO 89 wU,xL 90 89,aQ 90,eB]))⟩
def DG:AFn:=⟨2,[.tmp 4],gA (fK 4) [l8,xO 6 (.un .xor (.t 5)),aG 7,aM 8 aU 7,xB 9 .and 6 8,aQ 9]⟩
def DH:AFn:=⟨3,[.tmp 6],c9 [fK 6] (xD [aF 7,aG 8,xO 9 (.minmax true [.t 8,.c nX]),xB 10 .shl 7 9,bL 11,aM 12 aU 11,xB 13 .and 10 12,bG 13]) .ret⟩
def DI:AFn:=⟨3,[.tmp 6],gA (fK 6) [aF 7,bL 8,aM 9 aU 8,xB 10 .and 7 9,aG 11,xO 12 (.minmax true [.t 11,.c nX]),xB 13 .shr 10 12,bG 13]⟩
def DJ:AFn:=⟨3,[.tmp 6],dT [fK 6] [bL 7,xO 8 LS,aM 9 eE 8,bT 10 9,xM 11 10,bF 12 11 1,eO 13 11 .lss 12 0,xW 14 11 13,xM 15 14,bF 16 15 1,bF 17 15 2,dE 18 15 (.bin .sub (kR 32) (.t 17)),dW 19 15 .gtr 16 18,xW 20 15 19] 20 [fK 6] (xD [aF 21,aG 22,xB 23 .shr 21 22,bL 24,aM 25 aU 24,xB 26 .and 23 25,bG 26]) .ret⟩
def DK:AFn:=⟨3,[.tmp 6],gA (fK 6) [aF 7,aG 8,xB 9 .add 7 8,bL 10,aM 11 aU 10,xB 12 .and 9 11,bG 12]⟩
def DL:AFn:=⟨3,[.tmp 6],gA (fK 6) [aF 7,aG 8,xB 9 .sub 7 8,bL 10,aM 11 aU 10,xB 12 .and 9 11,bG 12]⟩
def DM:AFn:=⟨4,[.tmp 8,.tmp 9],dT [fK 8,bX 9] [aG 10,cH 11,xO 12 (.bslice .imm 1 (List.replicate 2 kP) [(0,(.t 10)),(1,(.t 11))]),aM 13 eE 12,bT 14 13,xM 15 14,bF 16 15 1,bF 17 15 3,dW 18 15 .add 16 17,eO 19 15 .gtr 18 32,xW 20 15 19] 20 [fK 8,bX 9] (xD [aF 21,aG 22,aM 23 aU 22,xB 24 .and 21 23,cH 25,xB 26 .shl 24 25,bL 27,cH 28,aM 29 aU 28,xB 30 .and 27 29,xB 31 .or 26 30,cA 31,wZ 9]) .ret⟩
def DN:AFn:=⟨1,HA,eG [gS 2 fE] (mZ [aF 3] 3 (xO 4 (.build fM [(0,1,(.c (.int .u32 1))),(1,1,H8)])) (bN 2 4)) [xO 5 (.build fM [(0,1,(.c (.int .u32 0))),(1,1,H8)]),bN 2 5]⟩
def c_398_l0:Xu:=bE 36 .lss 35 34 36 (l5 [xM 37 35,bI 38 33 35,xL 39 38,b6 37,bG 39] [cY 40,xN 41 40,aI 42 2,xL 43 42,aJ 44,dH 45 43 44,aI 46 45,xL 47 46,xN 48 47,xB 49 .neq 41 48] 49 [cR]) 50 .add 35 35 50
def c_398_k1:Xu:=nO 4
def DO:AFn:=⟨2,[.tmp 4],dT AY [cN 7,xL 8 7,xN 9 8,aI 10 2,xL 11 10,xN 12 11,xB 13 .neq 9 12,xM 14 13,dY 15 14 3,aT 16 14 15,dA 17 14 16,dY 18 14 2,aT 19 14 18,dA 20 14 19,dW 21 14 .neq 17 20,xW 22 14 21,xM 23 22,bY 24 23 2 3,aT 25 23 24,dA 26 23 25,bY 27 23 2 2,aT 28 23 27,dA 29 23 28,dW 30 23 .neq 26 29,xW 31 23 30] 31 [cR] (iT (dF 32) 33 32 34 33 35 0 c_398_l0) c_398_k1⟩
def c_399_l0:Xu:=bE 12 .lss 11 10 12 (l5 [xM 13 11,bI 14 9 11,xL 15 14,dG 13,cA 15] [bP 16,bQ 17 3,aG 18,cZ 19,xO 20 (.build wM [(0,1,(.t 18)),(1,1,(.t 19))]),aN 21 fZ 17 20,aM 22 aU 21,xB 23 .gtr 16 22] 23 [bX 6]) 24 .add 11 11 24
def c_399_k1:Xu:=nO 6
def DP:AFn:=⟨3,[.tmp 6],gQ wW [bL 9,xN 10 9,aW 11] 0 c_399_l0 c_399_k1⟩
def DQ:AFn:=⟨1,[.tmp 2],gA (bX 2) [aF 3,B1 4 vX 3 (.c (.func (.func jY) [] [])),bT 5 4,aJ 2]⟩
def c_401_l0:Xu:=bE 8 .lss 7 6 8 (kG [bI 9 5 7,xL 10 9,aQ 10] (xM 11 4) 12 .neq 11 12 [xM 13 4,dX 13]) 14 .add 7 7 14
def c_401_k1:Xu:=eH fU
def DR:AFn:=⟨1,[.tmp 2],gQ [fU] [l8,xN 6 5,aW 7] 0 c_401_l0 c_401_k1⟩
def c_402_l0:Xu:=bE 9 .lss 8 7 9 (l5 AR [aG 11,aF 12,aJ 13,dH 14 12 13,aY 15 14,xT 16 11 [.t 15]] 16 AS) 18 .add 8 8 18
def c_402_k1:Xu:=eH (iL 4)
def DS:AFn:=⟨2,[.tmp 4],gQ [bU] j5 0 c_402_l0 c_402_k1⟩
def tG:AFn:=⟨2,[.tmp 4],gA cR GV⟩
def tH:AFn:=⟨2,[.tmp 4],gA cR GV⟩
def oZ:AFn:=⟨1,AU,eG [fU,aW 3] (kH [aF 4,d8 5 .lss 4,aJ 6,bF 7 6 0,eO 8 6 .gtr 7 32,xW 9 6 8] 9 fU 3 10) [aF 10,dX 10,aW 3]⟩
def eW:AFn:=⟨3,[.cell 6 true 2,.tmp 7],bC [xP,gS 6 (.str []),bX 7] (fB [cN 9,bR 10 9,xL 11 10,cA 11] (eM [aG 12,xK 13 .neq 12 (-1)] 13 (.seq (gP [aG 14,b7 15 .lss 14,xM 16 15,bF 17 16 1,bY 18 16 0 3,dY 19 16 18,aT 20 16 19,dA 21 16 20,dW 22 16 .geq 17 21,xW 23 16 22] 23 [xO 24 (.build wQ []),bN 6 24,bX 7]) (xR [cN 25,aI 26 25,xL 27 26,aG 28,dH 29 27 28,aI 30 29,xL 31 30,cA 31]))) (gP [bL 32,b7 33 .lss 32,xM 34 33,bF 35 34 2,bF 36 34 8,dA 37 34 36,dW 38 34 .geq 35 37,xW 39 34 38] 39 [xO 40 (.build wQ []),bN 6 40,bX 7]) (dS [bP 41,bL 42,dH 43 41 42,aY 44 43,bN 6 44,wZ 7]))⟩
def DT:AFn:=⟨2,[.tmp 4],gA cR [l8,aG 6,aN 7 vY 5 6,b7 8 .geq 7,aQ 8]⟩
def DU:AFn:=⟨1,[.tmp 2],gA (bX 2) [aF 3,n7 4 .neq 3 fE,dX 4]⟩
def c_410_l0:Xu:=bE 9 .lss 8 7 9 (l5 AR [aG 11,aF 12,aJ 13,bI 14 12 13,xL 15 14,xT 16 11 [.t 15]] 16 AS) 18 .add 8 8 18
def c_410_k1:Xu:=eH (iL 4)
def DV:AFn:=⟨2,[.tmp 4],gQ [bU] j5 0 c_410_l0 c_410_k1⟩
def DW:AFn:=⟨2,[.tmp 4],bC H5 (eN LP [xC 4 (.Xt 5 [])])⟩
def tI:AFn:=⟨2,[.tmp 4],eG H5 (gP LP 10 [gT 11,xF 12 3 11,xL 13 12,aQ 13]) [gT 14,xF 15 4 14,xL 16 15,aQ 16]⟩
def tJ:AFn:=⟨2,[.tmp 4],eG H5 (.seq (oC [(1,5)] [⟨some 5,none,.faddr 1 (.t 3)⟩,⟨some 6,none,.load false 1 (.t 5)⟩,⟨some 7,none,.faddr 0 (.t 2)⟩,⟨some 8,none,.faddr 2 (.t 7)⟩,⟨some 9,none,.load false 1 (.t 8)⟩,⟨some 10,none,.append .app 3 24 (.c wX) (.t 9)⟩,⟨some 11,none,.pcallv (.t 6) [.t 10]⟩] none) (IX 11 (dS [gT 12,xF 13 3 12,xL 14 13,aQ 14]))) [gT 15,xF 16 4 15,xL 17 16,aQ 17]⟩
def tabL:List (Nat×AFn):=[(MO,MN),
  (FG,F8),
  (FH,J8),
  (FI,qZ),
  (FJ,zJ),
  (r6,sO),
  (FK,F9),
  (FL,J9),
  (FM,FA),
  (FN,FB),
  (FO,FC),
  (FP,FD),
  (w3,zK),
  (zP,lT),
  (FQ,r5),
  (FR,nT),
  (FU,zL),
  (zQ,JA),
  (zR,zM),
  (FV,FE),
  (zS,zN),
  (zU,JB),
  (w6,FF),
  (tK,sD),
  (tL,sE),
  (tN,sF),
  (hZ,lB),
  (p5,BD),
  (i6,lC),
  (jJ,BE),
  (p6,gU),
  (tO,gV),
  (tP,BF),
  (tQ,sG),
  (tR,BG),
  (tS,lD),
  (lU,dO),
  (lW,BH),
  (tT,eT),
  (tU,sH),
  (p7,sI),
  (jK,lE),
  (tV,BI),
  (tW,oF),
  (i8,BJ),
  (tX,sJ),
  (tY,BK),
  (aU,sK),
  (lY,gW),
  (cV,gX),
  (fZ,oG),
  (i9,dP),
  (iA,oH),
  (p8,sL),
  (lZ,sN),
  (p9,jD),
  (pA,sP),
  (pB,BL),
  (tZ,BM),
  (mA,sQ),
  (aR,sR),
  (bM,BN),
  (pC,BO),
  (pD,BP),
  (mB,BQ),
  (g0,lG),
  (iB,BR),
  (pE,BS),
  (mD,BT),
  (u5,BU),
  (pF,BV),
  (mE,BW),
  (u6,jE),
  (pG,BZ),
  (mF,C0),
  (pH,lH),
  (pI,C1),
  (mG,C2),
  (pJ,oI),
  (u9,gY),
  (pK,sS),
  (uA,C3),
  (eD,lI),
  (uB,C4),
  (uC,C5),
  (pL,C6),
  (g6,sT),
  (uD,sW),
  (eE,jF),
  (g7,oJ),
  (uF,C7),
  (pM,C8),
  (pN,oK),
  (uG,sX),
  (mH,sY),
  (jL,oL),
  (iC,oM),
  (pO,C9),
  (uH,oN),
  (uI,oO),
  (pP,sZ),
  (jM,bZ),
  (uJ,oP),
  (uK,lJ),
  (jN,t6),
  (cF,CA),
  (uL,t7),
  (jO,CB),
  (mI,oQ),
  (pQ,CC),
  (uM,oR),
  (pR,CD),
  (pS,CE),
  (pT,CG),
  (pU,CH),
  (pV,CJ),
  (pW,CK),
  (pX,CL),
  (jQ,lK),
  (dR,cT),
  (uN,CM),
  (mJ,CN),
  (pY,t8),
  (pZ,oS),
  (jR,t9),
  (mK,CO),
  (jS,CP),
  (q6,CQ),
  (uO,lO),
  (uP,aO),
  (uQ,oT),
  (uR,CR),
  (mL,tA),
  (eX,lP),
  (q8,gZ),
  (uS,dQ),
  (uT,tB),
  (uU,CT),
  (q9,CU),
  (uV,CV),
  (mM,CW),
  (uW,CX),
  (uX,CY),
  (jT,jG),
  (mN,CZ),
  (uY,oU),
  (qA,oV),
  (jV,D0),
  (uZ,D1),
  (v5,D3),
  (v6,tC),
  (qB,oW),
  (qC,fW),
  (mO,tD),
  (v7,hS),
  (v8,lQ),
  (v9,eU),
  (vA,D4),
  (vB,tE),
  (iD,lR),
  (vC,D5),
  (vD,D6),
  (jW,D7),
  (qD,eV),
  (mP,oY),
  (vE,jH),
  (qE,lS),
  (qF,D8),
  (vF,D9),
  (qG,DA),
  (vG,DB),
  (qH,DC),
  (qI,DE),
  (jX,fX),
  (qJ,jI),
  (qK,DF),
  (qL,cU),
  (vI,bA),
  (vJ,DG),
  (vK,DH),
  (vL,DI),
  (vM,DJ),
  (vN,DK),
  (vO,DL),
  (vP,DM),
  (qM,DN),
  (vQ,DO),
  (qN,DP),
  (vR,DQ),
  (vS,DR),
  (vT,DS),
  (vU,tG),
  (vV,tH),
  (iE,oZ),
  (vW,eW),
  (vX,DT),
  (jY,DU),
  (vY,DV),
  (qO,DW),
  (qP,tI),
  (vZ,tJ)]
def tabD:List (Nat×ADFn):=[(FS,cJ)]
def tabC:List CloneD:=[⟨w5,1,8,.row⟩,⟨zT,2,8,.app⟩,⟨lX,1,4,.app⟩,⟨JL,2,24,.app⟩,⟨JM,3,32,.app⟩,⟨K1,3,24,.app⟩,⟨K3,3,16,.app⟩,⟨K4,3,24,.app⟩]
def nilL:List (Nat×Nat):=[(MO,14),(PS,3),(PS,4),(PS,6),(r6,10),(PN,8),(zP,6),(K8,3),(PT,4),(PV,15),(PX,14),(w6,3),(JC,5),(lW,5),(JE,10),(JF,16),(lY,10),(p8,7),(JI,3),(JJ,5),(pD,5),(pE,5),(pF,5),(pG,5),(pI,5),(JK,5),(JN,5),(JO,5),(JP,5),(JQ,5),(JS,3),(JU,4),(JV,8),(JW,12),(JX,8),(pO,3),(jS,3),(K0,5),(K5,8),(jT,9),(cV,9),(cV,13),(cV,30)]
def thr:List Nat:=[JY,JZ,PP,K9,PQ,PR,w4,p5,i6,p6,JD,iA,pM,pN,mH,pT,pU,pV,pW,pX,dR,mJ,pZ,jR,eX,jT,iD,qH]
def thrAt:List (Nat×Nat):=[(PU,fY),(K6,fY),(lZ,jO),(mI,jO),(w4,w5),(PO,K8),(lY,g7),(JT,fY),(hZ,cV),(jX,cV),(hZ,i9),(i9,jM),(jX,jM),(qB,qK)]
def thrV:List Nat:=[eX,iA,qO,qP,mA,p9]
def rowAt:List (Nat×Nat):=[(uE,27),(uE,29),(fY,26),(fY,34),(JZ,112),(w5,7),(fY,9),(fY,28),(cV,32)]
def thrVAt:List (Nat×Nat):=[]
def rowF:List Nat:=[w4,FT,jL,iC,iD]
def rowFB:List Nat:=[jL,iC,iD]
def appAt:List (Nat×Nat):=[(FT,32),(w4,70)]
def immAt:List (Nat×Nat):=[(JR,26)]
def slcHL:List Nat:=[]
def browAt:List (Nat×Nat):=[(uE,28),(fY,27),(w4,39),(cV,31)]
def boxiAt:List (Nat×Nat):=[(K9,2),(JY,1),(FT,1)]
def takeAt:List (Nat×Nat):=[]
def boxiL:List (Nat×List Nat):=[(3,[1]),(4,[2]),(5,[1]),(6,[3]),(7,[1]),(8,[1]),(9,[2]),(10,[1]),(11,[2,3]),(13,[3,4,5]),(14,[3,4,5]),(15,[2,3]),(18,[3,4]),(19,[3]),(21,[1]),(22,[2,3]),(29,[5]),(31,[8,9]),(32,[2]),(34,[1]),(37,[3,4,5]),(38,[3,5]),(39,[4,5]),(45,[1]),(46,[2,3]),(47,[3,4,5]),(48,[1]),(49,[1]),(50,[1]),(51,[1]),(52,[1]),(53,[1]),(54,[1]),(55,[4]),(56,[3,5]),(57,[2]),(59,[2,3]),(67,[1]),(74,[3,5]),(78,[1]),(79,[3]),(81,[1]),(89,[2]),(90,[4,5,6]),(91,[2,3]),(92,[5,6]),(93,[4,5,7]),(98,[1]),(100,[5,9]),(101,[2]),(102,[2]),(103,[4,5,6]),(110,[1]),(112,[1]),(113,[2]),(114,[2]),(115,[1]),(116,[1]),(117,[1]),(118,[3,5]),(119,[3]),(120,[3]),(121,[2,3]),(123,[1]),(126,[2]),(130,[1]),(131,[1]),(132,[1]),(133,[1]),(134,[1]),(135,[1]),(137,[1]),(138,[1]),(139,[2]),(140,[2]),(141,[3]),(142,[2]),(143,[3]),(144,[2,3]),(146,[1]),(148,[2]),(151,[2]),(153,[2,3]),(154,[2,3]),(155,[2]),(157,[2,3]),(159,[3,5]),(160,[1]),(161,[3]),(162,[7,8]),(163,[4,5,7]),(164,[4,5]),(166,[2]),(167,[3,5]),(170,[2]),(172,[2,3]),(177,[3,5]),(179,[4,5,6]),(180,[5,6]),(182,[2,3]),(183,[2,3]),(186,[2]),(188,[3,4,5]),(189,[2]),(190,[2,3]),(191,[2,3]),(192,[2]),(196,[3]),(197,[2]),(198,[3]),(199,[2]),(200,[2]),(207,[1]),(208,[1]),(211,[1]),(214,[1]),(215,[1]),(217,[1]),(218,[2]),(220,[1]),(221,[1]),(222,[1]),(223,[1]),(236,[1]),(238,[2,3]),(239,[2,3]),(240,[2]),(243,[2]),(244,[1]),(246,[4,5]),(247,[2,3]),(248,[1]),(249,[2,3]),(250,[3]),(251,[5]),(253,[2,3]),(256,[2]),(257,[4]),(258,[3,5]),(259,[3,4]),(260,[3,4]),(261,[4]),(262,[5]),(265,[2]),(268,[2,3]),(274,[2]),(278,[1]),(279,[2,3]),(280,[2]),(281,[2]),(283,[5]),(284,[5]),(285,[4,6,7]),(293,[3]),(295,[2,3]),(300,[2,3]),(301,[4]),(302,[2,3]),(303,[2]),(304,[3]),(311,[1]),(313,[1]),(314,[2,3]),(315,[2]),(319,[5]),(320,[3,4]),(321,[1]),(333,[2]),(335,[2,3]),(336,[2]),(344,[2]),(345,[4,6,7]),(346,[3]),(347,[4]),(351,[3,5]),(353,[3,4]),(354,[3,4]),(355,[4]),(356,[5]),(357,[3]),(359,[3]),(360,[2,3]),(361,[4,5]),(362,[2,3]),(365,[1]),(369,[2]),(370,[2,3]),(371,[3]),(372,[3,5]),(373,[3]),(374,[2]),(376,[1]),(377,[1]),(380,[3,5]),(382,[1]),(385,[5,6]),(386,[3]),(388,[2,3]),(389,[2,3]),(398,[2,3]),(399,[3]),(407,[3])]
def keepL:List (Nat×List (Nat×List Nat)):=[(3,[(3,[3,4]),(4,[5,6])]),(4,[(3,[6]),(4,[8])]),(5,[(3,[3])]),(6,[(4,[9]),(5,[11]),(6,[13])]),(7,[(3,[3,4])]),(8,[(11,[7,8]),(12,[9,10])]),(9,[(3,[5]),(10,[13,14])]),(10,[(1,[3]),(2,[4]),(8,[11,12])]),(12,[(1,[1,2]),(2,[3,4]),(3,[5,6]),(4,[8])]),(13,[(1,[9])]),(14,[(1,[8])]),(18,[(6,[12]),(9,[14])]),(19,[(5,[10,11])]),(24,[(1,[1,2])]),(26,[(1,[4])]),(33,[(7,[3]),(8,[4])]),(35,[(6,[3]),(7,[4]),(8,[5]),(9,[6])]),(37,[(3,[8])]),(45,[(8,[8]),(9,[9]),(16,[11])]),(46,[(1,[5])]),(47,[(1,[9]),(4,[11])]),(58,[(1,[6])]),(63,[(2,[2])]),(64,[(2,[2]),(3,[3])]),(72,[(4,[5])]),(74,[(9,[12])]),(82,[(8,[8]),(15,[10])]),(85,[(2,[2])]),(89,[(1,[6])]),(90,[(1,[9])]),(91,[(15,[11])]),(93,[(1,[10,11]),(2,[12])]),(100,[(6,[13]),(15,[15])]),(102,[(1,[6])]),(103,[(1,[9])]),(105,[(2,[6])]),(110,[(11,[5])]),(113,[(3,[6])]),(114,[(3,[6])]),(128,[(4,[7])]),(131,[(4,[4])]),(132,[(5,[4]),(12,[6])]),(133,[(4,[4])]),(136,[(3,[5])]),(137,[(4,[5])]),(139,[(3,[6])]),(140,[(6,[7])]),(142,[(6,[7])]),(159,[(10,[11])]),(162,[(1,[11]),(20,[19])]),(163,[(1,[10])]),(164,[(4,[12]),(9,[15])]),(176,[(3,[5])]),(178,[(3,[10]),(4,[11])]),(179,[(5,[13]),(10,[15])]),(183,[(3,[5])]),(192,[(1,[6])]),(196,[(1,[7])]),(206,[(4,[7])]),(208,[(9,[4])]),(210,[(4,[7])]),(213,[(4,[7])]),(216,[(4,[7])]),(218,[(3,[6]),(7,[7]),(10,[9])]),(219,[(4,[7])]),(221,[(8,[7])]),(224,[(4,[7])]),(228,[(4,[7])]),(230,[(4,[7])]),(232,[(4,[7])]),(234,[(4,[7])]),(238,[(4,[9])]),(246,[(5,[13])]),(264,[(1,[3])]),(265,[(6,[9])]),(268,[(5,[7])]),(281,[(5,[6])]),(282,[(3,[7])]),(283,[(3,[7])]),(294,[(1,[3]),(9,[4]),(10,[5]),(12,[6]),(13,[7]),(14,[8])]),(295,[(6,[8])]),(298,[(14,[13])]),(303,[(1,[6]),(6,[9])]),(311,[(4,[5])]),(313,[(7,[4])]),(314,[(1,[5])]),(315,[(1,[6]),(16,[10])]),(317,[(6,[5])]),(318,[(3,[6])]),(323,[(4,[7])]),(333,[(10,[10])]),(346,[(1,[7])]),(348,[(12,[11])]),(351,[(5,[8])]),(385,[(1,[11])]),(388,[(8,[8])])]
def ZW:List (Nat×List Nat):=[(130,[1,2,3,4,5]),(131,[5,6,7]),(132,[1,6,7,8,13]),(133,[5,6,13,14,21,22]),(134,[2,4,6]),(168,[2]),(203,[1])]
def ann:Ann:=
  { pure:=fun fn f _=> !(gE f thr)&& !(thrAt.any fun p=>p.1 == fn&&p.2 == f)
    purev:=fun fn d=> !(gE fn thrV)&& !(match d with | some t=>thrVAt.any (fun q=>q.1 == fn&&q.2 == t) | none=>false),bmode:=fun fn d=>if gE fn rowFB || (match d with | some t=>browAt.any (fun q=>q.1 == fn&&q.2 == t) | none=>false) then .row else .imm,smode:=fun fn d=>match d with | some t=>if immAt.any (fun q=>q.1 == fn&&q.2 == t) then .imm else .row | none=> .row,amode:=fun fn d=>match d with | some t=>if rowAt.any (fun q=>q.1 == fn&&q.2 == t) || (gE fn rowF&& !(appAt.any fun q=>q.1 == fn&&q.2 == t)) then .row else .app | none=> .app
    nilapp:=fun fn d=>match d with | some t=>nilL.any (fun q=>q.1 == fn&&q.2 == t) | none=>false
    slch:=fun fn d=>(gE fn slcHL&&(match d with | some t=>t == 13 || t == 31 | none=>false)) || (match d with | some t=>takeAt.any (fun q=>q.1 == fn&&q.2 == t) | none=>false)
    boxi:=fun fn d=>match d with | some t=>boxiAt.any (fun q=>q.1 == fn&&q.2 == t) || (match look fn boxiL with | some l=>gE t l | none=>false) | none=>false
    keep:=fun fn id=>(look fn keepL).bind (look id)
    split:=fun fn id=>match look fn ZW with | some l=>gE id l | none=>false }
def ktabL:List Nat:=[174,175,431,13,36,35,12]
def P1 (b:FuncId->Option AFun) (P:Program) (A:Ann) (l:List Nat) (f:FuncId):Option AFun:=match b f with
  | some x=>some x
  | none=>if gE f l then (cFn P A f).map .code else none
def Φ:FuncId->Option AFun:=P1 (PA tabL tabD tabC) Go.Proofs.Tryz.prog ann ktabL
end
end Go.Av
