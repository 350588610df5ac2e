/-
  The compact form of the program's functions, printed by a program.
-/
import Derived.Test.YtbhkkpfccfoioaaGreatAvE
set_option linter.unusedVariables false
set_option linter.unusedSimpArgs false
set_option linter.constructorNameAsVariable false
namespace Go.Av
noncomputable section
abbrev xM (d s:Nat):Xc:=⟨some d,none,.mov (.t s)⟩
abbrev xI (d:Nat) (n:Int):Xc:=⟨some d,none,.mov (.c (.int .i64 n))⟩
abbrev xC (d:Nat) (v:AV):Xc:=⟨some d,none,.mov (.c v)⟩
abbrev xF (d o s:Nat):Xc:=⟨some d,none,.faddr o (.t s)⟩
abbrev xL (d s:Nat):Xc:=⟨some d,none,.load false 1 (.t s)⟩
abbrev xA (d n s:Nat):Xc:=⟨some d,none,.load true n (.t s)⟩
abbrev xX (d z a i:Nat):Xc:=⟨some d,none,.iaddr z none (.t a) (.t i)⟩
abbrev xS (n p v:Nat):Xc:=⟨none,none,.store n (.t p) (.t v)⟩
abbrev xN (d s:Nat):Xc:=⟨some d,none,.len (.t s)⟩
abbrev xE (d i s:Nat):Xc:=⟨some d,none,.ext i (.t s)⟩
abbrev xB (d:Nat) (p:BinOp) (a b:Nat):Xc:=⟨some d,none,.bin p (.t a) (.t b)⟩
abbrev xK (d:Nat) (p:BinOp) (a:Nat) (n:Int):Xc:=⟨some d,none,.bin p (.t a) (.c (.int .i64 n))⟩
abbrev xW (d a b:Nat):Xc:=⟨some d,none,.pick (.t a) (.c (.bool true)) (.t b)⟩
abbrev xV (d a b:Nat):Xc:=⟨some d,none,.pick (.t a) (.t b) (.c (.bool false))⟩
abbrev xJ (d s:Nat):Xc:=⟨some d,none,.boxi (.t s)⟩
abbrev xO (d:Nat) (p:AOp):Xc:=⟨some d,none,p⟩
abbrev xG (d g:Nat) (b:Bool) (p:AOp):Xc:=⟨some d,some (g,b),p⟩
abbrev xR (l:List Xc):Xb:= .region false [] l none
abbrev xD (l:List Xc):Xb:= .region true [] l none
abbrev xQ (l:List Xc) (k:List Nat):Xb:= .region false [] l (some k)
abbrev b4 (a:List Xc) (b:Xb):Xb:= .seq (xR a) b
abbrev eH (a:Nat) (b c:Xb):Xb:= .cond (.t a) b c
abbrev jV (a b:Nat) (c:List AX):Xc:=xO a (.pcall b c)
abbrev gD (a:Int):AV:= .int .i64 a
abbrev bZ (a:List Xc):Xb:=b4 a .ret
abbrev dF (a:List Xc) (b c:Xb):Xb:= .seq (b4 a b) c
abbrev c9 (a b:Nat) (c:AOp):Xc:=xG a b false c
abbrev d7 (a:Int):AX:= .c (gD a)
abbrev eI (a:Nat) (b:Xb):Xb:=eH a b .skip
abbrev bG (a b:Nat) (c:AOp):Xc:=xG a b true c
abbrev wD (a:Nat) (b c:Xb):Xb:= .seq (.block a b) c
abbrev FF (a:Nat) (b:List Xc):Xb:=eI a (bZ b)
abbrev VN (a:BinOp) (b:Nat) (c:AX):AOp:= .bin a (.t b) c
abbrev jW (a:Nat) (b:Xb):Xb:= .block a (.loop b)
abbrev bK (a:Nat) (b:List AV):Xc:=xO a (.alloc b)
abbrev Aq (a:Nat):AOp:= .mov (.t a)
abbrev aU (a b:List Xc) (c:Xb):Xb:=b4 a (b4 b c)
abbrev Ar (a:Bool) (b c:Nat):AOp:= .load a b (.t c)
abbrev jX:AV:= .bool false
abbrev Mw (a:Nat) (b:Xb) (c:Nat):Xb:=eH a b (.exit c)
abbrev At (a b:Nat):AOp:= .faddr a (.t b)
abbrev wE (a b:Nat):Xb:=Mw a .skip b
abbrev cQ (a:List Xc) (b:Nat) (c:List Xc) (d:Xb):Xb:=dF a (FF b c) d
abbrev PL (a:Int):AV:= .int .u64 a
abbrev eV (a:List Xc) (b c:Xb):Xb:=b4 a (.seq b c)
abbrev b5 (a b c:Nat):Xc:=bG a b (Aq c)
abbrev Ap (a b:Nat):AOp:=Ar false a b
abbrev zV (a b:Nat) (c d:AX):Xc:=jV a b [c,d]
abbrev zW (a b c:Nat) (d:AX):Xc:=zV a b (.t c) d
abbrev aD (a:Nat):Xc:=xI a 0
abbrev n8 (a:List Xc) (b:Nat) (c d:Xb):Xb:=dF a (jW b c) d
abbrev a5 (a:Nat):Xc:=xM a 0
abbrev aK (a b c d:Nat):Xc:=zW a b c (.t d)
abbrev RN (a:Nat) (b:Xb) (c:List Xc):Xb:=wD a b (xR c)
abbrev Mv (a b c d:Nat):Xc:=c9 a b (Ap c d)
abbrev zX (a b:Nat) (c:BinOp) (d:Nat) (e:AX):Xc:=c9 a b (VN c d e)
abbrev bD (a b:Nat) (c:List AX):Xc:=xO a (.tcall b c)
abbrev cF (a b c d:Nat):Xc:=c9 a b (At c d)
abbrev Aw (a:Nat) (b:Option Nat) (c:Nat) (d:AX):AOp:= .iaddr a b (.t c) d
abbrev aZ:AV:=gD 0
abbrev CR (a b:List Xc):Xb:=b4 a (bZ b)
abbrev b8 (a b c:Nat):Xc:=c9 a b (Aq c)
abbrev cJ (a:List Xc) (b:Xb):Xb:= .seq (xD a) b
abbrev a6 (a:Nat):Xc:=xM a 1
abbrev RO (a:List Xc) (b c:Nat) (d:Xb):Xb:=eV a (wE b c) d
abbrev My (a:AX):AOp:= .un .not a
abbrev hC (a:Nat):AOp:=My (.t a)
abbrev eQ (a:List Xc) (b:List Nat) (c:Xb):Xb:= .seq (xQ a b) c
abbrev Mz (a:List Xc) (b c d:Nat) (e:Xb) (f:List Xc):Xb:=RO a b c (RN d e f)
abbrev hF (a b:Nat) (c:AX):Xc:=jV a b [c]
abbrev aE (a b c:Nat):Xc:=hF a b (.t c)
abbrev gE (a:List Xc) (b:Nat) (c d:Xb):Xb:=b4 a (eH b c d)
abbrev FG (a:BinOp) (b:Nat) (c:AV):AOp:=VN a b (.c c)
abbrev cC (a b:List Xc) (c:Nat) (d:List Xc) (e:Xb):Xb:=b4 a (cQ b c d e)
abbrev aM (a:Nat) (b:BinOp) (c:Nat):Xc:=xK a b c 1
abbrev bP (a:Nat):Xc:=xC a jX
abbrev n9 (a:Nat) (b:List AX):AOp:= .pcallv (.t a) b
abbrev aB (a b:Nat):Xc:=xF a 1 b
abbrev aN:AX:=d7 0
abbrev jF (a:Nat) (b:BinOp) (c:Nat) (d:AV):Xc:=xO a (FG b c d)
abbrev VO (a:IntKind) (b:Nat):AOp:= .conv a (.t b)
abbrev EO (a:Nat):AOp:= .len (.t a)
abbrev Mx (a b:Nat) (c d:AX):AOp:= .append .app a b c d
abbrev bX (a:List Xc) (b:Nat) (c:List Xc):Xb:=b4 a (FF b c)
abbrev bO (a b:Nat):Xc:=xO a (hC b)
abbrev dZ (a b:Nat) (c:BinOp) (d:Nat) (e:AX):Xc:=bG a b (VN c d e)
abbrev EN (a:Int):AV:= .int .u32 a
abbrev Au (a:Nat):AOp:= .nilchk (.t a)
abbrev aH (a b:Nat):Xc:=xF a 0 b
abbrev zY (a:Int):AV:= .int .u8 a
abbrev cR (a b c:Nat):Xc:=c9 a b (EO c)
abbrev aC (a:Nat):Xc:=xM a 5
abbrev cK (a:Nat) (b:BinOp) (c:Nat) (d:Int):Xc:=jF a b c (PL d)
abbrev gS (a:List Xc) (b:Nat) (c:List Xc) (d:Xb):Xb:=gE a b (bZ c) d
abbrev bF:Xc:=aD 4
abbrev PM:AV:= .bool true
abbrev PN (a b:Nat):AOp:=Ar true a b
abbrev nB (a b:Nat) (c:AX):AOp:=Aw a none b c
abbrev cW (a b c d:Nat):Xc:=bG a b (PN c d)
abbrev fJ (a b:Nat):Xc:=xO a (.nilapp b)
abbrev vY (a b:Nat) (c:Int) (d:AX):Xc:=zV a b (d7 c) d
abbrev aR (a b c:Nat):Xc:=Mv a b 1 c
abbrev d8 (a b:Nat) (c:BinOp) (d:Nat) (e:Int):Xc:=zX a b c d (d7 e)
abbrev eR (a:Nat) (b:IntKind) (c:Nat):Xc:=xO a (VO b c)
abbrev Nc (a:List Xc) (b c d:Nat) (e:Xb) (f g:Xc):Xb:=Mz a b c d e [f,g]
abbrev Nd (a:List Xc) (b c d:Nat) (e:Xb) (f:Nat) (g:BinOp) (h:Nat) (i:Xc):Xb:=Nc a b c d e (aM f g h) i
abbrev eJ (a:List Xc) (b c d:Nat) (e:Xb) (f:Nat) (g:BinOp) (h i j:Nat):Xb:=Nd a b c d e f g h (xM i j)
abbrev EQ (a:List Xc) (b c:Xb):Xb:=n8 a 0 b c
abbrev aI (a:Nat):Xc:=xM a 8
abbrev aF (a:Nat):Xc:=xM a 2
abbrev hI (a:Nat) (b c:AV):Xc:=bK a [b,c]
abbrev PO (a:List Xc) (b c:Nat) (d:Xb):Xb:=dF a (wE b c) d
abbrev dM (a:List Xc) (b:Nat) (c d:Xb):Xb:=dF a (eI b c) d
abbrev aJ (a b:Nat):Xc:=xA a 2 b
abbrev aG (a:Nat) (b:BinOp) (c:Nat):Xc:=xK a b c 0
abbrev dY (a b c:List Xc) (d e:Xb):Xb:=aU a b (EQ c d e)
abbrev f9 (a:Nat):Xc:=xJ a 0
abbrev gT (a b c:Nat) (d:List AX):Xc:=bG a b (.pcall c d)
abbrev Ax (a b:Nat) (c:AX) (d:Nat):AOp:=Mx a b c (.t d)
abbrev hG (a b:Xc):Xb:=bZ [a,b]
abbrev dG (a b:Nat) (c:BinOp) (d e:Nat):Xc:=zX a b c d (.t e)
abbrev cV (a:List Xc) (b c d:Nat) (e:List Xc) (f:List Nat) (g:Xb) (h:Nat) (i:BinOp) (j k l:Nat):Xb:=eJ a b c d (eQ e f g) h i j k l
abbrev aV (a:Nat):Xc:=xM 4 a
abbrev Na (a b c d:Nat):AOp:=Ax a b (.t c) d
abbrev Nb (a b:Nat) (c d e f:AX):Xc:=jV a b [c,d,e,f]
abbrev wF (a b c:Nat) (d e f:AX):Xc:=Nb a b (.t c) d e f
abbrev nA (a:Nat):Xc:=xI a (-1)
abbrev EP (a b c:Nat):AOp:=nB a b (.t c)
abbrev aT (a:Nat):Xc:=xM 5 a
abbrev eA (a b c d e:Nat):Xc:=xO a (Na b c d e)
abbrev Ng (a:List Xc) (b c d:Nat) (e:Xb) (f:List Xc):Xb:=PO a b c (RN d e f)
abbrev aS (a:Nat):Xc:=xM a 3
abbrev lU:AV:=PL 0
abbrev cD (a:Xc):Xb:=bZ [a]
abbrev eT (a b:Nat):Xc:=xO a (Au b)
abbrev fC (a b:Nat) (c d:Int):Xc:=vY a b c (d7 d)
abbrev aP (a b c:Nat):Xc:=xX a 5 b c
abbrev gF (a b:List Xc) (c:Nat) (d:List Xc):Xb:=aU a b (FF c d)
abbrev fQ (a b:List Xc) (c d:Xb):Xb:=b4 a (EQ b c d)
abbrev FH (a b c:Nat) (d:Int) (e f:AX):Xc:=wF a b c (d7 d) e f
abbrev fK (a b c d e:Nat):Xc:=bG a b (EP c d e)
abbrev bM (a:Nat):Xc:=xM 2 a
abbrev b9 (a:Nat):Xc:=xM 8 a
abbrev gG (a b c d:Nat):Xc:=bG a b (Ap c d)
abbrev eW:Xc:=f9 2
abbrev gH (a b:Nat) (c:List AX):Xc:=xO a (n9 b c)
abbrev cE (a b:Nat):Xc:=xA a 9 b
abbrev b6 (a b:Nat):Xc:=xA a 5 b
abbrev gU (a b c:Nat) (d:Int):Xc:=zW a b c (d7 d)
abbrev eU:Xc:=aD 5
abbrev Nh (a:Nat):AOp:= .box (.t a)
abbrev gV (a b c d:Nat):Xc:=bG a b (At c d)
abbrev bB (a:Nat):Xc:=xM 6 a
abbrev bC (a:Nat):Xc:=xM a 9
abbrev fA (a:Nat) (b c d:AV):Xc:=bK a [b,c,d]
abbrev bE (a b:Nat):Xc:=xS 2 a b
abbrev mO (a b c:Xc):Xb:=xR [a,b,c]
abbrev jY (a:List Xc) (b c:Xb):Xb:= .seq (cJ a b) c
abbrev cT (a:Nat):Xc:=aH a 3
abbrev eS (a b c:Xc) (d:Xb):Xb:=b4 [a,b,c] d
abbrev fB (a:Xc) (b:List Xc):Xb:=CR [a] b
abbrev dA:AV:=EN 0
abbrev Nf (a b:Nat) (c d e:AX):Xc:=jV a b [c,d,e]
abbrev RP (a b c:Nat) (d e:AX):Xc:=Nf a b (.t c) d e
abbrev PP (a b c:Nat) (d:AX) (e:Nat):Xc:=RP a b c d (.t e)
abbrev cY (a:Nat):Xc:=aB a 3
abbrev bQ (a:Nat):Xc:=xM a 6
abbrev gW (a:Nat) (b:List Xc) (c:Nat) (d:List Xc) (e f:Xb):Xb:=wD a (gS b c d e) f
abbrev jZ (a:Nat) (b:List Xc):Xb:=fB (bP a) b
abbrev hK (a:Xc) (b:Nat) (c:BinOp) (d:Nat) (e:Xc):Xb:=mO a (aM b c d) e
abbrev eC:Xc:=a5 3
abbrev bH (a b:Nat):Xc:=xE a 0 b
abbrev bI (a b:Nat):Xc:=xE a 1 b
abbrev dI (a b:Nat):Xc:=b5 a b 0
abbrev k9 (a:Nat):Xc:=xC a PM
abbrev eD:Xc:=aD 2
abbrev bL (a b:Nat):Xc:=xF a 2 b
abbrev jG (a b:Nat):Xc:=xO a (Nh b)
abbrev eF:AV:=zY 0
abbrev eX:AX:=d7 1
abbrev bU (a:Nat):Xc:=xM a 4
abbrev gX (a b c d e:Nat):Xc:=PP a b c (.t d) e
abbrev fE:Xc:=aD 6
abbrev Ay (a:Xc) (b:Nat):Xb:=hG a (aV b)
abbrev bT (a b:Nat):Xc:=xS 5 a b
abbrev hO (a:Nat) (b:AV):Xc:=hI a b aZ
abbrev jH (a b:Nat) (c:AV):Xc:=hF a b (.c c)
abbrev cA (a:Int):Xc:=xI 4 a
abbrev Nj (a:List Xc) (b c d:Nat) (e:Xb) (f g h:Xc):Xb:=Ng a b c d e [f,g,h]
abbrev eK (a:List Xc) (b c d:Nat) (e:Xb) (f:Xc) (g:Nat) (h:BinOp) (i:Nat) (j:Xc):Xb:=Nj a b c d e f (aM g h i) j
abbrev dH (a b c:Nat):Xc:=cF a b 1 c
abbrev eB:Xc:=f9 1
abbrev bS (a b c:Nat):Xc:=xX a 2 b c
abbrev Ni (a:Nat) (b:AV):Xc:=hI a lU b
abbrev j6 (a:Nat):Xc:=Ni a lU
abbrev fD (a b:Xc) (c:Xb):Xb:=b4 [a,b] c
abbrev mP (a:BinOp) (b:AX) (c:Nat):AOp:= .bin a b (.t c)
abbrev mQ (a:List Xc) (b:Nat) (c d:List Xc):Xb:=cQ a b c (bZ d)
abbrev nC (a b:Nat):Xb:=Ay (aC a) b
abbrev wG (a:Nat) (b c:Xb):Xb:=wD a (.loop b) c
abbrev PQ (a b c:Nat) (d:AX):AOp:=Aw a (some b) c d
abbrev d9 (a:Int):Xc:=xI 5 a
abbrev fL:Xc:=bP 4
abbrev hP (a b c:Nat) (d:Int) (e:Nat) (f:AX):Xc:=FH a b c d (.t e) f
abbrev nD (a:Int):AX:= .c (PL a)
abbrev nE (a:List Xc) (b:Nat) (c:List Xc):Xb:=cJ a (FF b c)
abbrev fR (a:Nat):Xc:=cE a 2
abbrev cL (a b:Nat):Xc:=xS 1 a b
abbrev jI:Xc:=nA 4
abbrev gI (a b:Xc) (c:List Xc):Xb:=CR [a,b] c
abbrev kA (a b c:Xc):Xb:=bZ [a,b,c]
abbrev nF (a b:Nat):Xc:=eR a .u64 b
abbrev j9:Xc:=a5 5
abbrev nG:Xc:=a5 6
abbrev dB (a:Nat):Xc:=xM 9 a
abbrev zZ (a:Nat):Xb:=cD (k9 a)
abbrev kB (a b:List Xc) (c:Nat) (d e:List Xc) (f g:Xb):Xb:=cC a b c d (EQ e f g)
abbrev fS (a:Nat):Xc:=aB a 1
abbrev wH (a:Xc) (b:Nat):Xb:=hG a (bM b)
abbrev dJ (a:Nat):Xc:=xM 7 a
abbrev lV:Xc:=a6 6
abbrev eL (a:AV):Xc:=xC 2 a
abbrev jJ (a b:Nat) (c:BinOp) (d:Nat):Xc:=dZ a b c d aN
abbrev CS (a b c:Nat) (d:List AX):Xc:=c9 a b (.pcall c d)
def Nk:Nat:=0
def Nl:Nat:=1
def Nm:Nat:=2
def PX:Nat:=3
def Be:Nat:=4
def Bf:Nat:=5
def Bg:Nat:=6
def Bi:Nat:=7
def XI:Nat:=8
def MY:Nat:=9
def sZ:Nat:=10
def CV:Nat:=11
def lX:Nat:=12
def CW:Nat:=13
def CX:Nat:=14
def jM:Nat:=15
def CY:Nat:=16
def TA:Nat:=17
def lY:Nat:=18
def L5:Nat:=19
def Ba:Nat:=20
def Bb:Nat:=21
def TB:Nat:=22
def Bc:Nat:=23
def TC:Nat:=24
def TD:Nat:=25
def LG:Nat:=26
def yN:Nat:=27
def TE:Nat:=28
def TF:Nat:=29
def yO:Nat:=30
def CZ:Nat:=31
def uE:Nat:=32
def uG:Nat:=33
def lZ:Nat:=34
def D0:Nat:=35
def Bd:Nat:=36
def D1:Nat:=37
def yP:Nat:=38
def yQ:Nat:=39
def TG:Nat:=40
def D2:Nat:=41
def MO:Nat:=42
def D3:Nat:=43
def TH:Nat:=44
def TI:Nat:=45
def D4:Nat:=46
def MR:Nat:=47
def yR:Nat:=48
def eE:Nat:=49
def yS:Nat:=50
def m0:Nat:=51
def MS:Nat:=52
def uZ:Nat:=53
def v2:Nat:=54
def MT:Nat:=55
def D5:Nat:=56
def yT:Nat:=57
def v3:Nat:=58
def D6:Nat:=59
def Bh:Nat:=60
def MU:Nat:=61
def fM:Nat:=62
def D7:Nat:=63
def D8:Nat:=64
def eN:Nat:=65
def v4:Nat:=66
def v5:Nat:=67
def iQ:Nat:=68
def mA:Nat:=69
def MV:Nat:=70
def yU:Nat:=71
def D9:Nat:=72
def v6:Nat:=73
def mB:Nat:=74
def v7:Nat:=75
def v8:Nat:=76
def mC:Nat:=77
def yV:Nat:=78
def TJ:Nat:=79
def TK:Nat:=80
def TL:Nat:=81
def TM:Nat:=82
def TN:Nat:=83
def MW:Nat:=84
def Bj:Nat:=85
def DA:Nat:=86
def TO:Nat:=87
def MX:Nat:=88
def TP:Nat:=89
def DB:Nat:=90
def MZ:Nat:=91
def gL:Nat:=92
def cZ:Nat:=93
def v9:Nat:=94
def N0:Nat:=95
def DC:Nat:=96
def DE:Nat:=97
def DF:Nat:=98
def vA:Nat:=99
def t5:Nat:=100
def hS:Nat:=101
def VP:Nat:=102
def VQ:Nat:=103
def A8:Nat:=104
def dP:Nat:=105
def hU:Nat:=106
def kD:Nat:=107
def A9:Nat:=108
def kE:Nat:=109
def hX:Nat:=110
def hZ:Nat:=111
def i6:Nat:=112
def kF:Nat:=113
def kG:Nat:=114
def AA:Nat:=115
def t6:Nat:=116
def AB:Nat:=117
def t7:Nat:=118
def t8:Nat:=119
def dQ:Nat:=120
def fU:Nat:=121
def i7:Nat:=122
def t9:Nat:=123
def fV:Nat:=124
def kH:Nat:=125
def i8:Nat:=126
def kI:Nat:=127
def kJ:Nat:=128
def KK:Nat:=129
def KL:Nat:=130
def KM:Nat:=131
def KN:Nat:=132
def KO:Nat:=133
def KP:Nat:=134
def KQ:Nat:=135
def tA:Nat:=136
def kK:Nat:=137
def VS:Nat:=138
def KR:Nat:=139
def AC:Nat:=140
def KS:Nat:=141
def KT:Nat:=142
def KU:Nat:=143
def KV:Nat:=144
def tB:Nat:=145
def KW:Nat:=146
def AD:Nat:=147
def AE:Nat:=148
def AF:Nat:=149
def KX:Nat:=150
def KY:Nat:=151
def AG:Nat:=152
def kL:Nat:=153
def KZ:Nat:=154
def AJ:Nat:=155
def VT:Nat:=156
def L0:Nat:=157
def L1:Nat:=158
def AK:Nat:=159
def L3:Nat:=160
def tC:Nat:=161
def L4:Nat:=162
def AL:Nat:=163
def i9:Nat:=164
def kN:Nat:=165
def tD:Nat:=166
def tE:Nat:=167
def AM:Nat:=168
def aQ:Nat:=169
def bJ:Nat:=170
def tF:Nat:=171
def kO:Nat:=172
def tG:Nat:=173
def kP:Nat:=174
def fW:Nat:=175
def kQ:Nat:=176
def tH:Nat:=177
def AN:Nat:=178
def kR:Nat:=179
def tI:Nat:=180
def tJ:Nat:=181
def kS:Nat:=182
def tK:Nat:=183
def kT:Nat:=184
def kU:Nat:=185
def tL:Nat:=186
def fX:Nat:=187
def kV:Nat:=188
def tM:Nat:=189
def tN:Nat:=190
def iA:Nat:=191
def tO:Nat:=192
def kW:Nat:=193
def kX:Nat:=194
def iB:Nat:=195
def AP:Nat:=196
def iC:Nat:=197
def kY:Nat:=198
def eY:Nat:=199
def kZ:Nat:=200
def iD:Nat:=201
def tP:Nat:=202
def l0:Nat:=203
def fY:Nat:=204
def iE:Nat:=205
def tQ:Nat:=206
def iF:Nat:=207
def AQ:Nat:=208
def l5:Nat:=209
def tR:Nat:=210
def tS:Nat:=211
def fZ:Nat:=212
def l6:Nat:=213
def tT:Nat:=214
def AR:Nat:=215
def VU:Nat:=216
def AS:Nat:=217
def VV:Nat:=218
def L6:Nat:=219
def AU:Nat:=220
def L7:Nat:=221
def L8:Nat:=222
def L9:Nat:=223
def l7:Nat:=224
def l8:Nat:=225
def l9:Nat:=226
def VW:Nat:=227
def LA:Nat:=228
def LB:Nat:=229
def LC:Nat:=230
def AW:Nat:=231
def tU:Nat:=232
def eZ:Nat:=233
def g0:Nat:=234
def AY:Nat:=235
def VX:Nat:=236
def VY:Nat:=237
def tV:Nat:=238
def AZ:Nat:=239
def tW:Nat:=240
def LD:Nat:=241
def VZ:Nat:=242
def LE:Nat:=243
def tX:Nat:=244
def tY:Nat:=245
def g6:Nat:=246
def LF:Nat:=247
def tZ:Nat:=248
def u2:Nat:=249
def lA:Nat:=250
def B3:Nat:=251
def B4:Nat:=252
def dR:Nat:=253
def B5:Nat:=254
def iG:Nat:=255
def B6:Nat:=256
def u4:Nat:=257
def lB:Nat:=258
def lC:Nat:=259
def lD:Nat:=260
def u5:Nat:=261
def lE:Nat:=262
def B7:Nat:=263
def iH:Nat:=264
def eG:Nat:=265
def u6:Nat:=266
def u7:Nat:=267
def u9:Nat:=268
def B8:Nat:=269
def lF:Nat:=270
def g7:Nat:=271
def B9:Nat:=272
def iI:Nat:=273
def lG:Nat:=274
def uA:Nat:=275
def iJ:Nat:=276
def iK:Nat:=277
def uB:Nat:=278
def uC:Nat:=279
def BA:Nat:=280
def LH:Nat:=281
def W0:Nat:=282
def LI:Nat:=283
def LJ:Nat:=284
def BB:Nat:=285
def W1:Nat:=286
def W2:Nat:=287
def LK:Nat:=288
def BC:Nat:=289
def iL:Nat:=290
def iM:Nat:=291
def LL:Nat:=292
def BD:Nat:=293
def BE:Nat:=294
def LM:Nat:=295
def LN:Nat:=296
def BF:Nat:=297
def LO:Nat:=298
def BG:Nat:=299
def BH:Nat:=300
def LP:Nat:=301
def BI:Nat:=302
def uD:Nat:=303
def W3:Nat:=304
def BJ:Nat:=305
def W4:Nat:=306
def LQ:Nat:=307
def LR:Nat:=308
def W5:Nat:=309
def LS:Nat:=310
def LT:Nat:=311
def LU:Nat:=312
def LV:Nat:=313
def LW:Nat:=314
def iN:Nat:=315
def BK:Nat:=316
def BL:Nat:=317
def LX:Nat:=318
def W6:Nat:=319
def BM:Nat:=320
def LY:Nat:=321
def LZ:Nat:=322
def M0:Nat:=323
def W7:Nat:=324
def M1:Nat:=325
def M2:Nat:=326
def BN:Nat:=327
def uF:Nat:=328
def BO:Nat:=329
def BP:Nat:=330
def BQ:Nat:=331
def BR:Nat:=332
def BS:Nat:=333
def uH:Nat:=334
def uI:Nat:=335
def lH:Nat:=336
def uJ:Nat:=337
def lI:Nat:=338
def uK:Nat:=339
def BT:Nat:=340
def BU:Nat:=341
def uL:Nat:=342
def BV:Nat:=343
def uM:Nat:=344
def uN:Nat:=345
def uO:Nat:=346
def uP:Nat:=347
def uQ:Nat:=348
def uR:Nat:=349
def uS:Nat:=350
def uT:Nat:=351
def BW:Nat:=352
def M3:Nat:=353
def M4:Nat:=354
def M5:Nat:=355
def M6:Nat:=356
def BZ:Nat:=357
def M7:Nat:=358
def W8:Nat:=359
def W9:Nat:=360
def uU:Nat:=361
def WA:Nat:=362
def C0:Nat:=363
def WB:Nat:=364
def M8:Nat:=365
def M9:Nat:=366
def MA:Nat:=367
def C1:Nat:=368
def lJ:Nat:=369
def uV:Nat:=370
def MB:Nat:=371
def MC:Nat:=372
def MD:Nat:=373
def ME:Nat:=374
def WC:Nat:=375
def uW:Nat:=376
def WD:Nat:=377
def C2:Nat:=378
def lK:Nat:=379
def lL:Nat:=380
def C3:Nat:=381
def C4:Nat:=382
def iO:Nat:=383
def lM:Nat:=384
def C5:Nat:=385
def MF:Nat:=386
def WE:Nat:=387
def MG:Nat:=388
def MH:Nat:=389
def lN:Nat:=390
def MI:Nat:=391
def MJ:Nat:=392
def lO:Nat:=393
def uX:Nat:=394
def WG:Nat:=395
def WH:Nat:=396
def WI:Nat:=397
def WJ:Nat:=398
def WK:Nat:=399
def WL:Nat:=400
def WM:Nat:=401
def WN:Nat:=402
def MK:Nat:=403
def ML:Nat:=404
def WO:Nat:=405
def WP:Nat:=406
def iP:Nat:=407
def WQ:Nat:=408
def MM:Nat:=409
def MN:Nat:=410
def WR:Nat:=411
def WS:Nat:=412
def g8:Nat:=413
def uY:Nat:=414
def WU:Nat:=415
def WV:Nat:=416
def WW:Nat:=417
def WX:Nat:=418
def WY:Nat:=419
def WZ:Nat:=420
def X0:Nat:=421
def X1:Nat:=422
def X2:Nat:=423
def X3:Nat:=424
def X4:Nat:=425
def X5:Nat:=426
def X6:Nat:=427
def X7:Nat:=428
def X8:Nat:=429
def X9:Nat:=430
def XA:Nat:=431
def XB:Nat:=432
def XC:Nat:=433
def XD:Nat:=434
def XE:Nat:=435
def MP:Nat:=436
def MQ:Nat:=437
def XF:Nat:=438
def XG:Nat:=439
def XH:Nat:=440
abbrev dD:List AV:=[.int .i64 0,.int .i64 0,.int .i64 0,.int .i64 0,.int .i64 0,.Xa 3 [],.Xa 3 []]
abbrev aY:List AV:=[.int .i64 0,.int .i64 0,.int .i64 0]
abbrev dW:List AV:=[.int .i64 0,.int .i64 0,.Xa 3 [],.Xa 5 [],.Xa 5 []]
abbrev bR:List AV:=[.int .u64 0,.int .u64 0]
abbrev iU:List AV:=[.str [],.Xa 2 [],.Xa 2 [],.Xa 3 [],.Xa 3 [],.Xa 6 [],.Xa 7 [],.Xa 5 [],.Xa 1 []]
abbrev O1:AX:= .c (.str [0,1,2,2,3,3,3,3,4,4,4,4,4,4,4,4,5,5,5,5,5,5,5,5,5,5,5,5,5,5,5,5,6,6,6,6,6,6,6,6,6,6,6,6,6,6,6,6,6,6,6,6,6,6,6,6,6,6,6,6,6,6,6,6,7,7,7,7,7,7,7,7,7,7,7,7,7,7,7,7,7,7,7,7,7,7,7,7,7,7,7,7,7,7,7,7,7,7,7,7,7,7,7,7,7,7,7,7,7,7,7,7,7,7,7,7,7,7,7,7,7,7,7,7,7,7,7,7,8,8,8,8,8,8,8,8,8,8,8,8,8,8,8,8,8,8,8,8,8,8,8,8,8,8,8,8,8,8,8,8,8,8,8,8,8,8,8,8,8,8,8,8,8,8,8,8,8,8,8,8,8,8,8,8,8,8,8,8,8,8,8,8,8,8,8,8,8,8,8,8,8,8,8,8,8,8,8,8,8,8,8,8,8,8,8,8,8,8,8,8,8,8,8,8,8,8,8,8,8,8,8,8,8,8,8,8,8,8,8,8,8,8,8,8,8,8,8,8,8,8,8,8,8,8,8,8])
abbrev iV:List AV:=[.str [],.Xa 1 [],.bool false,.int .i64 0,.int .i64 0,.Xa 3 [],.int .i64 0]
abbrev cO:AX:= .c (.int .i64 1)
abbrev iW:List AV:=[.str [],.Xa 3 [],.Xa 1 [],.int .i64 0,.Xa 1 [],.int .i64 0]
abbrev cP:List AV:=[.str [],.int .i64 0]
abbrev d6:AX:= .c (.int .i64 2)
abbrev aL:AV:= .Xa 2 []
abbrev gQ:List AV:=[.Xa 1 [],.Xa 1 [],.Xa 2 [],.Xa 1 []]
abbrev f8:List AV:=[.str [],.Xa 2 [],.Xa 7 []]
abbrev dE:List AV:=[.int .i64 0]
abbrev zD:List AV:=[.str [],.Xa 2 [],.Xa 2 [],.Xa 3 [],.Xa 3 [],.Xa 6 [],.Xa 7 [],.Xa 5 [],.Xa 1 [],.Xa 2 []]
abbrev fO:List AV:=[aZ,.Xa 2 [],aZ,aZ,.Xa 1 []]
abbrev O2:List Xc:=[eC,jF 4 .geq 3 (zY 97),aT 4,dI 6 5,bG 7 5 (FG .leq 6 (zY 122)),xV 8 5 7,aI 9,b8 10 9 0,zX 11 9 .geq 10 (.c (zY 65)),b8 12 9 11,dI 13 12,bG 14 12 (FG .leq 13 (zY 90)),c9 15 9 (.pick (.t 12) (.t 14) (.c jX)),xW 16 9 15,bM 16]
abbrev mL:List AV:=[.int .i64 0,.int .i64 0,.int .i64 0,.int .i64 0]
abbrev E6:AOp:= .bslice .imm 1 (List.replicate 1 [.str []]) [(0,(.t 17))]
abbrev gR:AX:= .c (.int .i64 0)
abbrev iX:AX:= .c (.int .i64 4)
abbrev zE:List AV:=[.int .u32 0,.int .u32 0,.int .i64 0]
abbrev dX:List ARes:=[.tmp 4,.tmp 5]
abbrev O3:Xb:=mQ [lV,aG 7 .lss 6,b9 7,b8 9 8 1,b8 10 8 0,cR 11 8 10,dG 12 8 .geq 9 11,xW 13 8 12] 13 [aJ 14 5,bE 4 14] [a5 15,a6 16,bS 17 15 16,aJ 18 17,bE 4 18]
abbrev zF:List AV:=[.int .i64 0,.Xa 2 [],.int .i64 0,.int .i64 0,.Xa 1 []]
abbrev jS:AX:= .c (.int .i64 16)
abbrev fP:AV:= .Xa 1 []
abbrev vO:List AV:=[.int .i64 0,.int .i64 0]
abbrev iY:List Xc:=[nG,xN 7 6,aD 8]
abbrev iZ:List AV:=[.str [],.Xa 2 []]
abbrev zG:AV:= .str [118,101,114,115,105,111,110]
abbrev zH:List AV:=[aZ,aZ,.Xa 3 [],.Xa 5 [],.Xa 5 []]
abbrev O4:Xb:=gF [aI 10,aT 10] [a6 11,a5 12,aC 13,xX 14 1 12 13,xL 15 14,xB 16 .eql 11 15] 16 [aC 17,aV 17]
abbrev E8:AOp:= .bslice .imm 1 (List.replicate 1 dE) [(0,cO)]
abbrev j0:List Xc:=[eW,xJ 3 1,bF]
abbrev zI:AX:= .c (.int .i64 3)
abbrev j5:List Xc:=[xB 9 .lss 8 7]
abbrev O6:List Xc:=[bQ 11,xF 12 5 2,xL 13 12,a6 14,xX 15 6 13 14,aB 16 15,xL 17 16,xN 18 17,xB 19 .lss 11 18]
abbrev jT:List Xc:=[xB 11 .lss 10 9]
abbrev E9:List AV:=[.str [],.Xa 3 [],.Xa 1 [],aZ,.Xa 1 [],aZ]
abbrev O8:List Xc:=[eC,jF 4 .geq 3 (zY 48),aT 4,dI 6 5,bG 7 5 (FG .leq 6 (zY 57)),xV 8 5 7,aI 2]
abbrev O9:Xb:=xR [aC 14,a6 15,xA 16 3 7,gH 17 15 [.t 16],xO 18 E6,eA 19 1 16 14 18,aT 19]
abbrev OA:Xb:=xR [aC 14,a6 15,aJ 16 7,gH 17 15 [.t 16],xO 18 E6,eA 19 1 16 14 18,aT 19]
abbrev vP:List AV:=[.int .i64 0,.Xa 1 []]
abbrev vQ:List Xc:=[aH 3 1,xL 4 3,bM 4]
abbrev OB:List Xc:=[aJ 5 2,lV,xO 7 (.build dD [(0,1,cO),(1,2,(.t 5)),(6,1,(.t 6))]),xS 7 4 7]
abbrev vR:List Xc:=[a5 8,xN 9 8,aD 10]
abbrev OE:List Xc:=[j9,lV,xO 7 (.build aY [(0,1,cO),(1,1,(.t 5)),(2,1,(.t 6))]),xS 3 4 7]
abbrev EA:List AV:=[aZ,aZ,aZ,aZ,aZ,.Xa 3 [],.Xa 3 []]
abbrev OG:List Xc:=[xF 12 5 2,xL 13 12,a6 14,xX 15 6 13 14,aB 16 15,xL 17 16,xN 18 17,aD 19]
abbrev zJ:AV:= .str [108,97,98,101,108]
abbrev mM:List ARes:=[.cell 4 true 2]
abbrev zK:List AV:=[.int .u32 0,.int .u32 0]
abbrev OH:AOp:= .bslice .imm 1 (List.replicate 3 dE) [(0,gR),(1,cO),(2,d6)]
abbrev OI:AOp:= .bslice .imm 1 (List.replicate 3 dE) [(0,d6),(1,zI),(2,iX)]
abbrev zL:AV:= .str [112,111,114,116]
abbrev EB:List AV:=[.int .u8 0,.int .u8 0,.int .u8 0]
abbrev OJ:AOp:= .build cP [(0,1,(.c (.str [99,111,117,110,116]))),(1,1,jS)]
abbrev EC:List AV:=[.str [],.int .i64 0,.int .i64 0]
abbrev O5:AOp:= .build EC [(0,1,(.c (.str [115,101,101,110]))),(1,1,jS),(2,1,jS)]
abbrev OK:List Xc:=[j9,lV,xO 7 (.build vO [(0,1,(.t 5)),(1,1,(.t 6))]),bE 4 7]
abbrev vS:AX:= .c (.bool true)
abbrev OL:AOp:= .bslice .imm 1 (List.replicate 2 dE) [(0,gR),(1,iX)]
abbrev OM:AOp:= .bslice .imm 1 (List.replicate 2 dE) [(0,cO),(1,iX)]
abbrev ED:AX:= .c (.str [100,114,111,112])
abbrev E7:AOp:= .build cP [(0,1,ED),(1,1,cO)]
abbrev jU:List Xc:=[xC 4 fP]
abbrev zM:List Xc:=[eW,xJ 3 1,bF,eU]
abbrev ON:AOp:= .bslice .imm 3 (List.replicate 1 aY) [(0,(.t 46))]
abbrev OO:AOp:= .bslice .imm 1 (List.replicate 1 dE) [(0,(.t 34))]
abbrev OP:AOp:= .bslice .imm 2 (List.replicate 1 bR) [(0,(.t 34))]
abbrev vT:Xc:=eL (.str [])
abbrev OQ:List Xc:=[xX 21 3 17 19,xA 22 3 21,fA 7 aZ aZ aZ,xS 3 7 22]
abbrev vU:AOp:=PQ 1 3 3 aN
abbrev OR:AOp:= .bslice .imm 1 (List.replicate 1 dE) [(0,(.t 5))]
abbrev EE:List AV:=[.Xa 2 [],aZ,aZ,.Xa 1 []]
abbrev OS:AOp:= .bslice .imm 1 (List.replicate 1 dE) [(0,gR)]
abbrev OT:AOp:= .bslice .imm 1 (List.replicate 1 dE) [(0,d6)]
abbrev OU:AOp:= .build f8 [(0,1,(.c (.str [112,97,115,115])))]
abbrev zN:AX:= .c (.int .i64 8)
abbrev zO:List Xc:=[f9 3,xJ 5 2,fE]
abbrev vV:Xb:=hG bF eU
abbrev zP:AOp:= .build bR []
abbrev zQ:List ARes:=[.cell 2 true 2]
abbrev zR:List Xc:=[xB 10 .lss 9 8]
abbrev OV:List AV:=[.Xa 2 [],.int .i64 0,.int .i64 0,.Xa 1 []]
abbrev OW:List AV:=[.str [],.Xa 1 [],jX,aZ,aZ,.Xa 3 [],aZ]
abbrev mN:AV:= .Xa 3 []
abbrev OX:AOp:= .build aY [(0,1,(.c (.int .i64 15)))]
abbrev OY:AX:= .c (.str [100,101,108,105,118,101,114])
abbrev OZ:AX:= .c (.str [105,110,103,114,101,115,115])
abbrev zS:AOp:=PQ 1 3 3 eX
abbrev P0:AOp:= .build aY [(0,1,(.c (.int .i64 9)))]
abbrev P1:AX:= .c (.str [102,111,114,119,97,114,100])
abbrev P2:List Xc:=[fR 8,a6 9,aK 10 lF 8 9,bO 11 10]
abbrev P3:Xb:=kA (bQ 13) (aG 14 .eql 13) (aV 14)
abbrev P4:AOp:= .build aY [(0,1,zI),(1,1,(.t 3))]
abbrev EF:AX:= .c (.int .u32 255)
abbrev OC:AOp:= .build zE [(0,1,(.c (.int .u32 1))),(1,1,EF),(2,1,d6)]
abbrev OD:AOp:= .build zE [(0,1,(.c (.int .u32 2))),(1,1,EF),(2,1,cO)]
abbrev EG:AV:= .str [111,117,116]
abbrev vW:List Xc:=[jI,d9 8]
abbrev P5:List Xc:=[fR 7,a6 8,aK 9 l7 7 8,bO 10 9]
abbrev vX:List Xc:=[bF,bP 5]
abbrev P6:AOp:= .build aY [(0,1,iX),(1,1,cO)]
abbrev P7:AOp:= .build dD [(0,1,d6),(4,1,cO)]
abbrev P8:AOp:= .build dD [(0,1,zI),(4,1,cO)]
abbrev P9:AX:= .c (.str [116,97,103,103,101,100])
abbrev EH:Xc:=fA 4 aZ aZ aZ
abbrev PA:List AV:=[.bool false,.int .u8 0,.int .u8 0]
abbrev O7:AOp:= .build PA [(0,1,(.t 7)),(1,1,(.t 10)),(2,1,(.t 13))]
abbrev zT:List AV:=[.int .u32 0]
abbrev zU:List Xc:=[eW,bF,eU]
abbrev PB:AX:= .c (.str [102,97,98,114,105,99])
abbrev PC:List Xc:=[aC 6,a5 7,xN 8 7,xB 9 .lss 6 8]
abbrev EI:List Xc:=[xB 12 .lss 11 10]
abbrev EJ:List Xc:=[xB 20 .lss 19 18]
abbrev EK:List Xc:=[xB 25 .lss 24 23]
abbrev PD:AX:= .c (.str [102,108,111,119,115])
abbrev PE:AX:= .c (.str [116,114,117,110,107])
abbrev PF:AX:= .c (.str [115,116,97,114,116])
abbrev PG:AX:= .c (.str [115,116,97,109,112])
abbrev PH:List ARes:=[.cell 2 true 3,.cell 3 true 3]
abbrev PI:AX:= .c (.int .u64 2199006478336)
abbrev PJ:AX:= .c (.int .u64 1099511627776)
abbrev EL:AV:= .str [105,110]
abbrev EM:List ARes:=[.cell 4 true 3]
abbrev PK:AX:= .c (.str [102,108,111,119])
def RY:AFn:=⟨3,[.tmp 6],cC [bP 6] [a5 11,xN 12 11,xK 13 .gtr 12 2000] 13 [jV 14 MY [],bB 14] (eQ [a6 16,aE 17 sZ 16,xM 15 17,bH 18 15,bI 19 15,fA 7 jX eF eF,fA 8 eF eF eF,xS 3 7 18,xS 3 8 19] [7,8] (eQ [a6 21,aE 22 CV 21,xM 20 22,bH 23 20,bI 24 20,fA 9 jX eF eF,fA 10 eF eF eF,xS 3 9 23,xS 3 10 24] [9,10] (bZ [a5 25,aE 26 lX 25,a5 27,aE 28 CW 27,xB 29 .eql 26 28,xM 30 29,cW 31 30 3 7,cW 32 30 3 9,bG 33 30 (.eqs false true [.b,.i,.i] (.t 31) (.t 32)),xV 34 30 33,xM 35 34,cW 36 35 3 8,cW 37 35 3 10,bG 38 35 (.eqs false true [.i,.i,.i] (.t 36) (.t 37)),xV 39 35 38,xM 40 39,b5 41 40 2,gT 42 40 jM [.t 41],b5 43 40 2,gT 44 40 CY [.t 43],gT 45 40 CX [.t 42,.t 44],xV 46 40 45,xM 47 46,gT 48 47 MY [],xV 49 47 48,bB 49])))⟩
def Az:AFn:=⟨0,[.tmp 0],aU [bP 0] [jH 10 jM jX,xM 1 10] (aU [jV 12 yN [],aE 13 yO 12,a6 14,PP 15 lY 13 eX 14,xM 11 15,bH 16 11,bI 17 11,xE 18 2 11,bM 16,xM 3 17,aV 18] [jV 20 CZ [],a6 21,PP 22 lY 20 eX 21,xM 19 22,bH 23 19,bI 24 19,xE 25 2 19,aT 23,bB 24,dJ 25] (cQ [bU 26,aG 27 .neq 26,xM 28 27,b8 29 28 7,zX 30 28 .neq 29 aN,xW 31 28 30,xM 32 31,b8 33 32 2,cR 34 32 33,zX 35 32 .neq 34 aN,xW 36 32 35,xM 37 36,b8 38 37 3,cR 39 37 38,d8 40 37 .neq 39 1,xW 41 37 40,xM 42 41,b8 43 42 5,cR 44 42 43,d8 45 42 .neq 44 1,xW 46 42 45,xM 47 46,b8 48 47 6,cR 49 47 48,zX 50 47 .neq 49 aN,xW 51 47 50,xM 52 51,b8 53 52 5,c9 54 52 (nB 2 53 aN),dH 55 52 54,aR 56 52 55,cR 57 52 56,d8 58 52 .neq 57 1,xW 59 52 58,xM 60 59,b8 61 60 5,c9 62 60 (nB 2 61 aN),cF 63 60 0 62,aR 64 60 63,d8 65 60 .neq 64 2,xW 66 60 65] 66 [bP 0] (eQ [jH 68 sZ (PL 1112480481801),xM 67 68,bH 69 67,bI 70 67,fA 8 jX eF eF,fA 9 eF eF eF,xS 3 8 69,xS 3 9 70] [8,9] (bZ [aC 71,xO 72 (nB 2 71 aN),aB 73 72,xL 74 73,xO 75 (nB 2 74 aN),aJ 76 75,xO 77 (.build bR [(0,1,(.c (.int .u64 1112480415744))),(1,1,PI)]),xO 78 (.eqs false true [.i,.i] (.t 76) (.t 77)),xM 79 78,cW 80 79 3 8,bG 81 79 (.build PA [(0,1,vS),(1,1,(.c (.int .u8 3))),(2,1,(.c (.int .u8 5)))]),bG 82 79 (.eqs false true [.b,.i,.i] (.t 80) (.t 81)),xV 83 79 82,xM 84 83,cW 85 84 3 9,bG 86 84 (.build EB [(0,1,(.c (.int .u8 1))),(1,1,(.c (.int .u8 2))),(2,1,(.c (.int .u8 9)))]),bG 87 84 (.eqs false true [.i,.i,.i] (.t 85) (.t 86)),xV 88 84 87,xM 89 88,gT 90 89 jM [.c PM],bG 91 89 (EO 90),dZ 92 89 .eql 91 eX,xV 93 89 92,xM 94 93,b5 95 94 1,gT 96 94 lX [.t 95],jJ 97 94 .eql 96,xV 98 94 97,xM 0 98]))))⟩
def FQ:AFn:=⟨1,PH,eV [fA 2 jX eF eF,fA 3 eF eF eF] (xQ [j9,cK 6 .and 5 1099511627776,cK 7 .neq 6 0,a5 8,cK 9 .shr 8 32,eR 10 .u8 9,a5 11,cK 12 .shr 11 24,eR 13 .u8 12,xO 14 O7,fA 4 jX eF eF,xS 3 4 14] [4]) (bZ [xA 15 3 4,a5 16,cK 17 .shr 16 16,eR 18 .u8 17,a5 19,cK 20 .shr 19 8,eR 21 .u8 20,a5 22,eR 23 .u8 22,xO 24 (.build EB [(0,1,(.t 18)),(1,1,(.t 21)),(2,1,(.t 23))]),xS 3 2 15,xS 3 3 24])⟩
def FY:AFn:=⟨1,PH,gI (fA 2 jX eF eF) (fA 3 eF eF eF) [a5 4,cK 5 .shr 4 40,cK 6 .and 5 1,cK 7 .eql 6 1,a5 8,cK 9 .shr 8 32,eR 10 .u8 9,a5 11,cK 12 .shr 11 24,eR 13 .u8 12,xO 14 O7,a5 15,cK 16 .shr 15 16,eR 17 .u8 16,a5 18,cK 19 .shr 18 8,eR 20 .u8 19,a5 21,eR 22 .u8 21,xO 23 (.build EB [(0,1,(.t 17)),(1,1,(.t 20)),(2,1,(.t 22))]),xS 3 2 14,xS 3 3 23]⟩
def dN:Xb:=cV j5 9 0 1 [bS 10 6 8,aJ 11 10,j6 4,bE 4 11] [4] (gF [aJ 12 4,gU 13 uE 12 41,aT 13] [aC 14,aG 15 .neq 14] 15 [aC 16,bM 16]) 17 .add 8 8 17
def gJ:Xb:=cQ [a5 18,xN 19 18,xK 20 .gtr 19 1024] 20 [xI 2 12] (cD eD)
def G9:AFn:=⟨1,[.tmp 2],fQ [eD] iY dN gJ⟩
def dO:Xb:=eK [aT 3,nG,xN 7 6,xB 8 .lss 5 7] 8 0 1 (gF [a5 11,aS 12,bS 13 11 12,aJ 14 13,gU 15 uG 14 41,aV 15] [bU 16,aG 17 .neq 16] 17 [bU 18,bM 18]) (aS 9) 10 .add 9 (xM 3 10)
def gK:Xb:=cQ [a5 19,xN 20 19,xK 21 .gtr 20 1024] 21 [xI 2 12] (cD eD)
def GJ:AFn:=⟨1,[.tmp 2],fQ [eD] [aD 3] dO gK⟩
def wL:Xb:=eK [aC 11,a5 12,xN 13 12,xB 14 .lss 11 13] 14 0 1 (nE [a5 17,aC 18,bS 19 17 18,aJ 20 19,a6 21,aC 22,bS 23 21 22,aJ 24 23,xO 25 (.eqs true true [.i,.i] (.t 20) (.t 24))] 25 [fL]) (aC 15) 16 .add 15 (aT 16)
def wK:Xb:=zZ 4
def RT:AFn:=⟨2,[.tmp 4],kB [fL] [nG,xN 7 6,a6 8,xN 9 8,xB 10 .neq 7 9] 10 [fL] [eU] wL wK⟩
def RU:AFn:=⟨1,[.tmp 2],cC [eL aL] [eC] 3 [xO 4 (.build bR [(0,1,PJ),(1,1,PJ)]),xO 5 (.bslice .imm 2 (List.replicate 1 bR) [(0,(.t 4))]),aC 2] (kA (xO 6 (.build bR [(1,1,PI)])) (xO 7 (.bslice .imm 2 (List.replicate 1 bR) [(0,(.t 6))])) (bM 7))⟩
def RV:AFn:=⟨1,[.tmp 2],cC [eL aL] [eC] 3 [xO 4 zP,FH 5 lZ 4 40 eX (nD 1),xO 6 (.bslice .imm 2 (List.replicate 1 bR) [(0,(.t 5))]),bM 6] (bZ [xO 7 zP,wF 8 D0 7 (.c lU) (.c lU) (.c lU),xO 9 (.bslice .imm 2 (List.replicate 1 bR) [(0,(.t 8))]),bM 9])⟩
def wN:Xb:=eJ [xK 49 .lss 48 256] 49 0 1 (aU [xM 50 48,xM 11 50] [xM 51 10,eT 52 51,xF 53 14 52,xL 54 53,xM 55 11,xO 56 (.lookup .i aL false (.t 54) (.t 55)),xN 57 56,aG 58 .gtr 57] (eI 58 (xR [bQ 59,xM 60 11,xM 61 10,eT 62 61,xF 63 14 62,xL 64 63,xM 65 11,xO 66 (.lookup .i aL false (.t 64) (.t 65)),xO 67 (.build [.int .i64 0,.Xa 2 []] [(0,1,(.t 60)),(1,1,(.t 66))]),xO 68 (.bslice .imm 2 (List.replicate 1 [.int .i64 0,.Xa 2 []]) [(0,(.t 67))]),eA 69 2 32 59 68,bB 69]))) 70 .add 48 48 70
def wM:Xb:=cJ [bQ 71,xM 72 10,eT 73 72,xF 74 15 73,xL 75 74,bB 71,dJ 75,aD 8] .ret
def RW:AFn:=⟨3,[.tmp 6,.tmp 7,.tmp 8],eV [f9 3,fJ 6 2,xC 7 aL,aD 8] (xQ [jV 12 D1 [],bK 9 iU,xS 9 9 12] [9]) (dF [cE 13 9,xA 14 4 3,aK 15 yP 13 14,b9 15] (bX [aI 16,aG 17 .neq 16] 17 [aI 18,fJ 6 2,xC 7 aL,b9 18]) (cQ [a6 19,aG 20 .lss 19,xM 21 20,b8 22 21 1,d8 23 21 .gtr 22 255,xW 24 21 23] 24 [fJ 6 2,xC 7 aL,xI 8 9] (dF [aF 25,aE 26 lX 25,b9 26] (bX [aI 27,aG 28 .neq 27] 28 [aI 29,fJ 6 2,xC 7 aL,b9 29]) (aU [cE 30 9,xA 31 4 3,a6 32,xO 33 .mkmap,xO 34 (.build [.str [],.Xa 2 [],.Xa 2 [],.Xa 3 [],.Xa 3 [],.Xa 6 [],.Xa 7 [],.Xa 5 [],.Xa 1 [],.Xa 1 [],.Xa 1 [],.Xa 2 [],.Xa 1 [],.int .i64 0,.nilmap,.Xa 2 [],.int .i64 0] [(0,9,(.t 30)),(9,4,(.t 31)),(13,1,(.t 32)),(14,1,(.t 33))]),jG 35 34,xM 10 35] [xM 36 10,aF 37,bD 38 yQ [.t 36,.t 37]] (dM [xM 39 10,eT 40 39,xF 41 16 40,xL 42 41,aG 43 .neq 42] 43 (.seq (.region true [(3,4)] [⟨some 44,none,.mov (.t 10)⟩,⟨some 45,none,.nilchk (.t 44)⟩,⟨some 46,none,.faddr 16 (.t 45)⟩,⟨some 47,none,.load false 1 (.t 46)⟩,⟨some 6,none,.nilapp 2⟩,⟨some 7,none,.mov (.c aL)⟩,⟨some 8,none,.mov (.t 47)⟩] none) .ret) (EQ [aD 48] wN wM))))))⟩
def RX:AFn:=⟨0,[.cell 0 true 9],b4 [bK 0 iU] (aU [jV 5 MR [],jV 6 yR [],xO 7 OH,xO 8 (.build iU [(0,1,PB),(4,1,(.t 5)),(5,1,(.t 6)),(8,1,(.t 7))]),bK 1 iU,xS 9 1 8] [jH 9 eE (.str [107,105,110,100]),xO 10 (.bslice .imm 2 (List.replicate 1 cP) [(0,(.t 9))]),xO 11 (.build iZ [(0,1,(.c (.str [98,97,115,101]))),(1,1,(.t 10))]),jH 12 eE zG,jH 13 eE zJ,xO 14 (.bslice .imm 2 (List.replicate 2 cP) [(0,(.t 12)),(1,(.t 13))]),xO 15 (.build iZ [(0,1,(.c (.str [116,97,103]))),(1,1,(.t 14))]),jH 16 eE (.str [115,114,99]),jH 17 eE (.str [100,115,116]),jH 18 eE (.str [116,121,112,101]),xO 19 (.bslice .imm 2 (List.replicate 3 cP) [(0,(.t 16)),(1,(.t 17)),(2,(.t 18))]),xO 20 (.build iZ [(0,1,PK),(1,1,(.t 19))]),xO 21 (.bslice .imm 2 (List.replicate 3 iZ) [(0,(.t 11)),(1,(.t 15)),(2,(.t 20))]),fS 22,cL 22 21] (aU [jH 23 eE EL,jH 24 eE EG,xO 25 E7,xO 26 OJ,xO 27 (.bslice .imm 2 (List.replicate 4 cP) [(0,(.t 23)),(1,(.t 24)),(2,(.t 25)),(3,(.t 26))]),bL 28 1,cL 28 27] [xO 29 O5,xO 30 (.bslice .imm 3 (List.replicate 1 EC) [(0,(.t 29))]),xF 31 3 1,cL 31 30] (aU [xO 32 OC,xO 33 OD,xO 34 (.bslice .imm 3 (List.replicate 2 zE) [(0,(.t 32)),(1,(.t 33))]),bM 34] [xO 35 OS,aF 36,xO 37 (.build iV [(0,1,PF),(1,1,(.t 35)),(2,1,vS),(5,1,(.t 36)),(6,1,(.c (.int .i64 (-2))))]),xO 38 E8,xO 39 (.build iV [(0,1,P9),(1,1,(.t 38)),(6,1,d6)]),xO 40 OT,xO 41 (.build iV [(0,1,PD),(1,1,(.t 40)),(6,1,(.c (.int .i64 (-1))))]),xO 42 (.bslice .imm 7 (List.replicate 3 iV) [(0,(.t 37)),(1,(.t 39)),(2,(.t 41))]),xF 43 6 1,cL 43 42] (eQ [xO 44 P6,xO 45 (.bslice .imm 3 (List.replicate 1 aY) [(0,(.t 44))]),xO 46 (.build dW [(0,1,cO),(1,1,cO)]),xO 47 (.bslice .imm 5 (List.replicate 1 dW) [(0,(.t 46))]),xO 48 (.build dW [(0,1,cO),(1,1,gR)]),xO 49 (.bslice .imm 5 (List.replicate 1 dW) [(0,(.t 48))]),xO 50 (.build dW [(0,1,d6),(2,1,(.t 45)),(3,1,(.t 47)),(4,1,(.t 49))]),bK 3 zH,bT 3 50] [3] (eQ [xO 51 OX,fC 52 yS (-1) 2,zV 53 m0 aN eX,xO 54 (.bslice .imm 3 (List.replicate 3 aY) [(0,(.t 51)),(1,(.t 52)),(2,(.t 53))]),xO 55 (.build dW [(0,1,cO),(1,1,d6)]),xO 56 (.bslice .imm 5 (List.replicate 1 dW) [(0,(.t 55))]),xO 57 (.build dW [(0,1,d6),(2,1,(.t 54)),(3,1,(.t 56))]),bK 4 zH,bT 4 57] [4] (CR [b6 58 3,b6 59 4,xO 60 (.bslice .imm 5 (List.replicate 2 dW) [(0,(.t 58)),(1,(.t 59))]),xF 61 7 1,cL 61 60] [cE 62 1,xS 9 0 62]))))))⟩
def wP:Xb:=eK [b9 4,xF 9 5 1,xL 10 9,xN 11 10,xB 12 .lss 8 11] 12 0 1 (aU [cT 15,xL 16 15,xO 17 (.bslice .imm 1 (List.replicate 1 [.Xa 5 []]) [(0,(.c (.Xa 5 [])))]),eA 18 1 24 16 17,cT 19,cL 19 18] [cY 20,xL 21 20,xO 22 E8,eA 23 1 8 21 22,cY 24,cL 24 23] (xD [bL 25 3,xL 26 25,xF 27 5 1,xL 28 27,bU 29,xX 30 6 28 29,xF 31 3 30,aJ 32 31,xO 33 (.bslice .imm 2 (List.replicate 1 vP) [(0,(.t 32))]),eA 34 2 32 26 33,bL 35 3,cL 35 34])) (bU 13) 14 .add 13 (aV 14)
def wO:Xb:=hG (xA 36 4 3) (xS 4 2 36)
def RZ:AFn:=⟨1,[.cell 2 true 4],dY [eB,bK 2 gQ] [cE 5 1,aE 6 uZ 5,xO 7 (.build gQ [(3,1,(.t 6))]),bK 3 gQ,xS 4 3 7] [bF] wP wO⟩
def S0:AFn:=⟨0,[.cell 0 true 4],eV [bK 0 gQ] (xQ [jV 3 yN [],bK 1 iU,xS 9 1 3] [1]) (eV [cE 4 1,aE 5 yO 4,bK 2 gQ,xS 4 2 5] (xD [cE 7 1,xA 8 4 2,fC 9 MT 1 3,wF 10 v2 7 (.t 8) aN (.t 9),bB 10,bH 11 6,bI 12 6,xE 13 2 6,xS 4 2 11]) (cJ [cE 15 1,xA 16 4 2,xO 17 zP,xO 18 (.bslice .imm 1 (List.replicate 2 zT) [(0,(.c (.int .u32 2))),(1,(.c (.int .u32 5)))]),xO 19 (.build vP [(0,1,d6),(1,1,(.t 18))]),jV 20 D5 [eX,d7 3,aN,.t 17,.t 19],wF 21 v2 15 (.t 16) (d7 2) (.t 20),xM 14 21,bH 22 14,bI 23 14,xE 24 2 14,xS 4 2 22] (hG (xA 25 4 2) (xS 4 0 25))))⟩
def wQ:AFn:=⟨2,[.tmp 4],fD eW bF (gW 0 [lV,aE 7 yT 6,bO 8 7,aI 5] 5 [cA 10] (cJ [aB 10 2,xL 11 10,a6 12,aE 13 v3 12,xB 14 .andNot 11 13,cK 15 .neq 14 0,dB 15] (eH 9 (cD (cA 9)) (bX [aH 17 2,xL 18 17,aB 19 2,xL 20 19,xB 21 .andNot 18 20,cK 22 .neq 21 0,xM 16 22] 16 [cA 5]))) (cD bF))⟩
def wR:AFn:=⟨2,[.tmp 4],fD eW bF (gW 0 [lV,aM 7 .lss 6,b9 7,b8 9 8 1,d8 10 8 .gtr 9 64,xW 11 8 10,aT 11] 5 [cA 10] (cJ [aB 13 2,xL 14 13,a6 15,aE 16 D6 15,xB 17 .and 14 16,aB 18 2,xL 19 18,xB 20 .neq 17 19,xM 12 20] (eH 12 (cD (cA 9)) (bX [aH 22 2,xL 23 22,aB 24 2,xL 25 24,xB 26 .and 23 25,aH 27 2,xL 28 27,xB 29 .neq 26 28,xM 21 29] 21 [cA 5]))) (cD bF))⟩
def S1:AFn:=⟨4,[.cell 8 true 2],aU [f9 4,j6 8] [aF 10,nF 11 10,xO 12 (mP .shl (nD 1) 11),cK 13 .sub 12 1,a6 14,nF 15 14,xB 16 .shl 13 15,dB 16] (bZ [aH 17 4,xL 18 17,bC 19,xB 20 .andNot 18 19,aS 21,a6 22,nF 23 22,xB 24 .shl 21 23,xB 25 .or 20 24,aB 26 4,xL 27 26,bC 28,xB 29 .or 27 28,xO 30 (.build bR [(0,1,(.t 25)),(1,1,(.t 29))]),bE 8 30])⟩
def S2:AFn:=⟨4,[.cell 8 true 2],gI (f9 4) (j6 8) [aJ 9 4,a6 10,FH 11 lZ 9 40 eX (.t 10),aF 12,FH 13 lZ 11 32 (d7 8) (.t 12),aS 14,FH 15 lZ 13 24 (d7 8) (.t 14),bE 8 15]⟩
def S3:AFn:=⟨0,[.cell 0 true 9],aU [bK 0 iU] [xC 1 (.func (.func MU) [] [])] (bZ [xO 2 (.bslice .imm 1 (List.replicate 1 [.str []]) [(0,(.c (.str [107,105,110,100])))]),bD 3 fM [.t 2],xO 4 (.build iZ [(0,1,(.c (.str [98,97,115,101]))),(1,1,(.t 3))]),xO 5 (.bslice .imm 1 (List.replicate 2 [.str []]) [(0,(.c zG)),(1,(.c zJ))]),bD 6 fM [.t 5],xO 7 (.build iZ [(0,1,(.c (.str [116,97,103]))),(1,1,(.t 6))]),xO 8 (.bslice .imm 1 (List.replicate 3 [.str []]) [(0,(.c (.str [115,114,99]))),(1,(.c (.str [100,115,116]))),(2,(.c (.str [116,121,112,101])))]),bD 9 fM [.t 8],xO 10 (.build iZ [(0,1,PK),(1,1,(.t 9))]),xO 11 (.bslice .imm 2 (List.replicate 3 iZ) [(0,(.t 4)),(1,(.t 7)),(2,(.t 10))]),xO 12 (.bslice .imm 1 (List.replicate 2 [.str []]) [(0,(.c EL)),(1,(.c EG))]),bD 13 fM [.t 12],xO 14 E7,xO 15 OJ,xO 16 (.bslice .imm 2 (List.replicate 2 cP) [(0,(.t 14)),(1,(.t 15))]),eA 17 2 24 13 16,xO 18 O5,xO 19 (.bslice .imm 3 (List.replicate 1 EC) [(0,(.t 18))]),jV 20 D7 [],jV 21 D8 [],xO 22 OS,zV 23 eN aN aN,xO 24 OC,xO 25 OD,xO 26 (.bslice .imm 3 (List.replicate 2 zE) [(0,(.t 24)),(1,(.t 25))]),xO 27 (.build iV [(0,1,PF),(1,1,(.t 22)),(2,1,vS),(3,2,(.t 23)),(5,1,(.t 26)),(6,1,(.c (.int .i64 (-2))))]),xO 28 E8,xO 29 (.build iV [(0,1,P9),(1,1,(.t 28)),(6,1,d6)]),xO 30 OT,xO 31 (.build iV [(0,1,PD),(1,1,(.t 30)),(6,1,(.c (.int .i64 (-1))))]),xO 32 (.bslice .imm 7 (List.replicate 3 iV) [(0,(.t 27)),(1,(.t 29)),(2,(.t 31))]),xO 33 P6,xO 34 (.bslice .imm 3 (List.replicate 1 aY) [(0,(.t 33))]),aE 35 v4 34,a6 36,gH 37 36 [eX],a6 38,gH 39 38 [aN],xO 40 (.build dW [(0,1,d6),(2,1,(.t 35)),(3,1,(.t 37)),(4,1,(.t 39))]),xO 41 OX,hF 42 iQ (d7 2),aE 43 v5 42,zV 44 mA aN eX,xO 45 (.bslice .imm 3 (List.replicate 3 aY) [(0,(.t 41)),(1,(.t 43)),(2,(.t 44))]),aE 46 v4 45,a6 47,gH 48 47 [d7 2],xO 49 (.build dW [(0,1,d6),(2,1,(.t 46)),(3,1,(.t 48))]),xO 50 (.bslice .imm 5 (List.replicate 2 dW) [(0,(.t 40)),(1,(.t 49))]),xO 51 OH,xO 52 (.build iU [(0,1,PB),(1,1,(.t 11)),(2,1,(.t 17)),(3,1,(.t 19)),(4,1,(.t 20)),(5,1,(.t 21)),(6,1,(.t 32)),(7,1,(.t 50)),(8,1,(.t 51))]),xS 9 0 52])⟩
def wT:Xb:=eJ [xB 40 .lss 39 38] 40 0 1 (eV [xM 41 39,dJ 41] (xD [fR 42,xM 43 7,cT 44,xL 45 44,xM 46 7,xX 47 1 45 46,xL 48 47,cY 49,xL 50 49,xM 51 7,xX 52 1 50 51,xL 53 52,bL 54 3,xL 55 54,xM 56 7,bS 57 55 56,aJ 58 57,jV 59 yU [.t 42,.t 43,.t 48,.t 53,.t 58],b9 59]) (bX [aI 60,aG 61 .neq 60] 61 [aI 62,aV 62])) 63 .add 39 39 63
def wS:Xb:=bZ [fR 64,xF 65 3 3,xL 66 65,aK 67 D9 64 66,aV 67]
def S4:AFn:=⟨2,[.tmp 4],eV j0 (eQ [fR 9,aE 10 MV 9,bK 5 [aZ,aZ,aZ,aZ],xS 4 5 10] [5] (bX [aH 11 5,xL 12 11,aG 13 .neq 12] 13 [aH 14 5,xL 15 14,aV 15])) (kB [xF 16 5 2,xL 17 16,xN 18 17,bB 18] [cT 19,xL 20 19,xN 21 20,bQ 22,xB 23 .neq 21 22,xM 24 23,dH 25 24 3,aR 26 24 25,cR 27 24 26,b8 28 24 6,dG 29 24 .neq 27 28,xW 30 24 29,xM 31 30,cF 32 31 2 3,aR 33 31 32,cR 34 31 33,b8 35 31 6,dG 36 31 .neq 34 35,xW 37 31 36] 37 [cA 2] [bQ 38,aD 39] wT wS)⟩
def S5:AFn:=⟨2,[],b4 [a5 10,a6 11,jH 12 jM jX,bD 13 v6 [.t 10,.t 11,.t 12],aV 13] (aU [a5 14,a6 15,jH 16 jM PM,bD 17 v6 [.t 14,.t 15,.t 16],aT 17] [a5 18,a5 19,a5 20,a6 21,bU 22,bD 23 v7 [.t 20,.t 21,.t 22],aC 24,bD 25 v7 [.t 19,.t 23,.t 24],bD 26 mB [.t 18,.t 25]] (eQ [a5 27,bD 28 v8 [.t 27,aN],a5 29,bD 30 v8 [.t 29,eX],hI 6 aZ fP,hI 7 aZ fP,bE 6 28,bE 7 30] [6,7] (fD (xC 8 aL) (xC 9 aL) (dF [aH 31 6,xL 32 31,aG 33 .eql 32] (eH 33 (xR [bU 34,aB 35 6,xL 36 35,xO 37 (nB 1 36 aN),xL 38 37,nF 39 38,cK 40 .shl 39 32,xO 41 (mP .or (nD 1099511627776) 40),PP 42 mC 34 (nD 2199006478336) 41,b9 42]) (mO (a5 43) (bU 44) (bD 45 mB [.t 43,.t 44]))) (dF [aH 46 7,xL 47 46,aM 48 .eql 47] (eH 48 (xR [aC 49,dB 49]) (mO (a5 50) (aC 51) (bD 52 mB [.t 50,.t 51]))) (eS (a5 53) (aI 54) (bD 55 yV [.t 53,.t 54,.c PM]) (mO (a5 56) (bC 57) (bD 58 yV [.t 56,.t 57,.c jX]))))))))⟩
def S6:AFn:=⟨0,[.tmp 0],b4 [xC 0 mN] (aU [vY 3 yS (-1) aN,xO 4 (.bslice .imm 3 (List.replicate 1 aY) [(0,(.t 3))]),bU 1] [xO 5 P7,vY 6 cZ 1 aN,hF 7 v9 aN,aK 8 gL 6 7,zV 9 cZ aN aN,fC 10 m0 2 8,xO 11 (.bslice .imm 3 (List.replicate 1 aY) [(0,(.t 10))]),aK 12 gL 9 11,fC 13 cZ (-1) 3,a6 14,xO 15 (.build dD [(0,1,iX),(1,2,(.t 13)),(5,1,(.t 14))]),a6 16,xO 17 P0,fC 18 yS (-1) 3,fC 19 m0 1 16,xO 20 (.bslice .imm 3 (List.replicate 3 aY) [(0,(.t 17)),(1,(.t 18)),(2,(.t 19))]),xO 21 (.build dD [(0,1,(.c (.int .i64 5))),(5,1,(.t 16)),(6,1,(.t 20))]),xO 22 (.bslice .imm 7 (List.replicate 5 dD) [(0,(.t 5)),(1,(.t 8)),(2,(.t 12)),(3,(.t 15)),(4,(.t 21))]),bM 22] (bZ [jH 23 eE zG,xO 24 (.bslice .imm 2 (List.replicate 1 cP) [(0,(.t 23))]),aF 25,xO 26 (.build f8 [(0,1,PG),(1,1,(.t 24)),(2,1,(.t 25))]),xO 27 OU,jH 28 eE zL,jH 29 eE zJ,xO 30 (.bslice .imm 2 (List.replicate 2 cP) [(0,(.t 28)),(1,(.t 29))]),fC 31 cZ (-1) 1,hF 32 v9 aN,aK 33 gL 31 32,fC 34 cZ 1 1,hF 35 v9 eX,aK 36 gL 34 35,xO 37 (.bslice .imm 7 (List.replicate 2 dD) [(0,(.t 33)),(1,(.t 36))]),xO 38 (.build f8 [(0,1,P1),(1,1,(.t 30)),(2,1,(.t 37))]),jH 39 eE zL,xO 40 (.bslice .imm 2 (List.replicate 1 cP) [(0,(.t 39))]),fC 41 cZ (-1) 1,hF 42 v9 aN,aK 43 gL 41 42,xO 44 P8,zV 45 cZ aN aN,fC 46 m0 1 8,xO 47 ON,aK 48 gL 45 47,xO 49 (.bslice .imm 7 (List.replicate 3 dD) [(0,(.t 43)),(1,(.t 44)),(2,(.t 48))]),xO 50 (.build f8 [(0,1,OY),(1,1,(.t 40)),(2,1,(.t 49))]),fC 51 cZ (-1) 2,fC 52 m0 1 1,xO 53 (.bslice .imm 3 (List.replicate 1 aY) [(0,(.t 52))]),aK 54 gL 51 53,xO 55 (.bslice .imm 7 (List.replicate 1 dD) [(0,(.t 54))]),xO 56 (.build f8 [(0,1,ED),(2,1,(.t 55))]),xO 57 (.bslice .imm 3 (List.replicate 5 f8) [(0,(.t 26)),(1,(.t 27)),(2,(.t 38)),(3,(.t 50)),(4,(.t 56))]),xM 0 57]))⟩
def wV:Xb:=eK [aC 17,aS 18,xN 19 18,xB 20 .lss 17 19] 20 0 1 (xR [bU 23,aS 24,aC 25,bS 26 24 25,aJ 27 26,xO 28 (.build aY [(0,2,(.t 27)),(2,1,zI)]),xO 29 (.bslice .imm 3 (List.replicate 1 aY) [(0,(.t 28))]),eA 30 3 24 23 29,aV 30]) (aC 21) 22 .add 21 (aT 22)
def wU:Xb:=bZ [a6 31,xO 32 OL,aJ 33 2,xO 34 (.build iW [(0,1,OZ),(1,1,(.t 31)),(2,1,(.t 32)),(3,2,(.t 33)),(5,1,jS)]),a6 35,xO 36 OM,aJ 37 2,xO 38 (.build iW [(0,1,PE),(1,1,(.t 35)),(2,1,(.t 36)),(3,2,(.t 37)),(5,1,jS)]),bU 39,xO 40 OI,aJ 41 2,xO 42 (.build iW [(0,1,(.c (.str [112,97,116,104]))),(1,1,(.t 39)),(2,1,(.t 40)),(3,2,(.t 41)),(5,1,(.c (.int .i64 256)))]),xO 43 (.bslice .imm 6 (List.replicate 3 iW) [(0,(.t 34)),(1,(.t 38)),(2,(.t 42))]),xM 0 43]
def S7:AFn:=⟨0,[.tmp 0],aU [xC 0 (.Xa 6 [])] [vY 6 cZ (-1) aN,xO 7 (.build aY [(0,2,(.t 6)),(2,1,cO)]),xO 8 (.bslice .imm 3 (List.replicate 1 aY) [(0,(.t 7))]),aI 1] (eQ [xO 9 (.build vP [(0,1,iX)]),hI 2 aZ fP,bE 2 9] [2] (dY [vY 10 cZ (-1) aN,vY 11 cZ 1 aN,fC 12 cZ 1 1,vY 13 cZ 2 aN,fC 14 cZ 2 1,fC 15 cZ 2 2,xO 16 (.bslice .imm 2 (List.replicate 6 vO) [(0,(.t 10)),(1,(.t 11)),(2,(.t 12)),(3,(.t 13)),(4,(.t 14)),(5,(.t 15))]),xM 3 16] [fJ 4 3] [eU] wV wU))⟩
def S8:AFn:=⟨1,zQ,fB (hO 2 (.str [])) [eC,xO 4 (.build cP [(0,1,(.t 3)),(1,1,zN)]),bE 2 4]⟩
def S9:AFn:=⟨2,EM,fB EH [j9,lV,xO 7 (.build aY [(0,1,d6),(1,1,(.t 5)),(2,1,(.t 6))]),xS 3 4 7]⟩
def SA:AFn:=⟨2,EM,fB EH OE⟩
def wX:Xb:=eK [bB 4,xF 7 3 1,xL 8 7,xN 9 8,xB 10 .lss 6 9] 10 0 1 (b4 [xF 13 3 1,xL 14 13,bU 15,xX 16 3 14 15,bL 17 16,xL 18 17,aT 18] (dM [aC 19,aM 20 .lss 19,xM 21 20,b8 22 21 5,d8 23 21 .gtr 22 64,xW 24 21 23] 24 (xR [eU]) (xR [aS 25,aC 26,xO 27 (.mkslice .imm 1 4 zT (.t 26) (.t 26)),xO 28 (.bslice .imm 1 (List.replicate 1 [.Xa 1 []]) [(0,(.t 27))]),eA 29 1 24 25 28,xM 3 29]))) (bU 11) 12 .add 11 (aV 12)
def wW:Xb:=wH (aS 30) 30
def SC:AFn:=⟨1,[.tmp 2],dY [eB,eL fP] [fJ 3 1] [bF] wX wW⟩
def SD:AFn:=⟨4,[.cell 8 true 4,.tmp 9,.tmp 10],cC [f9 4,xJ 5 1,xJ 7 3,bK 8 gQ,aD 9,aD 10] [aF 14,aG 15 .lss 14,xM 16 15,b8 17 16 2,cF 18 16 5 4,aR 19 16 18,cR 20 16 19,dG 21 16 .geq 17 20,xW 22 16 21] 22 [xA 23 4 5,xS 4 8 23,aD 9,xI 10 8] (b4 [cE 24 4,aF 25,xA 26 4 7,gX 27 DC 24 25 26,xM 11 27] (gW 0 [xM 29 11,aG 30 .neq 29,xM 28 30] 28 [xA 31 4 5,xM 32 11,xS 4 8 31,aD 9,xM 10 32] (cJ [aH 34 5,xL 35 34,aF 36,xX 37 1 35 36,xL 38 37,xA 39 4 7,aK 40 DE 38 39,xM 33 40] (eH 33 (bZ [xA 41 4 5,xS 4 8 41,aD 9,xI 10 7]) (nE [aH 43 5,xL 44 43,aF 45,xX 46 1 44 45,xL 47 46,xN 48 47,xF 49 5 4,xL 50 49,aF 51,xX 52 6 50 51,xF 53 5 52,xL 54 53,xB 55 .geq 48 54,xM 56 55,dH 57 56 5,aR 58 56 57,b8 59 56 2,c9 60 56 (EP 1 58 59),aR 61 56 60,d8 62 56 .geq 61 1073741824,xW 63 56 62,xM 42 63] 42 [xA 64 4 5,xS 4 8 64,aD 9,xI 10 13]))) (aU [aB 65 5,xL 66 65,aF 67,xX 68 1 66 67,xL 69 68,xM 12 69] [fJ 13 5] (aU [xM 70 13,aH 71 5,xL 72 71,aF 73,xX 74 1 72 73,xL 75 74,eA 76 5 72 70 75,xM 13 76] [xM 77 13,xM 78 12,xA 79 4 7,xO 80 (.build zF [(0,1,(.t 78)),(1,4,(.t 79))]),xO 81 (.bslice .imm 5 (List.replicate 1 zF) [(0,(.t 80))]),eA 82 5 72 77 81,xM 13 82] (bZ [xA 83 4 5,aF 84,xM 85 13,xM 86 12,aM 87 .add 86,wF 88 DF 83 (.t 84) (.t 85) (.t 87),xM 89 12,xS 4 8 88,dB 89,aD 10])))))⟩
def SE:AFn:=⟨2,[.cell 4 true 4],fB (bK 4 EE) [j9,aE 6 vA 5,xO 7 (.bslice .imm 2 (List.replicate 1 zK) [(0,(.t 6))]),a6 8,aE 9 t5 8,xO 10 (.bslice .imm 1 (List.replicate 1 zT) [(0,(.t 9))]),xO 11 (.build vP [(0,1,gR),(1,1,(.t 10))]),xO 12 (.build OV [(0,1,(.t 7)),(2,2,(.t 11))]),xS 4 4 12]⟩
def SF:AFn:=⟨5,[.cell 10 true 4],eV [xJ 8 3,xJ 9 4,bK 10 EE] (xD [a5 11,aE 12 vA 11,a6 13,aE 14 vA 13,hF 15 vA aN,aJ 16 8,gU 17 hS 16 16,aJ 18 8,gU 19 hS 18 8,aJ 20 8,zW 21 hS 20 aN,xO 22 (.bslice .imm 2 (List.replicate 6 zK) [(0,(.t 12)),(1,(.t 14)),(2,(.t 15)),(3,(.t 17)),(4,(.t 19)),(5,(.t 21))]),aF 23,aJ 24 9,xO 25 (.build OV [(0,1,(.t 22)),(1,1,(.t 23)),(2,2,(.t 24))]),xS 4 10 25]) .ret⟩
def SG:AFn:=⟨1,[.tmp 2],jZ 2 [eC,aM 4 .geq 3,aT 4,dI 6 5,dZ 7 5 .leq 6 (d7 64),xV 8 5 7,aI 2]⟩
def SH:AFn:=⟨1,[.tmp 2],fB (eL lU) [eC,xO 4 (mP .sub (d7 64) 3),xO 5 (mP .shr (nD 18446744073709551615) 4),aC 2]⟩
def wZ:Xb:=eK [aT 4,nG,xB 7 .lss 5 6] 7 0 1 (xR [aS 10,xO 11 (mP .mul (nD 2) 10),cK 12 .add 11 1,xM 3 12]) (b9 4) 9 .add 8 (aV 9)
def wY:Xb:=wH (aS 13) 13
def SI:AFn:=⟨1,[.tmp 2],dY [eL lU] [xC 3 lU] [bF] wZ wY⟩
def SJ:AFn:=⟨1,[.tmp 2],fB (eL (.Xa 5 [])) [eC,xO 4 (.build dW [(0,1,cO),(1,1,(.t 3))]),xO 5 (.bslice .imm 5 (List.replicate 1 dW) [(0,(.t 4))]),aC 2]⟩
def xP:Xb:=eJ j5 9 0 1 (eS (xX 10 1 6 8) (xL 11 10) (aT 11) (xR [aS 12,aC 13,xO 14 (.build cP [(0,1,(.t 13)),(1,1,zN)]),xO 15 (.bslice .imm 2 (List.replicate 1 cP) [(0,(.t 14))]),eA 16 2 24 12 15,xM 3 16])) 17 .add 8 8 17
def xH:Xb:=wH (aS 18) 18
def SK:AFn:=⟨1,[.tmp 2],dY [eL aL] [fJ 3 2] iY xP xH⟩
def SL:AFn:=⟨0,[.tmp 0],aU [xC 0 mN] [xC 1 (.func (.func A8) [] [])] (eQ [hF 3 iQ (d7 3),hO 2 aZ,bE 2 3] [2] (cJ [xO 4 (.bslice .imm 1 (List.replicate 1 [.str []]) [(0,(.c zG))]),aE 5 fM 4,xO 6 P7,vY 7 eN 1 aN,hF 8 hU aN,xO 9 (.bslice .imm 3 (List.replicate 1 aY) [(0,(.t 8))]),aK 10 dP 7 9,zV 11 eN aN aN,fC 12 mA 2 8,xO 13 (.bslice .imm 3 (List.replicate 1 aY) [(0,(.t 12))]),aK 14 dP 11 13,aJ 15 2,a6 16,gH 17 16 [],xO 18 (.build dD [(0,1,iX),(1,2,(.t 15)),(5,1,(.t 17))]),a6 19,gH 20 19 [],xO 21 P0,aJ 22 2,aE 23 v5 22,fC 24 mA 1 16,xO 25 (.bslice .imm 3 (List.replicate 3 aY) [(0,(.t 21)),(1,(.t 23)),(2,(.t 24))]),aE 26 v4 25,xO 27 (.build dD [(0,1,(.c (.int .i64 5))),(5,1,(.t 20)),(6,1,(.t 26))]),xO 28 (.bslice .imm 7 (List.replicate 5 dD) [(0,(.t 6)),(1,(.t 10)),(2,(.t 14)),(3,(.t 18)),(4,(.t 27))]),xO 29 (.build f8 [(0,1,PG),(1,1,(.t 5)),(2,1,(.t 28))]),xO 30 OU,xO 31 (.bslice .imm 1 (List.replicate 2 [.str []]) [(0,(.c zL)),(1,(.c zJ))]),aE 32 fM 31,hF 33 iQ eX,hF 34 hU aN,xO 35 (.bslice .imm 3 (List.replicate 1 aY) [(0,(.t 34))]),aK 36 dP 33 35,fC 37 eN 1 1,hF 38 hU eX,xO 39 (.bslice .imm 3 (List.replicate 1 aY) [(0,(.t 38))]),aK 40 dP 37 39,xO 41 (.bslice .imm 7 (List.replicate 2 dD) [(0,(.t 36)),(1,(.t 40))]),xO 42 (.build f8 [(0,1,P1),(1,1,(.t 32)),(2,1,(.t 41))]),xO 43 (.bslice .imm 1 (List.replicate 1 [.str []]) [(0,(.c zL))]),aE 44 fM 43,hF 45 iQ eX,hF 46 hU aN,xO 47 ON,aK 48 dP 45 47,xO 49 P8,zV 50 eN aN aN,fC 51 mA 1 8,xO 52 (.bslice .imm 3 (List.replicate 1 aY) [(0,(.t 51))]),aK 53 dP 50 52,xO 54 (.bslice .imm 7 (List.replicate 3 dD) [(0,(.t 48)),(1,(.t 49)),(2,(.t 53))]),xO 55 (.build f8 [(0,1,OY),(1,1,(.t 44)),(2,1,(.t 54))]),hF 56 iQ (d7 2),fC 57 mA 1 1,xO 58 (.bslice .imm 3 (List.replicate 1 aY) [(0,(.t 57))]),aK 59 dP 56 58,xO 60 (.bslice .imm 7 (List.replicate 1 dD) [(0,(.t 59))]),xO 61 (.build f8 [(0,1,ED),(2,1,(.t 60))]),xO 62 (.bslice .imm 3 (List.replicate 5 f8) [(0,(.t 29)),(1,(.t 30)),(2,(.t 42)),(3,(.t 55)),(4,(.t 61))]),xM 0 62] .ret))⟩
def SN:AFn:=⟨0,[.tmp 0],aU [xC 0 (.Xa 6 [])] [xC 1 (.func (.func kD) [] [])] (eQ [hF 4 iQ aN,hO 2 aZ,bE 2 4] [2] (eQ [xO 5 (.build vP [(0,1,iX)]),hI 3 aZ fP,bE 3 5] [3] (cJ [lV,aJ 7 2,xO 8 (.bslice .imm 2 (List.replicate 1 vO) [(0,(.t 7))]),gH 9 6 [eX,.t 8],xO 10 OL,aJ 11 3,xO 12 (.build iW [(0,1,OZ),(1,1,(.t 9)),(2,1,(.t 10)),(3,2,(.t 11)),(5,1,jS)]),a6 13,aJ 14 2,xO 15 (.bslice .imm 2 (List.replicate 1 vO) [(0,(.t 14))]),gH 16 13 [eX,.t 15],xO 17 OM,aJ 18 3,xO 19 (.build iW [(0,1,PE),(1,1,(.t 16)),(2,1,(.t 17)),(3,2,(.t 18)),(5,1,jS)]),a6 20,aJ 21 2,vY 22 eN 1 aN,fC 23 eN 1 1,vY 24 eN 2 aN,fC 25 eN 2 1,fC 26 eN 2 2,xO 27 (.bslice .imm 2 (List.replicate 6 vO) [(0,(.t 21)),(1,(.t 22)),(2,(.t 23)),(3,(.t 24)),(4,(.t 25)),(5,(.t 26))]),gH 28 20 [d7 3,.t 27],xO 29 OI,aJ 30 3,xO 31 (.build iW [(0,1,(.c (.str [112,97,116,104]))),(1,1,(.t 28)),(2,1,(.t 29)),(3,2,(.t 30)),(5,1,(.c (.int .i64 256)))]),xO 32 (.bslice .imm 6 (List.replicate 3 iW) [(0,(.t 12)),(1,(.t 19)),(2,(.t 31))]),xM 0 32] .ret)))⟩
def SO:AFn:=⟨2,mM,fB (hO 4 aZ) OK⟩
def SP:AFn:=⟨1,[.tmp 2],fB (eL mN) [eC,aS 2]⟩
def SQ:AFn:=⟨1,[.cell 2 true 3],gI eB (fA 2 aZ aZ aZ) [aH 3 1,xL 4 3,fS 5,xL 6 5,xO 7 (.build aY [(0,1,d6),(1,1,(.t 4)),(2,1,(.t 6))]),xS 3 2 7]⟩
def SR:AFn:=⟨1,zQ,fB (hO 2 aZ) [eC,vY 4 eN (-1) (.t 3),bE 2 4]⟩
def SS:AFn:=⟨2,EM,fB EH OE⟩
def ST:ADFn:=⟨1,[.cell 2 true 4],.seq (xR [xO 1 (.box (.t 0)),xO 2 (.alloc mL)]) (.dfr [⟨some 3,none,.mkfunc (.func A9) [] [.t 2]⟩] 3 (.seq (xR [xA 4 9 1,xO 5 (.pcall kE [.t 4])]) (.seq (xR [xA 6 9 1,xO 7 (.pcall hX [.t 6])]) (.seq (xR [xA 8 9 1,xO 9 (.pcall hZ [.t 8])]) (.seq (xR [xA 10 9 1,xO 11 (.pcall i6 [.t 10])]) (.seq (xR [xA 12 9 1,xO 13 (.pcall kF [.t 12])]) (.seq (xR [xO 14 (.build mL []),xS 4 2 14]) (.ret)))))))),A9,1,(some (4,1)),.seq (.seq (xR [xM 5 1,xO 6 (.eqs false false [] (.t 5) (.c (.niliface)))]) (.cond (.t 6) (.ret) (.skip))) (.seq (.seq (xR [xM 8 1,xO 9 (.tassert 214 true (.agg mL) (.t 8)),xM 7 9,xE 10 0 7,xE 11 1 7,xO 2 (.alloc mL),xS 4 2 10,xM 3 11]) (.seq (xR [xM 12 3]) (.cond (.t 12) (.seq (xR [xF 13 0 2,xA 14 4 13,xS 4 0 14]) (.ret)) (.skip)))) (xR [xM 15 1,⟨none,none,.panic (.t 15)⟩]))⟩
def xY:Xb:=cV [xB 29 .lss 28 27] 29 0 1 [aP 30 26 28,b6 31 30,bK 13 fO,bT 13 31] [13] (cQ [aH 32 13,xL 33 32,xM 34 11,xB 35 .leq 33 34] 35 [xI 10 14] (mO (aH 36 13) (xL 37 36) (xM 11 37))) 38 .add 28 28 38
def xZ:Xb:=cV [xB 53 .lss 52 51] 53 2 3 [xM 54 52,aP 55 50 52,b6 56 55,bK 15 fO,xM 14 54,bT 15 56] [15] (dF [cE 57 5,a6 58,aB 59 15,xA 60 4 59,gX 61 kG 57 58 60,xM 16 61] (bX [xM 62 16,aG 63 .neq 62] 63 [xM 64 16,xM 10 64]) (bX [aF 65,xM 66 14,xO 67 (.slc 5 (.t 65) none (some (.t 66)) none),xO 68 (.mkfunc (.func t6) [] [.t 15]),aK 69 AA 67 68] 69 [xI 10 7])) 70 .add 52 52 70
def xT:Xb:=bZ [cE 71 5,a6 72,aJ 73 9,gX 74 t7 71 72 73,xM 10 74]
def xU:Xb:=cQ [aS 39,xM 40 11,xB 41 .leq 39 40,xM 42 41,b8 43 42 3,d8 44 42 .lss 43 1,xW 45 42 44,xM 46 45,b8 47 46 3,d8 48 46 .gtr 47 1073741824,xW 49 46 48] 49 [xI 10 14] (n8 [aF 50,xN 51 50,aD 52] 2 xZ xT)
def SU:AFn:=⟨5,[.tmp 10],cC [f9 5,xJ 9 4,aD 10] [aF 17,xN 18 17,xF 19 5 5,xL 20 19,a6 21,xX 22 6 20 21,xF 23 5 22,xL 24 23,xB 25 .gtr 18 24] 25 [xI 10 12] (fQ [aD 11] [aF 26,xN 27 26,aD 28] xY xU)⟩
def yC:Xb:=eJ [xB 18 .lss 17 16] 18 0 1 (gF [xM 19 17,xX 20 1 15 17,xL 21 20,aT 19,bB 21] [bQ 22,xN 23 22,xF 24 3 2,xL 25 24,aC 26,xX 27 3 25 26,bL 28 27,xL 29 28,xB 30 .neq 23 29] 30 [cA 2]) 31 .add 17 17 31
def yD:Xb:=eJ [xB 35 .lss 34 33] 35 2 3 (eV [xM 36 34,xX 37 1 32 34,xL 38 37,dJ 36,b9 38] (xD [aI 39,xN 40 39,aG 41 .gtr 40,xM 42 41,b5 43 42 8,gT 44 42 t8 [.t 43],gV 45 42 3 2,gG 46 42 1 45,b5 47 42 7,fK 48 42 3 46 47,gV 49 42 1 48,gG 50 42 1 49,gT 51 42 dQ [.t 50],dZ 52 42 .gtr 44 (.t 51),xV 53 42 52]) (FF 53 [cA 9])) 54 .add 34 34 54
def yA:Xb:=cD bF
def yB:Xb:=n8 [a6 32,xN 33 32,aD 34] 2 yD yA
def SV:AFn:=⟨2,[.tmp 4],kB [eW,bF] [a6 9,xN 10 9,xF 11 3 2,xL 12 11,xN 13 12,xB 14 .neq 10 13] 14 [cA 2] [a6 15,xN 16 15,aD 17] yC yB⟩
def SW:AFn:=⟨3,[.tmp 6],fB (xC 6 aL) [a5 7,a6 8,aF 9,aK 10 i7 8 9,bH 11 10,bI 12 10,bD 13 fU [.t 7,.t 11,.t 12],bB 13]⟩
def SX:AFn:=⟨2,[],xR [a5 4,j9,nG,eT 7 6,xF 8 15 7,xL 9 8,a6 10,aK 11 t9 9 10,bH 12 11,bI 13 11,bD 14 fU [.t 5,.t 12,.t 13],eT 15 4,xF 16 15 15,cL 16 14]⟩
def SY:AFn:=⟨3,[.tmp 6],fB (xC 6 aL) [a5 7,a6 8,aF 9,RP 10 fV 8 (.t 9) (d7 41),bH 11 10,bI 12 10,bD 13 fU [.t 7,.t 11,.t 12],bB 13]⟩
def SZ:AFn:=⟨2,mM,eV [hI 4 aZ fP] (.region true [(3,23),(9,23),(12,23),(16,23),(19,23)] [⟨some 8,none,.mov (.t 0)⟩,⟨some 9,none,.nilchk (.t 8)⟩,⟨some 10,none,.faddr 0 (.t 9)⟩,⟨some 11,none,.load true 9 (.t 10)⟩,⟨some 12,none,.mov (.t 1)⟩,⟨some 13,none,.mov (.t 0)⟩,⟨some 14,none,.nilchk (.t 13)⟩,⟨some 15,none,.faddr 9 (.t 14)⟩,⟨some 16,none,.faddr 0 (.t 15)⟩,⟨some 17,none,.load false 1 (.t 16)⟩,⟨some 18,none,.mov (.t 1)⟩,⟨some 19,none,.iaddr 1 none (.t 17) (.t 18)⟩,⟨some 20,none,.load false 1 (.t 19)⟩,⟨some 21,none,.mov (.t 0)⟩,⟨some 22,none,.nilchk (.t 21)⟩,⟨some 23,none,.faddr 13 (.t 22)⟩,⟨some 24,none,.load false 1 (.t 23)⟩,⟨some 25,none,.conv .u32 (.t 24)⟩,⟨some 26,none,.bslice .imm 1 (List.replicate 1 zT) [(0,(.t 25))]⟩,⟨some 27,none,.pcall kH [.t 11,.t 12,.t 20,.t 26]⟩,⟨some 7,none,.mov (.t 27)⟩,⟨some 28,none,.ext 0 (.t 7)⟩,⟨some 29,none,.ext 1 (.t 7)⟩,⟨some 5,none,.alloc zF⟩,⟨none,none,.store 5 (.t 5) (.t 28)⟩,⟨some 6,none,.mov (.t 29)⟩] (some [5])) (mQ [bQ 30] 30 [aB 31 5,bL 32 31,aJ 33 32,bE 4 33] [a5 34,eT 35 34,xF 36 9 35,bL 37 36,xL 38 37,a6 39,bS 40 38 39,aJ 41 40,bE 4 41])⟩
def yF:Xb:=cV [xB 13 .lss 12 11] 13 0 1 [bS 14 10 12,aJ 15 14,j6 9,bE 9 15] [9] (xR [xM 16 7,aH 17 9,xL 18 17,a6 19,xB 20 .andNot 18 19,aF 21,xB 22 .or 20 21,aB 23 9,xL 24 23,a6 25,xB 26 .or 24 25,xO 27 (.build bR [(0,1,(.t 22)),(1,1,(.t 26))]),xO 28 (.bslice .imm 2 (List.replicate 1 bR) [(0,(.t 27))]),eA 29 2 16 16 28,dJ 29]) 30 .add 12 12 30
def yE:Xb:=hG (xM 31 7) (bB 31)
def T0:AFn:=⟨3,[.tmp 6],dY [xC 6 aL] [fJ 7 2] [a5 10,xN 11 10,aD 12] yF yE⟩
def T3:AFn:=⟨2,[.cell 4 true 7],gI eW (bK 4 EA) OB⟩
def T4:AFn:=⟨2,mM,fB (hO 4 aZ) OK⟩
def T5:AFn:=⟨1,[.tmp 2],fB (eL mN) [eC,xO 4 P4,xO 5 (.bslice .imm 3 (List.replicate 1 aY) [(0,(.t 4))]),aC 2]⟩
def yH:Xb:=eK [xM 29 10,bC 30,xN 31 30,xB 32 .lss 29 31] 32 0 1 (cJ [aH 35 5,xL 36 35,xM 37 10,bS 38 36 37,aJ 39 38,bC 40,xM 41 10,xX 42 1 40 41,xL 43 42,xF 44 5 3,xL 45 44,a6 46,xX 47 6 45 46,aB 48 47,xL 49 48,xM 50 10,xX 51 3 49 50,bL 52 51,xL 53 52,gX 54 tD 39 43 53,b9 54] (bX [aI 55,aG 56 .neq 55] 56 [aI 57,bB 57])) (xM 33 10) 34 .add 33 (xM 10 34)
def yG:Xb:=gW 2 [aB 59 5,xL 60 59,aG 61 .lss 60,xM 62 61,dH 63 62 5,aR 64 62 63,d8 65 62 .gtr 64 255,xW 66 62 65,xM 58 66] 58 [xI 6 9] (gS [aB 68 5,xL 69 68,aG 70 .gtr 69,xM 71 70,cW 72 71 9 3,b5 73 71 1,gT 74 71 tE [.t 72,.t 73],dZ 75 71 .neq 74 (d7 3),xV 76 71 75,xM 67 76] 67 [xI 6 11] (bX [cE 78 3,a6 79,bL 80 5,aH 81 80,xL 82 81,gX 83 tA 78 79 82,bO 84 83,xM 77 84] 77 [xI 6 8])) (bZ [cE 85 3,bL 86 5,aJ 87 86,aK 88 kK 85 87,bB 88])
def T6:AFn:=⟨3,[.tmp 6],aU zO [cE 12 3,a6 13,aK 14 i9 12 13,xM 11 14,bH 15 11,bI 16 11,dJ 15,b9 16] (cQ [aI 17,aG 18 .neq 17] 18 [aI 19,bB 19] (kB [cE 20 3,a6 21,aK 22 kN 20 21,dB 22] [aH 23 5,xL 24 23,xN 25 24,bC 26,xN 27 26,xB 28 .neq 25 27] 28 [xI 6 2] [aD 10] yH yG))⟩
def yK:Xb:=eK PC 9 0 1 (nE [a5 12,aC 13,aP 14 12 13,aB 15 14,xA 16 4 15,xA 17 4 3,aK 18 AM 16 17] 18 [k9 4]) (aC 10) 11 .add 10 (aT 11)
def yJ:Xb:=cD fL
def T7:AFn:=⟨2,[.tmp 4],fQ [xJ 3 1,fL] [eU] yK yJ⟩
def yM:Xb:=eK [xM 16 10,aH 17 4,xL 18 17,xN 19 18,xB 20 .lss 16 19] 20 0 1 (gE [xM 23 10,a6 24,xB 25 .eql 23 24] 25 (b4 [aH 26 9,xL 27 26,aF 28,xO 29 (.bslice .imm 1 (List.replicate 1 [.Xa 5 []]) [(0,(.t 28))]),eA 30 1 24 27 29,aH 31 9,cL 31 30] (xR [aB 32 9,xL 33 32,aS 34,xO 35 OO,eA 36 1 8 33 35,aB 37 9,cL 37 36])) (cJ [aH 38 9,xL 39 38,aH 40 4,xL 41 40,xM 42 10,xX 43 1 41 42,xL 44 43,xO 45 (.bslice .imm 1 (List.replicate 1 [.Xa 5 []]) [(0,(.t 44))]),eA 46 1 24 39 45,aH 47 9,cL 47 46] (xD [aB 48 9,xL 49 48,aB 50 4,xL 51 50,xM 52 10,xX 53 1 51 52,xL 54 53,xO 55 (.bslice .imm 1 (List.replicate 1 dE) [(0,(.t 54))]),eA 56 1 8 49 55,aB 57 9,cL 57 56]))) (xM 21 10) 22 .add 21 (xM 10 22)
def yL:Xb:=hG (xA 58 4 9) (xS 4 8 58)
def T8:AFn:=⟨4,[.cell 8 true 4],dY [f9 4,bK 8 gQ] [bL 11 4,xL 12 11,xF 13 3 4,xL 14 13,xO 15 (.build gQ [(2,1,(.t 12)),(3,1,(.t 14))]),bK 9 gQ,xS 4 9 15] [aD 10] yM yL⟩
def T9:AFn:=⟨1,zQ,fB (hI 2 dA dA) [eC,aE 4 t5 3,xO 5 (.build zK [(0,1,(.t 4)),(1,1,EF)]),bE 2 5]⟩
def FR:AFn:=⟨1,[.tmp 2],fB (eL dA) [eC,eR 4 .u8 3,eR 5 .u32 4,aC 2]⟩
def FS:AFn:=⟨2,mM,gI eW (hI 4 dA dA) [aH 5 2,xL 6 5,a6 7,nF 8 7,xB 9 .shr 6 8,eR 10 .u32 9,jF 11 .and 10 (EN 255),aB 12 2,xL 13 12,a6 14,nF 15 14,xB 16 .shr 13 15,eR 17 .u32 16,jF 18 .and 17 (EN 255),xO 19 (.build zK [(0,1,(.t 11)),(1,1,(.t 18))]),bE 4 19]⟩
def FT:AFn:=⟨0,[.tmp 0],fB (xC 0 mN) [hF 1 iQ aN,aE 2 v5 1,xO 3 (.bslice .imm 3 (List.replicate 1 aY) [(0,(.t 2))]),aE 4 v4 3,bU 0]⟩
def FU:AFn:=⟨2,[.cell 4 true 7],gI eW (bK 4 EA) OB⟩
def FV:AFn:=⟨1,[.cell 2 true 3],fB (fA 2 aZ aZ aZ) [eC,xO 4 P4,xS 3 2 4]⟩
def nK:Xb:=cV jT 11 0 1 [bS 12 8 10,aJ 13 12,hO 7 aZ,bE 7 13] [7] (xR [aC 14,aJ 15 7,a5 16,xO 17 (.build aY [(0,2,(.t 15)),(2,1,(.t 16))]),xO 18 (.bslice .imm 3 (List.replicate 1 aY) [(0,(.t 17))]),eA 19 3 24 14 18,aT 19]) 20 .add 10 10 20
def nJ:Xb:=nC 21 21
def FW:AFn:=⟨2,[.tmp 4],dY [xC 4 mN] [fJ 5 3] [a6 8,xN 9 8,aD 10] nK nJ⟩
def FX:AFn:=⟨1,[],b4 [eB] (aU [aH 2 1,xL 3 2,aE 4 tF 3,gU 5 bJ 4 6,wF 6 aQ 5 aN aN aN] [fS 7,xL 8 7,xN 9 8,xK 10 .gtr 9 8,gU 11 bJ 10 12,wF 12 aQ 11 aN eX aN] (aU [xF 13 3 1,xL 14 13,xN 15 14,xK 16 .gtr 15 4,gU 17 bJ 16 12,wF 18 aQ 17 aN (d7 3) aN] [xF 19 4 1,xL 20 19,xN 21 20,xK 22 .gtr 21 16,gU 23 bJ 22 12,wF 24 aQ 23 aN (d7 4) aN] (xR [xF 25 5 1,xL 26 25,xN 27 26,xK 28 .gtr 27 12,gU 29 bJ 28 12,wF 30 aQ 29 aN (d7 5) aN])))⟩
def nL:Xb:=cV EI 12 0 1 [xM 13 11,bS 14 9 11,aJ 15 14,hI 4 (.str []) aL,xM 3 13,bE 4 15] [4] (aU [aJ 16 4,aE 17 kP 16,aS 18,hP 19 aQ 17 1 18 aN] [aH 20 4,xL 21 20,jF 22 .eql 21 (.str [109,101,116,97]),gU 23 bJ 22 6,aS 24,hP 25 aQ 23 1 24 aN] (xR [aF 26,aS 27,aK 28 fW 26 27,gU 29 bJ 28 7,aS 30,hP 31 aQ 29 1 30 aN])) 32 .add 11 11 32
def FZ:AFn:=⟨1,[],b4 [eB] (aU [fS 5,xL 6 5,zW 7 kO 6 (.c (.func (.func tG) [] [])),bM 7] [fS 8,xL 9 8,xN 10 9,aD 11] (jW 0 nL))⟩
def nN:Xb:=cV EJ 20 0 1 [xM 21 19,bS 22 17 19,aJ 23 22,hO 4 (.str []),xM 3 21,bE 4 23] [4] (aU [aH 24 4,xL 25 24,aE 26 tF 25,gU 27 bJ 26 6,aS 28,hP 29 aQ 27 2 28 aN] [aB 30 4,xL 31 30,aE 32 AN 31,gU 33 bJ 32 10,aS 34,hP 35 aQ 33 2 34 aN] (xR [aF 36,aS 37,aK 38 fW 36 37,gU 39 bJ 38 7,aS 40,hP 41 aQ 39 2 40 aN])) 42 .add 19 19 42
def nO:Xb:=cV [xK 48 .lss 47 3] 48 2 3 [xM 49 47,xO 50 (.idxa true 3 2 (.t 46) (.t 47)),hO 6 (.str []),aT 49,bE 6 50] [6] (cJ [aC 51,bL 52 1,xL 53 52,xN 54 53,xB 55 .geq 51 54,xM 56 55,cF 57 56 2 1,aR 58 56 57,b8 59 56 5,c9 60 56 (EP 2 58 59),c9 61 56 (PN 2 60),c9 62 56 (PN 2 6),c9 63 56 (.eqs true true [.s,.i] (.t 61) (.t 62)),xW 64 56 63,gU 65 bJ 64 5,aC 66] (xR [hP 67 aQ 65 2 66 aN])) 68 .add 47 47 68
def nM:Xb:=b4 [xO 43 (.build cP [(0,1,(.c EL)),(1,1,zN)]),xO 44 (.build cP [(0,1,(.c EG)),(1,1,zN)]),xO 45 E7,xO 46 (.build [.str [],.int .i64 0,.str [],.int .i64 0,.str [],.int .i64 0] [(0,2,(.t 43)),(2,2,(.t 44)),(4,2,(.t 45))]),aD 47] (jW 2 nO)
def G0:AFn:=⟨1,[],b4 [eB] (dY [bL 7 1,xL 8 7,xN 9 8,xK 10 .gtr 9 12,gU 11 bJ 10 12,FH 12 aQ 11 2 aN aN] [bL 13 1,xL 14 13,zW 15 kQ 14 (.c (.func (.func tH) [] [])),bM 15] [bL 16 1,xL 17 16,xN 18 17,aD 19] nN nM)⟩
def nR:Xb:=cV [xB 18 .lss 17 16] 18 0 1 [xM 19 17,xX 20 3 15 17,xA 21 3 20,fA 4 (.str []) aZ aZ,xM 3 19,xS 3 4 21] [4] (b4 [xA 22 3 4,aE 23 tJ 22,aS 24,hP 25 aQ 23 3 24 aN] (xR [aF 26,aS 27,aK 28 fW 26 27,gU 29 bJ 28 7,aS 30,hP 31 aQ 29 3 30 aN])) 32 .add 17 17 32
def nS:Xb:=eJ [xB 40 .lss 39 38] 40 2 3 (fD (xM 41 39) (aT 41) (aU [cE 43 1,aC 44,aK 45 kT 43 44,xM 42 45,bH 46 42,bI 47 42,bB 46,dJ 47] [xM 48 7,aC 49,bQ 50,hP 51 aQ 48 4 49 (.t 50)] (xR [aF 52,aC 53,aK 54 fW 52 53,gU 55 bJ 54 7,aC 56,hP 57 aQ 55 4 56 aN]))) 58 .add 39 39 58
def nT:Xb:=eJ [xB 66 .lss 65 64] 66 4 5 (fD (xM 67 65) (b9 67) (aU [cE 69 1,aI 70,aK 71 fX 69 70,xM 68 71,bH 72 68,bI 73 68,dB 72,xM 10 73] [xM 74 10,aI 75,bC 76,hP 77 aQ 74 5 75 (.t 76)] (xR [aF 78,aI 79,aK 80 fW 78 79,gU 81 bJ 80 7,aI 82,hP 83 aQ 81 5 82 aN]))) 84 .add 65 65 84
def nP:Xb:=aU [xF 59 5 1,xL 60 59,zW 61 kU 60 (.c (.func (.func tL) [] [])),bM 61] [xF 62 5 1,xL 63 62,xN 64 63,aD 65] (jW 4 nT)
def nQ:Xb:=b4 [xF 33 4 1,xL 34 33,zW 35 kS 34 (.c (.func (.func tK) [] [])),bM 35] (n8 [xF 36 4 1,xL 37 36,xN 38 37,aD 39] 2 nS nP)
def G1:AFn:=⟨1,[],dY [eB] [xF 11 3 1,xL 12 11,zW 13 kR 12 (.c (.func (.func tI) [] [])),bM 13] [xF 14 3 1,xL 15 14,xN 16 15,aD 17] nR nQ⟩
def G2:AFn:=⟨1,[],aU [eB] [cE 7 1,aE 8 kV 7,aI 6,bH 9 6,bI 10 6,xE 11 2 6,bM 9,xM 3 10,aV 11] (aU [bU 12,aF 13,aS 14,hP 15 aQ 12 6 13 (.t 14)] [cE 17 1,aE 18 tM 17,xM 16 18,bH 19 16,bI 20 16,aT 19,aV 20] (aU [bU 21,aC 22,hP 23 aQ 21 7 22 aN] [cE 25 1,aE 26 tN 25,xM 24 26,bH 27 24,bI 28 24,aT 27,aV 28] (mO (bU 29) (aC 30) (hP 31 aQ 29 8 30 aN))))⟩
def nV:Xb:=cV [xB 42 .lss 41 40] 42 0 1 [xM 43 41,bS 44 39 41,aJ 45 44,hI 12 dA dA,xM 11 43,bE 12 45] [12] (cJ [aJ 46 12,bC 47,xM 48 11,xX 49 3 47 48,bL 50 49,xL 51 50,xM 52 10,xM 53 11,xX 54 1 52 53,xL 55 54,gX 56 tO 46 51 55,xM 13 56] (bX [xM 57 13,aG 58 .neq 57] 58 [xM 59 13,bB 59])) 60 .add 41 41 60
def nU:Xb:=gW 2 [aB 62 5,xL 63 62,aG 64 .lss 63,xM 65 64,dH 66 65 5,aR 67 65 66,d8 68 65 .gtr 67 255,xW 69 65 68,xM 61 69] 61 [xI 6 9] (gS [aB 71 5,xL 72 71,aG 73 .neq 72,xM 74 73,cW 75 74 9 3,b5 76 74 1,gT 77 74 kW [.t 75,.t 76],dZ 78 74 .neq 77 (d7 3),xV 79 74 78,xM 70 79] 70 [xI 6 11] (bX [cE 81 3,a6 82,bL 83 5,aH 84 83,xL 85 84,gX 86 kX 81 82 85,bO 87 86,xM 80 87] 80 [xI 6 8])) (bZ [cE 88 3,bL 89 5,aJ 90 89,aK 91 iB 88 90,bB 91])
def G3:AFn:=⟨3,[.tmp 6],eS (f9 3) (xJ 5 2) fE (dF [cE 15 3,a6 16,aK 17 fX 15 16,xM 14 17,bH 18 14,bI 19 14,dJ 18,b9 19] (bX [aI 20,aG 21 .neq 20] 21 [aI 22,bB 22]) (cJ [xF 23 5 3,xL 24 23,a6 25,xX 26 6 24 25,aB 27 26,xL 28 27,cE 29 3,a6 30,aK 31 iA 29 30,dB 28,xM 10 31] (cQ [aH 32 5,xL 33 32,xN 34 33,bC 35,xN 36 35,xB 37 .neq 34 36] 37 [xI 6 2] (EQ [aH 38 5,xL 39 38,xN 40 39,aD 41] nV nU))))⟩
def G4:AFn:=⟨2,[.tmp 4],jZ 4 [j9,lV,aK 7 AP 5 6,aG 8 .geq 7,aI 4]⟩
def G5:AFn:=⟨2,[.tmp 3],gI eW (bP 3) [aB 4 2,xA 5 4 4,fS 6,xA 7 4 6,aK 8 AB 5 7,aI 3]⟩
def nX:Xb:=eJ EK 25 0 1 (eV [xM 26 24,bS 27 22 24,aJ 28 27,hI 6 dA dA,aT 26,bE 6 28] (xD [aJ 29 6,cT 30,xL 31 30,aC 32,bS 33 31 32,aJ 34 33,xO 35 (.eqs true true [.i,.i] (.t 29) (.t 34))]) (FF 35 [fL])) 36 .add 24 24 36
def nW:Xb:=zZ 4
def G6:AFn:=⟨2,[.tmp 4],kB [jG 2 0,jG 3 1,fL] [aB 7 2,xL 8 7,cY 9,xL 10 9,xB 11 .neq 8 10,xM 12 11,cF 13 12 0 2,aR 14 12 13,cR 15 12 14,cF 16 12 0 3,aR 17 12 16,cR 18 12 17,dG 19 12 .neq 15 18,xW 20 12 19] 20 [fL] [aH 21 2,xL 22 21,xN 23 22,aD 24] nX nW⟩
def G7:AFn:=⟨3,[.tmp 6],cC zO [cE 7 3,a6 8,aH 9 5,xL 10 9,gX 11 kX 7 8 10,bO 12 11] 12 [xI 6 8] (bZ [cE 13 3,aJ 14 5,aK 15 iB 13 14,bB 15])⟩
def nZ:Xb:=eK [bU 12,a5 13,xN 14 13,xB 15 .lss 12 14] 15 0 1 (xR [aS 18,a5 19,bU 20,xX 21 1 19 20,xL 22 21,xO 23 (.minmax true [.t 18,.t 22]),xM 3 23]) (bU 16) 17 .add 16 (aV 17)
def nY:Xb:=wH (aS 24) 24
def G8:AFn:=⟨1,[.tmp 2],b4 [eL dA] (dM [j9,xN 6 5,aM 7 .lss 6] 7 (xR [xO 8 (.mkiface 9 (.c (.str [115,108,105,99,101,115,46,77,97,120,58,32,101,109,112,116,121,32,108,105,115,116]))),⟨none,none,.panic (.t 8)⟩]) (fQ [a5 9,xO 10 (nB 1 9 aN),xL 11 10,xM 3 11] [cA 1] nZ nY))⟩
def GA:AFn:=⟨1,[.tmp 2],cC [eL dA] [eC,xO 4 (.bslice .imm 1 (List.replicate 1 dE) [(0,(.t 3))]),aE 5 iC 4,bO 6 5] 6 [eL dA] (bZ [a5 7,xO 8 (mP .sub (d7 32) 7),xO 9 (mP .shr (.c (EN 4294967295)) 8),bM 9])⟩
def GB:AFn:=⟨3,[.tmp 6],b4 [xC 6 aL] (dM [a5 7,eT 8 7,xF 9 16 8,xL 10 9,aG 11 .eql 10] 11 (xR [a5 12,aF 13,eT 14 12,xF 15 16 14,cL 15 13]) (hG (a6 16) (bB 16)))⟩
def o9:Xb:=cV [xB 23 .lss 22 21] 23 2 3 [bS 24 20 22,aJ 25 24,j6 10,bE 10 25] [10] (eQ [aJ 27 8,aJ 28 10,aK 29 kY 27 28,xM 26 29,bH 30 26,bI 31 26,j6 11,bE 11 30,xM 12 31] [11] (b4 [xM 32 12] (eI 32 (xR [bQ 33,aJ 34 11,xO 35 OP,eA 36 2 16 33 35,bB 36])))) 37 .add 22 22 37
def o6:Xb:=b4 [aD 13] (gF [bQ 39,bD 40 eY [.t 39],xM 38 40,bH 41 38,bI 42 38,bB 41,xM 13 42] [xM 43 13,aG 44 .neq 43] 44 [xM 45 13,xC 4 aL,aT 45])
def o7:Xb:=xR [aM 46 .add 16,xM 16 46]
def oA:Xb:=RO [xB 17 .lss 16 15] 17 0 (wD 1 (eQ [bS 18 14 16,aJ 19 18,j6 8,bE 8 19] [8] (n8 [a6 20,xN 21 20,aD 22] 2 o9 o6)) o7)
def o8:Xb:=kA (bQ 47) (aV 47) eU
def GC:AFn:=⟨2,dX,dY [xC 4 aL,eU] [fJ 6 2] [a5 14,xN 15 14,aD 16] oA o8⟩
def GD:AFn:=⟨2,dX,gI (xC 4 aL) eU [nG,xO 7 (Ax 2 16 (.c aL) 6),a6 8,eA 9 2 16 7 8,aE 10 eY 9,bH 11 10,bI 12 10,aV 11,aT 12]⟩
def oE:Xb:=cV [xB 42 .lss 41 40] 42 2 3 [bS 43 39 41,aJ 44 43,j6 14,bE 14 44] [14] (eV [xO 15 (.alloca 64 bR)] (xD [xO 45 (.sarr 2 64 (.t 15) none none none),aJ 46 14,aJ 47 11,aF 48,gX 49 iD 46 47 48,xO 50 (.copy 2 (.t 45) (.t 49)),xM 16 50]) (xR [xM 51 12,xM 52 16,xM 53 16,xO 54 (.sarrF 2 64 (.t 15) (some gR) (some (.t 52)) (some (.t 53))),eA 55 2 16 51 54,xM 12 55])) 56 .add 41 41 56
def oB:Xb:=gF [xM 58 12,aE 59 eY 58,xM 57 59,bH 60 57,bI 61 57,b9 60,dB 61] [bC 62,aG 63 .neq 62] 63 [bC 64,xC 6 aL,dJ 64]
def oC:Xb:=xR [aM 65 .add 35,xM 35 65]
def oF:Xb:=RO [xB 36 .lss 35 34] 36 0 (wD 1 (eQ [bS 37 33 35,aJ 38 37,j6 11,bE 11 38] [11] (b4 [fJ 12 2] (n8 [aI 39,xN 40 39,aD 41] 2 oE oB))) oC)
def oD:Xb:=kA (aI 66) (bB 66) (aD 7)
def GE:AFn:=⟨3,[.tmp 6,.tmp 7],cC [xC 6 aL,aD 7] [aF 17,aM 18 .lss 17,xM 19 18,b8 20 19 2,d8 21 19 .gtr 20 64,xW 22 19 21] 22 [xC 6 aL,xI 7 10] (kB [a5 24,aF 25,aK 26 kZ 24 25,aE 27 eY 26,xM 23 27,bH 28 23,bI 29 23,b9 28,dB 29] [bC 30,aG 31 .neq 30] 31 [bC 32,xC 6 aL,dJ 32] [a6 33,xN 34 33,aD 35] oF oD)⟩
def GF:AFn:=⟨4,[.cell 8 true 5,.tmp 9],cC [jG 4 0,jG 5 1,jG 6 2,jG 7 3,bK 8 fO,bP 9] [xL 13 5,aG 14 .lss 13,xM 15 14,aR 16 15 5,cF 17 15 5 4,aR 18 15 17,cR 19 15 18,dG 20 15 .geq 16 19,xW 21 15 20] 21 [xO 22 (.build zF []),bT 8 22,bP 9] (eQ [xO 23 (.mkfunc (.func tP) [] [.t 7]),bK 10 [.nilfunc],cL 10 23] [10] (eQ [xL 25 6,xO 26 (.mkfunc (.func iE) [] [.t 10,.t 6,.t 4,.t 5]),bD 27 fY [.t 25,.t 26],xM 24 27,bH 28 24,bI 29 24,bK 11 fO,bT 11 28,xM 12 29] [11] (bZ [b6 30 11,aE 31 AQ 30,xM 32 12,bT 8 31,dB 32])))⟩
def GG:AFn:=⟨1,[.tmp 2],eV [jG 1 0,eL .nilfunc] (xQ [xL 4 1,eT 5 4,xF 6 9 5,aH 7 6,xL 8 7,xO 9 (nB 1 8 (d7 2)),xL 10 9,bD 11 l5 [.t 10],bK 3 [.Xa 5 []],cL 3 11] [3]) (CR [xL 12 3,xO 13 (.mkfunc (.func tS) [] [.t 1]),bD 14 tR [.t 12,.t 13]] [xO 15 (.mkfunc (.func fZ) [] [.t 3,.t 1]),bM 15])⟩
def oH:Xb:=cV jT 11 0 1 [bS 12 8 10,aJ 13 12,hI 5 dA dA,bE 5 13] [5] (b4 [cT 14,xL 15 14,cK 16 .shl 15 8,aH 17 5,xL 18 17,aB 19 5,xL 20 19,xB 21 .and 18 20,nF 22 21,xB 23 .or 16 22,cT 24,cL 24 23] (xR [cY 25,xL 26 25,cK 27 .shl 26 8,aB 28 5,xL 29 28,nF 30 29,xB 31 .or 27 30,cY 32,cL 32 31])) 33 .add 10 10 33
def oG:Xb:=kA (aJ 34 3) (xO 35 OP) (bM 35)
def GH:AFn:=⟨1,[.tmp 2],dY [eB,eL aL] [j6 3] [aH 6 1,xL 7 6,xO 8 (.slc 2 (.t 7) (some cO) none none),xN 9 8,aD 10] oH oG⟩
def GI:AFn:=⟨4,[],aU [jG 5 1] [aH 8 5,xL 9 8] (.block 0 (gE [xK 17 .eql 9 2,xM 16 17] 16 (xD [a5 18,aB 19 5,xL 20 19,xO 21 (nB 1 20 aN),xL 22 21,aF 23,aB 24 5,xL 25 24,xO 26 (nB 1 25 eX),xL 27 26,nF 28 27,cK 29 .shl 28 24,PP 30 mC 23 (nD 4278190080) 29,bD 31 l6 [.t 18,.t 22,.t 30]]) (gE [xK 33 .eql 9 3,xM 32 33] 32 (xD [a5 34,aB 35 5,xL 36 35,xO 37 (nB 1 36 aN),xL 38 37,aF 39,aE 40 tT 39,bD 41 l6 [.t 34,.t 38,.t 40]]) (dM [aS 10] 10 (mO (aF 11) (aE 12 tT 11) (bM 12)) (mO (a5 13) (aF 14) (bD 15 mB [.t 13,.t 14]))))))⟩
def GK:AFn:=⟨3,[.tmp 6],gI (f9 3) (bP 6) [cE 7 3,a6 8,aK 9 l7 7 8,bC 10,gV 11 10 5 3,gG 12 10 1 11,b5 13 10 1,fK 14 10 6 12 13,gV 15 10 2 14,gG 16 10 1 15,b5 17 10 2,gT 18 10 l8 [.t 16,.t 17],jJ 19 10 .geq 18,xV 20 10 19,bB 20]⟩
def oJ:Xb:=eK [bQ 31,aC 32,xN 33 32,xB 34 .lss 31 33] 34 0 1 (nE [cY 37,xL 38 37,bQ 39,xX 40 1 38 39,xL 41 40,aC 42,bQ 43,bS 44 42 43,aB 45 44,xL 46 45,aK 47 l9 41 46,bO 48 47] 48 [cA 9]) (bQ 35) 36 .add 35 (bB 36)
def oI:Xb:=cD bF
def GL:AFn:=⟨2,[.tmp 4],cC j0 [cT 7,xL 8 7,aG 9 .lss 8,bC 10,cF 11 10 0 3,aR 12 10 11,cF 13 10 4 2,aR 14 10 13,cR 15 10 14,dG 16 10 .geq 12 15,xW 17 10 16] 17 [cA 8] (kB [xF 18 4 2,xL 19 18,cT 20,xL 21 20,xX 22 3 19 21,aB 23 22,xL 24 23,aT 24] [cY 25,xL 26 25,xN 27 26,aC 28,xN 29 28,xB 30 .neq 27 29] 30 [cA 2] [fE] oJ oI)⟩
def GM:AFn:=⟨2,dX,cC zU [a6 9,aG 10 .lss 9,xM 11 10,b8 12 11 1,cF 13 11 5 2,aR 14 11 13,cR 15 11 14,dG 16 11 .geq 12 15,xW 17 11 16] 17 vW (eQ [xF 18 5 2,xL 19 18,a6 20,xX 21 6 19 20,xA 22 6 21,bK 6 E9,xS 6 6 22] [6] (gW 0 [aH 24 6,xL 25 24,aE 26 AR 25,bO 27 26,xM 23 27] 23 [jI,d9 6] (gS [aB 29 6,xL 30 29,xN 31 30,xK 32 .gtr 31 6,xM 33 32,cF 34 33 2 6,aR 35 33 34,cR 36 33 35,d8 37 33 .gtr 36 16,xW 38 33 37,xM 28 38] 28 [jI,d9 12] (bX [xF 40 5 6,xL 41 40,aM 42 .lss 41,xM 43 42,cF 44 43 5 6,aR 45 43 44,d8 46 43 .gtr 45 256,xW 47 43 46,xM 39 47] 39 [jI,d9 9])) (cC [fR 49,xA 50 6 6,aK 51 tZ 49 50,xM 48 51,bH 52 48,bI 53 48,dJ 52,b9 53] [aI 54,aG 55 .neq 54] 55 [xM 56 7,aI 57,aV 56,aT 57] (cC [fR 58,xA 59 6 6,aK 60 u2 58 59,b9 60] [aI 61,aG 62 .neq 61] 62 [aI 63,cA (-3),aT 63] vV))))⟩
def oL:Xb:=eK O6 19 0 1 (xD [aC 22,fR 23,xF 24 5 2,xL 25 24,a6 26,xX 27 6 25 26,aB 28 27,xL 29 28,bQ 30,xX 31 3 29 30,aH 32 31,aJ 33 32,aK 34 lA 23 33,xO 35 OO,eA 36 1 8 22 35,aT 36]) (bQ 20) 21 .add 20 (bB 21)
def oK:Xb:=nC 37 37
def GN:AFn:=⟨2,[.tmp 4],cC [eW,xC 4 fP] P5 10 jU (fQ [fJ 5 1] [fE] oL oK)⟩
def GO:AFn:=⟨3,[.tmp 6],aU [f9 3,fE] [cY 10,xL 11 10,a6 12,aK 13 B3 11 12,dB 13,bH 14 9,bI 15 9,dJ 14,b9 15] (gW 0 [cT 17,xL 18 17,a6 19,aK 20 l9 18 19,bO 21 20,xM 22 21,dH 23 22 3,aR 24 22 23,b8 25 22 1,CS 26 22 l9 [.t 24,.t 25],c9 27 22 (hC 26),xW 28 22 27,xM 16 28] 16 [xI 6 9] (gS [cT 30,xL 31 30,cY 32,xL 33 32,xB 34 .and 31 33,cT 35,xL 36 35,xB 37 .neq 34 36,xM 29 37] 29 [xI 6 5] (nE [aF 39,aM 40 .eql 39,xM 41 40,gV 42 41 1 3,gG 43 41 1 42,b5 44 41 1,gT 45 41 B4 [.t 44],dZ 46 41 .neq 43 (.t 45),xV 47 41 46,xM 48 47,b8 49 48 2,d8 50 48 .eql 49 2,b8 51 48 50,b5 52 51 8,bG 53 51 (hC 52),c9 54 48 (.pick (.t 51) (.t 53) (.c jX)),xW 55 48 54,xM 38 55] 38 [xI 6 11])) (cD fE))⟩
def oN:Xb:=eK O6 19 0 1 (xR [aC 22,xF 23 5 2,xL 24 23,a6 25,xX 26 6 24 25,aB 27 26,xL 28 27,bQ 29,xX 30 3 28 29,bL 31 30,xL 32 31,xO 33 (.minmax true [.t 22,.t 32]),aT 33]) (bQ 20) 21 .add 20 (bB 21)
def oM:Xb:=nC 34 34
def GP:AFn:=⟨2,[.tmp 4],cC [eW,bF] P5 10 [bF] (fQ [d9 1] [fE] oN oM)⟩
def oP:Xb:=eK [aC 20,aH 21 2,xL 22 21,xN 23 22,xB 24 .lss 20 23] 24 0 1 (nE [aH 27 2,xL 28 27,aC 29,bS 30 28 29,aJ 31 30,cT 32,xL 33 32,aC 34,bS 35 33 34,aJ 36 35,xO 37 (.eqs true true [.i,.i] (.t 31) (.t 36))] 37 [fL]) (aC 25) 26 .add 25 (aT 26)
def oO:Xb:=zZ 4
def GQ:AFn:=⟨2,[.tmp 4],kB [jG 2 0,jG 3 1,fL] [aH 6 2,xL 7 6,xN 8 7,cT 9,xL 10 9,xN 11 10,xB 12 .neq 8 11,xM 13 12,dH 14 13 2,aR 15 13 14,dH 16 13 3,aR 17 13 16,dG 18 13 .neq 15 17,xW 19 13 18] 19 [fL] [eU] oP oO⟩
def GR:AFn:=⟨4,[],fD (a5 8) (aG 9 .neq 8) (eI 9 (xR [a5 10,a6 11,aF 12,aS 13,xO 14 (.build mL [(0,1,(.t 10)),(1,1,(.t 11)),(2,1,(.t 12)),(3,1,(.t 13))]),xO 15 (.build mL [(0,4,(.t 14))]),xO 16 (.mkiface 214 (.t 15)),⟨none,none,.panic (.t 16)⟩]))⟩
def GS:AFn:=⟨2,[.tmp 4],cC [bF] [j9] 5 [lV,aV 6] (cD bF)⟩
def GT:AFn:=⟨1,[.tmp 2],jZ 2 [eC,aE 4 dR 3,bO 5 4,aC 2]⟩
def oR:Xb:=cV jT 11 0 1 [bS 12 8 10,aJ 13 12,hI 7 (.str []) aL,bE 7 13] [7] OA 20 .add 10 10 20
def oQ:Xb:=nC 21 21
def GU:AFn:=⟨2,[.tmp 4],dY jU [fJ 5 1] vR oR oQ⟩
def GV:AFn:=⟨1,[.tmp 2],gI eB vT vQ⟩
def oU:Xb:=eJ [xB 48 .lss 47 46] 48 3 4 (b4 [bS 49 45 47,aJ 50 49,hO 6 (.str []),bE 6 50] (gF [aB 51 4,xL 52 51,aB 53 6,cL 53 52] [aJ 54 6,aJ 55 4,xO 56 (.eqs false true [.s,.i] (.t 54) (.t 55))] 56 [xI 2 7])) 57 .add 47 47 57
def oS:Xb:=xR [aM 58 .add 25,xM 25 58]
def oV:Xb:=RO [xB 26 .lss 25 24] 26 1 (wD 2 (eQ [xM 27 25,bS 28 23 25,aJ 29 28,hO 4 (.str []),xM 3 27,bE 4 29] [4] (cQ [aH 30 4,xL 31 30,aE 32 dR 31,bO 33 32] 33 [xI 2 6] (cQ [aB 34 4,xL 35 34,aM 36 .lss 35,xM 37 36,dH 38 37 4,aR 39 37 38,d8 40 37 .gtr 39 32,xW 41 37 40] 41 [xI 2 10] (b4 [fS 42,xL 43 42,aS 44,xO 45 (.slc 2 (.t 43) none (some (.t 44)) none),xN 46 45,aD 47] (jW 3 oU))))) oS)
def oT:Xb:=cQ [aJ 59 1,aE 60 iG 59,aE 61 B5 60,xK 62 .rem 61 8,aG 63 .neq 62] 63 [xI 2 10] (cD eD)
def GW:AFn:=⟨1,[.tmp 2],fD eB eD (gW 0 [aH 8 1,xL 9 8,aE 10 dR 9,bO 11 10,dJ 11] 7 [xI 2 6] (gS [fS 13,xL 14 13,xN 15 14,aG 16 .eql 15,xM 12 16] 12 [xI 2 8] (bX [fS 18,xL 19 18,xN 20 19,xK 21 .gtr 20 12,xM 17 21] 17 [xI 2 12])) (n8 [fS 22,xL 23 22,xN 24 23,aD 25] 1 oV oT))⟩
def GX:AFn:=⟨2,[.tmp 4],eV [fL] (xD [j9,lV,xO 7 (.slc 1 (.t 5) none (some (.t 6)) none),a5 8,a6 9,xX 10 1 8 9,xL 11 10,aK 12 B6 7 11,aV 12]) .ret⟩
def oY:Xb:=cV jT 11 0 1 [bS 12 8 10,aJ 13 12,hO 7 (.str []),bE 7 13] [7] OA 20 .add 10 10 20
def oW:Xb:=nC 21 21
def GY:AFn:=⟨2,[.tmp 4],dY jU [fJ 5 1] vR oY oW⟩
def GZ:AFn:=⟨1,[.tmp 2],gI eB vT vQ⟩
def H3:AFn:=⟨1,[.tmp 2],jZ 2 [eC,aM 4 .lss 3,aT 4,b8 6 5 0,d8 7 5 .gtr 6 32,xW 8 5 7,aI 2]⟩
def p5:Xb:=cV jT 11 0 1 [xX 12 3 8 10,xA 13 3 12,fA 7 (.str []) aZ aZ,xS 3 7 13] [7] O9 20 .add 10 10 20
def oZ:Xb:=nC 21 21
def H4:AFn:=⟨2,[.tmp 4],dY jU [fJ 5 1] vR p5 oZ⟩
def H5:AFn:=⟨1,[.tmp 2],gI eB vT vQ⟩
def H6:AFn:=⟨1,[.tmp 2],fD eB eD (gW 0 [aH 4 1,xL 5 4,aE 6 dR 5,bO 7 6,xM 3 7] 3 [xI 2 6] (gS [fS 9,xL 10 9,aE 11 dQ 10,jF 12 .eql 11 dA,b9 12] 8 [xI 2 10] (bX [xA 14 3 1,aE 15 u4 14,bO 16 15,xM 13 16] 13 [xI 2 9])) (cD eD))⟩
def p7:Xb:=cV jT 11 0 1 [xX 12 3 8 10,xA 13 3 12,fA 7 (.str []) aL (.Xa 7 []),xS 3 7 13] [7] O9 20 .add 10 10 20
def p6:Xb:=nC 21 21
def H7:AFn:=⟨2,[.tmp 4],dY jU [fJ 5 1] vR p7 p6⟩
def H8:AFn:=⟨1,[.tmp 2],gI eB vT vQ⟩
def p9:Xb:=cV [xB 38 .lss 37 36] 38 0 1 [xM 39 37,xX 40 7 35 37,xA 41 7 40,bK 9 EA,b9 39,xS 7 9 41] [9] (gF [xA 42 10 7,xA 43 7 9,aK 44 lC 42 43,aT 44] [aC 45,aG 46 .neq 45] 46 [aI 47,aC 48,aV 47,aT 48]) 49 .add 37 37 49
def p8:Xb:=hG bF eU
def H9:AFn:=⟨2,dX,cC zU [a6 10,aG 11 .lss 10,xM 12 11,b8 13 12 1,cF 14 12 4 2,aR 15 12 14,cR 16 12 15,dG 17 12 .geq 13 16,xW 18 12 17] 18 vW (eQ [xF 19 4 2,xL 20 19,a6 21,xX 22 3 20 21,xA 23 3 22,fA 6 (.str []) aL (.Xa 7 []),xS 3 6 23] [6] (dF [xA 24 3 6,aE 25 lB 24,aT 25] (bX [aC 26,aG 27 .neq 26] 27 [aC 28,jI,aT 28]) (eQ [fR 29,aB 30 6,xL 31 30,xO 32 (.build zD [(0,9,(.t 29)),(9,1,(.t 31))]),xO 33 (.build zD [(0,10,(.t 32))]),bK 7 zD,xS 10 7 33] [7] (EQ [bL 34 6,xL 35 34,xN 36 35,aD 37] p9 p8))))⟩
def pB:Xb:=cV jT 11 0 1 [xX 12 6 8 10,xA 13 6 12,bK 7 E9,xS 6 7 13] [7] (xR [aC 14,a6 15,xA 16 6 7,gH 17 15 [.t 16],xO 18 E6,eA 19 1 16 14 18,aT 19]) 20 .add 10 10 20
def pA:Xb:=nC 21 21
def HA:AFn:=⟨2,[.tmp 4],dY jU [fJ 5 1] vR pB pA⟩
def HB:AFn:=⟨1,[.tmp 2],gI eB vT vQ⟩
def HC:AFn:=⟨2,dX,cC zU [a6 7,aG 8 .lss 7,aI 9,b8 10 9 1,cF 11 9 5 2,aR 12 9 11,cR 13 9 12,dG 14 9 .geq 10 13,xW 15 9 14] 15 vW (eQ [xF 16 5 2,xL 17 16,a6 18,xX 19 6 17 18,xA 20 6 19,bK 6 E9,xS 6 6 20] [6] (gW 0 [aH 22 6,xL 23 22,aE 24 dR 23,bO 25 24,xM 21 25] 21 [jI,d9 6] (gS [aB 27 6,xL 28 27,xN 29 28,xK 30 .gtr 29 6,xM 31 30,cF 32 31 2 6,aR 33 31 32,cR 34 31 33,d8 35 31 .gtr 34 16,xW 36 31 35,xM 26 36] 26 [jI,d9 12] (bX [xF 38 5 6,xL 39 38,aM 40 .lss 39,xM 41 40,cF 42 41 5 6,aR 43 41 42,d8 44 41 .gtr 43 256,xW 45 41 44,xM 37 45] 37 [jI,d9 9])) (dF [fR 47,xA 48 6 6,aK 49 lD 47 48,xM 46 49,bH 50 46,bI 51 46,aV 50,aT 51] (bX [aC 52,aG 53 .neq 52] 53 [bU 54,aC 55,aV 54,aT 55]) (dF [fR 56,xA 57 6 6,aK 58 u5 56 57,aT 58] (bX [aC 59,aG 60 .neq 59] 60 [aC 61,cA (-3),aT 61]) vV))))⟩
def pD:Xb:=cV EK 25 1 2 [xM 26 24,xX 27 7 22 24,xA 28 7 27,bK 7 OW,bB 26,xS 7 7 28] [7] (gW 3 [aH 30 7,xL 31 30,aE 32 dR 31,bO 33 32,xM 29 33] 29 [bQ 34,bM 34,nA 3,cA 6] (bX [aC 36,aH 37 7,xL 38 37,xO 39 (.lookup .s (.bool false) false (.t 36) (.t 38)),xM 35 39] 35 [bQ 40,bM 40,nA 3,cA 7]) (b4 [aC 41,aH 42 7,xL 43 42,⟨none,none,.update .s (.t 41) (.t 43) vS⟩] (gF [cE 45 1,bQ 46,aK 47 lE 45 46,xM 44 47,bH 48 44,bI 49 44,b9 48,dB 49] [bC 50,aG 51 .neq 50] 51 [bQ 52,aI 53,bC 54,bM 52,xM 3 53,aV 54]))) 55 .add 24 24 55
def pC:Xb:=kA eD (aD 3) bF
def HD:AFn:=⟨1,[.tmp 2,.tmp 3,.tmp 4],b4 [eB,eD,aD 3,bF] (gW 0 [xF 11 6 1,xL 12 11,xN 13 12,aG 14 .eql 13,xM 10 14] 10 [nA 2,nA 3,cA 8] (bX [xF 16 6 1,xL 17 16,xN 18 17,xK 19 .gtr 18 12,xM 15 19] 15 [nA 2,nA 3,cA 12]) (fD (xO 20 .mkmap) (aT 20) (n8 [xF 21 6 1,xL 22 21,xN 23 22,aD 24] 1 pD pC)))⟩
def HE:AFn:=⟨1,[.tmp 2,.cell 3 false 1],cC [eB,eD,bK 3 [aZ]] [xF 6 7 1,xL 7 6,aE 8 B7 7,xK 9 .gtr 8 24] 9 [nA 2,⟨none,none,.store 1 (.t 3) (.c (.int .i64 12))⟩] (cQ [xF 10 7 1,xL 11 10,aE 12 iH 11,xK 13 .gtr 12 6] 13 [nA 2,⟨none,none,.store 1 (.t 3) (.c (.int .i64 14))⟩] (fD (bK 4 [aZ]) ⟨none,none,.store 1 (.t 4) gR⟩ (aU [bK 5 [.Xa 1 []]] [xF 14 7 1,xL 15 14,xO 16 (.mkfunc (.func u6) [] [.t 1,.t 5,.t 3,.t 4]),bD 17 eG [.t 15,.t 16]] (dM [xL 18 3,aG 19 .neq 18] 19 (cJ [xL 20 4,xL 21 3,bM 20,cL 3 21] .ret) (hG eD ⟨none,none,.store 1 (.t 3) gR⟩)))))⟩
def pF:Xb:=eJ [xB 14 .lss 13 12] 14 0 1 (b4 [xM 15 13,xX 16 1 11 13,xL 17 16,aV 15,aT 17] (.block 2 (gS [aC 19,aG 20 .lss 19,xM 21 20,b8 22 21 5,dH 23 21 1,aR 24 21 23,cR 25 21 24,dG 26 21 .geq 22 25,xW 27 21 26,xM 18 27] 18 [bU 28,bM 28,xI 3 8] (bX [xF 30 8 1,xL 31 30,bU 32,xO 33 (.slc 1 (.t 31) none (some (.t 32)) none),aC 34,aK 35 B8 33 34,xM 29 35] 29 [bU 36,bM 36,xI 3 7])))) 37 .add 13 13 37
def pE:Xb:=hG eD (aD 3)
def HG:AFn:=⟨1,[.tmp 2,.tmp 3],kB [eB,eD,aD 3] [xF 6 8 1,xL 7 6,xN 8 7,xK 9 .gtr 8 8] 9 [nA 2,xI 3 12] [xF 10 8 1,xL 11 10,xN 12 11,aD 13] pF pE⟩
def pH:Xb:=cV EJ 20 0 1 OQ [7] (xR [aC 23,fR 24,aH 25 7,aJ 26 25,aK 27 g0 24 26,xO 28 (.bslice .imm 1 (List.replicate 1 dE) [(0,(.t 27))]),eA 29 1 8 23 28,aT 29]) 30 .add 19 19 30
def pG:Xb:=nC 31 31
def HH:AFn:=⟨2,[.tmp 4],cC [eW,xC 4 fP] P2 11 jU (fQ [fJ 5 1] OG pH pG)⟩
def HI:AFn:=⟨3,[.tmp 6],fD (f9 3) fE (gW 0 [cT 10,xL 11 10,aF 12,aK 13 g7 11 12,bO 14 13,xM 15 14,dH 16 15 3,aR 17 15 16,b8 18 15 2,CS 19 15 g7 [.t 17,.t 18],c9 20 15 (hC 19),xW 21 15 20,dB 21] 9 [xI 6 9] (gS [cT 23,xL 24 23,cY 25,xL 26 25,xB 27 .andNot 24 26,jF 28 .neq 27 dA,xM 22 28] 22 [xI 6 5] (nE [a6 30,aM 31 .eql 30,xM 32 31,gV 33 32 1 3,gG 34 32 1 33,b5 35 32 2,gT 36 32 dQ [.t 35],dZ 37 32 .neq 34 (.t 36),xV 38 32 37,xM 29 38] 29 [xI 6 11])) (dM [a6 39,xK 40 .eql 39 2] 40 (gF [cY 42,xL 43 42,aF 44,aK 45 B9 43 44,xM 41 45,bH 46 41,bI 47 41,dJ 46,b9 47] [aI 48,bO 49 48] 49 [xI 6 11]) (cD fE)))⟩
def pJ:Xb:=cV EJ 20 0 1 OQ [7] (.block 2 (gS [bL 24 7,xL 25 24,xK 26 .eql 25 3,xM 23 26] 23 [cA 3] (b4 [bL 28 7,xL 29 28,xK 30 .eql 29 2,xM 27 30] (eI 27 (xR [d9 2]))))) 31 .add 19 19 31
def pI:Xb:=nC 32 32
def HJ:AFn:=⟨2,[.tmp 4],cC [eW,bF] P2 11 [bF] (fQ [d9 1] OG pJ pI)⟩
def pL:Xb:=eJ [xB 21 .lss 20 19] 21 0 1 (gF [xX 22 1 18 20,xL 23 22,b9 23] [aI 24,aF 25,xB 26 .eql 24 25] 26 [k9 6]) 27 .add 20 20 27
def pK:Xb:=cD (bP 6)
def HK:AFn:=⟨3,[.tmp 6],kB [f9 3,bP 6] [cE 9 3,a6 10,aK 11 lF 9 10,bO 12 11] 12 [bP 6] [xF 13 5 3,xL 14 13,a6 15,xX 16 6 14 15,bL 17 16,xL 18 17,xN 19 18,aD 20] pL pK⟩
def pN:Xb:=eJ [xB 36 .lss 35 34] 36 0 1 (gF [xM 37 35,xX 38 1 33 35,xL 39 38,bB 37,dJ 39] [xM 40 7,aC 41,bQ 42,bS 43 41 42,aB 44 43,xL 45 44,aK 46 g7 40 45,bO 47 46] 47 [cA 9]) 48 .add 35 35 48
def pM:Xb:=cD bF
def HL:AFn:=⟨2,[.tmp 4],cC j0 [cT 8,xL 9 8,aG 10 .lss 9,xM 11 10,cF 12 11 0 3,aR 13 11 12,cF 14 11 4 2,aR 15 11 14,cR 16 11 15,dG 17 11 .geq 13 16,xW 18 11 17] 18 [cA 8] (kB [xF 19 4 2,xL 20 19,cT 21,xL 22 21,xX 23 3 20 22,aB 24 23,xL 25 24,aT 25] [cY 26,xL 27 26,xN 28 27,aC 29,xN 30 29,xB 31 .neq 28 30] 31 [cA 2] [cY 32,xL 33 32,xN 34 33,aD 35] pN pM)⟩
def pP:Xb:=eJ j5 9 0 1 (gF [aI 10,aT 10] [a6 11,a5 12,aC 13,aP 14 12 13,b6 15 14,gH 16 11 [.t 15]] 16 [aC 17,aV 17]) 18 .add 8 8 18
def pO:Xb:=cD jI
def HM:AFn:=⟨2,[.tmp 4],fQ [bF] iY pP pO⟩
def pR:Xb:=eJ [xB 8 .lss 7 6] 8 0 1 (gF [xX 9 1 5 7,xL 10 9,aV 10] [bU 11,aM 12 .lss 11,xM 13 12,b8 14 13 4,d8 15 13 .gtr 14 32,xW 16 13 15] 16 [bP 2]) 17 .add 7 7 17
def pQ:Xb:=zZ 2
def HN:AFn:=⟨1,[.tmp 2],fQ [bP 2] [j9,xN 6 5,aD 7] pR pQ⟩
def HO:AFn:=⟨2,[.cell 4 true 2,.tmp 5],cC [eW,xJ 3 1,j6 4,bP 5] [aH 6 2,xL 7 6,cT 8,xL 9 8,xB 10 .xor 7 9,aB 11 2,xL 12 11,xB 13 .and 10 12,cY 14,xL 15 14,xB 16 .and 13 15,cK 17 .neq 16 0] 17 [xO 18 zP,bE 4 18,bP 5] (bZ [aH 19 2,xL 20 19,aB 21 2,xL 22 21,xB 23 .and 20 22,cT 24,xL 25 24,cY 26,xL 27 26,xB 28 .and 25 27,xB 29 .or 23 28,aB 30 2,xL 31 30,cY 32,xL 33 32,xB 34 .or 31 33,xO 35 (.build bR [(0,1,(.t 29)),(1,1,(.t 34))]),bE 4 35,k9 5])⟩
def HQ:AFn:=⟨1,[.tmp 2,.tmp 3],aU [eL aL,aD 3] [a5 4,bD 5 iI [.t 4],aC 0] (mQ [nG,xN 7 6,xK 8 .gtr 7 1024] 8 [eL aL,xI 3 12] [a5 9,bM 9,aD 3])⟩
def pT:Xb:=cV [xB 16 .lss 15 14] 16 0 1 [bS 17 13 15,aJ 18 17,j6 8,bE 8 18] [8] (b4 [aB 19 8,xL 20 19,aC 21,xB 22 .and 20 21,dB 22] (xR [bQ 23,aH 24 8,xL 25 24,bC 26,xB 27 .and 25 26,bC 28,xO 29 (.build bR [(0,1,(.t 27)),(1,1,(.t 28))]),xO 30 (.bslice .imm 2 (List.replicate 1 bR) [(0,(.t 29))]),eA 31 2 16 23 30,bB 31])) 32 .add 15 15 32
def pS:Xb:=Ay (bQ 33) 33
def HS:AFn:=⟨2,[.tmp 4],b4 [xC 4 aL] (dY [a6 10,xO 11 (mP .sub (d7 64) 10),xO 12 (mP .shr (nD 18446744073709551615) 11),aT 12] [fJ 6 2] [a5 13,xN 14 13,aD 15] pT pS)⟩
def pV:Xb:=eK [xM 49 12,cK 50 .neq 49 0] 50 0 1 (aU [xM 53 12,aE 54 uA 53,aM 55 .sub 54,xO 56 (mP .shl (nD 1) 55),xM 13 56] [xM 57 12,xM 58 13,xB 59 .andNot 57 58,xM 12 59] (aU [aB 60 11,xL 61 60,xM 62 13,xB 63 .or 61 62,aB 64 11,cL 64 63] [xM 65 10,aH 66 11,xL 67 66,aH 68 4,xL 69 68,xO 70 (.un .xor (.t 69)),xM 71 13,xB 72 .and 70 71,xB 73 .or 67 72,aB 74 11,xL 75 74,xO 76 (.build bR [(0,1,(.t 73)),(1,1,(.t 75))]),xO 77 (PQ 2 64 9 (.t 65)),bE 77 76] (xR [aH 78 11,xL 79 78,aH 80 4,xL 81 80,xM 82 13,xB 83 .and 81 82,xB 84 .or 79 83,aH 85 11,cL 85 84]))) (xM 51 10) 52 .add 51 (xM 10 52)
def pU:Xb:=bZ [xM 86 10,xM 87 10,xO 88 (.sarrF 2 64 (.t 9) none (some (.t 86)) (some (.t 87))),bB 88]
def HT:AFn:=⟨3,[.tmp 6],cC [jG 3 0,jG 4 1,xC 6 aL] [aF 14,aE 15 yT 14,bO 16 15] 16 [xC 6 aL] (cJ [cY 17,xL 18 17,aF 19,aE 20 v3 19,xB 21 .and 18 20,cY 22,cL 22 21] (cJ [aB 23 4,xL 24 23,aF 25,aE 26 v3 25,xB 27 .and 24 26,aB 28 4,cL 28 27] (cJ [aJ 29 3,aE 30 lG 29,aJ 31 4,aE 32 lG 31,bE 3 30,bE 4 32] (.seq (eQ [aJ 34 3,aJ 35 4,aK 36 kY 34 35,xM 33 36,bH 37 33,bI 38 33,j6 7,bE 7 37,b9 38] [7] (bX [aI 39,bO 40 39] 40 [aJ 41 3,xO 42 (.bslice .imm 2 (List.replicate 1 bR) [(0,(.t 41))]),bB 42])) (b4 [xO 9 (.alloca 64 bR)] (dY [aD 10] [aJ 43 3,j6 11,bE 11 43] [aB 44 4,xL 45 44,cY 46,xL 47 46,xB 48 .andNot 45 47,xM 12 48] pV pU))))))⟩
def HU:AFn:=⟨2,[.tmp 3],gI eW (bP 3) [aB 4 2,xA 5 4 4,xL 6 1,aK 7 l0 5 6,xM 3 7]⟩
def pX:Xb:=cV [xB 17 .lss 16 15] 17 0 1 [xM 18 16,bS 19 14 16,aJ 20 19,hI 6 dA dA,aT 18,bE 6 20] [6] (nE [a6 21,aC 22,xX 23 1 21 22,xL 24 23,aH 25 6,xL 26 25,xB 27 .xor 24 26,aB 28 6,xL 29 28,xB 30 .and 27 29,jF 31 .neq 30 dA] 31 [fL]) 32 .add 16 16 32
def pW:Xb:=zZ 4
def HV:AFn:=⟨2,[.tmp 4],kB [eW,fL] [a6 7,xN 8 7,aH 9 2,xL 10 9,xN 11 10,xB 12 .neq 8 11] 12 [fL] [aH 13 2,xL 14 13,xN 15 14,aD 16] pX pW⟩
def pZ:Xb:=cV EI 12 0 1 [aP 13 9 11,b6 14 13,bK 7 fO,bT 7 14] [7] (bX [a6 15,b6 16 7,gH 17 15 [.t 16]] 17 [b6 18 7,bT 4 18,k9 5]) 19 .add 11 11 19
def pY:Xb:=fB (bK 8 fO) [b6 20 8,bT 4 20,bP 5]
def HW:AFn:=⟨2,[.cell 4 true 5,.tmp 5],fQ [bK 4 fO,bP 5] [a5 9,xN 10 9,aD 11] pZ pY⟩
def HX:AFn:=⟨5,[.tmp 6],cC [f9 5,bP 6] [xL 9 1,b6 10 5,gH 11 9 [.t 10],bO 12 11] 12 [bP 6] (eQ [xL 14 2,xO 15 (.mkfunc (.func tQ) [] [.t 1,.t 3,.t 4,.t 5]),bD 16 fY [.t 14,.t 15],xM 13 16,bH 17 13,bI 18 13,bK 7 fO,bT 7 17,b9 18] [7] (kA (aI 19) (bO 20 19) (bB 20)))⟩
def HY:AFn:=⟨5,[.tmp 6],gI (f9 5) (bP 6) [xL 7 1,b6 8 5,gH 9 7 [.t 8],bC 10,cW 11 10 9 2,gG 12 10 1 3,cW 13 10 5 5,cW 14 10 5 4,gT 15 10 iF [.t 11,.t 12,.t 13,.t 14],xV 16 10 15,bB 16]⟩
def HZ:AFn:=⟨4,[.tmp 8],cC [f9 4,xJ 6 2,xJ 7 3,bP 8] [aB 11 6,aB 12 11,xL 13 12,aB 14 7,aB 15 14,xL 16 15,xB 17 .neq 13 16] 17 [aB 18 6,aB 19 18,xL 20 19,aB 21 7,aB 22 21,xL 23 22,xB 24 .gtr 20 23,b9 24] (jY [cE 25 4,a6 26,aB 27 6,xA 28 4 27,gX 29 iJ 25 26 28,cE 30 4,a6 31,aB 32 7,xA 33 4 32,gX 34 iJ 30 31 33,dB 29,xM 10 34] (bX [bC 35,xM 36 10,xB 37 .neq 35 36] 37 [bC 38,xM 39 10,xB 40 .gtr 38 39,b9 40]) (bZ [aH 41 6,xL 42 41,aH 43 7,xL 44 43,xB 45 .lss 42 44,b9 45]))⟩
def I0:AFn:=⟨1,[.cell 2 true 5],fD (jG 1 0) (bK 2 fO) (aU [fS 3,cT 4,xL 5 4,aE 6 AF 5,fS 7,aH 8 7,cL 8 6] [fS 9,bL 10 9,aB 11 10,xL 12 11,aE 13 AW 12,fS 14,bL 15 14,aB 16 15,cL 16 13] (hG (b6 17 1) (bT 2 17)))⟩
def I1:AFn:=⟨2,[],eS j9 (xN 6 5) (aV 6) (xR [a5 7,b9 4,bU 9,nF 10 9,aE 11 uB 10,a6 12,bD 13 iK [.t 7,aN,.t 8,.t 11,.t 12]])⟩
def I2:AFn:=⟨3,[.tmp 5],eS (jG 3 0) (jG 4 1) eU (wD 0 (cJ [xL 7 2,eT 8 7,aH 9 8,cE 10 9,b6 11 3,b6 12 4,hP 13 iF 10 2 11 (.t 12),bB 13] (eH 6 (cD (nA 5)) (nE [xL 15 2,eT 16 15,aH 17 16,cE 18 17,b6 19 4,b6 20 3,hP 21 iF 18 2 19 (.t 20),xM 14 21] 14 [d9 1]))) (cD eU))⟩
def q8:Xb:=eJ zR 10 0 1 (aU [aP 11 7 9,b6 12 11,bK 5 fO,bT 5 12] [aB 13 5,aH 14 13,xL 15 14,xO 16 (nB 2 15 aN),aJ 17 16,hI 6 dA dA,bE 6 17] (cJ [aH 18 6,xL 19 18,xL 20 2,eT 21 20,xF 22 13 21,xL 23 22,eR 24 .u32 23,xB 25 .xor 19 24,aB 26 6,xL 27 26,xB 28 .and 25 27,jF 29 .eql 28 dA,xM 30 29,dI 31 30,gV 32 30 1 5,cW 33 30 4 32,bG 34 30 (.tcallv (.t 31) [.t 33]),bG 35 30 (hC 34),xV 36 30 35] (eI 36 .ret))) 37 .add 9 9 37
def A7:AFn:=⟨3,[],eS (xL 7 1) (xN 8 7) (aD 9) (jW 0 q8)⟩
def I3:AFn:=⟨3,[],eS (aF 6) (xN 7 6) (aG 8 .gtr 7) (eI 8 (.region true [(3,18)] [⟨some 9,none,.mov (.t 0)⟩,⟨some 10,none,.nilchk (.t 9)⟩,⟨some 11,none,.faddr 14 (.t 10)⟩,⟨some 12,none,.load false 1 (.t 11)⟩,⟨some 13,none,.mov (.t 1)⟩,⟨some 14,none,.conv .i64 (.t 13)⟩,⟨some 15,none,.mov (.t 0)⟩,⟨some 16,none,.mov (.t 0)⟩,⟨some 17,none,.nilchk (.t 16)⟩,⟨some 18,none,.faddr 14 (.t 17)⟩,⟨some 19,none,.load false 1 (.t 18)⟩,⟨some 20,none,.mov (.t 1)⟩,⟨some 21,none,.conv .i64 (.t 20)⟩,⟨some 22,none,.lookup .i aL false (.t 19) (.t 21)⟩,⟨some 23,none,.mov (.t 2)⟩,⟨some 24,none,.pcall t9 [.t 22,.t 23]⟩,⟨some 25,none,.ext 0 (.t 24)⟩,⟨some 26,none,.ext 1 (.t 24)⟩,⟨some 27,none,.tcall fU [.t 15,.t 25,.t 26]⟩,⟨none,none,.update .i (.t 12) (.t 14) (.t 27)⟩] none))⟩
def I4:AFn:=⟨1,[.tmp 2],fB (eL aL) [eC,RP 4 mC 3 (nD 2199006478336) (.c lU),bM 4]⟩
def qA:Xb:=eK [aS 17,a5 18,xO 19 (.slen (.t 18)),xB 20 .lss 17 19] 20 0 1 (bX [a5 23,aS 24,xO 25 (.idxs (.t 23) (.t 24)),aE 26 uC 25,bO 27 26,xM 28 27,dI 29 28,b5 30 28 3,bG 31 28 (.idxs (.t 29) (.t 30)),gT 32 28 BA [.t 31],bG 33 28 (hC 32),xV 34 28 33,xM 35 34,dI 36 35,b5 37 35 3,bG 38 35 (.idxs (.t 36) (.t 37)),bG 39 35 (FG .neq 38 (zY 95)),xV 40 35 39] 40 [bP 2]) (aS 21) 22 .add 21 (xM 3 22)
def q9:Xb:=zZ 2
def I5:AFn:=⟨1,[.tmp 2],kB [bP 2] [a5 4,jF 5 .eql 4 (.str []),aC 6,b8 7 6 0,c9 8 6 (.slen (.t 7)),d8 9 6 .gtr 8 16,xW 10 6 9,xM 11 10,b8 12 11 0,c9 13 11 (.idxs (.t 12) aN),CS 14 11 uC [.t 13],c9 15 11 (hC 14),xW 16 11 15] 16 [bP 2] [aD 3] qA q9⟩
def I6:AFn:=⟨2,[.tmp 4],aU [eW,fL] [fR 8,a6 9,aK 10 i9 8 9,dJ 10,bH 11 7,bI 12 7,aT 11,bB 12] P3⟩
def qC:Xb:=eK PC 9 0 1 (bX [a5 12,aC 13,xX 14 1 12 13,xL 15 14,a6 16,xB 17 .eql 15 16] 17 [aC 18,aV 18]) (aC 10) 11 .add 10 (aT 11)
def qB:Xb:=cD jI
def I7:AFn:=⟨2,[.tmp 4],fQ [bF] [eU] qC qB⟩
def I8:AFn:=⟨2,[.tmp 4],jZ 4 [a6 5,aE 6 iL 5,bQ 7,dI 8 7,bG 9 7 (VO .u64 8),b5 10 7 1,gT 11 7 iM [.t 10],dZ 12 7 .lss 9 (.t 11),xV 13 7 12,aV 13]⟩
def I9:AFn:=⟨2,[.tmp 4],eV j0 (xD [fR 6,cT 7,xL 8 7,aK 9 uD 6 8,cY 10,xL 11 10,aK 12 BI 9 11,xO 13 (.fld false 1 1 (.t 12)),aT 13]) (cQ [aC 14,aE 15 dQ 14,jF 16 .eql 15 dA] 16 [bF] (nC 17 17))⟩
def qE:Xb:=eK [aI 11,cY 12,xL 13 12,xN 14 13,xB 15 .lss 11 14] 15 0 1 (cJ [fR 18,cY 19,xL 20 19,aI 21,xX 22 3 20 21,aH 23 22,aJ 24 23,aK 25 lA 18 24,dB 25] (b4 [cY 26,xL 27 26,aI 28,xX 29 3 27 28,bL 30 29,xL 31 30,xM 10 31] (RN 2 (gS [bC 33,aG 34 .eql 33,xM 32 34] 32 [aI 35,aV 35,d9 8] (gS [xM 37 10,aM 38 .neq 37,xM 39 38,b5 40 39 10,dZ 41 39 .neq 40 (d7 2),xV 42 39 41,xM 43 42,b5 44 43 10,dZ 45 43 .neq 44 (d7 3),xV 46 43 45,xM 36 46] 36 [aI 47,aV 47,d9 11] (eS (xM 49 10) (xK 50 .eql 49 2) (xM 48 50) (eI 48 (hK (xM 51 7) 52 .add 51 (dJ 52)))))) [bQ 53,bC 54,xB 55 .add 53 54,bB 55]))) (aI 16) 17 .add 16 (b9 17)
def qD:Xb:=gW 3 [xM 57 7,aM 58 .gtr 57,xM 56 58] 56 [cA (-2),d9 7] (bX [bQ 60,xK 61 .gtr 60 64,xM 59 61] 59 [cA (-2),d9 10]) vV
def IA:AFn:=⟨2,dX,b4 zM (dY [fE] [aD 7] [aD 8] qE qD)⟩
def qG:Xb:=eK [aC 6,bL 7 3,xL 8 7,xN 9 8,xB 10 .lss 6 9] 10 0 1 (.block 2 (cJ [bL 14 3,xL 15 14,aC 16,xX 17 1 15 16,xL 18 17,aG 19 .lss 18,xM 20 19,cF 21 20 2 3,aR 22 20 21,b8 23 20 5,c9 24 20 (EP 1 22 23),aR 25 20 24,cF 26 20 4 2,aR 27 20 26,cR 28 20 27,dG 29 20 .geq 25 28,xW 30 20 29,xM 13 30] (eH 13 (cD (cA 8)) (nE [bL 32 3,xL 33 32,bL 34 3,xL 35 34,aC 36,xX 37 1 35 36,xL 38 37,aK 39 l8 33 38,aC 40,xB 41 .lss 39 40,xM 31 41] 31 [cA 7])))) (aC 11) 12 .add 11 (aT 12)
def qF:Xb:=mQ [bL 42 3,xL 43 42,xF 44 3 3,aH 45 44,xL 46 45,aK 47 l8 43 46,aG 48 .lss 47] 48 [cA 8] [fR 49,xF 50 3 3,aJ 51 50,aK 52 kK 49 51,aV 52]
def IB:AFn:=⟨2,[.tmp 4],fQ j0 [eU] qG qF⟩
def IC:AFn:=⟨2,[.tmp 4],aU j0 [bL 6 2,xL 7 6,aT 7] (dM [cT 8,xL 9 8,aG 10 .geq 9] 10 (cQ [cT 11,xL 12 11,aB 13 2,xL 14 13,xN 15 14,xB 16 .geq 12 15] 16 [bF] (xR [aB 17 2,xL 18 17,cT 19,xL 20 19,bS 21 18 20,aB 22 21,xL 23 22,aT 23])) (mQ [cT 24,xL 25 24,xK 26 .lss 25 (-1),xM 27 26,dH 28 27 3,aR 29 27 28,zX 30 27 .lss 29 aN,xW 31 27 30,xM 32 31,dH 33 32 3,aR 34 32 33,b8 35 32 5,cR 36 32 35,dG 37 32 .geq 34 36,xW 38 32 37,xM 39 38,b8 40 39 5,dH 41 39 3,aR 42 39 41,c9 43 39 (EP 2 40 42),dH 44 39 43,aR 45 39 44,d8 46 39 .lss 45 1,xW 47 39 46,xM 48 47,b8 49 48 5,dH 50 48 3,aR 51 48 50,c9 52 48 (EP 2 49 51),dH 53 48 52,aR 54 48 53,d8 55 48 .gtr 54 32,xW 56 48 55] 56 [bF] [aC 57,cY 58,xL 59 58,bS 60 57 59,aB 61 60,xL 62 61,aV 62]))⟩
def qI:Xb:=eK [bQ 7,a6 8,xB 9 .leq 7 8,bC 10,b5 11 10 1,gT 12 10 iL [.t 11],xV 13 10 12] 13 0 1 (bX [bQ 16,a6 17,aK 18 BN 16 17,a5 19,xB 20 .eql 18 19] 20 [bQ 21,aV 21,k9 5]) (bQ 14) 15 .add 14 (bB 15)
def qH:Xb:=hG bF (bP 5)
def ID:AFn:=⟨2,dX,fQ vX [fE] qI qH⟩
def IE:AFn:=⟨1,[.tmp 2],cC [eL dA] [eC,aE 4 iL 3,bO 5 4] 5 [eL dA] (bZ [nG,aE 7 iM 6,cK 8 .sub 7 1,eR 9 .u32 8,bM 9])⟩
def IF:AFn:=⟨1,[.tmp 2],cC [bP 2] [eC,xO 4 (.slen (.t 3)),aG 5 .eql 4,aC 6,b8 7 6 0,c9 8 6 (.slen (.t 7)),d8 9 6 .gtr 8 16,xW 10 6 9,xM 11 10,b8 12 11 0,c9 13 11 (.idxs (.t 12) aN),CS 14 11 uF [.t 13],c9 15 11 (hC 14),xW 16 11 15] 16 [bP 2] (bZ [a5 17,zW 18 BO 17 (.c (.func (.func BP) [] [])),a5 19,xO 20 (.slen (.t 19)),xB 21 .eql 18 20,bM 21])⟩
def qK:Xb:=eJ j5 9 0 1 (eS (xX 10 1 6 8) (xL 11 10) (aT 11) (xR [aS 12,aC 13,xB 14 .add 12 13,xM 3 14])) 15 .add 8 8 15
def qJ:Xb:=wH (aS 16) 16
def IG:AFn:=⟨1,[.tmp 2],dY [eD] [aD 3] iY qK qJ⟩
def qM:Xb:=cV zR 10 0 1 [bS 11 7 9,aJ 12 11,hO 5 (.str []),bE 5 12] [5] (xR [aS 13,aB 14 5,xL 15 14,xO 16 (.bslice .imm 1 (List.replicate 1 dE) [(0,(.t 15))]),eA 17 1 8 13 16,xM 3 17]) 18 .add 9 9 18
def qL:Xb:=wH (aS 19) 19
def IH:AFn:=⟨1,[.tmp 2],dY [eB,eL fP] [fJ 3 1] [fS 6,xL 7 6,xN 8 7,aD 9] qM qL⟩
def II:AFn:=⟨2,[.tmp 4],jZ 4 [j9,lV,aK 7 BR 5 6,aG 8 .geq 7,aI 4]⟩
def IJ:AFn:=⟨1,[.tmp 2],gI eB (bP 2) [bL 3 1,xL 4 3,aM 5 .geq 4,aC 6,gV 7 6 2 1,gG 8 6 1 7,dZ 9 6 .leq 8 (d7 64),xV 10 6 9,bM 10]⟩
def qO:Xb:=cV EK 25 1 2 [xM 26 24,bS 27 22 24,aJ 28 27,hO 4 (.str []),xM 3 26,bE 4 28] [4] (.block 3 (gS [aH 30 4,xL 31 30,aE 32 dR 31,bO 33 32,xM 29 33] 29 [xI 2 6] (gS [aB 35 4,xL 36 35,aM 37 .lss 36,xM 38 37,dH 39 38 4,aR 40 38 39,d8 41 38 .gtr 40 32,xW 42 38 41,xM 34 42] 34 [xI 2 10] (bX [fS 44,xL 45 44,aS 46,xO 47 (.slc 2 (.t 45) none (some (.t 46)) none),xO 48 (.mkfunc (.func uH) [] [.t 4]),aK 49 BS 47 48,xM 43 49] 43 [xI 2 7])))) 50 .add 24 24 50
def qN:Xb:=cD eD
def IK:AFn:=⟨1,[.tmp 2],fD eB eD (gW 0 [aH 6 1,xL 7 6,aE 8 dR 7,bO 9 8,aT 9] 5 [xI 2 6] (bX [fS 11,xL 12 11,xN 13 12,xK 14 .gtr 13 4,xM 15 14,cF 16 15 2 1,aR 17 15 16,cR 18 15 17,d8 19 15 .gtr 18 12,xW 20 15 19,xM 10 20] 10 [xI 2 12]) (n8 [fS 21,xL 22 21,xN 23 22,aD 24] 1 qO qN))⟩
def IL:AFn:=⟨2,[.tmp 4],eV j0 (xQ [aH 11 2,aH 12 11,cE 13 12,bK 5 iU,xS 9 5 13] [5]) (aU [cE 15 5,cY 16,aJ 17 16,aK 18 uI 15 17,xM 14 18,bH 19 14,bI 20 14,bB 19,dJ 20] [xF 21 3 3,xL 22 21,aG 23 .geq 22,xM 24 23,gV 25 24 3 3,gG 26 24 1 25,gV 27 24 3 5,gG 28 24 1 27,bG 29 24 (EO 28),dZ 30 24 .lss 26 (.t 29),xV 31 24 30,b9 31] (dF [cT 32,xL 33 32] (.block 0 (gE [aM 35 .eql 33,xM 34 35] 34 (mQ [xM 36 7,bO 37 36] 37 [cA 8] [xA 38 10 2,xF 39 6 3,xL 40 39,bQ 41,gX 42 lH 38 40 41,aV 42]) (dF [xK 44 .eql 33 2,xM 43 44] (eH 43 .skip (xR [xK 45 .eql 33 3,xM 43 45])) (eH 43 (cQ [xF 46 4 3,xL 47 46,aG 48 .lss 47,xM 49 48,cF 50 49 4 3,aR 51 49 50,dH 52 49 5,aR 53 49 52,cR 54 49 53,dG 55 49 .geq 51 54,xW 56 49 55] 56 [cA 8] (cD bF)) (dF [xK 58 .eql 33 4,xM 57 58] (eH 57 .skip (xR [xK 59 .eql 33 5,xM 57 59])) (eI 57 (cQ [aI 60,bO 61 60,xM 62 61,cF 63 62 0 3,aR 64 62 63,d8 65 62 .eql 64 4,b8 66 62 65,b5 67 66 7,bG 68 66 (hC 67),c9 69 62 (.pick (.t 66) (.t 68) (.c jX)),xW 70 62 69] 70 [cA 8] (dF [xF 72 5 3,xL 73 72,aH 74 2,xA 75 10 74,aK 76 iN 73 75,xM 71 76,bH 77 71,bI 78 71,dB 77,xM 10 78] (bX [xM 79 10,aG 80 .neq 79] 80 [xM 81 10,aV 81]) (dM [cT 82,xL 83 82,xK 84 .eql 83 5] 84 (cJ [xA 85 10 2,xF 86 6 3,xL 87 86,xF 88 3 5,xL 89 88,xF 90 3 3,xL 91 90,xX 92 3 89 91,aB 93 92,xL 94 93,gX 95 lH 85 87 94,aV 95] .ret) (cQ [bQ 96,xF 97 3 5,xL 98 97,xF 99 3 3,xL 100 99,xX 101 3 98 100,aB 102 101,xL 103 102,xB 104 .neq 96 103] 104 [cA 10] (cD bF))))))))))) (cD (cA 11))))⟩
def qQ:Xb:=cV [xB 15 .lss 14 13] 15 0 1 [xM 16 14,xX 17 3 12 14,xA 18 3 17,fA 9 aZ aZ aZ,b9 16,xS 3 9 18] [9] (cC [fR 19,aH 20 9,aJ 21 20,aK 22 g0 19 21,xM 10 22] [xM 23 10,aG 24 .eql 23] 24 [aI 25,aV 25,d9 8] (dF [bL 26 9,xL 27 26] (.block 2 (gE [xK 30 .eql 27 2,xM 29 30] 29 (hK (bQ 31) 32 .add 31 (bB 32)) (dF [aM 34 .eql 27,xM 33 34] (eH 33 .skip (xR [xK 35 .eql 27 3,xM 33 35])) (eH 33 .skip (kA (aI 28) (aV 28) (d9 11)))))) (xR [xM 36 7,xM 37 10,xB 38 .add 36 37,dJ 38]))) 39 .add 14 14 39
def qP:Xb:=cQ [bQ 40,aM 41 .gtr 40] 41 [cA (-2),d9 7] (cQ [xM 42 7,xK 43 .gtr 42 64] 43 [cA (-2),d9 10] vV)
def IM:AFn:=⟨2,dX,dY zM [fE,aD 7] [cY 11,xL 12 11,xN 13 12,aD 14] qQ qP⟩
def qS:Xb:=eJ [xB 13 .lss 12 11] 13 0 1 (cC [xX 14 1 10 12,xL 15 14,dJ 15] [xM 16 7,aG 17 .lss 16,xM 18 17,b8 19 18 7,cF 20 18 4 2,aR 21 18 20,cR 22 18 21,dG 23 18 .geq 19 22,xW 24 18 23] 24 [cA 8] (cQ [aC 25,xM 26 7,xO 27 (.lookup .i (.bool false) false (.t 25) (.t 26))] 27 [cA 7] (mO (aC 28) (xM 29 7) ⟨none,none,.update .i (.t 28) (.t 29) vS⟩))) 30 .add 12 12 30
def qR:Xb:=mQ [aC 31,xF 32 3 3,aH 33 32,xL 34 33,xO 35 (.lookup .i (.bool false) false (.t 31) (.t 34)),bO 36 35] 36 [cA 8] [fR 37,xF 38 3 3,aJ 39 38,aK 40 iB 37 39,aV 40]
def IO:AFn:=⟨2,[.tmp 4],dY j0 [xO 8 .mkmap,aI 5] [bL 9 3,xL 10 9,xN 11 10,aD 12] qS qR⟩
def qV:Xb:=eJ [xB 31 .lss 30 29] 31 0 1 (gF [xX 32 1 28 30,xL 33 32,b9 33] [aI 34,aG 35 .lss 34,xM 36 35,b8 37 36 8,dH 38 36 2,aR 39 36 38,cR 40 36 39,dG 41 36 .geq 37 40,xW 42 36 41] 42 vW) 43 .add 30 30 43
def qW:Xb:=cV [xB 68 .lss 67 66] 68 3 4 [xM 69 67,xX 70 3 65 67,xA 71 3 70,fA 10 dA dA aZ,dB 69,xS 3 10 71] [10] (gF [fR 72,a6 73,xA 74 3 10,gX 75 uJ 72 73 74,xM 11 75] [xM 76 11,aG 77 .neq 76] 77 [bC 78,xM 79 11,aV 78,aT 79]) 80 .add 67 67 80
def qT:Xb:=cQ [fR 81,a6 82,xF 83 6 6,xL 84 83,gX 85 lI 81 82 84,bO 86 85] 86 [jI,d9 14] vV
def qU:Xb:=gW 2 [bL 45 6,xL 46 45,xM 47 46,cW 48 47 9 2,gV 49 47 3 6,cW 50 47 2 49,gT 51 47 g0 [.t 48,.t 50],jJ 52 47 .eql 51,xV 53 47 52,xM 44 53] 44 vW (bX [bL 55 6,xL 56 55,bO 57 56,xM 58 57,gV 59 58 5 6,gG 60 58 1 59,bG 61 58 (EO 60),jJ 62 58 .gtr 61,xV 63 58 62,xM 54 63] 54 [jI,d9 11]) (n8 [xF 64 5 6,xL 65 64,xN 66 65,aD 67] 3 qW qT)
def IP:AFn:=⟨2,dX,eV zU (xQ [xF 12 6 2,xL 13 12,a6 14,xX 15 7 13 14,xA 16 7 15,bK 6 OW,xS 7 6 16] [6]) (cQ [aB 17 6,xL 18 17,xN 19 18,xK 20 .gtr 19 4,xM 21 20,cF 22 21 5 6,aR 23 21 22,cR 24 21 23,d8 25 21 .gtr 24 8,xW 26 21 25] 26 [jI,d9 12] (EQ [aB 27 6,xL 28 27,xN 29 28,aD 30] qV qU))⟩
def IQ:AFn:=⟨1,[.tmp 2],b4 [eD] (aU [bK 3 [aZ],⟨none,none,.store 1 (.t 3) gR⟩] [a5 4,xO 5 (.mkfunc (.func uK) [] [.t 3]),bD 6 eG [.t 4,.t 5]] (wH (xL 7 3) 7))⟩
def qY:Xb:=cV EI 12 0 1 [aP 13 9 11,b6 14 13,bK 5 zH,bT 5 14] [5] (xD [aS 15,xF 16 3 5,xL 17 16,aE 18 iH 17,xF 19 4 5,xL 20 19,aE 21 iH 20,xO 22 (.minmax true [.t 15,.t 18,.t 21]),xM 3 22]) 23 .add 11 11 23
def qX:Xb:=kA (aS 24) (aM 25 .add 24) (bM 25)
def IR:AFn:=⟨1,[.tmp 2],cC [eD] [nG,xN 7 6,aG 8 .eql 7] 8 [eD] (fQ [aD 3] [a5 9,xN 10 9,aD 11] qY qX)⟩
def r5:Xb:=cV zR 10 0 1 [aP 11 7 9,b6 12 11,bK 6 zH,bT 6 12] [6] (bX [a6 13,b6 14 6,xO 15 (.tcallv (.t 13) [.t 14]),bO 16 15,xM 17 16,cF 18 17 3 6,aR 19 17 18,b8 20 17 1,c9 21 17 (.tcall eG [.t 19,.t 20]),c9 22 17 (hC 21),xW 23 17 22,xM 24 23,cF 25 24 4 6,aR 26 24 25,b8 27 24 1,c9 28 24 (.tcall eG [.t 26,.t 27]),c9 29 24 (hC 28),xW 30 24 29] 30 [fL]) 31 .add 9 9 31
def qZ:Xb:=zZ 4
def IU:AFn:=⟨2,[.tmp 4],fQ [fL] [a5 7,xN 8 7,aD 9] r5 qZ⟩
def IV:AFn:=⟨5,[.tmp 6],fD (f9 5) (bP 6) (dF [cE 7 1,b6 8 5,xL 9 2,gX 10 u7 7 8 9,cL 3 10] (bX [xL 11 3,aG 12 .neq 11] 12 [bP 6]) (dM [b6 13 5,aE 14 u9 13] 14 (xR [xL 15 2,aB 16 5,xL 17 16,xO 18 (.bslice .imm 1 (List.replicate 1 dE) [(0,(.t 17))]),eA 19 1 8 15 18,cL 2 19]) (CR [xL 20 4,aM 21 .add 20,cL 4 21] [k9 6])))⟩
def r8:Xb:=eJ [xB 30 .lss 29 28] 30 1 2 (gF [xX 31 1 27 29,xL 32 31,b9 32] [aI 33,aB 34 4,xL 35 34,xB 36 .eql 33 35] 36 [xI 6 7]) 37 .add 29 29 37
def r6:Xb:=bX [aH 38 4,xL 39 38,aM 40 .eql 39,xM 41 40,gV 42 41 3 4,gG 43 41 1 42,bG 44 41 (EO 43),gV 45 41 4 4,gG 46 41 1 45,bG 47 41 (EO 46),dZ 48 41 .add 44 (.t 47),jJ 49 41 .gtr 48,xV 50 41 49] 50 [xI 6 5]
def r7:Xb:=cD fE
def IW:AFn:=⟨3,[.tmp 6],eS (f9 3) (xJ 4 1) fE (dF [aH 11 4,xL 12 11] (.block 0 (dF [aM 14 .eql 12,xM 13 14] (eH 13 .skip (xR [xK 15 .eql 12 3,xM 13 15])) (eH 13 (cQ [aB 16 4,xL 17 16,aG 18 .lss 17,xM 19 18,dH 20 19 4,aR 21 19 20,cF 22 19 5 3,aR 23 19 22,cR 24 19 23,dG 25 19 .geq 21 24,xW 26 19 25] 26 [xI 6 8] (n8 [aF 27,xN 28 27,aD 29] 1 r8 r6)) (gE [xK 52 .eql 12 2,xM 51 52] 51 (cC [bL 54 4,xL 55 54,cE 56 3,xO 57 (.build zD [(0,9,(.t 56))]),aK 58 iN 55 57,xM 53 58,bH 59 53,bI 60 53,dB 59,xM 10 60] [xM 61 10,aG 62 .neq 61] 62 [xM 63 10,bB 63] (bX [bC 64,aM 65 .neq 64] 65 [xI 6 10])) (cD (xI 6 11)))))) r7)⟩
def IX:AFn:=⟨1,[.tmp 2],gI eB (bP 2) [aH 3 1,xL 4 3,aM 5 .eql 4,aC 6,cF 7 6 0 1,aR 8 6 7,d8 9 6 .eql 8 3,xW 10 6 9,bM 10]⟩
def IY:AFn:=⟨2,[.tmp 4],jZ 4 [j9,lV,aK 7 BT 5 6,aG 8 .geq 7,aI 4]⟩
def IZ:AFn:=⟨2,[.tmp 4],aU [eW,fL] [fR 8,a6 9,aK 10 fX 8 9,dJ 10,bH 11 7,bI 12 7,aT 11,bB 12] P3⟩
def J0:AFn:=⟨2,[.tmp 4],jZ 4 [a6 5,xO 6 OR,aE 7 iC 6,b9 7,dI 9 8,b5 10 8 1,gT 11 8 dQ [.t 10],dZ 12 8 .leq 9 (.t 11),xV 13 8 12,aV 13]⟩
def rA:Xb:=eJ [xB 14 .lss 13 12] 14 0 1 (gF [xM 15 13,bB 15] [bQ 16,a6 17,aK 18 BU 16 17,a5 19,xB 20 .eql 18 19] 20 [bQ 21,aV 21,k9 5]) 22 .add 13 13 22
def r9:Xb:=hG bF (bP 5)
def J1:AFn:=⟨2,dX,kB vX [a6 7,xO 8 (.bslice .imm 1 (List.replicate 1 dE) [(0,(.t 7))]),aE 9 iC 8,bO 10 9] 10 vX [a6 11,aM 12 .add 11,aD 13] rA r9⟩
def rC:Xb:=cV j5 9 0 1 [aI 10,bS 11 6 8,aJ 12 11,j6 5,aV 10,bE 5 12] [5] (b4 [a5 13,bU 14,aK 15 uL 13 14,bO 16 15] (eI 16 (xR [aS 17,aH 18 5,xL 19 18,aB 20 5,xL 21 20,xB 22 .and 19 21,aB 23 5,xL 24 23,xO 25 (.build bR [(0,1,(.t 22)),(1,1,(.t 24))]),xO 26 (.bslice .imm 2 (List.replicate 1 bR) [(0,(.t 25))]),eA 27 2 16 17 26,xM 3 27]))) 28 .add 8 8 28
def rB:Xb:=wH (aS 29) 29
def J2:AFn:=⟨1,[.tmp 2],dY [eL aL] [fJ 3 2] iY rC rB⟩
def J3:AFn:=⟨1,zQ,gI eB (j6 2) [aH 3 1,xL 4 3,fS 5,xL 6 5,xB 7 .and 4 6,fS 8,xL 9 8,xO 10 (.build bR [(0,1,(.t 7)),(1,1,(.t 9))]),bE 2 10]⟩
def J4:AFn:=⟨1,[.tmp 2],b4 [eD] (dM [eC,cK 4 .geq 3 4294967296] 4 (eS j9 (cK 6 .shr 5 32) (bQ 0) (xR [xI 2 32])) (dM [a5 7,cK 8 .geq 7 65536] 8 (eS (a5 9) (cK 10 .shr 9 16) (xM 0 10) (mO (aF 11) (xK 12 .add 11 16) (bM 12))) (dM [a5 13,cK 14 .geq 13 256] 14 (eS (a5 15) (cK 16 .shr 15 8) (xM 0 16) (mO (aF 17) (xK 18 .add 17 8) (bM 18))) (bZ [aF 19,a5 20,eR 21 .u8 20,xO 22 (.idxs O1 (.t 21)),eR 23 .i64 22,xB 24 .add 19 23,bM 24]))))⟩
def rF:Xb:=cV [xB 26 .lss 25 24] 26 0 1 [xM 27 25,xX 28 3 23 25,xA 29 3 28,fA 8 aZ aZ aZ,dJ 27,xS 3 8 29] [8] (eS (bL 30 8) (xL 31 30) (xK 32 .eql 31 2) (eI 32 (cQ [xM 33 7,aH 34 5,xL 35 34,xN 36 35,xB 37 .lss 33 36] 37 [aH 38 5,xL 39 38,xM 40 7,bS 41 39 40,aB 42 41,xL 43 42,aE 44 BV 43,bB 44] (cD fE)))) 45 .add 25 25 45
def rE:Xb:=cD fE
def J5:AFn:=⟨3,[.tmp 6],kB zO [a6 9,aG 10 .lss 9,xM 11 10,b8 12 11 1,cF 13 11 5 3,aR 14 11 13,cR 15 11 14,dG 16 11 .geq 12 15,xW 17 11 16] 17 [fE] [xF 18 5 3,xL 19 18,a6 20,xX 21 6 19 20,aB 22 21,xL 23 22,xN 24 23,aD 25] rF rE⟩
def rG:Xb:= .block 1 (cC [aF 21,a6 22,xB 23 .sub 21 22,xM 12 23] [xM 24 12,xK 25 .leq 24 12] 25 [a5 26,a6 27,aF 28,bU 29,bD 30 uM [.t 26,.t 27,.t 28,.t 29]] (cQ [aS 31,aG 32 .eql 31] 32 [a5 33,a6 34,aF 35,bU 36,bD 37 uN [.t 33,.t 34,.t 35,.t 36]] (dM [xM 38 10,bO 39 38] 39 (b4 [a5 40,a6 41,aF 42,bU 43,bD 44 uO [.t 40,.t 41,.t 42,.t 43]] (hK (aS 45) 46 .sub 45 (xM 3 46))) (b4 [a5 48,a6 49,aF 50,bU 51,bD 52 uP [.t 48,.t 49,.t 50,.t 51],xM 47 52,bH 53 47,bI 54 47,xM 13 53,xM 14 54] (dM [xM 55 14,xK 56 .eql 55 2] 56 (aU [a5 57,a6 58,aF 59,bU 60,bD 61 uQ [.t 57,.t 58,.t 59,.t 60]] [aF 62,aM 63 .sub 62,xM 64 13,a6 65,xB 66 .sub 64 65,xB 67 .sub 63 66,xM 13 67] (xR [xI 14 1])) (dM [xM 68 10,xM 69 68,b5 70 69 11,xV 71 69 70,xM 72 71,b5 73 72 14,dZ 74 72 .eql 73 eX,xV 75 72 74] 75 (b4 [a5 76,a6 77,aF 78,bU 79,bD 80 uR [.t 76,.t 77,.t 78,.t 79]] (eI 80 .ret)) (jY [a6 81,aG 82 .gtr 81,xM 83 82,b5 84 83 4,dI 85 83,b5 86 83 1,dZ 87 83 .sub 86 eX,fK 88 83 5 85 87,cW 89 83 5 88,dI 90 83,b5 91 83 13,fK 92 83 5 90 91,cW 93 83 5 92,bG 94 83 (n9 84 [.t 89,.t 93]),jJ 95 83 .lss 94,bG 96 83 (hC 95),xV 97 83 96] (eI 97 (aU [a5 98,a6 99,aF 100,xM 101 13,bU 102,bD 103 uS [.t 98,.t 99,.t 100,.t 101,.t 102],xM 15 103] [xM 104 15,xM 1 104] (.exit 1))) (b4 [a5 106,a6 107,aF 108,xM 109 13,bU 110,bD 111 uT [.t 106,.t 107,.t 108,.t 109,.t 110],xM 105 111,bH 112 105,bI 113 105,xM 16 112,xM 17 113] (aU [xM 114 17,xM 11 114] [xM 115 16,a6 116,xB 117 .sub 115 116,aF 118,xM 119 16,xB 120 .sub 118 119,xM 18 117,xM 19 120] (aU [xM 121 12,xK 122 .quo 121 8,xM 20 122] [xM 123 18,xM 124 19,xB 125 .lss 123 124] (eH 125 (aU [xM 126 18,xM 127 20,xB 128 .geq 126 127,xM 10 128] [a5 129,a6 130,xM 131 16,aS 132,bU 133,bD 134 iK [.t 129,.t 130,.t 131,.t 132,.t 133]] (hK (xM 135 16) 136 .add 135 (xM 1 136))) (aU [xM 137 19,xM 138 20,xB 139 .geq 137 138,xM 10 139] [a5 140,xM 141 16,aM 142 .add 141,aF 143,aS 144,bU 145,bD 146 iK [.t 140,.t 142,.t 143,.t 144,.t 145]] (xR [xM 147 16,bM 147])))))))))))))
def J6:AFn:=⟨5,[],aU [k9 10] [k9 11] (jW 0 rG)⟩
def J7:AFn:=⟨1,[.tmp 2],eV [eD] (.cond (.c jX) (bZ [eC,eR 4 .u32 3,aE 5 BW 4,aC 2]) .skip) (kA nG (aE 7 uA 6) (bM 7))⟩
def J8:AFn:=⟨1,[.tmp 2],jZ 2 O2⟩
def J9:AFn:=⟨1,[.tmp 2],jZ 2 O8⟩
def JA:AFn:=⟨1,[.tmp 2],jZ 2 [eC,aM 4 .geq 3,aT 4,dI 6 5,dZ 7 5 .leq 6 (d7 32),xV 8 5 7,aI 2]⟩
def rI:Xb:=eK [aT 4,nG,xB 7 .lss 5 6] 7 0 1 (mO (aS 10) (xO 11 (mP .mul (nD 2) 10)) (xM 3 11)) (b9 4) 9 .add 8 (aV 9)
def rH:Xb:=wH (aS 12) 12
def JB:AFn:=⟨1,[.tmp 2],dY [eL lU] [xC 3 (PL 1)] [bF] rI rH⟩
def JC:AFn:=⟨2,mM,aU [hO 4 (.str [])] [hO 5 (.str [])] O3⟩
def JD:AFn:=⟨2,[.tmp 4],cC [eW,xC 4 aL] [a6 5,xK 6 .eql 5 (-1)] 6 [bL 7 2,xL 8 7,aI 4] (bZ [aB 9 2,xL 10 9,a6 11,aK 12 C0 10 11,xO 13 (.fld false 1 1 (.t 12)),aV 13])⟩
def JE:AFn:=⟨2,dX,cC [xJ 3 1,bF,eU] [a5 7,xN 8 7,xK 9 .gtr 8 24] 9 [bF,d9 12] (b4 [xA 11 10 3,a5 12,RP 13 lJ 11 (.t 12) aN,xM 10 13,bH 14 10,bI 15 10,xE 16 2 10,aV 14,bB 15,aT 16] (gW 0 [aC 18,aG 19 .neq 18,xM 17 19] 17 [aC 20,bF,aT 20] (bX [bQ 22,a5 23,xN 24 23,xB 25 .lss 22 24,xM 21 25] 21 [bF,d9 4]) (kA (bU 26) (aV 26) eU)))⟩
def JF:AFn:=⟨2,[.tmp 4],cC [xC 4 dA] [a6 5,aE 6 iL 5,bO 7 6] 7 [xC 4 dA] (CR [a5 8,xO 9 (.minmax true [.t 8,.c (.int .i64 0)]),a6 10,xO 11 (.minmax false [.t 9,.t 10]),xM 0 11] [a6 12,aE 13 iM 12,a6 14,a5 15,xB 16 .sub 14 15,aE 17 iM 16,xB 18 .sub 13 17,eR 19 .u32 18,aV 19])⟩
def JG:AFn:=⟨1,[.tmp 2],jZ 2 O2⟩
def rK:Xb:=PO [aC 6,a5 7,xO 8 (.slen (.t 7)),xB 9 .lss 6 8,bC 10,b5 11 10 1,dI 12 10,b5 13 10 5,bG 14 10 (.idxs (.t 12) (.t 13)),bG 15 10 (n9 11 [.t 14]),xV 16 10 15] 16 0 (.block 1 (hK (aC 17) 18 .add 17 (aT 18)))
def rJ:Xb:=nC 19 19
def JH:AFn:=⟨2,[.tmp 4],aU [bF] [eU] (wG 0 rK rJ)⟩
def JI:AFn:=⟨1,[.tmp 2],jZ 2 [eC,aE 4 uF 3,aT 4,b8 6 5 0,CS 7 5 BQ [.t 6],xW 8 5 7,aI 9,b8 10 9 0,zX 11 9 .eql 10 (.c (zY 95)),xW 12 9 11,bM 12]⟩
def JJ:AFn:=⟨1,[.tmp 2],jZ 2 O8⟩
def rM:Xb:=eJ j5 9 0 1 O4 18 .add 8 8 18
def rL:Xb:=cD jI
def JK:AFn:=⟨2,[.tmp 4],fQ [bF] iY rM rL⟩
def JL:AFn:=⟨2,[.tmp 4],jZ 4 [j9,lV,aK 7 C2 5 6,aG 8 .geq 7,aI 4]⟩
def JM:AFn:=⟨2,[.tmp 3],gI eW (bP 3) [aH 4 2,xL 5 4,aH 6 1,xL 7 6,xB 8 .eql 5 7,aI 3]⟩
def JN:AFn:=⟨2,dX,aU [eW,xJ 3 1,bF,bP 5] [bL 7 2,xL 8 7,aI 6] (dM [cT 9,xL 10 9,xK 11 .neq 10 (-1)] 11 (cQ [cT 12,xL 13 12,aG 14 .lss 13,xM 15 14,cF 16 15 0 3,aR 17 15 16,dH 18 15 2,aR 19 15 18,cR 20 15 19,dG 21 15 .geq 17 20,xW 22 15 21] 22 vX (xR [aB 23 2,xL 24 23,cT 25,xL 26 25,bS 27 24 26,aB 28 27,xL 29 28,bB 29])) (mQ [cY 30,xL 31 30,aG 32 .lss 31,xM 33 32,dH 34 33 3,aR 35 33 34,b8 36 33 6,cR 37 33 36,dG 38 33 .geq 35 37,xW 39 33 38] 39 vX [bQ 40,cY 41,xL 42 41,bS 43 40 42,aB 44 43,xL 45 44,aV 45,k9 5]))⟩
def JO:AFn:=⟨3,[.tmp 6],aU [f9 3,fE] [a6 10,cT 11,xA 12 10 11,aK 13 iN 10 12,dB 13,bH 14 9,bI 15 9,dJ 14,b9 15] (cQ [aI 16,aG 17 .eql 16,xM 18 17,b5 19 18 7,b5 20 18 2,dZ 21 18 .neq 19 (.t 20),xV 22 18 21] 22 [xI 6 10] (hG (aI 23) (bB 23)))⟩
def JP:AFn:=⟨3,[.tmp 6],eV zO (xD [cE 8 3,xF 9 6 3,xL 10 9,a6 11,xX 12 7 10 11,xF 13 3 12,aJ 14 13,aK 15 g0 8 14,dJ 15]) (gW 0 [aH 17 5,xL 18 17,xM 19 7,aK 20 g7 18 19,bO 21 20,xM 22 21,dH 23 22 5,aR 24 22 23,b8 25 22 7,CS 26 22 g7 [.t 24,.t 25],c9 27 22 (hC 26),xW 28 22 27,xM 16 28] 16 [xI 6 9] (gS [aH 30 5,xL 31 30,aB 32 5,xL 33 32,xB 34 .andNot 31 33,jF 35 .neq 34 dA,xM 29 35] 29 [xI 6 5] (bX [cE 37 3,a6 38,bL 39 5,xL 40 39,gX 41 lI 37 38 40,bO 42 41,xM 36 42] 36 [xI 6 14])) (cD fE))⟩
def JQ:AFn:=⟨3,[.tmp 6],fD (f9 3) (bP 6) (dF [aF 7] (.block 0 (wD 2 (.block 1 (.seq (dM [xK 9 .eql 7 (-1),b9 9] 8 (.exit 1) (fD (xK 11 .eql 7 (-2)) (xM 10 11) (eI 10 (.exit 2)))) (.exit 0))) (.seq (zZ 6) (.exit 0)))) (bZ [aF 12,a6 13,xB 14 .gtr 12 13,xM 15 14,b5 16 15 2,gV 17 15 6 3,gG 18 15 1 17,bG 19 15 (EO 18),dZ 20 15 .lss 16 (.t 19),xV 21 15 20,bB 21]))⟩
def JR:AFn:=⟨2,[.tmp 3],aU [eW,bP 3] [xL 4 1,aM 5 .add 4,cL 1 5] (zZ 3)⟩
def rO:Xb:=eJ j5 9 0 1 O4 18 .add 8 8 18
def rN:Xb:=cD jI
def JS:AFn:=⟨2,[.tmp 4],fQ [bF] iY rO rN⟩
def JT:AFn:=⟨2,[.tmp 4],cC [xC 4 dA] [a6 5,xO 6 OR,aE 7 iC 6,bO 8 7] 8 [xC 4 dA] (bZ [a6 9,aE 10 dQ 9,a6 11,aE 12 dQ 11,a5 13,xO 14 (.minmax true [.t 13,.c (.int .i64 0)]),a6 15,xO 16 (.minmax false [.t 14,.t 15]),xB 17 .shr 12 16,xB 18 .andNot 10 17,aV 18])⟩
def rQ:Xb:=cV zR 10 0 1 [bC 11,bS 12 7 9,aJ 13 12,j6 6,aT 11,bE 6 13] [6] (jY [aC 14,a6 15,xB 16 .eql 14 15,xM 17 16,b8 18 17 0,b8 19 17 1,c9 20 17 (EP 2 18 19),c9 21 17 (PN 2 20),c9 22 17 (PN 2 6),CS 23 17 lK [.t 21,.t 22],c9 24 17 (hC 23),xW 25 17 24] (eI 25 (.exit 1)) (nE [aJ 26 6,a5 27,a6 28,bS 29 27 28,aJ 30 29,aK 31 lK 26 30,bO 32 31,xM 33 32,b8 34 33 5,b8 35 33 1,dG 36 33 .lss 34 35,xW 37 33 36] 37 [k9 4])) 38 .add 9 9 38
def rP:Xb:=cD fL
def JU:AFn:=⟨2,[.tmp 4],fQ [fL] [a5 7,xN 8 7,aD 9] rQ rP⟩
def rS:Xb:=eJ [xK 6 .lss 5 32] 6 0 1 (fD (aC 7) (aV 7) (xR [aS 8,a5 9,bU 10,xB 11 .shr 9 10,jF 12 .and 11 (EN 1),eR 13 .i64 12,xB 14 .add 8 13,xM 3 14])) 15 .add 5 5 15
def rR:Xb:=wH (aS 16) 16
def JV:AFn:=⟨1,[.tmp 2],dY [eD] [aD 3] [eU] rS rR⟩
def rU:Xb:=jY [bC 18,a6 19,xB 20 .gtr 18 19,xM 21 20,b5 22 21 3,dI 23 21,b5 24 21 9,fK 25 21 5 23 24,cW 26 21 5 25,dI 27 21,b5 28 21 9,dZ 29 21 .sub 28 eX,fK 30 21 5 27 29,cW 31 21 5 30,bG 32 21 (n9 22 [.t 26,.t 31]),jJ 33 21 .lss 32,xV 34 21 33] (wE 34 2) (RN 3 (xD [a5 37,bC 38,a5 39,bC 40,aM 41 .sub 40,a5 42,bC 43,aM 44 .sub 43,aP 45 42 44,b6 46 45,a5 47,bC 48,aP 49 47 48,b6 50 49,aP 51 37 38,bT 51 46,aP 52 39 41,bT 52 50]) [bC 35,aM 36 .sub 35,dB 36])
def rT:Xb:=hK (aI 15) 16 .add 15 (b9 16)
def rV:Xb:=PO [aI 12,aF 13,xB 14 .lss 12 13] 14 0 (wD 1 (fD (aI 17) (dB 17) (jW 2 rU)) rT)
def JW:AFn:=⟨4,[],eS (a6 10) (aM 11 .add 10) (b9 11) (jW 0 rV)⟩
def rX:Xb:=eK [xM 20 11,aG 21 .geq 20] 21 0 1 (xR [a5 24,xM 25 11,xM 26 10,aI 27,aS 28,bD 29 lL [.t 24,.t 25,.t 26,.t 27,.t 28]]) (xM 22 11) 23 .sub 22 (xM 11 23)
def rY:Xb:=eK [xM 32 12,aG 33 .geq 32] 33 2 3 (cJ [a5 36,aI 37,a5 38,aI 39,xM 40 12,xB 41 .add 39 40,a5 42,aI 43,xM 44 12,xB 45 .add 43 44,aP 46 42 45,b6 47 46,a5 48,aI 49,aP 50 48 49,b6 51 50,aP 52 36 37,bT 52 47,aP 53 38 41,bT 53 51] (xR [a5 54,bC 55,xM 56 12,aI 57,aS 58,bD 59 lL [.t 54,.t 55,.t 56,.t 57,.t 58]])) (xM 34 12) 35 .sub 34 (xM 12 35)
def rW:Xb:=eS (xM 30 10) (aM 31 .sub 30) (xM 12 31) (jW 2 rY)
def JX:AFn:=⟨4,[],fD (a6 13) (b9 13) (dY [aD 9] [aF 14,a6 15,xB 16 .sub 14 15,xM 10 16] [xM 17 10,aM 18 .sub 17,xK 19 .quo 18 2,xM 11 19] rX rW)⟩
def rZ:Xb:=eK [xM 28 11,a6 29,aI 30,xK 31 .quo 30 4,xK 32 .mul 31 2,xB 33 .add 29 32,aM 34 .add 33,xB 35 .leq 28 34] 35 0 1 (b4 [aE 38 C4 9,xM 39 10,cK 40 .sub 39 1,xB 41 .and 38 40,eR 42 .i64 41,xM 12 42] (dM [xM 43 12,aI 44,xB 45 .geq 43 44] 45 (xR [xM 46 12,aI 47,xB 48 .sub 46 47,xM 12 48]) (xD [a5 49,xM 50 11,a5 51,a6 52,xM 53 12,xB 54 .add 52 53,a5 55,a6 56,xM 57 12,xB 58 .add 56 57,aP 59 55 58,b6 60 59,a5 61,xM 62 11,aP 63 61 62,b6 64 63,aP 65 49 50,bT 65 60,aP 66 51 54,bT 66 64]))) (xM 36 11) 37 .add 36 (xM 11 37)
def JY:AFn:=⟨4,[],aU [aF 13,a6 14,xB 15 .sub 13 14,b9 15] [aI 16,xK 17 .geq 16 8] (eI 17 (b4 [aI 18,nF 19 18,bK 9 [lU],cL 9 19] (aU [aI 20,aE 21 C3 20,xM 10 21] [a6 22,aI 23,xK 24 .quo 23 4,xK 25 .mul 24 2,xB 26 .add 22 25,aM 27 .sub 26,xM 11 27] (jW 0 rZ))))⟩
def JZ:AFn:=⟨4,[.tmp 8,.tmp 9],aU [aD 8,aD 9] [aF 15,a6 16,xB 17 .sub 15 16,xM 10 17] (aU [bK 11 [aZ]] [a6 18,xM 19 10,xK 20 .quo 19 4,aM 21 .mul 20,xB 22 .add 18 21,xM 12 22] (aU [a6 23,xM 24 10,xK 25 .quo 24 4,xK 26 .mul 25 2,xB 27 .add 23 26,xM 13 27] [a6 28,xM 29 10,xK 30 .quo 29 4,xK 31 .mul 30 3,xB 32 .add 28 31,xM 14 32] (dM [xM 33 10,xK 34 .geq 33 8] 34 (dM [xM 35 10,xK 36 .geq 35 50] 36 (aU [a5 37,xM 38 12,aS 39,bD 40 iO [.t 37,.t 38,.t 11,.t 39],xM 12 40] [a5 41,xM 42 13,aS 43,bD 44 iO [.t 41,.t 42,.t 11,.t 43],xM 13 44] (xR [a5 45,xM 46 14,aS 47,bD 48 iO [.t 45,.t 46,.t 11,.t 47],xM 14 48])) (xR [a5 49,xM 50 12,xM 51 13,xM 52 14,aS 53,bD 54 lM [.t 49,.t 50,.t 51,.t 52,.t 11,.t 53],xM 13 54])) (b4 [xL 55 11] (.block 0 (gS [aG 58 .eql 55,xM 57 58] 57 [xM 59 13,b9 59,xI 9 1] (gS [xK 61 .eql 55 12,xM 60 61] 60 [xM 62 13,b9 62,xI 9 2] (kA (xM 56 13) (b9 56) (aD 9)))))))))⟩
def s5:Xb:=PO [aI 13,bC 14,xB 15 .lss 13 14] 15 0 (.block 1 (cJ [a5 16,aI 17,a5 18,bC 19,a5 20,bC 21,aP 22 20 21,b6 23 22,a5 24,aI 25,aP 26 24 25,b6 27 26,aP 28 16 17,bT 28 23,aP 29 18 19,bT 29 27] (eS (aI 30) (aM 31 .add 30) (b9 31) (hK (bC 32) 33 .sub 32 (dB 33)))))
def K0:AFn:=⟨4,[],aU [a6 10,b9 10] [aF 11,aM 12 .sub 11,dB 12] (jW 0 s5)⟩
def sA:Xb:=jY [bC 19,aF 20,xB 21 .lss 19 20,xM 22 21,b5 23 22 3,dI 24 22,b5 25 22 9,fK 26 22 5 24 25,cW 27 22 5 26,dI 28 22,b5 29 22 9,dZ 30 22 .sub 29 eX,fK 31 22 5 28 30,cW 32 22 5 31,bG 33 22 (n9 23 [.t 27,.t 32]),jJ 34 22 .lss 33,bG 35 22 (hC 34),xV 36 22 35] (wE 36 2) (.block 3 (hK (bC 37) 38 .add 37 (dB 38)))
def sB:Xb:=eK [xM 68 11,aM 69 .geq 68] 69 4 5 (jY [aS 72,a5 73,xM 74 11,aP 75 73 74,b6 76 75,a5 77,xM 78 11,aM 79 .sub 78,aP 80 77 79,b6 81 80,gH 82 72 [.t 76,.t 81],aG 83 .lss 82,bO 84 83] (eI 84 (.exit 4)) (xD [a5 85,xM 86 11,a5 87,xM 88 11,aM 89 .sub 88,a5 90,xM 91 11,aM 92 .sub 91,aP 93 90 92,b6 94 93,a5 95,xM 96 11,aP 97 95 96,b6 98 97,aP 99 85 86,bT 99 94,aP 100 87 89,bT 100 98])) (xM 70 11) 71 .sub 70 (xM 11 71)
def sC:Xb:=eK [xM 107 12,aF 108,xB 109 .lss 107 108] 109 6 7 (jY [aS 112,a5 113,xM 114 12,aP 115 113 114,b6 116 115,a5 117,xM 118 12,aM 119 .sub 118,aP 120 117 119,b6 121 120,gH 122 112 [.t 116,.t 121],aG 123 .lss 122,bO 124 123] (eI 124 (.exit 6)) (xD [a5 125,xM 126 12,a5 127,xM 128 12,aM 129 .sub 128,a5 130,xM 131 12,aM 132 .sub 131,aP 133 130 132,b6 134 133,a5 135,xM 136 12,aP 137 135 136,b6 138 137,aP 139 125 126,bT 139 134,aP 140 127 129,bT 140 138])) (xM 110 12) 111 .add 110 (xM 12 111)
def s6:Xb:=b4 [aF 101,bC 102,xB 103 .sub 101 102,xK 104 .geq 103 2] (eI 104 (eS (bC 105) (aM 106 .add 105) (xM 12 106) (jW 6 sC)))
def s7:Xb:=cQ [bC 39,aF 40,xB 41 .eql 39 40] 41 [k9 8] (cQ [aF 42,a6 43,xB 44 .sub 42 43,xK 45 .lss 44 50] 45 [bP 8] (cJ [a5 46,bC 47,a5 48,bC 49,aM 50 .sub 49,a5 51,bC 52,aM 53 .sub 52,aP 54 51 53,b6 55 54,a5 56,bC 57,aP 58 56 57,b6 59 58,aP 60 46 47,bT 60 55,aP 61 48 50,bT 61 59] (dM [bC 62,a6 63,xB 64 .sub 62 63,xK 65 .geq 64 2] 65 (eS (bC 66) (aM 67 .sub 66) (xM 11 67) (jW 4 sB)) s6)))
def s8:Xb:=hK (xM 17 10) 18 .add 17 (xM 10 18)
def sD:Xb:=PO [xM 15 10,xK 16 .lss 15 5] 16 0 (wD 1 (wG 2 sA s7) s8)
def s9:Xb:=cD (bP 8)
def K1:AFn:=⟨4,[.tmp 8],dY [bP 8] [a6 13,aM 14 .add 13,dB 14] [aD 10] sD s9⟩
def sH:Xb:=jY [xM 31 11,xM 32 12,xB 33 .leq 31 32,xM 34 33,b5 35 34 4,dI 36 34,b5 37 34 1,fK 38 34 5 36 37,cW 39 34 5 38,dI 40 34,b5 41 34 11,fK 42 34 5 40 41,cW 43 34 5 42,bG 44 34 (n9 35 [.t 39,.t 43]),jJ 45 34 .lss 44,bG 46 34 (hC 45),xV 47 34 46] (wE 47 2) (.block 3 (hK (xM 48 11) 49 .add 48 (xM 11 49)))
def sI:Xb:=jY [xM 50 11,xM 51 12,xB 52 .leq 50 51,xM 53 52,b5 54 53 4,dI 55 53,b5 56 53 1,fK 57 53 5 55 56,cW 58 53 5 57,dI 59 53,b5 60 53 12,fK 61 53 5 59 60,cW 62 53 5 61,bG 63 53 (n9 54 [.t 58,.t 62]),jJ 64 53 .lss 63,xV 65 53 64] (wE 65 4) (.block 5 (hK (xM 66 12) 67 .sub 66 (xM 12 67)))
def sE:Xb:=dM [xM 68 11,xM 69 12,xB 70 .gtr 68 69] 70 (.exit 0) (cJ [a5 71,xM 72 11,a5 73,xM 74 12,a5 75,xM 76 12,aP 77 75 76,b6 78 77,a5 79,xM 80 11,aP 81 79 80,b6 82 81,aP 83 71 72,bT 83 78,aP 84 73 74,bT 84 82] (eS (xM 85 11) (aM 86 .add 85) (xM 11 86) (hK (xM 87 12) 88 .sub 87 (xM 12 88))))
def sF:Xb:=wG 4 sI sE
def sJ:Xb:= .block 1 (wG 2 sH sF)
def sG:Xb:=hG (xM 89 11) (xM 10 89)
def K2:AFn:=⟨5,[.tmp 10],eV [aD 10] (xD [a5 13,a6 14,a5 15,aS 16,a5 17,aS 18,aP 19 17 18,b6 20 19,a5 21,a6 22,aP 23 21 22,b6 24 23,aP 25 13 14,bT 25 20,aP 26 15 16,bT 26 24]) (b4 [a6 27,aM 28 .add 27,aF 29,aM 30 .sub 29,xM 11 28,xM 12 30] (wG 0 sJ sG))⟩
def sP:Xb:=jY [xM 32 12,xM 33 13,xB 34 .leq 32 33,xM 35 34,b5 36 35 4,dI 37 35,b5 38 35 12,fK 39 35 5 37 38,cW 40 35 5 39,dI 41 35,b5 42 35 1,fK 43 35 5 41 42,cW 44 35 5 43,bG 45 35 (n9 36 [.t 40,.t 44]),jJ 46 35 .lss 45,xV 47 35 46] (wE 47 0) (.block 1 (hK (xM 48 12) 49 .add 48 (xM 12 49)))
def sQ:Xb:=jY [xM 50 12,xM 51 13,xB 52 .leq 50 51,xM 53 52,b5 54 53 4,dI 55 53,b5 56 53 13,fK 57 53 5 55 56,cW 58 53 5 57,dI 59 53,b5 60 53 1,fK 61 53 5 59 60,cW 62 53 5 61,bG 63 53 (n9 54 [.t 58,.t 62]),jJ 64 53 .lss 63,bG 65 53 (hC 64),xV 66 53 65] (wE 66 2) (.block 3 (hK (xM 67 13) 68 .sub 67 (xM 13 68)))
def sR:Xb:=jY [xM 105 12,xM 106 13,xB 107 .leq 105 106,xM 108 107,b5 109 108 4,dI 110 108,b5 111 108 12,fK 112 108 5 110 111,cW 113 108 5 112,dI 114 108,b5 115 108 1,fK 116 108 5 114 115,cW 117 108 5 116,bG 118 108 (n9 109 [.t 113,.t 117]),jJ 119 108 .lss 118,xV 120 108 119] (wE 120 6) (.block 7 (hK (xM 121 12) 122 .add 121 (xM 12 122)))
def sS:Xb:=jY [xM 123 12,xM 124 13,xB 125 .leq 123 124,xM 126 125,b5 127 126 4,dI 128 126,b5 129 126 13,fK 130 126 5 128 129,cW 131 126 5 130,dI 132 126,b5 133 126 1,fK 134 126 5 132 133,cW 135 126 5 134,bG 136 126 (n9 127 [.t 131,.t 135]),jJ 137 126 .lss 136,bG 138 126 (hC 137),xV 139 126 138] (wE 139 8) (.block 9 (hK (xM 140 13) 141 .sub 140 (xM 13 141)))
def sK:Xb:=dM [xM 142 12,xM 143 13,xB 144 .gtr 142 143] 144 (.exit 4) (cJ [a5 145,xM 146 12,a5 147,xM 148 13,a5 149,xM 150 13,aP 151 149 150,b6 152 151,a5 153,xM 154 12,aP 155 153 154,b6 156 155,aP 157 145 146,bT 157 152,aP 158 147 148,bT 158 156] (eS (xM 159 12) (aM 160 .add 159) (xM 12 160) (hK (xM 161 13) 162 .sub 161 (xM 13 162))))
def sL:Xb:=wG 8 sS sK
def sT:Xb:= .block 5 (wG 6 sR sL)
def sM:Xb:=cJ [a5 163,xM 164 13,a5 165,a6 166,a5 167,a6 168,aP 169 167 168,b6 170 169,a5 171,xM 172 13,aP 173 171 172,b6 174 173,aP 175 163 164,bT 175 170,aP 176 165 166,bT 176 174] (kA (xM 177 13) (xM 10 177) (bP 11))
def sN:Xb:=dM [xM 69 12,xM 70 13,xB 71 .gtr 69 70] 71 (cJ [a5 72,xM 73 13,a5 74,a6 75,a5 76,a6 77,aP 78 76 77,b6 79 78,a5 80,xM 81 13,aP 82 80 81,b6 83 82,aP 84 72 73,bT 84 79,aP 85 74 75,bT 85 83] (kA (xM 86 13) (xM 10 86) (k9 11))) (cJ [a5 87,xM 88 12,a5 89,xM 90 13,a5 91,xM 92 13,aP 93 91 92,b6 94 93,a5 95,xM 96 12,aP 97 95 96,b6 98 97,aP 99 87 88,bT 99 94,aP 100 89 90,bT 100 98] (aU [xM 101 12,aM 102 .add 101,xM 12 102] [xM 103 13,aM 104 .sub 103,xM 13 104] (wG 4 sT sM)))
def sO:Xb:=wG 2 sQ sN
def K3:AFn:=⟨5,[.tmp 10,.tmp 11],eV [aD 10,bP 11] (xD [a5 14,a6 15,a5 16,aS 17,a5 18,aS 19,aP 20 18 19,b6 21 20,a5 22,a6 23,aP 24 22 23,b6 25 24,aP 26 14 15,bT 26 21,aP 27 16 17,bT 27 25]) (b4 [a6 28,aM 29 .add 28,aF 30,aM 31 .sub 30,xM 12 29,xM 13 31] (wG 0 sP sO))⟩
def K4:AFn:=⟨1,[.tmp 2],b4 [eD] (dM [eC,jF 4 .geq 3 (EN 65536)] 4 (eS j9 (cK 6 .shr 5 16) (bQ 0) (xR [xI 2 16])) (dM [a5 7,jF 8 .geq 7 (EN 256)] 8 (eS (a5 9) (cK 10 .shr 9 8) (xM 0 10) (mO (aF 11) (xK 12 .add 11 8) (bM 12))) (bZ [aF 13,a5 14,eR 15 .u8 14,xO 16 (.idxs O1 (.t 15)),eR 17 .i64 16,xB 18 .add 13 17,bM 18])))⟩
def K5:AFn:=⟨2,mM,aU [hI 4 (.str []) aL] [hI 5 (.str []) aL] O3⟩
def sV:Xb:=eJ [xB 45 .lss 44 43] 45 1 2 (fD (xM 46 44) (xM 11 46) (gF [xM 48 11,xA 49 10 3,a6 50,xM 51 7,gX 52 lJ 49 50 51,xM 47 52,bH 53 47,bI 54 47,xE 55 2 47,xO 56 (PQ 1 3 10 (.t 48)),cL 56 53,dJ 54,b9 55] [aI 57,aG 58 .neq 57] 58 [aI 59,fE,aD 7,b9 59])) 60 .add 44 44 60
def sU:Xb:=cJ [a6 62,aF 63,xX 64 3 62 63,xA 65 3 64,xA 66 3 10,aK 67 uX 65 66,xM 61 67,bH 68 61,bI 69 61,bB 68,b9 69] (bZ [bQ 70,xM 71 7,aI 72,bB 70,dJ 71,b9 72])
def K6:AFn:=⟨3,[.tmp 6,.tmp 7,.tmp 8],cC [f9 3,fE,aD 7,aD 8] [aF 12,a6 13,xN 14 13,xB 15 .geq 12 14] 15 [fE,aD 7,xI 8 3] (b4 [a6 16,aF 17,xX 18 3 16 17,aH 19 18,xL 20 19,aE 21 uV 20,dB 21] (gW 0 [bC 23,aG 24 .lss 23,xM 22 24] 22 [fE,aD 7,xI 8 11] (eS (bC 26) (aG 27 .eql 26) (xM 25 27) (eI 25 (cJ [xA 29 10 3,a6 30,aF 31,xX 32 3 30 31,xA 33 3 32,aK 34 lO 29 33,xM 28 34,bH 35 28,bI 36 28,bB 35,b9 36] (bZ [bQ 37,aF 38,aM 39 .add 38,aI 40,bB 37,dJ 39,b9 40])))) (aU [fA 10 aZ aZ aZ] [aF 41,aM 42 .add 41,dJ 42] (n8 [bC 43,aD 44] 1 sV sU))))⟩
def K7:AFn:=⟨1,[.tmp 2],b4 [eD] (dF [eC] (.block 0 (dF [aM 5 .eql 3,aC 4] (eH 4 .skip (gE [xK 6 .eql 3 2,aV 6] 4 .skip (gE [xK 7 .eql 3 3,aV 7] 4 .skip (xR [xK 8 .eql 3 4,aI 4])))) (eH 4 (cD eD) (dF [xK 10 .eql 3 5,dB 10] (eH 9 .skip (gE [xK 11 .eql 3 6,dB 11] 9 .skip (gE [xK 12 .eql 3 7,dB 12] 9 .skip (xR [xK 13 .eql 3 8,dB 13])))) (eH 9 (cD (xI 2 1)) (dF [xK 15 .eql 3 9,xM 14 15] (eH 14 .skip (gE [xK 16 .eql 3 10,xM 14 16] 14 .skip (gE [xK 17 .eql 3 11,xM 14 17] 14 .skip (gE [xK 18 .eql 3 12,xM 14 18] 14 .skip (gE [xK 19 .eql 3 13,xM 14 19] 14 .skip (gE [xK 20 .eql 3 14,xM 14 20] 14 .skip (gE [xK 21 .eql 3 15,xM 14 21] 14 .skip (xR [xK 22 .eql 3 16,xM 14 22])))))))) (eH 14 (cD (xI 2 2)) (bX [xK 24 .eql 3 17,xM 23 24] 23 [xI 2 3])))))))) (cD (nA 2)))⟩
def sX:Xb:=eJ j5 9 0 1 (gF [aI 10,aT 10] [a6 11,a5 12,aC 13,bS 14 12 13,aJ 15 14,gH 16 11 [.t 15]] 16 [aC 17,aV 17]) 18 .add 8 8 18
def sW:Xb:=cD jI
def K8:AFn:=⟨2,[.tmp 4],fQ [bF] iY sX sW⟩
def K9:AFn:=⟨2,[.tmp 4],CR [eW,xJ 3 1,fL] [cY 5,xL 6 5,aB 7 2,xL 8 7,xB 9 .andNot 6 8,cK 10 .eql 9 0,xM 11 10,gV 12 11 0 2,gG 13 11 1 12,gV 14 11 0 3,gG 15 11 1 14,dZ 16 11 .xor 13 (.t 15),gV 17 11 1 3,gG 18 11 1 17,dZ 19 11 .and 16 (.t 18),bG 20 11 (FG .eql 19 lU),xV 21 11 20,aV 21]⟩
def sY:Xb:= .block 1 (b4 [xM 13 10,xO 14 (mP .mul (d7 2) 13),aM 15 .add 14,xM 11 15] (dM [xM 16 11,aF 17,xB 18 .geq 16 17] 18 (.exit 0) (jY [xM 19 11,aM 20 .add 19,aF 21,xB 22 .lss 20 21,xM 23 22,b5 24 23 4,dI 25 23,b5 26 23 3,b5 27 23 11,dZ 28 23 .add 26 (.t 27),fK 29 23 5 25 28,cW 30 23 5 29,dI 31 23,b5 32 23 3,b5 33 23 11,dZ 34 23 .add 32 (.t 33),dZ 35 23 .add 34 eX,fK 36 23 5 31 35,cW 37 23 5 36,bG 38 23 (n9 24 [.t 30,.t 37]),jJ 39 23 .lss 38,xV 40 23 39] (eI 40 (hK (xM 41 11) 42 .add 41 (xM 11 42))) (jY [bU 43,a5 44,aS 45,xM 46 10,xB 47 .add 45 46,aP 48 44 47,b6 49 48,a5 50,aS 51,xM 52 11,xB 53 .add 51 52,aP 54 50 53,b6 55 54,gH 56 43 [.t 49,.t 55],aG 57 .lss 56,bO 58 57] (eI 58 .ret) (cJ [a5 59,aS 60,xM 61 10,xB 62 .add 60 61,a5 63,aS 64,xM 65 11,xB 66 .add 64 65,a5 67,aS 68,xM 69 11,xB 70 .add 68 69,aP 71 67 70,b6 72 71,a5 73,aS 74,xM 75 10,xB 76 .add 74 75,aP 77 73 76,b6 78 77,aP 79 59 62,bT 79 72,aP 80 63 66,bT 80 78] (xR [xM 81 11,xM 10 81]))))))
def KA:AFn:=⟨5,[],fD (a6 12) (xM 10 12) (jW 0 sY)⟩
def KB:AFn:=⟨1,[.tmp 2],fB (eL lU) [eC,nF 4 3,aE 5 uB 4,xO 6 (mP .shl (nD 1) 5),bM 6]⟩
def KC:AFn:=⟨1,[.tmp 2],eV [eL lU] (xD [eC,eT 4 3,xL 5 4,nG,eT 7 6,xL 8 7,cK 9 .shl 8 13,xB 10 .xor 5 9,eT 11 3,cL 11 10]) (cJ [a5 12,eT 13 12,xL 14 13,a5 15,eT 16 15,xL 17 16,cK 18 .shr 17 7,xB 19 .xor 14 18,eT 20 12,cL 20 19] (cJ [a5 21,eT 22 21,xL 23 22,a5 24,eT 25 24,xL 26 25,cK 27 .shl 26 17,xB 28 .xor 23 27,eT 29 21,cL 29 28] (bZ [a5 30,eT 31 30,xL 32 31,bM 32])))⟩
def KD:AFn:=⟨4,[.tmp 8],fB (aD 8) [a5 9,a6 10,aM 11 .sub 10,a6 12,a6 13,aM 14 .add 13,aF 15,aS 16,bD 17 lM [.t 9,.t 11,.t 12,.t 14,.t 15,.t 16],b9 17]⟩
def KE:AFn:=⟨6,[.tmp 12],aU [aD 12] [a5 14,a6 15,aF 16,bU 17,aC 18,bD 19 iP [.t 14,.t 15,.t 16,.t 17,.t 18],xM 13 19,bH 20 13,bI 21 13,xM 1 20,bM 21] (aU [a5 23,aF 24,aS 25,bU 26,aC 27,bD 28 iP [.t 23,.t 24,.t 25,.t 26,.t 27],xM 22 28,bH 29 22,bI 30 22,bM 29,xM 3 30] [a5 32,a6 33,aF 34,bU 35,aC 36,bD 37 iP [.t 32,.t 33,.t 34,.t 35,.t 36],xM 31 37,bH 38 31,bI 39 31,xM 1 38,bM 39] (hG (aF 40) (xM 12 40)))⟩
def KF:AFn:=⟨2,dX,b4 zM (dF [cT 10,xL 11 10] (.block 0 (gE [aM 13 .eql 11,xM 12 13] 12 (eV [bL 15 3,xL 16 15,aE 17 g8 16,xM 14 17,bH 18 14,bI 19 14,bB 18,dJ 19] (nE [xM 20 7,aG 21 .eql 20,xM 22 21,gV 23 22 1 3,gG 24 22 1 23,jJ 25 22 .lss 24,b5 26 22 25,dH 27 26 3,aR 28 26 27,b8 29 26 6,CS 30 26 dQ [.t 29],c9 31 26 (VO .i64 30),dG 32 26 .gtr 28 31,bG 33 22 (.pick (.t 26) (.c PM) (.t 32)),xV 34 22 33] 34 [bF,d9 9]) (bZ [bQ 35,xM 36 7,aV 35,aT 36])) (gE [xK 38 .eql 11 2,xM 37 38] 37 (eQ [xA 40 10 2,cY 41,xL 42 41,bL 43 3,xL 44 43,gX 45 uY 40 42 44,xM 39 45,bH 46 39,bI 47 39,hO 8 (.str []),bE 8 46,dB 47] [8] (mQ [bC 48,bO 49 48] 49 [bF,d9 8] [aB 50 8,xL 51 50,aE 52 g8 51,bH 53 52,bI 54 52,aV 53,aT 54])) (fD (xK 56 .eql 11 3) (xM 55 56) (eI 55 (mQ [cY 57,xL 58 57,aG 59 .lss 58,xM 60 59,dH 61 60 3,aR 62 60 61,cF 63 60 9 2,aR 64 60 63,cR 65 60 64,dG 66 60 .geq 62 65,xW 67 60 66] 67 [bF,d9 8] [xF 68 9 2,xL 69 68,cY 70,xL 71 70,bS 72 69 71,aB 73 72,xL 74 73,aE 75 g8 74,bH 76 75,bI 77 75,aV 76,aT 77])))))) (cQ [cY 78,xL 79 78,aG 80 .lss 79,xM 81 80,dH 82 81 3,aR 83 81 82,cF 84 81 0 2,dH 85 81 84,aR 86 81 85,cR 87 81 86,dG 88 81 .geq 83 87,xW 89 81 88] 89 [bF,d9 8] (hG (cA 1) eU)))⟩
def KG:AFn:=⟨2,dX,b4 zM (dF [aH 8 2,xL 9 8] (.block 0 (dF [xK 11 .eql 9 6,xM 10 11] (eH 10 .skip (xR [xK 12 .eql 9 7,xM 10 12])) (eH 10 (bX [aB 13 2,xL 14 13,aG 15 .lss 14,xM 16 15,dH 17 16 2,aR 18 16 17,d8 19 16 .gtr 18 31,xW 20 16 19] 20 [bF,d9 9]) (gE [xK 22 .eql 9 8,xM 21 22] 21 (cQ [aB 23 2,xL 24 23,aG 25 .lss 24] 25 [bF,d9 9] (dF [bL 27 2,xL 28 27,aE 29 g8 28,xM 26 29,bH 30 26,bI 31 26,bB 30,dJ 31] (bX [xM 32 7,aG 33 .neq 32,xM 34 33,dH 35 34 2,aR 36 34 35,c9 37 34 vU,aR 38 34 37,cF 39 34 2 2,aR 40 34 39,dG 41 34 .sub 38 40,dG 42 34 .gtr 36 41,xW 43 34 42] 43 [bF,d9 10]) (bZ [bL 44 2,xL 45 44,aV 45,eU]))) (gS [xK 47 .eql 9 14,xM 46 47] 46 [xO 48 vU,xL 49 48,xO 50 zS,xL 51 50,xB 52 .add 49 51,aE 53 g8 52,bH 54 53,bI 55 53,aV 54,aT 55] (fD (xK 57 .eql 9 17) (xM 56 57) (eI 56 (mQ [xO 58 vU,xL 59 58,aM 60 .neq 59,xM 61 60,c9 62 61 zS,aR 63 61 62,c9 64 61 (PQ 1 3 3 (d7 2)),aR 65 61 64,dG 66 61 .neq 63 65,xW 67 61 66] 67 [bF,d9 10] [xO 68 zS,xL 69 68,aV 69,eU])))))))) (cQ [aH 70 2,xL 71 70,aE 72 uV 71,xK 73 .eql 72 2,xM 74 73,bG 75 74 vU,gG 76 74 1 75,bG 77 74 zS,gG 78 74 1 77,dZ 79 74 .neq 76 (.t 78),xV 80 74 79] 80 [bF,d9 10] (mQ [aH 81 2,xL 82 81,xK 83 .eql 82 15,xM 84 83,cF 85 84 0 2,aR 86 84 85,d8 87 84 .eql 86 16,xW 88 84 87] 88 [cA 1,eU] [xO 89 vU,xL 90 89,aV 90,eU])))⟩
def KH:AFn:=⟨5,[.tmp 10,.tmp 11],eV [aD 10,aD 11] (cJ [bU 12,a5 13,aF 14,aP 15 13 14,b6 16 15,a5 17,a6 18,aP 19 17 18,b6 20 19,gH 21 12 [.t 16,.t 20],aG 22 .lss 21] (eI 22 (CR [aS 23,eT 24 23,xL 25 24,aM 26 .add 25,eT 27 23,cL 27 26] [aF 28,a6 29,xM 10 28,xM 11 29]))) (bZ [a6 30,aF 31,xM 10 30,xM 11 31])⟩
def KI:AFn:=⟨1,[.tmp 2,.tmp 3],cC [eD,aD 3] [a5 4,aM 5 .lss 4,aC 6,b8 7 6 0,d8 8 6 .gtr 7 32,xW 9 6 8] 9 [eD,xI 3 10] (kA (a5 10) (bM 10) (aD 3))⟩
def KJ:AFn:=⟨3,[.cell 6 true 2,.tmp 7],aU [f9 3,hO 6 (.str []),bP 7] [cT 9,bL 10 9,xL 11 10,b9 11] (dM [a6 12,xK 13 .neq 12 (-1)] 13 (cQ [a6 14,aG 15 .lss 14,xM 16 15,b8 17 16 1,cF 18 16 0 3,dH 19 16 18,aR 20 16 19,cR 21 16 20,dG 22 16 .geq 17 21,xW 23 16 22] 23 [xO 24 (.build cP []),bE 6 24,bP 7] (xR [cT 25,aB 26 25,xL 27 26,a6 28,bS 29 27 28,aB 30 29,xL 31 30,b9 31])) (mQ [aF 32,aG 33 .lss 32,xM 34 33,b8 35 34 2,b8 36 34 8,cR 37 34 36,dG 38 34 .geq 35 37,xW 39 34 38] 39 [xO 40 (.build cP []),bE 6 40,bP 7] [aI 41,aF 42,bS 43 41 42,aJ 44 43,bE 6 44,k9 7]))⟩
def c_hsa_analysis_forward_asg:Xb:=xR [bK 6 EE,xS 4 6 11]
def c_hsa_analysis_forward_rnd:Xb:= .block 1 (dM [xL 12 4,xN 13 12,aG 14 .eql 13,xM 15 14,aR 16 15 3,c9 17 15 (Au 16),cF 18 15 16 17,aR 19 15 18,zX 20 15 .neq 19 aN,xW 21 15 20] 21 (.exit 0) (eS (xA 22 4 6) (aE 23 kI 22) (dJ 23) (aU [xL 24 3,xL 25 4,xM 26 7,bD 27 v6 [.t 24,.t 25,.t 26],b9 27] [xL 28 3,xL 29 4,xM 30 7,bD 31 v7 [.t 28,.t 29,.t 30],cL 4 31] (xR [xL 32 3,bL 33 6,aJ 34 33,aI 35,xL 36 5,bD 37 kJ [.t 32,.t 34,.t 35,.t 36]]))))
def T1:ARFn:=⟨3,[],.seqR (.region false [] [⟨some 3,none,.box (.t 0)⟩,⟨some 4,none,.box (.t 1)⟩,⟨some 5,none,.box (.t 2)⟩] none) (.seqR (.skip) (.seqL (.seqR (.region false [] [⟨some 9,none,.load false 1 (.t 3)⟩,⟨some 10,none,.tcall i8 [.t 9]⟩] none) (.rng 0 (.t 10) fZ A7 [0,31] [11] c_hsa_analysis_forward_asg c_hsa_analysis_forward_rnd)) (.region true [] [⟨some 38,none,.load false 1 (.t 3)⟩,⟨some 39,none,.load false 1 (.t 3)⟩,⟨some 40,none,.nilchk (.t 39)⟩,⟨some 41,none,.faddr 9 (.t 40)⟩,⟨some 42,none,.faddr 2 (.t 41)⟩,⟨some 43,none,.load false 1 (.t 42)⟩,⟨some 44,none,.iaddr 2 none (.t 43) d6⟩,⟨some 45,none,.load true 2 (.t 44)⟩,⟨some 46,none,.load false 1 (.t 4)⟩,⟨some 47,none,.load false 1 (.t 5)⟩,⟨some 48,none,.tcall kJ [.t 38,.t 45,.t 46,.t 47]⟩] none)))⟩
def tabL:List (Nat×AFn):=[(PX,RY),
  (MY,Az),
  (sZ,FQ),
  (CV,FY),
  (lX,G9),
  (CW,GJ),
  (CX,RT),
  (jM,RU),
  (CY,RV),
  (lY,RW),
  (yN,RX),
  (yO,RZ),
  (CZ,S0),
  (uE,wQ),
  (uG,wR),
  (lZ,S1),
  (D0,S2),
  (D1,S3),
  (yP,S4),
  (yQ,S5),
  (MR,S6),
  (yR,S7),
  (eE,S8),
  (yS,S9),
  (m0,SA),
  (uZ,SC),
  (v2,SD),
  (MT,SE),
  (D5,SF),
  (yT,SG),
  (v3,SH),
  (D6,SI),
  (MU,SJ),
  (fM,SK),
  (D7,SL),
  (D8,SN),
  (eN,SO),
  (v4,SP),
  (v5,SQ),
  (iQ,SR),
  (mA,SS),
  (yU,SU),
  (D9,SV),
  (v6,SW),
  (mB,SX),
  (v7,SY),
  (v8,SZ),
  (mC,T0),
  (gL,T3),
  (cZ,T4),
  (v9,T5),
  (DC,T6),
  (DE,T7),
  (DF,T8),
  (vA,T9),
  (t5,FR),
  (hS,FS),
  (A8,FT),
  (dP,FU),
  (hU,FV),
  (kD,FW),
  (kE,FX),
  (hX,FZ),
  (hZ,G0),
  (i6,G1),
  (kF,G2),
  (kG,G3),
  (AA,G4),
  (t6,G5),
  (AB,G6),
  (t7,G7),
  (t8,G8),
  (dQ,GA),
  (fU,GB),
  (i7,GC),
  (t9,GD),
  (fV,GE),
  (kH,GF),
  (i8,GG),
  (kI,GH),
  (kJ,GI),
  (tA,GK),
  (kK,GL),
  (i9,GM),
  (kN,GN),
  (tD,GO),
  (tE,GP),
  (AM,GQ),
  (aQ,GR),
  (bJ,GS),
  (tF,GT),
  (kO,GU),
  (tG,GV),
  (kP,GW),
  (fW,GX),
  (kQ,GY),
  (tH,GZ),
  (AN,H3),
  (kR,H4),
  (tI,H5),
  (tJ,H6),
  (kS,H7),
  (tK,H8),
  (kT,H9),
  (kU,HA),
  (tL,HB),
  (fX,HC),
  (kV,HD),
  (tM,HE),
  (tN,HG),
  (iA,HH),
  (tO,HI),
  (kW,HJ),
  (kX,HK),
  (iB,HL),
  (AP,HM),
  (iC,HN),
  (kY,HO),
  (eY,HQ),
  (kZ,HS),
  (iD,HT),
  (tP,HU),
  (l0,HV),
  (fY,HW),
  (iE,HX),
  (tQ,HY),
  (iF,HZ),
  (AQ,I0),
  (tR,I1),
  (tS,I2),
  (fZ,A7),
  (l6,I3),
  (tT,I4),
  (AR,I5),
  (l7,I6),
  (l8,I7),
  (l9,I8),
  (g0,I9),
  (tZ,IA),
  (u2,IB),
  (lA,IC),
  (B3,ID),
  (B4,IE),
  (dR,IF),
  (B5,IG),
  (iG,IH),
  (B6,II),
  (u4,IJ),
  (lB,IK),
  (lC,IL),
  (lD,IM),
  (u5,IO),
  (lE,IP),
  (B7,IQ),
  (iH,IR),
  (eG,IU),
  (u6,IV),
  (u7,IW),
  (u9,IX),
  (B8,IY),
  (lF,IZ),
  (g7,J0),
  (B9,J1),
  (iI,J2),
  (lG,J3),
  (uA,J4),
  (iJ,J5),
  (iK,J6),
  (uB,J7),
  (uC,J8),
  (BA,J9),
  (iL,JA),
  (iM,JB),
  (BI,JC),
  (uD,JD),
  (iN,JE),
  (BN,JF),
  (uF,JG),
  (BO,JH),
  (BP,JI),
  (BQ,JJ),
  (BR,JK),
  (BS,JL),
  (uH,JM),
  (uI,JN),
  (lH,JO),
  (uJ,JP),
  (lI,JQ),
  (uK,JR),
  (BT,JS),
  (BU,JT),
  (uL,JU),
  (BV,JV),
  (uM,JW),
  (uN,JX),
  (uO,JY),
  (uP,JZ),
  (uQ,K0),
  (uR,K1),
  (uS,K2),
  (uT,K3),
  (BW,K4),
  (C0,K5),
  (lJ,K6),
  (uV,K7),
  (C2,K8),
  (lK,K9),
  (lL,KA),
  (C3,KB),
  (C4,KC),
  (iO,KD),
  (lM,KE),
  (lO,KF),
  (uX,KG),
  (iP,KH),
  (g8,KI),
  (uY,KJ)]
def tabD:List (Nat×ADFn):=[(MV,ST)]
def tabC:List CloneD:=[⟨AE,1,8,.row⟩,⟨AF,2,8,.app⟩,⟨l5,5,72,.row⟩,⟨AW,1,4,.app⟩]
def tabR:List RngD:=[⟨yV,fZ,[0,31],T1⟩]
def nilL:List (Nat×Nat):=[(lY,6),(TB,5),(D2,6),(MO,8),(MO,12),(D3,14),(D4,10),(yR,4),(uZ,3),(v2,13),(fM,3),(mC,7),(DA,9),(DB,6),(N0,10),(kD,5),(i7,6),(fV,12),(AC,3),(KU,6),(tB,11),(AD,9),(KY,3),(L3,3),(AL,4),(kN,5),(kO,5),(kQ,5),(kR,5),(kS,5),(kU,5),(iA,5),(kZ,6),(tU,10),(AZ,7),(tY,8),(iG,3),(iI,3),(LK,3),(LP,3),(uU,9),(C5,12),(fV,15),(iD,9),(eZ,9),(eZ,13),(eZ,30)]
def thr:List Nat:=[yQ,v6,mB,v7,v8,yV,fU,i8,kJ,KZ,AJ,L0,tR,tS,fZ,l6,tV,eG,iK,LM,LN,LO,LS,LT,LU,LV,LW,BK,LX,BM,LY,uM,uN,uO,uP,uQ,uR,uS,uT,uU,uW,lL,iO,lM,MH,iP]
def thrAt:List (Nat×Nat):=[(i7,eY),(eY,iI),(D2,MW),(MW,AC),(i8,l5),(kH,fY),(iE,fY),(D1,fM),(tU,BD),(tC,g6),(kL,eZ),(lN,eZ),(kL,AY),(AY,BJ),(lN,BJ),(C1,MJ)]
def thrV:List Nat:=[fZ,eG,tV,MP,MQ,tX,tW]
def rowAt:List (Nat×Nat):=[(l5,7),(g6,26),(g6,34),(AE,7),(g6,9),(g6,28),(eZ,32)]
def thrVAt:List (Nat×Nat):=[]
def rowF:List Nat:=[BG,BH,uW]
def rowFB:List Nat:=[BG,BH,uW]
def appAt:List (Nat×Nat):=[]
def immAt:List (Nat×Nat):=[(AK,26),(uZ,27)]
def slcHL:List Nat:=[]
def browAt:List (Nat×Nat):=[(g6,27),(eZ,31)]
def boxiAt:List (Nat×Nat):=[]
def takeAt:List (Nat×Nat):=[(fV,54),(iD,88)]
def zAt:List (Nat×Nat):=[]
def boxiL:List (Nat×List Nat):=[(Be,[3]),(Bf,[3,5]),(Bg,[3,5]),(Bi,[3]),(XI,[3,5]),(TA,[2]),(lY,[3]),(L5,[3]),(TC,[1]),(LG,[3,4,5]),(TF,[2,3]),(yO,[1]),(uE,[2]),(uG,[2]),(lZ,[4]),(D0,[4]),(yP,[2,3]),(TG,[2,3]),(D3,[5]),(TH,[2]),(TI,[1]),(D4,[3,4]),(MS,[2]),(uZ,[1]),(v2,[4,5,7]),(D5,[8,9]),(v5,[1]),(yU,[5,9]),(D9,[2]),(TJ,[1]),(TK,[4]),(TL,[3,5]),(TM,[2]),(TN,[2,3]),(DA,[3,4]),(TO,[2]),(MX,[3]),(TP,[6]),(DB,[1]),(MZ,[3,4,5]),(gL,[2]),(N0,[2]),(DC,[3,5]),(DE,[3]),(DF,[4]),(hS,[2]),(dP,[2]),(kE,[1]),(hX,[1]),(hZ,[1]),(i6,[1]),(kF,[1]),(kG,[3,5]),(t6,[2]),(t7,[3,5]),(kI,[1]),(KK,[1]),(KL,[1]),(KM,[1]),(KN,[1]),(KO,[1]),(KP,[1]),(KQ,[1]),(tA,[3]),(kK,[2,3]),(KR,[1]),(KS,[2]),(KT,[2,3]),(KV,[4]),(tB,[2]),(KW,[1]),(AD,[4,5]),(KX,[1]),(AG,[2]),(kL,[4,5,6]),(L1,[2]),(AK,[1]),(tC,[4,5]),(L4,[2,3]),(AL,[1]),(i9,[2]),(kN,[2]),(tD,[3]),(tE,[2]),(tG,[1]),(kP,[1]),(tH,[1]),(tI,[1]),(tJ,[1]),(tK,[1]),(kT,[2]),(tL,[1]),(fX,[2]),(kV,[1]),(tM,[1]),(tN,[1]),(iA,[2]),(tO,[3]),(kW,[2]),(kX,[3]),(iB,[2,3]),(kY,[2,3]),(tP,[2]),(l0,[2]),(iE,[5]),(tQ,[5]),(iF,[4,6,7]),(AS,[1]),(L6,[1]),(AU,[2]),(L7,[1]),(L8,[1]),(L9,[1]),(l7,[2]),(LA,[2]),(LB,[4,6,7]),(LC,[3]),(tU,[2]),(g0,[2,3]),(AZ,[3,5]),(tW,[4,5,6]),(LD,[5,6]),(LE,[2,3]),(tX,[2,3]),(tY,[2]),(LF,[2,3]),(tZ,[2,3]),(u2,[2,3]),(lA,[2,3]),(iG,[1]),(u4,[1]),(lB,[1]),(lC,[2,3]),(lD,[2,3]),(u5,[2,3]),(lE,[2]),(u6,[5]),(u7,[3,4]),(u9,[1]),(lF,[2]),(lG,[1]),(iJ,[3,5]),(LH,[2]),(LI,[3,4,5]),(LJ,[2]),(BB,[2]),(BC,[3]),(LL,[3,5]),(BE,[2]),(BF,[2,3]),(uD,[2]),(LQ,[1]),(LR,[2,3]),(iN,[3]),(BL,[2,3]),(LZ,[1]),(M0,[1]),(M1,[2,3]),(M2,[2]),(uH,[2]),(uI,[2,3]),(lH,[3]),(uJ,[3,5]),(lI,[3]),(uK,[2]),(M3,[2,3]),(M4,[4]),(M5,[3]),(M6,[2,3]),(BZ,[2]),(M7,[3]),(M8,[3,4]),(M9,[3,4]),(MA,[4]),(C1,[5]),(lJ,[3]),(MB,[3]),(MC,[2,3]),(MD,[4,5]),(ME,[2,3]),(lK,[2,3]),(C5,[5]),(MF,[1]),(MG,[1]),(lN,[5,6]),(MI,[3]),(lO,[2,3]),(uX,[2,3]),(MK,[2,3]),(ML,[3]),(MM,[2,3]),(MN,[2]),(uY,[3])]
def keepL:List (Nat×List (Nat×List Nat)):=[(PX,[(3,[7,8]),(4,[9,10])]),(XI,[(7,[12,13]),(10,[14,15])]),(MY,[(6,[8,9])]),(sZ,[(1,[4])]),(lX,[(3,[4])]),(lY,[(1,[9])]),(L5,[(19,[15])]),(TD,[(1,[4,5])]),(LG,[(1,[9])]),(yN,[(7,[3]),(8,[4])]),(TE,[(1,[6]),(4,[8])]),(CZ,[(1,[1])]),(yP,[(1,[5])]),(yQ,[(3,[6,7])]),(D2,[(8,[9])]),(D3,[(2,[12,13])]),(D4,[(6,[12]),(9,[14])]),(yR,[(2,[2])]),(MS,[(1,[6])]),(D7,[(2,[2])]),(D8,[(2,[2]),(3,[3])]),(yU,[(6,[13]),(15,[15])]),(v8,[(1,[5])]),(mC,[(4,[9])]),(DA,[(3,[8]),(7,[10])]),(MX,[(1,[7])]),(DB,[(8,[8]),(9,[9]),(16,[11])]),(MZ,[(1,[9]),(4,[11])]),(kD,[(4,[7])]),(hX,[(4,[4])]),(hZ,[(5,[4]),(12,[6])]),(i6,[(4,[4])]),(kG,[(9,[12])]),(i7,[(4,[8]),(7,[10]),(8,[11])]),(fV,[(8,[11]),(12,[14])]),(kH,[(3,[10]),(4,[11])]),(i8,[(1,[3])]),(kI,[(4,[5])]),(tB,[(1,[5]),(6,[8]),(7,[9])]),(AG,[(1,[6])]),(kL,[(1,[9])]),(AJ,[(2,[6])]),(tC,[(5,[13])]),(i9,[(3,[6])]),(kO,[(4,[7])]),(kP,[(9,[4])]),(kQ,[(4,[7])]),(kR,[(4,[7])]),(kS,[(4,[7])]),(kT,[(3,[6]),(7,[7]),(10,[9])]),(kU,[(4,[7])]),(fX,[(3,[6])]),(kV,[(8,[7])]),(iA,[(6,[7])]),(kW,[(6,[7])]),(kZ,[(5,[8])]),(iD,[(6,[7])]),(l0,[(5,[6])]),(fY,[(3,[7])]),(iE,[(3,[7])]),(AS,[(11,[5])]),(AU,[(3,[6])]),(tV,[(3,[5])]),(tW,[(5,[13]),(10,[15])]),(tX,[(3,[5])]),(tY,[(10,[10])]),(iG,[(4,[5])]),(lB,[(7,[4])]),(lC,[(1,[5])]),(lD,[(4,[9])]),(lE,[(1,[6]),(16,[10])]),(iH,[(6,[5])]),(eG,[(3,[6])]),(iI,[(4,[5])]),(iJ,[(5,[8])]),(BB,[(1,[6])]),(BC,[(1,[7])]),(BD,[(1,[3])]),(BE,[(6,[9])]),(BF,[(5,[7])]),(BK,[(1,[3]),(9,[4]),(10,[5]),(12,[6]),(13,[7]),(14,[8])]),(BL,[(6,[8])]),(BM,[(14,[13])]),(uL,[(3,[6])]),(BZ,[(1,[6]),(6,[9])]),(uU,[(12,[11])]),(lN,[(1,[11])]),(lO,[(8,[8])])]
def Lx:List (Nat×List Nat):=[(kE,[1,2,3,4,5]),(hX,[5,6,7]),(hZ,[1,6,7,8,13]),(i6,[5,6,13,14,21,22]),(kF,[2,4,6]),(t8,[2]),(aQ,[1])]
def zAtB (fn:Nat) (d:Option Nat):Bool:=match d with | some t=>zAt.any (fun q=>q.1 == fn&&q.2 == t) | none=>false
def ann:Ann:=
  { pure:=fun fn f d=>zAtB fn d || (!(fH f thr)&& !(thrAt.any fun p=>p.1 == fn&&p.2 == f))
    purev:=fun fn d=> !(fH fn thrV)&& !(match d with | some t=>thrVAt.any (fun q=>q.1 == fn&&q.2 == t) | none=>false),bmode:=fun fn d=>if fH fn rowFB || (match d with | some t=>browAt.any (fun q=>q.1 == fn&&q.2 == t) | none=>false) then .row else .imm,smode:=fun fn d=>match d with | some t=>if immAt.any (fun q=>q.1 == fn&&q.2 == t) then .imm else .row | none=> .row,amode:=fun fn d=>match d with | some t=>if rowAt.any (fun q=>q.1 == fn&&q.2 == t) || (fH fn rowF&& !(appAt.any fun q=>q.1 == fn&&q.2 == t)) then .row else .app | none=> .app
    nilapp:=fun fn d=>match d with | some t=>nilL.any (fun q=>q.1 == fn&&q.2 == t) | none=>false
    slch:=fun fn d=>zAtB fn d || (fH fn slcHL&&(match d with | some t=>t == 13 || t == 31 | none=>false)) || (match d with | some t=>takeAt.any (fun q=>q.1 == fn&&q.2 == t) | none=>false)
    boxi:=fun fn d=>zAtB fn d || match d with | some t=>boxiAt.any (fun q=>q.1 == fn&&q.2 == t) || (match look fn boxiL with | some l=>fH t l | none=>false) | none=>false
    keep:=fun fn id=>(look fn keepL).bind (look id)
    split:=fun fn id=>match look fn Lx with | some l=>fH id l | none=>false }
def Φ:FuncId->Option AFun:=RM tabL tabD tabC tabR
end
end Go.Av
