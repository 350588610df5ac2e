/-
  The compact form of the program's functions, printed by a program.
-/
import Derived.Test.YtknmfocedphgmaaGreatAvD
import Derived.Test.YtknmfocedphgmaaGreatRows
set_option linter.unusedVariables false
set_option linter.unusedSimpArgs false
set_option linter.constructorNameAsVariable false
namespace Go.Av
noncomputable section
abbrev xM (d s:Nat):Xw:=⟨some d,none,.mov (.t s)⟩
abbrev xI (d:Nat) (n:Int):Xw:=⟨some d,none,.mov (.c (.int .i64 n))⟩
abbrev xC (d:Nat) (v:AV):Xw:=⟨some d,none,.mov (.c v)⟩
abbrev xF (d o s:Nat):Xw:=⟨some d,none,.faddr o (.t s)⟩
abbrev xL (d s:Nat):Xw:=⟨some d,none,.load false 1 (.t s)⟩
abbrev xA (d n s:Nat):Xw:=⟨some d,none,.load true n (.t s)⟩
abbrev xX (d z a i:Nat):Xw:=⟨some d,none,.iaddr z none (.t a) (.t i)⟩
abbrev xS (n p v:Nat):Xw:=⟨none,none,.store n (.t p) (.t v)⟩
abbrev xN (d s:Nat):Xw:=⟨some d,none,.len (.t s)⟩
abbrev xE (d i s:Nat):Xw:=⟨some d,none,.ext i (.t s)⟩
abbrev xB (d:Nat) (p:BinOp) (a b:Nat):Xw:=⟨some d,none,.bin p (.t a) (.t b)⟩
abbrev xK (d:Nat) (p:BinOp) (a:Nat) (n:Int):Xw:=⟨some d,none,.bin p (.t a) (.c (.int .i64 n))⟩
abbrev xW (d a b:Nat):Xw:=⟨some d,none,.pick (.t a) (.c (.bool true)) (.t b)⟩
abbrev xV (d a b:Nat):Xw:=⟨some d,none,.pick (.t a) (.t b) (.c (.bool false))⟩
abbrev xJ (d s:Nat):Xw:=⟨some d,none,.boxi (.t s)⟩
abbrev xO (d:Nat) (p:AOp):Xw:=⟨some d,none,p⟩
abbrev xG (d g:Nat) (b:Bool) (p:AOp):Xw:=⟨some d,some (g,b),p⟩
abbrev xR (l:List Xw):Xv:= .region false [] l none
abbrev xD (l:List Xw):Xv:= .region true [] l none
abbrev xQ (l:List Xw) (k:List Nat):Xv:= .region false [] l (some k)
abbrev dQ (a:List Xw) (b:Xv):Xv:= .seq (xR a) b
abbrev kF (a:Nat) (b c:Xv):Xv:= .cond (.t a) b c
abbrev iQ (a b:Nat) (c:AOp):Xw:=xG a b false c
abbrev lK (a:List Xw) (b c:Xv):Xv:= .seq (dQ a b) c
abbrev bO (a:List Xw):Xv:=dQ a .ret
abbrev v9 (a b:Nat) (c:List AX):Xw:=xO a (.pcall b c)
abbrev a8 (a:Int):AV:= .int .i64 a
abbrev T4 (a:Nat) (b:List Xw) (c:Xv):Xv:=kF a (bO b) c
abbrev pI (a:Nat) (b:List Xw):Xv:=T4 a b .skip
abbrev vY (a:Nat) (b c:Xv):Xv:= .seq (.block a b) c
abbrev bC (a:Nat) (b:List AV):Xw:=xO a (.alloc b)
abbrev Ri (a:Bool) (b c:Nat):AOp:= .load a b (.t c)
abbrev DP (a:Nat) (b:Xv):Xv:= .block a (.loop b)
abbrev Rj (a b:Nat):AOp:= .faddr a (.t b)
abbrev vA (a b:List Xw) (c d:Xv):Xv:=dQ a (lK b c d)
abbrev dE (a b:Nat) (c:AOp):Xw:=xG a b true c
abbrev qA:AV:= .bool false
abbrev Rk (a:Nat):AOp:= .mov (.t a)
abbrev yas (a:Nat) (b:Xv) (c:Nat):Xv:=kF a b (.exit c)
abbrev Hp (a:BinOp) (b:Nat) (c:AX):AOp:= .bin a (.t b) c
abbrev Rl (a b:Nat):AOp:=Ri false a b
abbrev Rm (a b:Nat):Xv:=yas a .skip b
abbrev cF:AV:=a8 0
abbrev b9 (a b c:Nat):Xw:=iQ a b (Rk c)
abbrev bL (a b c d:Nat):Xw:=iQ a b (Rj c d)
abbrev oR (a:List Xw) (b c:Xv):Xv:=dQ a (.seq b c)
abbrev ya0 (a b c d:Nat):Xw:=iQ a b (Rl c d)
abbrev SZ (a:Nat):AOp:= .nilchk (.t a)
abbrev bB (a:Nat):Xw:=xI a 0
abbrev d8 (a b:List Xw) (c:Nat) (d:List Xw) (e:Xv):Xv:=vA a b (pI c d) e
abbrev Ho (a:Nat) (b:Xv) (c:List Xw):Xv:=vY a b (xR c)
abbrev mK (a b:Nat) (c:BinOp) (d:Nat) (e:AX):Xw:=iQ a b (Hp c d e)
abbrev ya6 (a:SM) (b c d:Nat) (e:AX):AOp:= .append a b c (.t d) e
abbrev dY (a b:Nat) (c:List AX):Xw:=xO a (.tcall b c)
abbrev H6 (a:List Xw) (b c:Nat) (d:Xv):Xv:=lK a (Rm b c) d
abbrev ya9 (a:AX):AOp:= .un .not a
abbrev LG (a:Nat):AOp:=ya9 (.t a)
abbrev Rn (a:Nat):AOp:= .len (.t a)
abbrev fD (a:List Xw) (b:Xv):Xv:= .seq (xD a) b
abbrev PS (a:List (Nat×Nat)) (b:List Xw) (c:Option (List Nat)):Xv:= .region true a b c
abbrev ybe (a:List Xw) (b c d:Nat) (e:Xv) (f:List Xw):Xv:=H6 a b c (Ho d e f)
abbrev cA (a:Nat):Xw:=xC a qA
abbrev cG (a b:List Xw) (c:Xv):Xv:=dQ a (dQ b c)
abbrev aH (a b:Nat):Xw:=xF a 0 b
abbrev aF (a:Nat):Xw:=xM a 1
abbrev ybj (a b:Nat) (c d:AX):Xw:=v9 a b [c,d]
abbrev BO (a b c:Nat) (d:AX):Xw:=ybj a b (.t c) d
abbrev aS (a b c d:Nat):Xw:=BO a b c (.t d)
abbrev aQ (a b:Nat):Xw:=xF a 1 b
abbrev AY (a b:List Xw) (c:Nat) (d e:Xv):Xv:=vA a b (DP c d) e
abbrev cH (a b c:Nat):Xw:=dE a b (Rk c)
abbrev cK (a b c:Nat):Xw:=iQ a b (Rn c)
abbrev Hr (a:List Xw) (b:List Nat) (c:Xv):Xv:= .seq (xQ a b) c
abbrev jM (a:Int):AX:= .c (a8 a)
abbrev eE (a:Nat) (b c d e:AV):Xw:=bC a [b,c,d,e]
abbrev bY (a b:Nat):Xw:=xO a (LG b)
abbrev cL (a:List Xw) (b:Nat) (c:List Xw):Xv:=dQ a (pI b c)
abbrev bX (a b:Nat):Xw:=xO a (SZ b)
abbrev ybw (a:SM) (b c d e:Nat):AOp:=ya6 a b c d (.t e)
abbrev gC (a:List Xw) (b:Nat) (c d:Xv):Xv:=lK a (DP b c) d
abbrev qB (a:Nat) (b:SM) (c d e f:Nat):Xw:=xO a (ybw b c d e f)
abbrev aJ (a:Nat):Xw:=xM a 0
abbrev Hq (a:Nat) (b:Option Nat) (c:Nat) (d:AX):AOp:= .iaddr a b (.t c) d
abbrev yb1 (a:Nat):AOp:= .box (.t a)
abbrev yb2 (a:List Xw) (b c d:Nat) (e:Xv) (f g h:Xw):Xv:=ybe a b c d e [f,g,h]
abbrev yb3 (a:List Xw) (b c d:Nat) (e:Xv) (f g:Nat) (h i:Xw):Xv:=yb2 a b c d e (xM f g) h i
abbrev yb4 (a:List Xw) (b c d:Nat) (e:Xv) (f g:Nat) (h:Xw) (i j:Nat):Xv:=yb3 a b c d e f g h (xM i j)
abbrev yb5 (a:List Xw) (b c d:Nat) (e:Xv) (f g h:Nat) (i:BinOp) (j:Nat) (k:Int) (l m:Nat):Xv:=yb4 a b c d e f g (xK h i j k) l m
abbrev yb6 (a b c d:Nat):Xw:=dE a b (Rl c d)
abbrev aU (a b c:Nat):Xw:=ya0 a b 1 c
abbrev T5 (a:List Xw) (b c:Nat) (d:Xv):Xv:=oR a (Rm b c) d
abbrev jL (a:List Xw) (b:Nat) (c:List Xw) (d:Xv):Xv:=dQ a (T4 b c d)
abbrev dU (a:List Xw) (b:Nat) (c:List Xw) (d:Xv):Xv:=lK a (pI b c) d
abbrev ycb (a:List Xw) (b c d:Nat) (e:Xv) (f:List Xw):Xv:=T5 a b c (Ho d e f)
abbrev eV (a b c d:Nat):Xw:=dE a b (Rj c d)
abbrev aN (a:Nat):Xw:=xM a 5
abbrev mB (a b:Nat):Xw:=xO a (yb1 b)
abbrev Ht:AV:= .bool true
abbrev cU (a b c d e:Nat):Xw:=qB a .app b c d e
abbrev LH (a:Int):AV:= .int .u32 a
abbrev pJ (a b:Nat) (c:BinOp) (d:Nat) (e:AX):Xw:=dE a b (Hp c d e)
abbrev ycj (a b:Nat) (c:AX):Xw:=v9 a b [c]
abbrev aZ (a b c:Nat):Xw:=ycj a b (.t c)
abbrev eW (a b:List Xw):Xv:=dQ a (bO b)
abbrev aK (a b:Nat):Xw:=xA a 4 b
abbrev eL (a:Nat):Xw:=xJ a 0
abbrev AZ (a:List Xw) (b:Nat) (c:List Xw):Xv:=fD a (pI b c)
abbrev eH (a b:Nat) (c:BinOp) (d e:Nat):Xw:=mK a b c d (.t e)
abbrev oS (a:List (Nat×Nat)) (b:List Xw) (c:Option (List Nat)) (d:Xv):Xv:= .seq (PS a b c) d
abbrev eY (a b:Nat) (c:BinOp) (d:Nat) (e:Int):Xw:=mK a b c d (jM e)
abbrev kG (a:Nat) (b:Xv):Xv:=kF a b .skip
abbrev aM (a b:Nat):Xw:=xA a 2 b
abbrev bM (a b:Nat):Xw:=xS 4 a b
abbrev aO (a:Nat) (b:BinOp) (c:Nat):Xw:=xK a b c 0
abbrev jR (a b:Nat):Xw:=xO a (.nilapp b)
abbrev dF:Xw:=bB 4
abbrev gD (a b:Xw):Xv:=bO [a,b]
abbrev kH (a b:Nat):Xw:=xA a 9 b
abbrev aT (a:Nat):Xw:=xM a 2
abbrev aV (a:Nat):Xw:=xM a 8
abbrev bD (a b:Nat):Xw:=xF a 2 b
abbrev aY (a:Nat):Xw:=xM a 6
abbrev aW (a b c:Nat):Xw:=xX a 1 b c
abbrev DQ (a b:Nat):AOp:=Ri true a b
abbrev Hs (a b:Nat) (c:AX):AOp:=Hq a none b c
abbrev dR:Xw:=eL 2
abbrev cP:Xw:=cA 4
abbrev cQ:Xw:=bB 6
abbrev cM:Xw:=bB 5
abbrev bP (a:Nat):Xw:=xM 4 a
abbrev BP (a b c:Nat):AOp:=Hs a b (.t c)
abbrev bF (a:Nat):Xw:=xM a 7
abbrev dJ (a:Nat) (b:BinOp) (c:Nat):Xw:=xK a b c 1
abbrev cV (a:Nat):Xw:=aH a 3
abbrev oT (a b c:Nat) (d:List AX):Xw:=dE a b (.pcall c d)
abbrev oU (a b c:Nat) (d:List AX):Xw:=iQ a b (.pcall c d)
abbrev fL (a:List Xw) (b:Nat) (c:Xv):Xv:=Hr a [b] c
abbrev bE (a b:Nat):Xw:=xS 1 a b
abbrev ydk (a b:Nat) (c d e:AX):Xw:=v9 a b [c,d,e]
abbrev ydl (a b c:Nat) (d e:AX):Xw:=ydk a b (.t c) d e
abbrev T6 (a b c d:Nat) (e:AX):Xw:=ydl a b c (.t d) e
abbrev fI (a b c d e:Nat):Xw:=T6 a b c d (.t e)
abbrev dB:Xw:=bB 7
abbrev lL (a b:List Xw) (c:Nat) (d:Xw) (e:Xv):Xv:=d8 a b c [d] e
abbrev PT (a:IntKind) (b:Int):AX:= .c (.int a b)
abbrev bQ (a:Nat):Xw:=xM 5 a
abbrev T7:AX:= .c .nilptr
abbrev jU (a b c d:Nat):Xw:=iQ a b (DQ c d)
abbrev cW (a:List Xw) (b c d:Nat) (e:Xv) (f g h:Nat) (i:BinOp) (j k l:Nat):Xv:=yb5 a b c d e f g h i j 1 k l
abbrev bN (a:Nat):Xw:=xM a 9
abbrev jV (a b:List Xw) (c d:Xv):Xv:=AY a b 0 c d
abbrev gX:AX:= .c cF
abbrev ydy (a:List Xw) (b c d:Nat) (e:Xv) (f g:Xw):Xv:=ycb a b c d e [f,g]
abbrev ydz (a:List Xw) (b c d:Nat) (e:Xv) (f:Nat) (g:BinOp) (h:Nat) (i:Xw):Xv:=ydy a b c d e (dJ f g h) i
abbrev mC (a:List Xw) (b c d:Nat) (e:Xv) (f:Nat) (g:BinOp) (h i j:Nat):Xv:=ydz a b c d e f g h (xM i j)
abbrev jS (a b:Xw) (c:Xv):Xv:=dQ [a,b] c
abbrev jN (a:Nat) (b:List Xw) (c:Nat) (d:List Xw) (e f:Xv):Xv:=vY a (jL b c d e) f
abbrev dZ (a b c:Nat):Xw:=yb6 a b 1 c
abbrev jO (a b:List Xw) (c:Xv):Xv:=oR a (xD b) c
abbrev qC (a:Nat) (b c:AV):Xw:=bC a [b,c]
abbrev eI (a:Nat):Xw:=kH a 2
abbrev bS (a b:Nat):Xw:=xE a 0 b
abbrev bT (a b:Nat):Xw:=xE a 1 b
abbrev tK (a:Nat):Xw:=xC a Ht
abbrev bU (a b:Nat):Xw:=xF a 3 b
abbrev yeb (a b:Nat) (c d e f:AX):Xw:=v9 a b [c,d,e,f]
abbrev yec (a b c:Nat) (d e f:AX):Xw:=yeb a b (.t c) d e f
abbrev yed (a b c d:Nat) (e f:AX):Xw:=yec a b c (.t d) e f
abbrev Rp (a b c d e:Nat) (f:AX):Xw:=yed a b c d (.t e) f
abbrev eM (a:Nat):Xw:=aQ a 3
abbrev tL (a:Nat):Xw:=xC a .nilptr
abbrev jP (a b:List Xw) (c:Nat) (d:Xw) (e:List Xw) (f:Nat) (g h:Xv):Xv:=lL a b c d (gC e f g h)
abbrev eZ (a b c:Nat):Xw:=bL a b 1 c
abbrev PU (a:Nat) (b c d:AV):Xw:=eE a b cF c d
abbrev iT (a b c d e f:Nat):Xw:=Rp a b c d e (.t f)
abbrev mD (a:Nat) (b:Int):Xw:=xC a (LH b)
abbrev cD (a:Nat):Xw:=xM 8 a
abbrev oW (a b c d e:Nat):Xw:=iQ a b (BP c d e)
abbrev f9 (a b:Nat):Xw:=xS 2 a b
abbrev cE (a:Nat):Xw:=xM 6 a
abbrev cO (a:Nat):Xw:=xM 7 a
abbrev mE (a:Nat):Xw:=xJ a 1
abbrev dV (a:Int):Xw:=xI 4 a
abbrev T8 (a:Bool) (b:Nat) (c:AX):AOp:= .eqn a (.t b) c
abbrev mL:Xw:=mE 3
abbrev vC (a:IntKind) (b:Nat):AOp:= .conv a (.t b)
abbrev LI (a:Nat) (b c:AV):Xw:=PU a cF b c
abbrev mF (a:Xw):Xv:=bO [a]
abbrev tN (a:Nat):Xv:=mF (tK a)
abbrev cJ (a b:Nat):Xw:=xA a 6 b
abbrev cN (a b:Nat):Xw:=xF a 4 b
abbrev H7 (a:Nat) (b:AV):Xw:=qC a b cF
abbrev gE (a:Nat):Xw:=aQ a 2
abbrev lM:Xw:=eL 3
abbrev iS (a:List Xw) (b c d:Nat) (e:List Xw) (f:Nat) (g:Xv) (h:Nat) (i:BinOp) (j k l:Nat):Xv:=mC a b c d (fL e f g) h i j k l
abbrev vB (a b c:Nat):Xw:=iQ a b (LG c)
abbrev Ro (a:Xw) (b:Nat):Xv:=gD a (bP b)
abbrev fM (a:Nat):Xw:=aQ a 1
abbrev dG (a:Nat):Xw:=xM 9 a
abbrev oV (a b:Nat) (c:BinOp) (d e:Nat):Xw:=pJ a b c d (.t e)
abbrev iF:Xw:=bB 9
abbrev yfb (a:Nat) (b:AX):AOp:=T8 false a b
abbrev iG (a:List Xw) (b c d:Nat) (e:List Xw) (f:Nat) (g:List Xw) (h i j:Nat) (k:BinOp) (l m n:Nat):Xv:=cW a b c d (AZ e f g) h i j k l m n
abbrev gH (a:Nat):Xw:=kH a 3
abbrev vE (a b:Nat):Xv:=Ro (aN a) b
abbrev dC (a b:Nat):Xw:=xS 6 a b
abbrev qD (a:Nat) (b:BinOp) (c:Nat) (d:AX):Xw:=xO a (Hp b c d)
abbrev BS (a:Int):AX:=PT .u8 a
abbrev dS (a b:Nat):Xw:=xF a 5 b
abbrev yfj (a:Nat) (b:AV):Xw:=LI a cF b
abbrev oY (a:Nat):Xw:=yfj a cF
abbrev gY (a:Nat):Xw:=bM 6 a
abbrev gZ (a:Nat):Xw:=aH a 5
abbrev vF (a:Int):AX:= .c (LH a)
abbrev qE (a b:List Xw) (c:Nat) (d:Xw) (e:List Xw):Xv:=lL a b c d (bO e)
abbrev qF (a:List (Nat×Nat)) (b:List Xw) (c:Option (List Nat)):Xv:=oS a b c .ret
abbrev eJ (a:Nat):Xw:=xM a 3
abbrev mG (a b c:Xw) (d:Xv):Xv:=dQ [a,b,c] d
abbrev eK (a b:Nat):Xw:=xA a 3 b
abbrev kI:Xw:=bB 8
abbrev B1:Xw:=dV (-1)
abbrev Hu (a:Nat) (b:List AX):AOp:= .pcallv (.t a) b
abbrev jY (a b:Nat):Xw:=b9 a b 1
abbrev hO (a:Xw) (b:Xv):Xv:=dQ [a] b
abbrev dW (a b c:Nat):Xw:=xX a 5 b c
abbrev B2 (a b c:Nat):Xw:=dE a b (Rn c)
abbrev fO (a:List Xw) (b:Xw) (c d:Xv):Xv:=jV a [b] c d
abbrev jQ (a:Nat):Xw:=bD a 3
abbrev jW (a:Nat):Xw:=f9 4 a
abbrev jX (a:Nat):Xw:=bM 8 a
abbrev mN (a:Nat):Xw:=mB a 0
abbrev Rq (a:Nat):AOp:=yfb a T7
abbrev BR (a b:Nat):Xw:=xO a (Rq b)
abbrev vD (a:Nat):Xw:=H7 a cF
abbrev yf8 (a b:Nat) (c d:AX):Xw:=dY a b [c,d]
abbrev yf9 (a b c:Nat) (d:AX):Xw:=yf8 a b (.t c) d
abbrev mH (a b c d:Nat):Xw:=yf9 a b c (.t d)
abbrev tO (a:Xw) (b c:Nat) (d:Xv):Xv:=jS a (xM b c) d
abbrev DR (a b c:Nat):Xw:=iQ a b (SZ c)
abbrev vZ (a b:List Xw) (c:Nat) (d e:Xv):Xv:=vA a b (kG c d) e
abbrev vG (a:List Xw) (b:List (Nat×Nat)) (c:List Xw) (d:Option (List Nat)) (e:Xv):Xv:=oR a (PS b c d) e
abbrev lN (a:Nat):Xw:=aH a 1
abbrev kJ (a:Nat):Xw:=kH a 4
abbrev B3:Xw:=aJ 6
abbrev w6:Xw:=aF 8
abbrev w7 (a:Xw):Xv:=gD dF a
def TC:Nat:=3
def TD:Nat:=6
def MS:Nat:=7
def JX:Nat:=8
def JY:Nat:=9
def dX:Nat:=10
def yK:Nat:=11
def uE:Nat:=12
def TB:Nat:=13
def uF:Nat:=14
def CA:Nat:=15
def CB:Nat:=16
def CC:Nat:=17
def CD:Nat:=18
def iZ:Nat:=21
def lQ:Nat:=22
def CE:Nat:=23
def lR:Nat:=26
def uG:Nat:=28
def k9:Nat:=29
def zS:Nat:=30
def CF:Nat:=31
def CG:Nat:=32
def CH:Nat:=33
def A2:Nat:=34
def CI:Nat:=35
def lS:Nat:=36
def oE:Nat:=37
def lT:Nat:=38
def CJ:Nat:=39
def uH:Nat:=40
def oF:Nat:=41
def CK:Nat:=42
def jC:Nat:=43
def uI:Nat:=44
def oG:Nat:=45
def pO:Nat:=46
def oH:Nat:=47
def HT:Nat:=48
def A8:Nat:=49
def CL:Nat:=50
def i7:Nat:=51
def uJ:Nat:=52
def HU:Nat:=53
def CM:Nat:=54
def HV:Nat:=55
def HW:Nat:=56
def uK:Nat:=57
def MR:Nat:=58
def TE:Nat:=60
def jD:Nat:=64
def uL:Nat:=65
def pP:Nat:=66
def CN:Nat:=67
def HX:Nat:=68
def CO:Nat:=69
def HY:Nat:=70
def MT:Nat:=72
def CP:Nat:=80
def HZ:Nat:=81
def I0:Nat:=82
def CQ:Nat:=83
def CR:Nat:=84
def A9:Nat:=85
def CS:Nat:=86
def I1:Nat:=87
def uM:Nat:=88
def I2:Nat:=89
def AA:Nat:=90
def I3:Nat:=91
def I4:Nat:=92
def CT:Nat:=93
def i8:Nat:=94
def pQ:Nat:=95
def I5:Nat:=96
def I6:Nat:=97
def pR:Nat:=98
def I7:Nat:=99
def rF:Nat:=100
def yH:Nat:=101
def yI:Nat:=102
def yJ:Nat:=103
def n7:Nat:=104
def rG:Nat:=105
def n8:Nat:=106
def rH:Nat:=107
def rI:Nat:=108
def rJ:Nat:=109
def eR:Nat:=113
def rK:Nat:=114
def gP:Nat:=115
def yL:Nat:=116
def MC:Nat:=120
def G3:Nat:=121
def MD:Nat:=122
def ME:Nat:=123
def MF:Nat:=124
def MG:Nat:=125
def MH:Nat:=126
def rL:Nat:=127
def kP:Nat:=128
def iW:Nat:=129
def n9:Nat:=130
def nA:Nat:=131
def yM:Nat:=132
def gQ:Nat:=133
def nB:Nat:=134
def iX:Nat:=135
def kQ:Nat:=136
def rM:Nat:=137
def kR:Nat:=138
def rN:Nat:=146
def nC:Nat:=147
def rO:Nat:=148
def iY:Nat:=149
def nD:Nat:=150
def nE:Nat:=151
def kS:Nat:=152
def nF:Nat:=153
def rP:Nat:=154
def yN:Nat:=155
def yO:Nat:=156
def kT:Nat:=157
def yP:Nat:=158
def rQ:Nat:=159
def yQ:Nat:=160
def MI:Nat:=164
def MJ:Nat:=168
def MK:Nat:=171
def ML:Nat:=174
def MM:Nat:=177
def rR:Nat:=179
def rS:Nat:=183
def yR:Nat:=184
def yS:Nat:=185
def rT:Nat:=186
def nG:Nat:=187
def rU:Nat:=188
def kU:Nat:=189
def nH:Nat:=190
def cC:Nat:=191
def nI:Nat:=192
def rV:Nat:=193
def rW:Nat:=194
def rX:Nat:=195
def yT:Nat:=196
def rY:Nat:=197
def dM:Nat:=198
def yU:Nat:=199
def yV:Nat:=200
def yW:Nat:=201
def MN:Nat:=203
def nJ:Nat:=204
def nK:Nat:=205
def yX:Nat:=206
def j9:Nat:=210
def rZ:Nat:=211
def yY:Nat:=212
def sA:Nat:=214
def yZ:Nat:=215
def zA:Nat:=216
def nL:Nat:=217
def sB:Nat:=218
def nM:Nat:=219
def kV:Nat:=220
def kW:Nat:=221
def nN:Nat:=222
def kX:Nat:=223
def gR:Nat:=224
def sD:Nat:=225
def fT:Nat:=226
def zB:Nat:=227
def zC:Nat:=228
def MO:Nat:=230
def zD:Nat:=235
def zE:Nat:=236
def G4:Nat:=240
def sE:Nat:=245
def sF:Nat:=246
def nO:Nat:=247
def zF:Nat:=248
def nP:Nat:=249
def jA:Nat:=250
def sG:Nat:=251
def nQ:Nat:=252
def sH:Nat:=253
def sJ:Nat:=254
def zG:Nat:=255
def sK:Nat:=257
def MP:Nat:=258
def zH:Nat:=260
def zI:Nat:=264
def gS:Nat:=265
def zJ:Nat:=266
def sL:Nat:=267
def sN:Nat:=268
def zK:Nat:=269
def kY:Nat:=270
def sO:Nat:=271
def zL:Nat:=272
def zM:Nat:=275
def zN:Nat:=276
def MQ:Nat:=280
def sP:Nat:=282
def zO:Nat:=283
def zP:Nat:=284
def kZ:Nat:=285
def l6:Nat:=286
def zQ:Nat:=287
def nR:Nat:=288
def nS:Nat:=289
def l7:Nat:=290
def nT:Nat:=291
def sQ:Nat:=292
def sS:Nat:=293
def zR:Nat:=294
def sT:Nat:=295
def nU:Nat:=296
def sU:Nat:=297
def sV:Nat:=298
def sW:Nat:=299
def zT:Nat:=300
def nV:Nat:=301
def zU:Nat:=302
def zV:Nat:=313
def zW:Nat:=314
def zX:Nat:=315
def fV:Nat:=316
def sX:Nat:=317
def zY:Nat:=327
def zZ:Nat:=328
def nW:Nat:=329
def sY:Nat:=330
def A1:Nat:=336
def sZ:Nat:=337
def l8:Nat:=338
def nX:Nat:=339
def A3:Nat:=340
def t5:Nat:=341
def l9:Nat:=342
def t6:Nat:=343
def lA:Nat:=344
def t7:Nat:=345
def lB:Nat:=346
def lC:Nat:=347
def lD:Nat:=348
def nY:Nat:=349
def jB:Nat:=350
def t8:Nat:=351
def nZ:Nat:=352
def oC:Nat:=353
def lE:Nat:=354
def A4:Nat:=357
def lF:Nat:=358
def t9:Nat:=359
def A5:Nat:=360
def tA:Nat:=362
def tB:Nat:=364
def lG:Nat:=365
def A6:Nat:=366
def A7:Nat:=367
def oD:Nat:=368
def tC:Nat:=372
abbrev a9:AV:= .Xu 1 []
abbrev fH:List AV:=[.int .i64 0,.int .i64 0,.int .i64 0,.int .i64 0]
abbrev d7:List AV:=[.Xu 1 [],.Xu 5 [],.Xu 2 [],.Xu 4 [],.Xu 9 [],.Xu 4 []]
abbrev OP:Xv:=vZ [bD 6 2,xL 7 6,bF 5] [cV 8,xL 9 8,aO 10 .geq 9] 10 (dU [cV 11,xL 12 11,gE 13,xL 14 13,xN 15 14,xB 16 .geq 12 15] 16 [dF] (xR [gE 17,xL 18 17,cV 19,xL 20 19,xX 21 2 18 20,aQ 22 21,xL 23 22,bQ 23])) (dU [cV 24,xL 25 24,xK 26 .lss 25 (-1),xM 27 26,eZ 28 27 3,aU 29 27 28,mK 30 27 .lss 29 gX,xW 31 27 30,xM 32 31,eZ 33 32 3,aU 34 32 33,b9 35 32 5,cK 36 32 35,eH 37 32 .geq 34 36,xW 38 32 37,xM 39 38,b9 40 39 5,eZ 41 39 3,aU 42 39 41,oW 43 39 2 40 42,eZ 44 39 43,aU 45 39 44,eY 46 39 .lss 45 1,xW 47 39 46,xM 48 47,b9 49 48 5,eZ 50 48 3,aU 51 48 50,oW 52 48 2 49 51,eZ 53 48 52,aU 54 48 53,eY 55 48 .gtr 54 32,xW 56 48 55] 56 [dF] (bO [aN 57,eM 58,xL 59 58,xX 60 2 57 59,aQ 61 60,xL 62 61,bP 62]))
abbrev gK:List AV:=[.Xu 1 [],.Xu 1 [],.Xu 2 [],.Xu 1 []]
abbrev jJ:List AV:=[.int .i64 0,.Xu 2 [],.int .i64 0,.int .i64 0,.Xu 1 []]
abbrev AM:List AV:=[.int .i64 0,.int .i64 0,.Xu 1 [],.Xu 3 [],.bool false,.int .i64 0,.int .i64 0,.Xu 3 [],.Xu 2 []]
abbrev oO:List AV:=[.Xu 1 [],.Xu 1 [],.Xu 1 [],.Xu 1 [],.Xu 1 [],.Xu 3 []]
abbrev kC:List (List AV):=List.replicate 1 [.int .i64 0]
abbrev OQ:List Xw:=[cV 5,xL 6 5,aO 7 .geq 6,bF 8,eV 9 8 0 3,dZ 10 8 9,eV 11 8 0 2,dZ 12 8 11,B2 13 8 12,oV 14 8 .lss 10 13,xV 15 8 14,xM 16 15,eV 17 16 1 3,dZ 18 16 17,pJ 19 16 .geq 18 gX,xV 20 16 19,xM 21 20,eV 22 21 1 3,dZ 23 21 22,eV 24 21 0 2,dZ 25 21 24,eV 26 21 0 3,dZ 27 21 26,dE 28 21 (BP 1 25 27),dZ 29 21 28,oV 30 21 .lss 23 29,xV 31 21 30,bP 31]
abbrev lW:List AV:=[.int .i64 0,.int .i64 0]
abbrev bA:AV:= .Xu 2 []
abbrev jK:List AV:=[.Xu 1 [],.Xu 5 [],.Xu 2 []]
abbrev lX:List AV:=[.int .i64 0,.int .i64 0,.int .i64 0]
abbrev DA:List AV:=[.str [],.Xu 2 [],.Xu 2 [],.Xu 3 [],.Xu 3 [],.Xu 6 [],.Xu 7 [],.Xu 5 [],.Xu 1 [],.Xu 2 []]
abbrev lY:List AV:=[cF,.Xu 2 [],cF,cF,.Xu 1 []]
abbrev OR:List Xw:=[aJ 3,qD 4 .geq 3 (BS 97),bQ 4,cH 6 5 0,pJ 7 5 .leq 6 (BS 122),xV 8 5 7,aV 9,b9 10 9 0,mK 11 9 .geq 10 (BS 65),b9 12 9 11,cH 13 12 0,pJ 14 12 .leq 13 (BS 90),iQ 15 9 (.pick (.t 12) (.t 14) (.c qA)),xW 16 9 15,xM 2 16]
abbrev AN:List AV:=[cF,cF,.Xu 1 [],.Xu 3 [],qA,cF,cF,.Xu 3 [],.Xu 2 []]
abbrev uX:List AV:=[.bool false,.int .i64 0,.Xu 1 [],.Xu 3 []]
abbrev uY:List Xw:=[aN 11,aJ 12,xN 13 12,xB 14 .lss 11 13]
abbrev J2:List Xw:=[aF 5,aO 6 .lss 5,aY 7,jY 8 7,bL 9 7 4 2,aU 10 7 9,cK 11 7 10,eH 12 7 .geq 8 11,xW 13 7 12]
abbrev uZ:List Xw:=[B3,xN 7 6,w6,xN 9 8,xB 10 .neq 7 9]
abbrev gL:AOp:= .build fH []
abbrev J3:List AV:=[.str [],.Xu 2 [],.Xu 2 [],.Xu 3 [],.Xu 3 [],.Xu 6 [],.Xu 7 [],.Xu 5 [],.Xu 1 []]
abbrev gM:List ARes:=[.tmp 4,.tmp 5]
abbrev kD:AX:= .c (.bool true)
abbrev lZ:AX:= .c (.bool false)
abbrev DB:List AV:=[.str [],.Xu 3 [],.Xu 1 [],cF,.Xu 1 [],cF]
abbrev DC:List AV:=[.int .i64 0,.int .i64 0,.Xu 3 [],.Xu 2 []]
abbrev pY:List AV:=[.int .i64 0,.Xu 1 []]
abbrev OS:List Xw:=[aJ 11,BR 12 11,xM 13 12,b9 14 13 0,DR 15 13 14,bL 16 13 14 15,aU 17 13 16,vB 18 13 17,xW 19 13 18,xM 10 19]
abbrev OT:List Xw:=[aF 9,aO 10 .lss 9,xM 11 10,jY 12 11,eZ 13 11 3,aU 14 11 13,cK 15 11 14,eH 16 11 .geq 12 15,xW 17 11 16]
abbrev oP:AOp:= .build lW []
abbrev kE:AV:= .Xu 3 []
abbrev gN:List AV:=[.Xu 1 []]
abbrev OU:Xv:=eW [aQ 21 8,xL 22 21,aF 23,aT 24,dW 25 22 23,cN 26 25,bE 26 24] [eK 27 8,xS 3 6 27,dB]
abbrev v5:List Xw:=[aJ 8,xN 9 8,bB 10]
abbrev OV:List Xw:=[aY 11,dS 12 2,xL 13 12,aF 14,xX 15 6 13 14,aQ 16 15,xL 17 16,xN 18 17,xB 19 .lss 11 18]
abbrev OW:List Xw:=[aJ 17,aN 18,aW 19 17 18,xL 20 19,aF 21,aN 22,aW 23 21 22,xL 24 23,xB 25 .neq 20 24]
abbrev OX:List Xw:=[aF 6,aO 7 .lss 6,bF 8,jY 9 8,b9 10 8 0,cK 11 8 10,eH 12 8 .geq 9 11,xW 13 8 12]
abbrev DE:List ARes:=[.cell 4 true 2,.tmp 5,.tmp 6]
abbrev OY:List Xw:=[aJ 3,BR 4 3,bQ 4,b9 6 5 0,DR 7 5 6,bL 8 5 14 7,aU 9 5 8,vB 10 5 9,xW 11 5 10]
abbrev OZ:List Xw:=[aJ 3,qD 4 .geq 3 (BS 48),bQ 4,cH 6 5 0,pJ 7 5 .leq 6 (BS 57),xV 8 5 7,aV 2]
abbrev DF:List (List AV):=List.replicate 1 [.Xu 5 []]
abbrev oQ:List Xw:=[dR,mL,dF]
abbrev AQ:AX:= .c (.int .i64 (-1))
abbrev v6:List Xw:=[xB 11 .lss 10 9]
abbrev J4:List AV:=[cF,cF,cF,cF,cF,.Xu 3 [],.Xu 3 []]
abbrev P0:List Xw:=[dS 12 2,xL 13 12,aF 14,xX 15 6 13 14,aQ 16 15,xL 17 16,xN 18 17,bB 19]
abbrev P1:List Xw:=[aJ 3,dJ 4 .geq 3,bQ 4,cH 6 5 0,pJ 7 5 .leq 6 (jM 32),xV 8 5 7,aV 2]
abbrev P2:Xv:=cL [aJ 21,aF 22,mH 23 nY 21 22,bY 24 23,xM 20 24] 20 [cQ,xI 7 8]
abbrev v7:List ARes:=[.cell 2 true 4]
abbrev v8:AOp:=Hu 15 [.t 16]
abbrev AR:List Xw:=[mN 2,mB 3 1,cP]
abbrev mA:AV:= .Xu 4 []
abbrev AS:AX:= .c (.int .i64 1)
abbrev J5:List Xw:=[aN 6,aJ 7,xN 8 7,xB 9 .lss 6 8]
abbrev DG:List ARes:=[.cell 4 true 4,.tmp 5]
abbrev P3:List AV:=[.Xu 1 [],.Xu 5 [],.Xu 2 [],.Xu 4 [],.Xu 9 [],.Xu 4 [],.nilfunc]
abbrev DH:AOp:=Hq 1 (some 2) 5 gX
abbrev J6:AX:= .c (.func (.func lD) [] [])
abbrev P4:Xv:=xR [aN 12,xO 13 (.bin .mul (PT .u64 2) (.t 12)),bQ 13]
abbrev pZ:Xw:=xC 4 a9
abbrev P5:List Xw:=[lM,mE 4,eE 6 a9 a9 bA a9,xC 7 a9,kI,iF]
abbrev P6:List Xw:=[xX 21 3 17 19,eK 22 21,bC 7 [cF,cF,cF],xS 3 7 22]
abbrev DI:List Xw:=[dR,mL,dF,cA 5]
abbrev P7:Xv:=bO [aJ 15,aF 16,xX 17 2 15 16,aM 18 17,jW 18]
abbrev J7:List AV:=[.str [],.Xu 2 [],.Xu 7 []]
abbrev J8:AOp:=Hq 1 (some 2) 5 (jM 1)
abbrev AU:AV:= .int .i64 0
abbrev iE:AX:= .c AU
abbrev P8:List Xw:=[dW 28 24 26,xA 29 5 28,bC 8 lY,xS 5 8 29]
abbrev J9:List Xw:=[bF 15,aO 16 .neq 15]
abbrev DJ:List Xw:=[lM,xJ 5 2,cQ]
abbrev DK:AOp:= .build gK []
abbrev JA:List ARes:=[.cell 8 true 4,.tmp 9]
abbrev P9:List AV:=[.str [],.Xu 1 [],qA,cF,cF,.Xu 3 [],cF]
abbrev JB:List AV:=[.Xu 1 [],.int .i64 0]
abbrev DL:List ARes:=[.tmp 6,.tmp 7]
abbrev PA:List Xw:=[xO 18 (.build jK []),xS 3 6 18,xI 7 8]
abbrev JC:List AV:=[cF,cF,cF,cF,qA]
abbrev JD:List Xw:=[aY 21,bP 21,tK 5]
abbrev PB:List Xw:=[eI 8,aF 9,aS 10 sE 8 9,bY 11 10]
abbrev PD:List ARes:=[.cell 6 true 4,.tmp 7,.tmp 8,.tmp 9]
abbrev PE:List Xw:=[lM,mE 4,eE 6 a9 a9 a9 a9]
abbrev JE:List AV:=[.Xu 4 [],.Xu 1 []]
abbrev PF:List Xw:=[eI 7,w6,aS 9 sB 7 8,bY 10 9]
abbrev PG:Xv:=bO [aY 13,aO 14 .eql 13,bP 14]
abbrev PH:List AV:=[cF,cF,.Xu 3 [],.Xu 5 [],.Xu 5 []]
abbrev DM:AV:= .int .u64 1
abbrev PI:AOp:= .bslice .imm 1 kC [(0,(.t 27))]
abbrev PJ:AOp:= .bslice .imm 1 kC [(0,(.t 34))]
abbrev AW:AV:= .Xu 5 []
abbrev JF:List Xw:=[xB 21 .lss 20 19]
abbrev PK:AOp:= .bslice .imm 1 kC [(0,(.t 5))]
abbrev PL:List Xw:=[aJ 3,dY 4 jC [.t 3],bY 5 4]
abbrev PM:List Xw:=[lN 17,xL 18 17,xN 19 18,bB 20]
abbrev PN:List Xw:=[B3,aF 7,mH 8 oG 6 7,aV 5]
abbrev JG:List Xw:=[dR,mL,dF,cM]
abbrev PO:List Xw:=[B3,dY 7 jC [.t 6],bY 8 7]
abbrev PP:List ARes:=[.cell 6 true 4,.cell 7 true 4]
abbrev JH:AOp:= .build d7 []
abbrev JI:List ARes:=[.cell 2 true 3]
abbrev JJ:List ARes:=[.cell 2 true 2]
abbrev JK:List ARes:=[.cell 6 true 4]
abbrev DN:List Xw:=[lM,cA 6]
abbrev DO:Xw:=xC 4 kE
abbrev PQ:AOp:= .build gK [(1,1,(.t 15))]
abbrev PR:Xv:=gD (xA 11 7 1) (xS 7 2 11)
def Q9:AFn:=⟨3,[.tmp 6],d8 DN [eK 11 3,aF 12,aT 13,fI 14 MS 11 12 13] 14 [v9 15 JX [],cE 15] (oR [eK 17 3,aF 18,dY 19 JY [.t 17,.t 18,.c (.func (.func dX) [] [])],xM 16 19,bS 20 16,bT 21 16,cO 20,cD 21] (xQ [eK 23 3,aF 24,aS 25 yK 23 24,xM 22 25,bS 26 22,bT 27 22,bC 9 d7,dC 9 26,xM 10 27] [9]) (dU [aV 28,xM 29 10,xB 30 .neq 28 29,xM 31 30,b9 32 31 7,iQ 33 31 (Rq 32),b9 34 31 10,mK 35 31 .neq 34 gX,iQ 36 31 (.eqs true false [.b] (.t 33) (.t 35)),xW 37 31 36] 37 [cA 6] (bO [bF 38,BR 39 38,xM 40 39,b9 41 40 7,jU 42 40 6 9,b9 43 40 2,iQ 44 40 (.tcall uE [.t 41,.t 42,.t 43,.c qA]),xW 45 40 44,xM 46 45,oT 47 46 JX [],xV 48 46 47,cE 48])))⟩
def c_6_l0:Xv:=cW [xM 50 11,xO 51 DH,xL 52 51,xN 53 52,xB 54 .lss 50 53,xM 55 54,cH 56 55 7,dE 57 55 (T8 true 56 T7),xV 58 55 57] 58 0 1 (dQ [bF 62,xO 63 DH,xL 64 63,xM 65 11,xX 66 6 64 65,cJ 67 66,mH 68 uF 62 67,xM 61 68,bS 69 61,bT 70 61,xE 71 2 61,xE 72 3 61,cO 69] (xD [cJ 74 9,xO 75 DH,xL 76 75,xM 77 11,xX 78 6 76 77,cJ 79 78,T6 80 iZ 74 79 (.c qA),xM 73 80,bS 81 73,bT 82 73,xE 83 2 73,xE 84 3 73,dC 9 81])) 59 11 60 .add 59 11 60
def c_6_k1:Xv:=dU [bF 85,BR 86 85] 86 [cA 6] (eW [bF 87,dY 88 lQ [.t 87],xM 12 88] [xM 89 12,xO 90 (T8 true 89 T7),xM 91 90,cH 92 91 12,dE 93 91 (DQ 6 9),dE 94 91 J8,dZ 95 91 94,dE 96 91 (.tcall uE [.t 92,.t 93,.t 95,.c qA]),xV 97 91 96,xM 98 97,cH 99 98 7,dE 100 98 (DQ 6 9),oT 101 98 CE [.t 99,.t 100],xV 102 98 101,xM 103 102,cH 104 103 7,dE 105 103 (DQ 6 9),dE 106 103 J8,dZ 107 103 106,dE 108 103 (.tcall uE [.t 104,.t 105,.t 107,.c qA]),xV 109 103 108,xM 110 109,oT 111 110 JX [],xV 112 110 111,cE 112])
def M2:AFn:=⟨3,[.tmp 6],d8 [lM,xJ 5 2,cA 6] [eK 13 3,aF 14,xO 15 DH,xL 16 15,fI 17 MS 13 14 16,xM 18 17,jU 19 18 3 3,jY 20 18,iQ 21 18 J8,aU 22 18 21,oU 23 18 MS [.t 19,.t 20,.t 22],xW 24 18 23] 24 [v9 25 JX [],cE 25] (dQ [eK 27 3,aF 28,dY 29 JY [.t 27,.t 28,.c (.func (.func dX) [] [])],xM 26 29,bS 30 26,bT 31 26,cO 30,cD 31] (d8 [eK 33 3,aF 34,aS 35 yK 33 34,xM 32 35,bS 36 32,bT 37 32,bC 9 d7,dC 9 36,xM 10 37] [aV 38,aO 39 .neq 38,xM 40 39,b9 41 40 10,mK 42 40 .neq 41 gX,xW 43 40 42] 43 [aV 44,xM 45 10,xB 46 .eql 44 45,xM 47 46,oT 48 47 JX [],xV 49 47 48,cE 49] (gC [bB 11] 0 c_6_l0 c_6_k1)))⟩
def c_7_l0:Xv:=cW [bN 43,aF 44,aV 45,xX 46 4 44 45,aH 47 46,xL 48 47,xN 49 48,xB 50 .lss 43 49] 50 2 3 (xR [bF 53,aF 54,aV 55,xX 56 4 54 55,aH 57 56,xL 58 57,bN 59,aW 60 58 59,xL 61 60,xN 62 61,xB 63 .add 53 62,cO 63]) 51 9 52 .add 51 9 52
def c_7_k1:Xv:=xR [aV 41,dJ 42 .add 41,cD 42]
def c_7_l2:Xv:=H6 [aV 37,aF 38,xN 39 38,xB 40 .lss 37 39] 40 0 (vY 1 (hO iF (DP 2 c_7_l0)) c_7_k1)
def c_7_l3:Xv:=cW [xM 64 10,aT 65,xN 66 65,xB 67 .lss 64 66] 67 4 5 (cL [aT 70,xM 71 10,xX 72 6 70 71,bU 73 72,xL 74 73,xN 75 74,xK 76 .gtr 75 600,xM 77 76,b9 78 77 2,b9 79 77 10,oW 80 77 6 78 79,bL 81 77 4 80,eZ 82 77 81,aU 83 77 82,cK 84 77 83,eY 85 77 .gtr 84 70,xW 86 77 85] 86 [tK 6]) 68 10 69 .add 68 10 69
def c_7_k4:Xv:=bO [bF 87,xK 88 .gtr 87 100,cE 88]
def c_7_k5:Xv:=gC [bB 10] 4 c_7_l3 c_7_k4
def HJ:AFn:=⟨3,[.tmp 6],lL DN [cV 11,xL 12 11,xN 13 12,xK 14 .gtr 13 20,xM 15 14,eZ 16 15 3,aU 17 15 16,cK 18 15 17,eY 19 15 .gtr 18 40,xW 20 15 19,xM 21 20,bL 22 21 2 3,aU 23 21 22,cK 24 21 23,eY 25 21 .gtr 24 20,xW 26 21 25,xM 27 26,jY 28 27,cK 29 27 28,eY 30 27 .gtr 29 20,xW 31 27 30,xM 32 31,b9 33 32 2,cK 34 32 33,eY 35 32 .gtr 34 40,xW 36 32 35] 36 (tK 6) (fO [dB] kI c_7_l2 c_7_k5)⟩
def c_9_l0:Xv:=iS [xB 32 .lss 31 30] 32 0 1 [xX 33 4 29 31,aK 34 33,eE 11 a9 a9 bA a9,bM 11 34] 11 (cG [kH 35 9,aK 36 11,aS 37 CI 35 36,xM 12 37] [xM 38 12,aO 39 .neq 38] (pI 39 [xM 40 12,tL 6,cO 40])) 41 .add 31 31 41
def c_9_k1:Xv:=bO [eK 42 3,aZ 43 lS 42,aF 44,dY 45 oE [.t 44],xO 46 (.build d7 [(0,3,(.t 43)),(3,1,(.t 45))]),aT 47,xO 48 (.build P3 [(0,6,(.t 46)),(6,1,(.t 47))]),mB 49 48,cE 49,dB]
def QE:AFn:=⟨3,DL,vA [lM,tL 6,dB] [eK 13 3,aZ 14 CH 13,cD 14] (cL [aV 15,aO 16 .neq 15] 16 [aV 17,tL 6,cO 17]) (dU [aT 18,xO 19 (.eqs false false [] (.t 18) (.c (.nilfunc))),xM 20 19,jY 21 20,cK 22 20 21,bL 23 20 0 3,aU 24 20 23,cK 25 20 24,eH 26 20 .neq 22 25,xW 27 20 26] 27 [tL 6,xI 7 2] (fL [v9 28 A2 [],bC 9 J3,xS 9 9 28] 9 (gC [aF 29,xN 30 29,bB 31] 0 c_9_l0 c_9_k1)))⟩
def HD:AFn:=⟨2,[.cell 4 true 4,.cell 5 true 4],jO [dR,mL,PU 4 qA a9 kE,eE 5 a9 a9 bA a9] [v9 6 lR [],aK 7 2,aM 8 3,fI 9 lT 6 7 8,bS 10 9,bT 11 9,bM 4 10,bM 5 11] .ret⟩
def c_11_l0:Xv:=cW [bF 21,aF 22,xN 23 22,xB 24 .lss 21 23] 24 0 1 (fD [v9 27 lR [],aF 28,bF 29,xX 30 4 28 29,aK 31 30,aS 32 uH 27 31,cE 32] (cL [aY 33,aO 34 .neq 33] 34 [xO 35 JH,aY 36,dC 4 35,bQ 36])) 25 7 26 .add 25 7 26
def c_11_k1:Xv:=qF [(0,3)] [⟨some 37,none,.load true 3 (.t 2)⟩,⟨some 38,none,.bslice .imm 4 [] []⟩,⟨some 39,none,.mov (.t 1)⟩,⟨some 40,none,.append .app 4 96 (.t 38) (.t 39)⟩,⟨some 41,none,.build d7 [(0,3,(.t 37)),(3,1,(.t 40))]⟩,⟨none,none,.store 6 (.t 4) (.t 41)⟩,⟨some 5,none,.mov iE⟩] none
def wF:AFn:=⟨2,[.cell 4 true 6,.tmp 5],mG dR (bC 4 d7) cM (d8 [eK 8 2,aZ 9 CJ 8,bN 6] [aY 10,aO 11 .neq 10] 11 [xO 12 JH,aY 13,dC 4 12,bQ 13] (dU [aF 14,xN 15 14,aH 16 2,xL 17 16,xN 18 17,xB 19 .neq 15 18] 19 [xO 20 JH,dC 4 20,xI 5 2] (gC [dB] 0 c_11_l0 c_11_k1)))⟩
def c_12_l0:Xv:=cW [bN 18,aT 19,xN 20 19,xB 21 .lss 18 20] 21 0 1 (fL [aJ 25,aT 26,bN 27,xX 28 6 26 27,cJ 29 28,mH 30 uF 25 29,xM 24 30,bS 31 24,bT 32 24,xE 33 2 24,xE 34 3 24,oY 12,xM 10 31,xM 11 32,bM 12 33,xM 13 34] 12 (oS [(0,12),(4,12),(6,12),(0,13),(4,13),(6,13),(12,13)] [⟨some 36,none,.load true 6 (.t 5)⟩,⟨some 37,none,.mov (.t 2)⟩,⟨some 38,none,.mov (.t 9)⟩,⟨some 39,none,.iaddr 6 none (.t 37) (.t 38)⟩,⟨some 40,none,.load true 6 (.t 39)⟩,⟨some 41,none,.mov (.t 3)⟩,⟨some 42,none,.pcall iZ [.t 36,.t 40,.t 41]⟩,⟨some 35,none,.mov (.t 42)⟩,⟨some 43,none,.ext 0 (.t 35)⟩,⟨some 44,none,.ext 1 (.t 35)⟩,⟨some 45,none,.ext 2 (.t 35)⟩,⟨some 46,none,.ext 3 (.t 35)⟩,⟨some 14,none,.alloc d7⟩,⟨some 16,none,.alloc fH⟩,⟨none,none,.store 6 (.t 14) (.t 43)⟩,⟨some 15,none,.mov (.t 44)⟩,⟨none,none,.store 4 (.t 16) (.t 45)⟩,⟨some 17,none,.mov (.t 46)⟩] (some [14,16]) (fD [xM 47 10,cJ 48 14,xM 0 47,dC 5 48] (cL [aJ 49,BR 50 49,xM 51 50,b9 52 51 11,b9 53 51 15,eH 54 51 .neq 52 53,xW 55 51 54,xM 56 55,jU 57 56 4 12,jU 58 56 4 16,iQ 59 56 (.eqs true true [.i,.i,.i,.i] (.t 57) (.t 58)),xW 60 56 59,xM 61 60,b9 62 61 13,b9 63 61 17,eH 64 61 .neq 62 63,xW 65 61 64] 65 [cA 8])))) 22 9 23 .add 22 9 23
def c_12_k1:Xv:=bO [aJ 66,cJ 67 5,aS 68 CE 66 67,cD 68]
def LS:AFn:=⟨4,[.tmp 8],fO [mB 5 1,cA 8] iF c_12_l0 c_12_k1⟩
def tU:AFn:=⟨2,[.tmp 4,.tmp 5,.cell 6 true 4,.tmp 7],vA [mL,tL 4,cM,oY 6,dB] [cV 12,xL 13 12] (.block 0 (tO (aO 15 .eql 13) 14 15 (kF 14 (eW [aJ 17,eM 18,xL 19 18,bU 20 3,xL 21 20,dY 22 uG [.t 17,.t 19,.t 21],xM 16 22,bS 23 16,bT 24 16,cD 23,dG 24] [aJ 25,aV 26,xO 27 gL,bN 28,bP 25,bQ 26,gY 27,cO 28]) (tO (dJ 30 .eql 13) 29 30 (kF 29 (fL [aJ 32,eM 33,xL 34 33,mH 35 k9 32 34,xM 31 35,bS 36 31,bT 37 31,oY 10,bM 10 36,xM 11 37] 10 (fD [aJ 38,aK 39 10,xM 40 11,bP 38,cM,gY 39,cO 40] .ret)) (jL [xK 42 .eql 13 2,xM 41 42] 41 [aJ 43,xO 44 gL,aJ 45,eM 46,xL 47 46,jQ 48,xL 49 48,cN 50 3,aM 51 50,dY 52 oF [.t 45,.t 47,.t 49,.t 51],bP 43,cM,gY 44,cO 52] (cL [xK 54 .eql 13 3,xM 53 54] 53 [aJ 55,xO 56 gL,aJ 57,eM 58,xL 59 58,jQ 60,xL 61 60,dJ 62 .eql 61,dY 63 CK [.t 57,.t 59,.t 62],bP 55,cM,gY 56,cO 63]))))))) (bO [aJ 64,dY 65 lQ [.t 64],xO 66 gL,bP 65,cM,gY 66,dB])⟩
def BW:AFn:=⟨1,[.tmp 2],qE [xC 2 mA] PL 5 (xC 2 mA) [B3,bX 7 6,aH 8 7,dS 9 8,xL 10 9,aZ 11 uI 10,xM 2 11]⟩
def tV:AFn:=⟨2,[.tmp 4],hO DO (qE PN [aN 9,BR 10 9] 10 DO [aN 11,bX 12 11,bU 13 12,xL 14 13,aZ 15 pO 14,bP 15])⟩
def tW:AFn:=⟨2,DG,jS (LI 4 kE bA) (cA 5) (d8 [aJ 8,aF 9,mH 10 oG 8 9,cE 10] [aY 11,BR 12 11,xM 13 12,b9 14 13 6,DR 15 13 14,bL 16 13 4 15,aU 17 13 16,vB 18 13 17,xW 19 13 18] 19 [xO 20 (.build DC []),bM 4 20,cA 5] (cG [aY 21,bX 22 21,dS 23 22,aK 24 23,LI 7 kE bA,bM 7 24] [aY 25,bX 26 25,bU 27 26,xL 28 27,aZ 29 pO 28,bD 30 7,bE 30 29] (bO [aK 31 7,bM 4 31,tK 5])))⟩
def tX:AFn:=⟨2,DE,mG (vD 4) (xC 5 a9) (cA 6) (d8 [aJ 8,aF 9,mH 10 oG 8 9,cO 10] [bF 11,BR 12 11,xM 13 12,b9 14 13 7,DR 15 13 14,bL 16 13 4 15,aU 17 13 16,xW 18 13 17] 18 [xO 19 oP,jW 19,xC 5 a9,cA 6] (fD [bF 20,bX 21 20,aH 22 21,aM 23 22,bF 24,bX 25 24,bD 26 25,xL 27 26,aZ 28 oH 27,jW 23,bQ 28,tK 6] .ret))⟩
def pL:AFn:=⟨3,[.cell 6 true 6,.tmp 7,.cell 8 true 4,.tmp 9],vA [lM,mE 4,bC 6 d7,dB,oY 8,iF] [aH 26 4,xL 27 26] (.block 0 (tO (aO 29 .eql 27) 28 29 (kF 28 (fL [cJ 31 3,aQ 32 4,xL 33 32,bU 34 4,xL 35 34,fI 36 HT 31 33 35,xM 30 36,bS 37 30,bT 38 30,xE 39 2 30,bC 10 d7,dC 10 37,xM 11 38,xM 12 39] 10 (bO [cJ 40 10,xM 41 11,xO 42 gL,xM 43 12,dC 6 40,cO 41,jX 42,dG 43])) (tO (dJ 45 .eql 27) 44 45 (kF 44 (vZ [cJ 46 3,aQ 47 4,xL 48 47,aS 49 A8 46 48,xM 13 49] [aT 50,bY 51 50,xM 52 51,b9 53 52 13,mK 54 52 .neq 53 gX,xW 55 52 54] 55 (Hr [cJ 57 3,aQ 58 4,xL 59 58,aS 60 CL 57 59,xM 56 60,bS 61 56,bT 62 56,xE 63 2 56,bC 14 d7,oY 15,dC 14 61,bM 15 62,xM 16 63] [14,15] (qF [(1,3)] [⟨some 64,none,.load true 6 (.t 14)⟩,⟨some 65,none,.load true 4 (.t 15)⟩,⟨some 66,none,.mov (.t 16)⟩,⟨none,none,.store 6 (.t 6) (.t 64)⟩,⟨some 7,none,.mov iE⟩,⟨none,none,.store 4 (.t 8) (.t 65)⟩,⟨some 9,none,.mov (.t 66)⟩] none)) (fL [cN 67 3,xL 68 67,aQ 69 4,xL 70 69,xX 71 9 68 70,kH 72 71,bC 17 AN,xS 9 17 72] 17 (oS [(1,17),(4,17),(6,17),(9,17),(11,17),(13,17),(1,18),(4,18),(6,18),(9,18),(11,18),(13,18),(17,18)] [⟨some 74,none,.faddr 3 (.t 3)⟩,⟨some 75,none,.load false 1 (.t 74)⟩,⟨some 76,none,.faddr 0 (.t 17)⟩,⟨some 77,none,.faddr 0 (.t 76)⟩,⟨some 78,none,.load false 1 (.t 77)⟩,⟨some 79,none,.iaddr 4 none (.t 75) (.t 78)⟩,⟨some 80,none,.load true 4 (.t 79)⟩,⟨some 81,none,.faddr 0 (.t 17)⟩,⟨some 82,none,.faddr 1 (.t 81)⟩,⟨some 83,none,.load false 1 (.t 82)⟩,⟨some 84,none,.faddr 2 (.t 17)⟩,⟨some 85,none,.load false 1 (.t 84)⟩,⟨some 86,none,.build pY [(0,1,(.t 83)),(1,1,(.t 85))]⟩,⟨some 87,none,.pcall TB [.t 80,.t 86]⟩,⟨some 73,none,.mov (.t 87)⟩,⟨some 88,none,.ext 0 (.t 73)⟩,⟨some 89,none,.ext 1 (.t 73)⟩,⟨some 18,none,.alloc uX⟩,⟨some 19,none,.alloc gK⟩,⟨none,none,.store 4 (.t 18) (.t 88)⟩,⟨none,none,.store 4 (.t 19) (.t 89)⟩] (some [18,19]) (Hr [cJ 91 3,aQ 92 4,xL 93 92,aK 94 18,aK 95 19,iT 96 i7 91 93 94 95,xM 90 96,bS 97 90,bT 98 90,bC 20 d7,oY 21,dC 20 97,bM 21 98] [20,21] (qF [(1,2)] [⟨some 99,none,.load true 6 (.t 20)⟩,⟨some 100,none,.load true 4 (.t 21)⟩,⟨none,none,.store 6 (.t 6) (.t 99)⟩,⟨some 7,none,.mov iE⟩,⟨none,none,.store 4 (.t 8) (.t 100)⟩,⟨some 9,none,.mov iE⟩] none))))) (tO (xK 102 .eql 27 2) 101 102 (kF 101 (fL [cJ 104 3,aQ 105 4,xL 106 105,bD 107 4,xL 108 107,cN 109 4,aM 110 109,iT 111 uJ 104 106 108 110,xM 103 111,bS 112 103,bT 113 103,bC 22 d7,dC 22 112,xM 23 113] 22 (bO [cJ 114 22,xO 115 gL,xM 116 23,dC 6 114,dB,jX 115,dG 116])) (tO (xK 118 .eql 27 3) 117 118 (kG 117 (fL [cJ 120 3,aQ 121 4,xL 122 121,bD 123 4,xL 124 123,dJ 125 .eql 124,fI 126 HU 120 122 125,xM 119 126,bS 127 119,bT 128 119,bC 24 d7,dC 24 127,xM 25 128] 24 (bO [cJ 129 24,xO 130 gL,xM 131 25,dC 6 129,dB,jX 130,dG 131]))))))))))) (bO [cJ 132 3,xO 133 gL,dC 6 132,dB,jX 133,iF])⟩
def c_22_l0:Xv:=mC [xB 41 .lss 40 39] 41 0 1 (jO [xX 42 9 38 40,kH 43 42,bC 5 AN,xS 9 5 43] [bD 44 5,xL 45 44,aZ 46 oH 45,bU 47 5,xL 48 47,dY 49 pO [.t 48],bD 50 5,bE 50 46,bU 51 5,bE 51 49] (PS [(5,7)] [⟨some 52,none,.mov (.t 3)⟩,⟨some 53,none,.mov (.t 3)⟩,⟨some 54,none,.nilchk (.t 53)⟩,⟨some 55,none,.faddr 0 (.t 54)⟩,⟨some 56,none,.faddr 4 (.t 55)⟩,⟨some 57,none,.load false 1 (.t 56)⟩,⟨some 58,none,.load true 9 (.t 5)⟩,⟨some 59,none,.bslice .row 9 (List.replicate 1 AM) [(0,(.t 58))]⟩,⟨some 60,none,.append .row 9 136 (.t 57) (.t 59)⟩,⟨some 61,none,.nilchk (.t 52)⟩,⟨some 62,none,.faddr 0 (.t 61)⟩,⟨some 63,none,.faddr 4 (.t 62)⟩,⟨none,none,.store 1 (.t 63) (.t 60)⟩] none)) 64 .add 40 40 64
def c_22_k1:Xv:=gD (eJ 65) (xM 2 65)
def LT:AFn:=⟨1,[.tmp 2],lL [tL 2] PO 8 (tL 2) (oS [(11,16),(11,22),(17,22)] [⟨some 9,none,.mov (.t 0)⟩,⟨some 10,none,.nilchk (.t 9)⟩,⟨some 11,none,.faddr 0 (.t 10)⟩,⟨some 12,none,.faddr 0 (.t 11)⟩,⟨some 13,none,.load true 3 (.t 12)⟩,⟨some 14,none,.pcall lS [.t 13]⟩,⟨some 15,none,.mov (.t 0)⟩,⟨some 16,none,.nilchk (.t 15)⟩,⟨some 17,none,.faddr 0 (.t 16)⟩,⟨some 18,none,.faddr 3 (.t 17)⟩,⟨some 19,none,.load false 1 (.t 18)⟩,⟨some 20,none,.tcall oE [.t 19]⟩,⟨some 21,none,.mov (.t 0)⟩,⟨some 22,none,.nilchk (.t 21)⟩,⟨some 23,none,.faddr 0 (.t 22)⟩,⟨some 24,none,.faddr 5 (.t 23)⟩,⟨some 25,none,.load false 1 (.t 24)⟩,⟨some 26,none,.tcall uI [.t 25]⟩,⟨some 27,none,.build d7 [(0,3,(.t 14)),(3,1,(.t 20)),(5,1,(.t 26))]⟩,⟨some 28,none,.mov (.t 0)⟩,⟨some 29,none,.nilchk (.t 28)⟩,⟨some 30,none,.faddr 6 (.t 29)⟩,⟨some 31,none,.load false 1 (.t 30)⟩,⟨some 32,none,.build P3 [(0,6,(.t 27)),(6,1,(.t 31))]⟩,⟨some 33,none,.box (.t 32)⟩,⟨some 3,none,.mov (.t 33)⟩] none (gC [aJ 34,bX 35 34,aH 36 35,cN 37 36,xL 38 37,xN 39 38,bB 40] 0 c_22_l0 c_22_k1))⟩
def c_23_l0:Xv:=iG [aV 38,aN 39,xN 40 39,xB 41 .lss 38 40] 41 0 1 [aN 44,aV 45,aW 46 44 45,xL 47 46,bF 48,aV 49,aW 50 48 49,xL 51 50,xB 52 .neq 47 51] 52 [cP] 42 8 43 .add 42 8 43
def c_23_l1:Xv:=iG [bN 53,aY 54,xN 55 54,xB 56 .lss 53 55] 56 2 3 [aY 59,bN 60,xX 61 4 59 60,aK 62 61,bU 63 3,xL 64 63,bN 65,xX 66 4 64 65,aK 67 66,aS 68 HW 62 67,bY 69 68] 69 [cP] 57 9 58 .add 57 9 58
def c_23_l2:Xv:=cW [xM 70 10,cN 71 3,xL 72 71,xN 73 72,xB 74 .leq 70 73] 74 4 5 (cL [aJ 77,cJ 78 3,xM 79 10,fI 80 uK 77 78 79,bY 81 80] 81 [cP]) 75 10 76 .add 75 10 76
def c_23_k3:Xv:=tN 4
def c_23_k4:Xv:=gC [xI 10 (-1)] 4 c_23_l2 c_23_k3
def c_23_k5:Xv:=gC [iF] 2 c_23_l1 c_23_k4
def LU:AFn:=⟨2,[.tmp 4],vG [mL,cP] [(1,4),(3,4)] [⟨some 11,none,.mov (.t 0)⟩,⟨some 12,none,.tcall zS [.t 11]⟩,⟨some 13,none,.mov (.t 0)⟩,⟨some 14,none,.tcall CG [.t 13]⟩,⟨some 15,none,.load true 6 (.t 3)⟩,⟨some 16,none,.pcall CM [.t 15]⟩,⟨some 5,none,.mov (.t 12)⟩,⟨some 6,none,.mov (.t 14)⟩,⟨some 7,none,.mov (.t 16)⟩] none (.seq (oS [(1,3)] [⟨some 17,none,.mov (.t 0)⟩,⟨some 18,none,.tcall CA [.t 17]⟩,⟨some 19,none,.faddr 5 (.t 3)⟩,⟨some 20,none,.load false 1 (.t 19)⟩,⟨some 21,none,.pcall HV [.t 18,.t 20]⟩,⟨some 22,none,.un .not (.t 21)⟩,⟨some 23,none,.mov (.t 22)⟩,⟨some 24,some (23,false),.mov (.t 5)⟩,⟨some 25,some (23,false),.len (.t 24)⟩,⟨some 26,some (23,false),.mov (.t 7)⟩,⟨some 27,some (23,false),.len (.t 26)⟩,⟨some 28,some (23,false),.bin .neq (.t 25) (.t 27)⟩,⟨some 29,none,.pick (.t 23) kD (.t 28)⟩,⟨some 30,none,.mov (.t 29)⟩,⟨some 31,some (30,false),.mov (.t 6)⟩,⟨some 32,some (30,false),.len (.t 31)⟩,⟨some 33,some (30,false),.faddr 3 (.t 3)⟩,⟨some 34,some (30,false),.load false 1 (.t 33)⟩,⟨some 35,some (30,false),.len (.t 34)⟩,⟨some 36,some (30,false),.bin .neq (.t 32) (.t 35)⟩,⟨some 37,none,.pick (.t 30) kD (.t 36)⟩] none (pI 37 [cP])) (gC [kI] 0 c_23_l0 c_23_k5))⟩
def tY:AFn:=⟨3,DL,jS cQ dB (jN 0 [aJ 10,dY 11 jC [.t 10],bY 12 11,dG 12] 9 [cQ,xI 7 1] (jL [aF 14,aO 15 .lss 14,xM 16 15,jY 17 16,b9 18 16 0,DR 19 16 18,bL 20 16 0 19,bL 21 16 0 20,bL 22 16 2 21,aU 23 16 22,cK 24 16 23,eH 25 16 .geq 17 24,xW 26 16 25,xM 13 26] 13 [cQ,xI 7 8] (jL [aT 28,xN 29 28,xK 30 .gtr 29 512,xM 27 30] 27 [cQ,xI 7 4] (cL [aJ 32,bX 33 32,aH 34 33,cN 35 34,xL 36 35,xN 37 36,xK 38 .geq 37 4096,xM 31 38] 31 [cQ,xI 7 12]))) (vG [aJ 39,bX 40 39,aH 41 40,cN 42 41,xL 43 42,xN 44 43,cD 44] [(5,18)] [⟨some 45,none,.mov (.t 0)⟩,⟨some 46,none,.mov (.t 0)⟩,⟨some 47,none,.nilchk (.t 46)⟩,⟨some 48,none,.faddr 0 (.t 47)⟩,⟨some 49,none,.faddr 4 (.t 48)⟩,⟨some 50,none,.load false 1 (.t 49)⟩,⟨some 51,none,.mov (.t 0)⟩,⟨some 52,none,.nilchk (.t 51)⟩,⟨some 53,none,.faddr 0 (.t 52)⟩,⟨some 54,none,.faddr 0 (.t 53)⟩,⟨some 55,none,.faddr 2 (.t 54)⟩,⟨some 56,none,.load false 1 (.t 55)⟩,⟨some 57,none,.mov (.t 1)⟩,⟨some 58,none,.iaddr 2 none (.t 56) (.t 57)⟩,⟨some 59,none,.load true 2 (.t 58)⟩,⟨some 60,none,.mov (.t 2)⟩,⟨some 61,none,.pcall oH [.t 60]⟩,⟨some 62,none,.build AM [(0,2,(.t 59)),(2,1,(.t 61))]⟩,⟨some 63,none,.bslice .row 9 (List.replicate 1 AM) [(0,(.t 62))]⟩,⟨some 64,none,.append .row 9 136 (.t 50) (.t 63)⟩,⟨some 65,none,.nilchk (.t 45)⟩,⟨some 66,none,.faddr 0 (.t 65)⟩,⟨some 67,none,.faddr 4 (.t 66)⟩,⟨none,none,.store 1 (.t 67) (.t 64)⟩] none (eW [aJ 68,bX 69 68,aH 70 69,aV 71,aF 72,dY 73 jD [.t 70,jM 1,.t 71,.t 72,gX]] [aV 74,cE 74,dB])))⟩
def cY:AFn:=⟨2,DG,jS (oY 4) cM (jN 0 [aJ 19,dY 20 jC [.t 19],bY 21 20,xM 18 21] 18 [xO 22 gL,bM 4 22,xI 5 1] (jL [aF 24,aO 25 .lss 24,xM 26 25,jY 27 26,b9 28 26 0,DR 29 26 28,bL 30 26 0 29,bL 31 26 4 30,aU 32 26 31,cK 33 26 32,eH 34 26 .geq 27 33,xW 35 26 34,xM 23 35] 23 [xO 36 gL,bM 4 36,xI 5 8] (cL [aJ 38,bX 39 38,aH 40 39,cN 41 40,xL 42 41,aF 43,xX 44 9 42 43,cN 45 44,xL 46 45,xM 37 46] 37 [xO 47 gL,bM 4 47,xI 5 25])) (fD [aJ 48,bX 49 48,aH 50 49,cN 51 50,xL 52 51,aF 53,xX 54 9 52 53,aJ 55,bX 56 55,aH 57 56,xO 58 (.mkfunc (.func jD) [.t 57] []),cE 54,cO 58] (fD [aY 59,bX 60 59,aH 61 60,aH 62 61,xL 63 62,aY 64,bX 65 64,aH 66 65,aQ 67 66,xL 68 67,cD 63,dG 68] (oS [(3,24),(8,24),(11,24),(12,24),(17,24),(18,24),(20,24),(3,25),(8,25),(11,25),(12,25),(17,25),(18,25),(20,25),(24,25)] [⟨some 70,none,.mov (.t 0)⟩,⟨some 71,none,.nilchk (.t 70)⟩,⟨some 72,none,.faddr 6 (.t 71)⟩,⟨some 73,none,.load false 1 (.t 72)⟩,⟨some 74,none,.mov (.t 0)⟩,⟨some 75,none,.nilchk (.t 74)⟩,⟨some 76,none,.faddr 0 (.t 75)⟩,⟨some 77,none,.faddr 3 (.t 76)⟩,⟨some 78,none,.load false 1 (.t 77)⟩,⟨some 79,none,.mov (.t 8)⟩,⟨some 80,none,.iaddr 4 none (.t 78) (.t 79)⟩,⟨some 81,none,.load true 4 (.t 80)⟩,⟨some 82,none,.pcall uL [.t 81]⟩,⟨some 83,none,.mov (.t 9)⟩,⟨some 84,none,.mov (.t 6)⟩,⟨some 85,none,.nilchk (.t 84)⟩,⟨some 86,none,.faddr 2 (.t 85)⟩,⟨some 87,none,.load false 1 (.t 86)⟩,⟨some 88,none,.pcall oH [.t 87]⟩,⟨some 89,none,.build pY [(0,1,(.t 83)),(1,1,(.t 88))]⟩,⟨some 90,none,.pcallv (.t 73) [.t 82,.t 89]⟩,⟨some 69,none,.mov (.t 90)⟩,⟨some 91,none,.ext 0 (.t 69)⟩,⟨some 92,none,.ext 1 (.t 69)⟩,⟨some 10,none,.alloc uX⟩,⟨some 11,none,.alloc gK⟩,⟨none,none,.store 4 (.t 10) (.t 91)⟩,⟨none,none,.store 4 (.t 11) (.t 92)⟩] (some [10,11]) (fD [aJ 93,bX 94 93,aH 95 94,bU 96 95,xL 97 96,aV 98,aK 99 11,aZ 100 uL 99,xX 101 4 97 98,bM 101 100] (lK [aH 102 10,xL 103 102] (kG 103 (cG [aY 104,aY 105,bX 106 105,bU 107 106,xL 108 107,aV 109,bN 110,xO 111 (.build lX [(0,1,(.t 109)),(1,1,(.t 110)),(2,1,AQ)]),xO 112 (.bslice .imm 3 (List.replicate 1 lX) [(0,(.t 111))]),cU 113 3 24 108 112,bX 114 104,bU 115 114,bE 115 113] [aY 116,aV 117,dY 118 pP [.t 116,jM 2,.t 117]] (bO [bF 119,aF 120,aV 121,xO 122 (.tcallv (.t 119) [jM 2,.t 120,.t 121,jM (-1)]),bM 4 122,cM]))) (fD [aY 123,aY 124,bX 125 124,bU 126 125,xL 127 126,aV 128,bN 129,aQ 130 10,xL 131 130,xO 132 (.build lX [(0,1,(.t 128)),(1,1,(.t 129)),(2,1,(.t 131))]),xO 133 (.bslice .imm 3 (List.replicate 1 lX) [(0,(.t 132))]),cU 134 3 24 127 133,bX 135 123,bU 136 135,bE 136 134] (oR [aY 137,bD 138 10,xL 139 138,aZ 140 oH 139,bX 141 137,bD 142 141,bE 142 140] (xQ [bF 143,aF 144,aV 145,aQ 146 10,xL 147 146,xO 148 (.tcallv (.t 143) [jM 2,.t 144,.t 145,.t 147]),oY 12,bM 12 148] [12]) (fL [aV 149,aQ 150 10,xL 151 150,xO 152 (.build lW [(0,1,(.t 149)),(1,1,(.t 151))]),vD 13,f9 13 152] 13 (.seq (fD [aJ 154,bX 155 154,aH 156 155,aH 157 156,eK 158 157,aM 159 13,aS 160 CN 158 159,xM 153 160,bS 161 153,bT 162 153,xM 14 161,xM 15 162] (hO (xM 163 15) (kG 163 (eW [aY 164,xM 165 14,dY 166 pP [.t 164,jM 1,.t 165]] [bF 167,aF 168,xM 169 14,xO 170 (.tcallv (.t 167) [jM 3,.t 168,.t 169,gX]),bM 4 170,cM])))) (oS [(4,10),(5,10),(6,10)] [⟨some 172,none,.mov (.t 0)⟩,⟨some 173,none,.nilchk (.t 172)⟩,⟨some 174,none,.faddr 0 (.t 173)⟩,⟨some 175,none,.faddr 0 (.t 174)⟩,⟨some 176,none,.load true 3 (.t 175)⟩,⟨some 177,none,.load true 2 (.t 13)⟩,⟨some 178,none,.pcall HX [.t 176,.t 177]⟩,⟨some 171,none,.mov (.t 178)⟩,⟨some 179,none,.ext 0 (.t 171)⟩,⟨some 180,none,.ext 1 (.t 171)⟩,⟨some 16,none,.alloc lW⟩,⟨none,none,.store 2 (.t 16) (.t 179)⟩,⟨some 17,none,.mov (.t 180)⟩] (some [16]) (lK [xM 181 17,aO 182 .neq 181] (kG 182 (eW [aY 183,aV 184,dY 185 pP [.t 183,jM 3,.t 184]] [bF 186,aF 187,aV 188,aQ 189 10,xL 190 189,xO 191 (.tcallv (.t 186) [jM 4,.t 187,.t 188,.t 190]),bM 4 191,cM])) (eW [aY 192,aM 193 16,bX 194 192,aH 195 194,f9 195 193] [aK 196 12,bM 4 196,cM])))))))))))))⟩
def c_30_l0:Xv:=iS [xB 16 .lss 15 14] 16 0 1 [xM 17 15,xX 18 9 13 15,kH 19 18,bC 5 AN,bP 17,xS 9 5 19] 5 (mG (cN 20 5) (xL 21 20) (bY 22 21) (kG 22 (xR [eJ 23,xM 24 4,xO 25 (.bslice .imm 1 kC [(0,(.t 24))]),cU 26 1 8 23 25,xM 3 26]))) 27 .add 15 15 27
def c_30_k1:Xv:=gD (eJ 28) (xM 2 28)
def LV:AFn:=⟨1,[.tmp 2],lL [xC 2 a9] PO 8 (xC 2 a9) (jV [jR 3 1] [aJ 9,bX 10 9,aH 11 10,cN 12 11,xL 13 12,xN 14 13,bB 15] c_30_l0 c_30_k1)⟩
def tZ:AFn:=⟨2,[.tmp 4],hO pZ (qE PN [aN 9,BR 10 9] 10 pZ [aN 11,bX 12 11,bD 13 12,xL 14 13,aZ 15 oH 14,bP 15])⟩
def BZ:AFn:=⟨1,[.tmp 2],qE [xC 2 mA] PL 5 (xC 2 mA) [B3,bX 7 6,aH 8 7,bU 9 8,xL 10 9,dY 11 oE [.t 10],xM 2 11]⟩
def c_33_l0:Xv:=mC [xB 38 .lss 37 36] 38 0 1 (cG [aW 39 35 37,xL 40 39,bP 40] [xM 41 4,dJ 42 .lss 41,xM 43 42,b9 44 43 4,eY 45 43 .gtr 44 16,xW 46 43 45] (pI 46 [xI 2 9])) 47 .add 37 37 47
def c_33_l1:Xv:=iS [xB 53 .lss 52 51] 53 2 3 [xX 54 2 50 52,aM 55 54,vD 7,f9 7 55] 7 (cL [eK 56 1,aM 57 7,aS 58 HY 56 57,bY 59 58] 59 [xI 2 9]) 60 .add 52 52 60
def c_33_l2:Xv:=iS [xB 73 .lss 72 71] 73 6 7 [xX 74 2 70 72,aM 75 74,vD 11,f9 11 75] 11 (cL [aM 76 9,aM 77 11,xO 78 (.eqs false true [.i,.i] (.t 76) (.t 77))] 78 [xI 2 7]) 79 .add 72 72 79
def c_33_k3:Xv:=xR [dJ 80 .add 63,xM 63 80]
def c_33_l4:Xv:=T5 [xB 64 .lss 63 62] 64 4 (vY 5 (fL [xM 65 63,xX 66 2 61 63,aM 67 66,vD 9,cD 65,f9 9 67] 9 (dQ [aN 68,aV 69,xO 70 (.slc 2 (.t 68) none (some (.t 69)) none),xN 71 70,bB 72] (DP 6 c_33_l2))) c_33_k3)
def c_33_l5:Xv:=iS [xB 85 .lss 84 83] 85 8 9 [dW 86 82 84,xA 87 5 86,bC 13 JC,xS 5 13 87] 13 (cL [aH 88 13,aH 89 88,xL 90 89,bD 91 13,aH 92 91,xL 93 92,xB 94 .eql 90 93] 94 [xI 2 2]) 95 .add 84 84 95
def c_33_k6:Xv:=mF (bB 2)
def c_33_k7:Xv:=gC [fM 81,xL 82 81,xN 83 82,bB 84] 8 c_33_l5 c_33_k6
def c_33_k8:Xv:=gC [aN 61,xN 62 61,bB 63] 4 c_33_l4 c_33_k7
def c_33_k9:Xv:=AY [eK 48 1,aZ 49 CO 48,bQ 49] [aN 50,xN 51 50,bB 52] 2 c_33_l1 c_33_k8
def LW:AFn:=⟨1,[.tmp 2],lL [eL 1,bB 2] [lN 14,xL 15 14,xN 16 15,aO 17 .eql 16] 17 (xI 2 8) (dU [lN 18,xL 19 18,xN 20 19,xK 21 .gtr 20 16,xM 22 21,eZ 23 22 1,aU 24 22 23,cK 25 22 24,eY 26 22 .gtr 25 32,xW 27 22 26,xM 28 27,bL 29 28 2 1,aU 30 28 29,cK 31 28 30,eY 32 28 .gtr 31 16,xW 33 28 32] 33 [xI 2 12] (gC [lN 34,xL 35 34,xN 36 35,bB 37] 0 c_33_l0 c_33_k9))⟩
def c_35_l0:Xv:=mC [xB 40 .lss 39 38] 40 0 1 (jO [xM 41 39,cO 41] [eI 42,bF 43,cV 44,xL 45 44,bF 46,aW 47 45 46,xL 48 47,eM 49,xL 50 49,bF 51,aW 52 50 51,xL 53 52,jQ 54,xL 55 54,bF 56,xX 57 2 55 56,aM 58 57,v9 59 HZ [.t 42,.t 43,.t 48,.t 53,.t 58],cD 59] (cL [aV 60,aO 61 .neq 60] 61 [aV 62,bP 62])) 63 .add 39 39 63
def c_35_k1:Xv:=bO [eI 64,bU 65 3,xL 66 65,aS 67 I0 64 66,bP 67]
def u7:AFn:=⟨2,[.tmp 4],oR oQ (fL [eI 9,aZ 10 CP 9,oY 5,bM 5 10] 5 (cL [gZ 11,xL 12 11,aO 13 .neq 12] 13 [gZ 14,xL 15 14,bP 15])) (jP [dS 16 2,xL 17 16,xN 18 17,cE 18] [cV 19,xL 20 19,xN 21 20,aY 22,xB 23 .neq 21 22,xM 24 23,eZ 25 24 3,aU 26 24 25,cK 27 24 26,b9 28 24 6,eH 29 24 .neq 27 28,xW 30 24 29,xM 31 30,bL 32 31 2 3,aU 33 31 32,cK 34 31 33,b9 35 31 6,eH 36 31 .neq 34 35,xW 37 31 36] 37 (dV 2) [aY 38,bB 39] 0 c_35_l0 c_35_k1)⟩
def C3:AFn:=⟨1,JI,vG [eL 1,bC 2 jK] [(2,4),(2,7),(5,7)] [⟨some 3,none,.faddr 0 (.t 1)⟩,⟨some 4,none,.load false 1 (.t 3)⟩,⟨some 5,none,.append .app 1 8 (.c a9) (.t 4)⟩,⟨some 6,none,.faddr 1 (.t 1)⟩,⟨some 7,none,.load false 1 (.t 6)⟩,⟨some 8,none,.append .row 5 40 (.c AW) (.t 7)⟩,⟨some 9,none,.faddr 2 (.t 1)⟩,⟨some 10,none,.load false 1 (.t 9)⟩,⟨some 11,none,.append .app 2 16 (.c bA) (.t 10)⟩,⟨some 12,none,.build jK [(0,1,(.t 5)),(1,1,(.t 8)),(2,1,(.t 11))]⟩,⟨none,none,.store 3 (.t 2) (.t 12)⟩] none .ret⟩
def c_37_l0:Xv:=iS [xB 9 .lss 8 7] 9 0 1 [xX 10 4 6 8,aK 11 10,eE 5 a9 a9 bA a9,bM 5 11] 5 (xR [eJ 12,aK 13 5,aZ 14 uL 13,xO 15 (.bslice .row 4 (List.replicate 1 gK) [(0,(.t 14))]),qB 16 .row 4 96 12 15,xM 3 16]) 17 .add 8 8 17
def c_37_k1:Xv:=gD (eJ 18) (xM 2 18)
def LX:AFn:=⟨1,[.tmp 2],hO (xC 2 mA) (jV [xC 3 mA] [B3,xN 7 6,kI] c_37_l0 c_37_k1)⟩
def HE:AFn:=⟨3,PP,oR [lM,mE 4,xJ 5 2,PU 6 qA a9 kE,eE 7 a9 a9 bA a9] (xQ [gH 11,aK 12 4,aM 13 5,fI 14 CQ 11 12 13,xM 10 14,bS 15 10,bT 16 10,bC 8 oO,dC 8 15,dG 16] [8]) (lK [bN 17,bY 18 17] (kG 18 (qF [(1,2)] [⟨some 19,none,.build uX [(0,1,kD)]⟩,⟨some 20,none,.load true 4 (.t 4)⟩,⟨none,none,.store 4 (.t 6) (.t 19)⟩,⟨none,none,.store 4 (.t 7) (.t 20)⟩] none)) (fD [gH 21,aK 22 4,gH 23,aK 24 4,xF 25 7 3,xL 26 25,cJ 27 8,iT 28 A9 23 24 26 27,fI 29 CR 21 22 28,bS 30 29,bT 31 29,gY 30,bM 7 31] .ret))⟩
def c_39_l0:Xv:=cW [eJ 31,lN 32,xL 33 32,xN 34 33,xB 35 .lss 31 34] 35 1 2 (cL [lN 38,xL 39 38,eJ 40,aW 41 39 40,xL 42 41,dJ 43 .lss 42,xM 44 43,bL 45 44 0 1,aU 46 44 45,b9 47 44 3,oW 48 44 1 46 47,aU 49 44 48,eY 50 44 .gtr 49 16,xW 51 44 50] 51 [xI 2 9]) 36 3 37 .add 36 3 37
def c_39_l1:Xv:=iG [aN 54,xM 55 4,xN 56 55,xB 57 .lss 54 56] 57 3 4 [eK 60 1,xM 61 4,aN 62,xX 63 2 61 62,aM 64 63,aS 65 I1 60 64,bY 66 65] 66 [xI 2 9] 58 5 59 .add 58 5 59
def c_39_l2:Xv:=iG [bF 73,aY 74,xB 75 .lss 73 74] 75 7 8 [xM 78 4,aY 79,xX 80 2 78 79,aM 81 80,xM 82 4,bF 83,xX 84 2 82 83,aM 85 84,xO 86 (.eqs false true [.i,.i] (.t 81) (.t 85))] 86 [xI 2 7] 76 7 77 .add 76 7 77
def c_39_k3:Xv:=xR [aY 71,dJ 72 .add 71,cE 72]
def c_39_l4:Xv:=H6 [aY 67,xM 68 4,xN 69 68,xB 70 .lss 67 69] 70 5 (vY 6 (hO dB (DP 7 c_39_l2)) c_39_k3)
def c_39_l5:Xv:=iG [aV 87,fM 88,xL 89 88,xN 90 89,xB 91 .lss 87 90] 91 9 10 [fM 94,xL 95 94,aV 96,dW 97 95 96,aH 98 97,aH 99 98,xL 100 99,fM 101,xL 102 101,aV 103,dW 104 102 103,bD 105 104,aH 106 105,xL 107 106,xB 108 .eql 100 107] 108 [xI 2 2] 92 8 93 .add 92 8 93
def c_39_k6:Xv:=mF (bB 2)
def c_39_k7:Xv:=gC [kI] 9 c_39_l5 c_39_k6
def c_39_k8:Xv:=gC [cQ] 5 c_39_l4 c_39_k7
def c_39_k9:Xv:=AY [eK 52 1,aZ 53 CS 52,bP 53] [cM] 3 c_39_l1 c_39_k8
def LY:AFn:=⟨1,[.tmp 2],jS (eL 1) (bB 2) (jN 0 [lN 10,xL 11 10,xN 12 11,aO 13 .eql 12,dG 13] 9 [xI 2 8] (cL [lN 15,xL 16 15,xN 17 16,xK 18 .gtr 17 16,xM 19 18,eZ 20 19 1,aU 21 19 20,cK 22 19 21,eY 23 19 .gtr 22 32,xW 24 19 23,xM 25 24,bL 26 25 2 1,aU 27 25 26,cK 28 25 27,eY 29 25 .gtr 28 16,xW 30 25 29,xM 14 30] 14 [xI 2 12]) (gC [bB 3] 1 c_39_l0 c_39_k9))⟩
def c_40_l0:Xv:=cW [aY 39,aN 40,xB 41 .lss 39 40] 41 1 2 (fD [eI 44,aY 45,cV 46,xL 47 46,aY 48,aW 49 47 48,xL 50 49,eM 51,xL 52 51,aY 53,aW 54 52 53,xL 55 54,iT 56 I2 44 45 50 55,cO 56] (dU [bF 57,aO 58 .neq 57] 58 [bF 59,bP 59] (fD [eI 60,aY 61,jQ 62,xL 63 62,aY 64,xX 65 2 63 64,aM 66 65,fI 67 AA 60 61 66,cO 67] (cL [bF 68,aO 69 .neq 68] 69 [bF 70,bP 70])))) 42 6 43 .add 42 6 43
def c_40_k1:Xv:=bO [eI 71,bU 72 3,xL 73 72,aS 74 I3 71 73,bP 74]
def u9:AFn:=⟨2,[.tmp 4],cG oQ [dS 8 2,xL 9 8,xN 10 9,bQ 10] (jN 0 [eI 12,aZ 13 uM 12,xO 14 (.fld false 0 1 (.t 13)),aO 15 .neq 14,xM 11 15] 11 [eI 16,aZ 17 uM 16,xO 18 (.fld false 0 1 (.t 17)),bP 18] (cL [cV 20,xL 21 20,xN 22 21,aN 23,xB 24 .neq 22 23,xM 25 24,eZ 26 25 3,aU 27 25 26,cK 28 25 27,b9 29 25 5,eH 30 25 .neq 28 29,xW 31 25 30,xM 32 31,bL 33 32 2 3,aU 34 32 33,cK 35 32 34,b9 36 32 5,eH 37 32 .neq 35 36,xW 38 32 37,xM 19 38] 19 [dV 2]) (gC [cQ] 1 c_40_l0 c_40_k1))⟩
def mY:AFn:=⟨4,[.tmp 8],jS (mB 7 3) kI (jN 0 [aJ 14,dY 15 jC [.t 14],bY 16 15,xM 13 16] 13 [xI 8 1] (jL [aF 18,dJ 19 .lss 18,xM 20 19,jY 21 20,eY 22 20 .gtr 21 3,xW 23 20 22,xM 24 23,b9 25 24 2,mK 26 24 .lss 25 gX,xW 27 24 26,xM 17 27] 17 [xI 8 9] (AZ [aH 29 7,xL 30 29,aO 31 .lss 30,xM 32 31,bL 33 32 0 7,aU 34 32 33,b9 35 32 0,DR 36 32 35,bL 37 32 0 36,bL 38 32 3 37,aU 39 32 38,cK 40 32 39,eH 41 32 .geq 34 40,xW 42 32 41,xM 28 42] 28 [xI 8 8])) (oS [(0,18),(5,18),(7,18),(9,18),(11,18),(12,18)] [⟨some 44,none,.pcall A2 []⟩,⟨some 45,none,.mov (.t 0)⟩,⟨some 46,none,.nilchk (.t 45)⟩,⟨some 47,none,.faddr 0 (.t 46)⟩,⟨some 48,none,.faddr 3 (.t 47)⟩,⟨some 49,none,.load false 1 (.t 48)⟩,⟨some 50,none,.faddr 0 (.t 7)⟩,⟨some 51,none,.load false 1 (.t 50)⟩,⟨some 52,none,.iaddr 4 none (.t 49) (.t 51)⟩,⟨some 53,none,.load true 4 (.t 52)⟩,⟨some 54,none,.faddr 1 (.t 7)⟩,⟨some 55,none,.load false 1 (.t 54)⟩,⟨some 56,none,.pcall I4 [.t 44,.t 53,.t 55]⟩,⟨some 43,none,.mov (.t 56)⟩,⟨some 57,none,.ext 0 (.t 43)⟩,⟨some 58,none,.ext 1 (.t 43)⟩,⟨some 59,none,.ext 2 (.t 43)⟩,⟨some 60,none,.ext 3 (.t 43)⟩,⟨some 9,none,.alloc gK⟩,⟨none,none,.store 4 (.t 9) (.t 57)⟩,⟨some 10,none,.mov (.t 58)⟩,⟨some 11,none,.mov (.t 59)⟩,⟨some 12,none,.mov (.t 60)⟩] (some [9]) (dU [xM 61 12,aO 62 .neq 61] 62 [xM 63 12,cD 63] (fD [aJ 64,bX 65 64,aH 66 65,bU 67 66,xL 68 67,aH 69 7,xL 70 69,aK 71 9,xX 72 4 68 70,bM 72 71] (eW [aJ 73,bX 74 73,aH 75 74,aF 76,aT 77,dY 78 jD [.t 75,jM 5,.t 76,.t 77,gX]] [kI])))))⟩
def C4:AFn:=⟨3,[.tmp 6],lL [cQ] [aJ 10,dY 11 jC [.t 10],bY 12 11] 12 (xI 6 1) (fL [aJ 14,bX 15 14,aH 16 15,aH 17 16,eK 18 17,aF 19,aT 20,fI 21 CT 18 19 20,xM 13 21,bS 22 13,bT 23 13,bC 7 jK,xS 3 7 22,cD 23] 7 (dU [aV 24,aO 25 .neq 24] 25 [aV 26,cE 26] (dQ [aJ 27,eK 28 7,bX 29 27,aH 30 29,aH 31 30,xS 3 31 28] (vZ [iF] [aT 32] 32 (xR [xI 9 1]) (eW [aJ 33,bX 34 33,aH 35 34,aF 36,bN 37,dY 38 jD [.t 35,jM 6,.t 36,.t 37,gX]] [cQ])))))⟩
def lO:AFn:=⟨1,[.tmp 2],eW [cA 2] [aJ 3,xO 4 (T8 true 3 T7),bQ 4,cH 6 5 0,dE 7 5 (SZ 6),eV 8 5 6 7,dZ 9 5 8,dE 10 5 (.eqs true false [] (.t 9) (.c (.nilfunc))),xV 11 5 10,xM 2 11]⟩
def uA:AFn:=⟨2,[.tmp 4],qE [tL 4] [aJ 5,dY 6 jC [.t 5],bY 7 6,bF 8,jY 9 8,mK 10 8 .lss 9 gX,xW 11 8 10,xM 12 11,jY 13 12,b9 14 12 0,DR 15 12 14,bL 16 12 0 15,bL 17 12 4 16,aU 18 12 17,cK 19 12 18,eH 20 12 .geq 13 19,xW 21 12 20] 21 (tL 4) [aJ 22,bX 23 22,aH 24 23,cN 25 24,xL 26 25,aF 27,xX 28 9 26 27,bP 28]⟩
def yE:AFn:=⟨3,[.cell 6 true 6,.tmp 7,.tmp 8],d8 [mN 3,bC 6 d7,dB,kI] [aF 10,aO 11 .lss 10,xM 12 11,jY 13 12,bL 14 12 0 3,bL 15 12 2 14,aU 16 12 15,cK 17 12 16,eH 18 12 .geq 13 17,xW 19 12 18] 19 [cJ 20 3,dC 6 20,dB,xI 8 8] (dU [aT 21,xN 22 21,xK 23 .gtr 22 512] 23 [cJ 24 3,dC 6 24,dB,xI 8 4] (dU [cN 25 3,xL 26 25,xN 27 26,xK 28 .geq 27 4096] 28 [cJ 29 3,dC 6 29,dB,xI 8 12] (vG [cN 30 3,xL 31 30,xN 32 31,dG 32] [(3,6),(3,9)] [⟨some 33,none,.bslice .imm 9 [] []⟩,⟨some 34,none,.faddr 4 (.t 3)⟩,⟨some 35,none,.load false 1 (.t 34)⟩,⟨some 36,none,.append .app 9 136 (.t 33) (.t 35)⟩,⟨some 37,none,.faddr 0 (.t 3)⟩,⟨some 38,none,.faddr 2 (.t 37)⟩,⟨some 39,none,.load false 1 (.t 38)⟩,⟨some 40,none,.mov (.t 1)⟩,⟨some 41,none,.iaddr 2 none (.t 39) (.t 40)⟩,⟨some 42,none,.load true 2 (.t 41)⟩,⟨some 43,none,.mov (.t 2)⟩,⟨some 44,none,.build AM [(0,2,(.t 42)),(2,1,(.t 43))]⟩,⟨some 45,none,.bslice .imm 9 (List.replicate 1 AM) [(0,(.t 44))]⟩,⟨some 46,none,.append .app 9 136 (.t 36) (.t 45)⟩,⟨some 47,none,.faddr 4 (.t 3)⟩,⟨none,none,.store 1 (.t 47) (.t 46)⟩] none (bO [cJ 48 3,bN 49,aF 50,xO 51 (.build fH [(0,1,AS),(1,1,(.t 49)),(2,1,(.t 50))]),aS 52 i8 48 51,bN 53,dC 6 52,cO 53,kI]))))⟩
def C5:AFn:=⟨2,[.tmp 4],lL [dR,dF] J2 13 (dV 8) (dU [cN 14 2,xL 15 14,aF 16,xX 17 9 15 16,cN 18 17,xL 19 18] 19 [dV 25] (mF dF))⟩
def HG:AFn:=⟨2,[.cell 4 true 6,.cell 5 true 4,.tmp 6],dQ [mN 2,bC 4 d7,oY 5,cQ] (d8 [cJ 12 2,aF 13,aS 14 A8 12 13,cO 14] J9 16 [cJ 17 2,xO 18 gL,bF 19,dC 4 17,bM 5 18,cE 19] (fL [cN 20 2,xL 21 20,aF 22,xX 23 9 21 22,kH 24 23,bC 8 AN,xS 9 8 24] 8 (oS [(0,18),(2,18),(5,18),(7,18),(10,18),(12,18),(14,18),(0,19),(2,19),(5,19),(7,19),(10,19),(12,19),(14,19),(18,19)] [⟨some 26,none,.pcall lR []⟩,⟨some 27,none,.faddr 3 (.t 2)⟩,⟨some 28,none,.load false 1 (.t 27)⟩,⟨some 29,none,.faddr 0 (.t 8)⟩,⟨some 30,none,.faddr 0 (.t 29)⟩,⟨some 31,none,.load false 1 (.t 30)⟩,⟨some 32,none,.iaddr 4 none (.t 28) (.t 31)⟩,⟨some 33,none,.load true 4 (.t 32)⟩,⟨some 34,none,.faddr 0 (.t 8)⟩,⟨some 35,none,.faddr 1 (.t 34)⟩,⟨some 36,none,.load false 1 (.t 35)⟩,⟨some 37,none,.faddr 2 (.t 8)⟩,⟨some 38,none,.load false 1 (.t 37)⟩,⟨some 39,none,.build pY [(0,1,(.t 36)),(1,1,(.t 38))]⟩,⟨some 40,none,.pcall lT [.t 26,.t 33,.t 39]⟩,⟨some 25,none,.mov (.t 40)⟩,⟨some 41,none,.ext 0 (.t 25)⟩,⟨some 42,none,.ext 1 (.t 25)⟩,⟨some 9,none,.alloc uX⟩,⟨some 10,none,.alloc gK⟩,⟨none,none,.store 4 (.t 9) (.t 41)⟩,⟨none,none,.store 4 (.t 10) (.t 42)⟩] (some [9,10]) (fL [cJ 44 2,aF 45,aK 46 9,aK 47 10,iT 48 i7 44 45 46 47,xM 43 48,bS 49 43,bT 50 43,oY 11,dC 2 49,bM 11 50] 11 (qF [(1,2)] [⟨some 51,none,.load true 6 (.t 2)⟩,⟨some 52,none,.load true 4 (.t 11)⟩,⟨none,none,.store 6 (.t 4) (.t 51)⟩,⟨none,none,.store 4 (.t 5) (.t 52)⟩,⟨some 6,none,.mov iE⟩] none)))))⟩
def yF:AFn:=⟨4,[.cell 8 true 6,.cell 9 true 4],dQ [mN 4,xJ 6 2,xJ 7 3,bC 8 d7,oY 9] (cG [cN 20 4,xL 21 20,aF 22,xX 23 9 21 22,kH 24 23,bC 10 AN,xS 9 10 24] [aH 25 10,aH 26 25,xL 27 26,xM 11 27] (cG [xO 28 (.bslice .imm 4 [] []),bU 29 4,xL 30 29,qB 31 .row 4 96 28 30,bU 32 4,bE 32 31] [bU 33 4,xL 34 33,xM 35 11,aK 36 7,xX 37 4 34 35,bM 37 36] (vZ [xM 38 11,aH 39 10,aQ 40 39,xL 41 40,xO 42 (.build lX [(0,1,(.t 38)),(1,1,(.t 41)),(2,1,AQ)]),bC 12 [cF,cF,cF],xS 3 12 42] [aH 43 6,xL 44 43] 44 (oS [(3,4)] [⟨some 45,none,.bslice .imm 3 [] []⟩,⟨some 46,none,.faddr 3 (.t 10)⟩,⟨some 47,none,.load false 1 (.t 46)⟩,⟨some 48,none,.append .app 3 24 (.t 45) (.t 47)⟩,⟨some 49,none,.load true 3 (.t 12)⟩,⟨some 50,none,.bslice .imm 3 (List.replicate 1 lX) [(0,(.t 49))]⟩,⟨some 51,none,.append .app 3 24 (.t 48) (.t 50)⟩,⟨some 52,none,.faddr 3 (.t 10)⟩,⟨none,none,.store 1 (.t 52) (.t 51)⟩] none (fL [aF 53,xM 54 11,xO 55 (.build fH [(0,1,(.c (.int .i64 2))),(1,1,(.t 53)),(2,1,(.t 54)),(3,1,AQ)]),oY 13,bM 13 55] 13 (qF [(4,5),(4,7),(6,7),(7,8)] [⟨some 56,none,.load true 6 (.t 4)⟩,⟨some 57,none,.mov (.t 1)⟩,⟨some 58,none,.load true 9 (.t 10)⟩,⟨some 59,none,.mov (.t 11)⟩,⟨some 60,none,.tcall pQ [.t 56,.t 57,.t 58,.c (.int .i64 2),.t 59]⟩,⟨some 61,none,.load true 4 (.t 13)⟩,⟨some 62,none,.tcall i8 [.t 60,.t 61]⟩,⟨some 63,none,.load true 4 (.t 13)⟩,⟨none,none,.store 6 (.t 8) (.t 62)⟩,⟨none,none,.store 4 (.t 9) (.t 63)⟩] none))) (vG [aQ 64 6,xL 65 64,bD 66 12,bE 66 65] [(3,4)] [⟨some 67,none,.bslice .imm 3 [] []⟩,⟨some 68,none,.faddr 3 (.t 10)⟩,⟨some 69,none,.load false 1 (.t 68)⟩,⟨some 70,none,.append .app 3 24 (.t 67) (.t 69)⟩,⟨some 71,none,.load true 3 (.t 12)⟩,⟨some 72,none,.bslice .imm 3 (List.replicate 1 lX) [(0,(.t 71))]⟩,⟨some 73,none,.append .app 3 24 (.t 70) (.t 72)⟩,⟨some 74,none,.faddr 3 (.t 10)⟩,⟨none,none,.store 1 (.t 74) (.t 73)⟩] none (cG [bD 75 6,xL 76 75,bD 77 10,bE 77 76] [aF 78,xM 79 11,aQ 80 6,xL 81 80,xO 82 (.build fH [(0,1,(.c (.int .i64 2))),(1,1,(.t 78)),(2,1,(.t 79)),(3,1,(.t 81))]),oY 14,bM 14 82] (oR [cJ 83 4,aK 84 14,mH 85 i8 83 84,dC 4 85] (xQ [xM 86 11,aQ 87 6,xL 88 87,xO 89 (.build lW [(0,1,(.t 86)),(1,1,(.t 88))]),vD 15,f9 15 89] [15]) (vZ [aH 91 4,eK 92 91,aM 93 15,aS 94 I5 92 93,xM 90 94,bS 95 90,bT 96 90,xM 16 95,xM 17 96] [xM 97 17] 97 (vG [aF 98,xM 99 16,xO 100 (.build fH [(0,1,(.c (.int .i64 3))),(1,1,(.t 98)),(2,1,(.t 99))]),bM 14 100] [(4,5),(4,7),(6,7),(7,8)] [⟨some 101,none,.load true 6 (.t 4)⟩,⟨some 102,none,.mov (.t 1)⟩,⟨some 103,none,.load true 9 (.t 10)⟩,⟨some 104,none,.mov (.t 16)⟩,⟨some 105,none,.tcall pQ [.t 101,.t 102,.t 103,.c (.int .i64 1),.t 104]⟩,⟨some 106,none,.load true 4 (.t 14)⟩,⟨some 107,none,.tcall i8 [.t 105,.t 106]⟩,⟨some 108,none,.load true 4 (.t 14)⟩,⟨none,none,.store 6 (.t 8) (.t 107)⟩,⟨none,none,.store 4 (.t 9) (.t 108)⟩] none .ret) (fL [aH 110 4,eK 111 110,aM 112 15,aS 113 I6 111 112,xM 109 113,bS 114 109,bT 115 109,vD 18,f9 18 114,xM 19 115] 18 (lK [xM 116 19,aO 117 .eql 116] (kG 117 (vG [aM 118 18,aH 119 10,f9 119 118] [(3,4),(4,5)] [⟨some 120,none,.load true 6 (.t 4)⟩,⟨some 121,none,.mov (.t 1)⟩,⟨some 122,none,.load true 9 (.t 10)⟩,⟨some 123,none,.tcall pR [.t 120,.t 121,.t 122]⟩,⟨some 124,none,.load true 4 (.t 14)⟩,⟨none,none,.store 6 (.t 8) (.t 123)⟩,⟨none,none,.store 4 (.t 9) (.t 124)⟩] none .ret)) (vG [aF 125,xM 126 11,aQ 127 6,xL 128 127,xO 129 (.build fH [(0,1,(.c (.int .i64 4))),(1,1,(.t 125)),(2,1,(.t 126)),(3,1,(.t 128))]),bM 14 129] [(4,5),(4,7),(6,7),(7,8)] [⟨some 130,none,.load true 6 (.t 4)⟩,⟨some 131,none,.mov (.t 1)⟩,⟨some 132,none,.load true 9 (.t 10)⟩,⟨some 133,none,.mov (.t 11)⟩,⟨some 134,none,.tcall pQ [.t 130,.t 131,.t 132,.c (.int .i64 3),.t 133]⟩,⟨some 135,none,.load true 4 (.t 14)⟩,⟨some 136,none,.tcall i8 [.t 134,.t 135]⟩,⟨some 137,none,.load true 4 (.t 14)⟩,⟨none,none,.store 6 (.t 8) (.t 136)⟩,⟨none,none,.store 4 (.t 9) (.t 137)⟩] none .ret))))))))))⟩
def mZ:AFn:=⟨4,[.cell 8 true 6,.tmp 9],d8 [mN 4,xJ 7 3,bC 8 d7,iF] [aF 14,dJ 15 .lss 14,xM 16 15,jY 17 16,eY 18 16 .gtr 17 3,xW 19 16 18,xM 20 19,b9 21 20 2,mK 22 20 .lss 21 gX,xW 23 20 22] 23 [cJ 24 4,dC 8 24,xI 9 9] (dU [aH 25 7,xL 26 25,aO 27 .lss 26,xM 28 27,bL 29 28 0 7,aU 30 28 29,bL 31 28 3 4,aU 32 28 31,cK 33 28 32,eH 34 28 .geq 30 33,xW 35 28 34] 35 [cJ 36 4,dC 8 36,xI 9 8] (oS [(0,15),(2,15),(4,15),(6,15),(8,15),(9,15)] [⟨some 38,none,.pcall lR []⟩,⟨some 39,none,.faddr 3 (.t 4)⟩,⟨some 40,none,.load false 1 (.t 39)⟩,⟨some 41,none,.faddr 0 (.t 7)⟩,⟨some 42,none,.load false 1 (.t 41)⟩,⟨some 43,none,.iaddr 4 none (.t 40) (.t 42)⟩,⟨some 44,none,.load true 4 (.t 43)⟩,⟨some 45,none,.faddr 1 (.t 7)⟩,⟨some 46,none,.load false 1 (.t 45)⟩,⟨some 47,none,.pcall I7 [.t 38,.t 44,.t 46]⟩,⟨some 37,none,.mov (.t 47)⟩,⟨some 48,none,.ext 0 (.t 37)⟩,⟨some 49,none,.ext 1 (.t 37)⟩,⟨some 50,none,.ext 2 (.t 37)⟩,⟨some 51,none,.ext 3 (.t 37)⟩,⟨some 10,none,.alloc gK⟩,⟨none,none,.store 4 (.t 10) (.t 48)⟩,⟨some 11,none,.mov (.t 49)⟩,⟨some 12,none,.mov (.t 50)⟩,⟨some 13,none,.mov (.t 51)⟩] (some [10]) (dU [xM 52 13,aO 53 .neq 52] 53 [cJ 54 4,xM 55 13,dC 8 54,dG 55] (cG [xO 56 (.bslice .imm 4 [] []),bU 57 4,xL 58 57,qB 59 .row 4 96 56 58,bU 60 4,bE 60 59] [bU 61 4,xL 62 61,aH 63 7,xL 64 63,aK 65 10,xX 66 4 62 64,bM 66 65] (bO [cJ 67 4,aF 68,aT 69,xO 70 (.build fH [(0,1,(.c (.int .i64 5))),(1,1,(.t 68)),(2,1,(.t 69))]),mH 71 i8 67 70,dC 8 71,iF])))))⟩
def HH:AFn:=⟨3,[.cell 6 true 6,.tmp 7],oR [mN 3,bC 6 d7,dB] (xQ [cV 12,eK 13 12,aF 14,aT 15,fI 16 rF 13 14 15,xM 11 16,bS 17 11,bT 18 11,bC 8 jK,xS 3 8 17,dG 18] [8]) (dU [bN 19,aO 20 .neq 19] 20 [cJ 21 3,bN 22,dC 6 21,cO 22] (mG (eK 23 8) (cV 24) (xS 3 24 23) (vZ [aF 25,xO 26 (.build fH [(0,1,(.c (.int .i64 6))),(1,1,(.t 25))]),oY 10,bM 10 26] [aT 27] 27 (xR [bD 28 10,⟨none,none,.store 1 (.t 28) AS⟩]) (bO [cJ 29 3,aK 30 10,aS 31 i8 29 30,dC 6 31,dB]))))⟩
def c_54_l0:Xv:=cW [bQ 4,cN 6 1,xL 7 6,xN 8 7,xB 9 .lss 5 8] 9 0 1 (dQ [cN 12 1,xL 13 12,xM 14 4,xX 15 9 13 14,cN 16 15,xL 17 16,bY 18 17] (kG 18 (xR [eJ 19,xM 20 4,xO 21 (.bslice .imm 1 kC [(0,(.t 20))]),cU 22 1 8 19 21,xM 3 22]))) 10 4 11 .add 10 4 11
def c_54_k1:Xv:=gD (eJ 23) (xM 2 23)
def LZ:AFn:=⟨1,[.tmp 2],jS (eL 1) (xC 2 a9) (fO [jR 3 1] dF c_54_l0 c_54_k1)⟩
def c_55_l0:Xv:=iG uY 14 0 1 [aJ 17,aN 18,xX 19 4 17 18,aK 20 19,aF 21,aN 22,xX 23 4 21 22,aK 24 23,xO 25 (.eqs true true [.i,.i,.i,.i] (.t 20) (.t 24))] 25 [cP] 15 5 16 .add 15 5 16
def c_55_k1:Xv:=tN 4
def M1:AFn:=⟨2,[.tmp 4],jP [cP] uZ 10 cP [cM] 0 c_55_l0 c_55_k1⟩
def c_56_l0:Xv:=iG [aN 39,aH 40 2,xL 41 40,xN 42 41,xB 43 .lss 39 42] 43 0 1 [aH 46 2,xL 47 46,aN 48,aW 49 47 48,xL 50 49,cV 51,xL 52 51,aN 53,aW 54 52 53,xL 55 54,aS 56 yJ 50 55,bY 57 56] 57 [cP] 44 5 45 .add 44 5 45
def c_56_l1:Xv:=iG [aY 58,bD 59 2,xL 60 59,xN 61 60,xB 62 .lss 58 61] 62 2 3 [bD 65 2,xL 66 65,aY 67,xX 68 2 66 67,aM 69 68,jQ 70,xL 71 70,aY 72,xX 73 2 71 72,aM 74 73,aS 75 n7 69 74,bY 76 75] 76 [cP] 63 6 64 .add 63 6 64
def c_56_k2:Xv:=tN 4
def c_56_k3:Xv:=gC [cQ] 2 c_56_l1 c_56_k2
def uB:AFn:=⟨2,[.tmp 4],jP AR [aH 7 2,xL 8 7,xN 9 8,cV 10,xL 11 10,xN 12 11,xB 13 .neq 9 12,xM 14 13,eZ 15 14 2,aU 16 14 15,eZ 17 14 3,aU 18 14 17,oU 19 14 yH [.t 16,.t 18],vB 20 14 19,xW 21 14 20,xM 22 21,bL 23 22 2 2,aU 24 22 23,cK 25 22 24,bL 26 22 2 3,aU 27 22 26,cK 28 22 27,eH 29 22 .neq 25 28,xW 30 22 29,xM 31 30,bL 32 31 3 2,aU 33 31 32,bL 34 31 3 3,aU 35 31 34,oU 36 31 yI [.t 33,.t 35],vB 37 31 36,xW 38 31 37] 38 cP [cM] 0 c_56_l0 c_56_k3⟩
def C6:AFn:=⟨3,[.tmp 6],oR [mE 4,cA 6] (xQ [aJ 18,aT 19,mH 20 CD 18 19,xM 17 20,bS 21 17,bT 22 17,xE 23 2 17,vD 7,f9 7 21,cD 22,dG 23] [7]) (fL [cJ 25 4,aT 26,aS 27 rG 25 26,xM 24 27,bS 28 24,bT 29 24,xE 30 2 24,vD 10,f9 10 28,xM 11 29,xM 12 30] 10 (fL [aJ 32,aT 33,mH 34 CC 32 33,xM 31 34,bS 35 31,bT 36 31,LI 13 kE bA,bM 13 35,xM 14 36] 13 (fL [cJ 38 4,aT 39,aS 40 n8 38 39,xM 37 40,bS 41 37,bT 42 37,LI 15 kE bA,bM 15 41,xM 16 42] 15 (qF [(50,51),(59,61)] [⟨some 43,none,.load true 2 (.t 7)⟩,⟨some 44,none,.load true 2 (.t 10)⟩,⟨some 45,none,.eqs false true [.i,.i] (.t 43) (.t 44)⟩,⟨some 46,none,.mov (.t 45)⟩,⟨some 47,some (46,true),.mov (.t 8)⟩,⟨some 48,some (46,true),.b2s (.t 47)⟩,⟨some 49,some (46,true),.mov (.t 11)⟩,⟨some 50,some (46,true),.b2s (.t 49)⟩,⟨some 51,some (46,true),.bin .eql (.t 48) (.t 50)⟩,⟨some 52,none,.pick (.t 46) (.t 51) lZ⟩,⟨some 53,none,.mov (.t 52)⟩,⟨some 54,some (53,true),.mov (.t 9)⟩,⟨some 55,some (53,true),.mov (.t 12)⟩,⟨some 56,some (53,true),.eqs false false [.b] (.t 54) (.t 55)⟩,⟨some 57,none,.pick (.t 53) (.t 56) lZ⟩,⟨some 58,none,.mov (.t 57)⟩,⟨some 59,some (58,true),.mov (.t 14)⟩,⟨some 60,some (58,true),.mov (.t 16)⟩,⟨some 61,some (58,true),.eqs false false [.b] (.t 59) (.t 60)⟩,⟨some 62,none,.pick (.t 58) (.t 61) lZ⟩,⟨some 63,none,.mov (.t 62)⟩,⟨some 64,some (63,true),.faddr 0 (.t 13)⟩,⟨some 65,some (63,true),.load false 1 (.t 64)⟩,⟨some 66,some (63,true),.faddr 0 (.t 15)⟩,⟨some 67,some (63,true),.load false 1 (.t 66)⟩,⟨some 68,some (63,true),.bin .eql (.t 65) (.t 67)⟩,⟨some 69,none,.pick (.t 63) (.t 68) lZ⟩,⟨some 70,none,.mov (.t 69)⟩,⟨some 71,some (70,true),.faddr 1 (.t 13)⟩,⟨some 72,some (70,true),.load false 1 (.t 71)⟩,⟨some 73,some (70,true),.faddr 1 (.t 15)⟩,⟨some 74,some (70,true),.load false 1 (.t 73)⟩,⟨some 75,some (70,true),.bin .eql (.t 72) (.t 74)⟩,⟨some 76,none,.pick (.t 70) (.t 75) lZ⟩,⟨some 77,none,.mov (.t 76)⟩,⟨some 78,some (77,true),.faddr 2 (.t 13)⟩,⟨some 79,some (77,true),.load false 1 (.t 78)⟩,⟨some 80,some (77,true),.faddr 2 (.t 15)⟩,⟨some 81,some (77,true),.load false 1 (.t 80)⟩,⟨some 82,some (77,true),.pcall rH [.t 79,.t 81]⟩,⟨some 83,none,.pick (.t 77) (.t 82) lZ⟩,⟨some 84,none,.mov (.t 83)⟩,⟨some 85,some (84,true),.faddr 3 (.t 13)⟩,⟨some 86,some (84,true),.load false 1 (.t 85)⟩,⟨some 87,some (84,true),.len (.t 86)⟩,⟨some 88,some (84,true),.bin .eql (.t 87) iE⟩,⟨some 89,none,.pick (.t 84) (.t 88) lZ⟩,⟨some 90,none,.mov (.t 89)⟩,⟨some 91,some (90,true),.mov (.t 0)⟩,⟨some 92,some (90,true),.mov (.t 2)⟩,⟨some 93,some (90,true),.tcall CB [.t 91,.t 92]⟩,⟨some 94,some (90,true),.load true 6 (.t 4)⟩,⟨some 95,some (90,true),.mov (.t 2)⟩,⟨some 96,some (90,true),.pcall rI [.t 94,.t 95]⟩,⟨some 97,some (90,true),.pcall rH [.t 93,.t 96]⟩,⟨some 98,none,.pick (.t 90) (.t 97) lZ⟩,⟨some 99,none,.mov (.t 98)⟩,⟨some 100,some (99,true),.mov (.t 0)⟩,⟨some 101,some (99,true),.mov (.t 2)⟩,⟨some 102,some (99,true),.tcall CF [.t 100,.t 101]⟩,⟨some 103,some (99,true),.b2s (.t 102)⟩,⟨some 104,some (99,true),.load true 6 (.t 4)⟩,⟨some 105,some (99,true),.mov (.t 2)⟩,⟨some 106,some (99,true),.pcall rJ [.t 104,.t 105]⟩,⟨some 107,some (99,true),.b2s (.t 106)⟩,⟨some 108,some (99,true),.bin .eql (.t 103) (.t 107)⟩,⟨some 109,none,.pick (.t 99) (.t 108) lZ⟩,⟨some 6,none,.mov (.t 109)⟩] none))))⟩
def HI:AFn:=⟨5,[.cell 10 true 4],oR [oY 10] (xQ [aF 12,aT 13,eJ 14,xM 15 4,xO 16 (.build fH [(0,1,(.t 12)),(1,1,(.t 13)),(2,1,(.t 14)),(3,1,(.t 15))]),oY 11,bM 11 16] [11]) (fD [aJ 17,aJ 18,bX 19 18,dS 20 19,xL 21 20,aK 22 11,xO 23 (.bslice .imm 4 (List.replicate 1 fH) [(0,(.t 22))]),cU 24 4 32 21 23,bX 25 17,dS 26 25,bE 26 24] (gD (aK 27 11) (bM 10 27)))⟩
def c_65_l0:Xv:=mC [xB 27 .lss 26 25] 27 2 3 (dQ P8 (cG [aQ 30 8,aH 31 30,xL 32 31,aZ 33 rK 32,aQ 34 8,aH 35 34,bE 35 33] [aQ 36 8,bD 37 36,aQ 38 37,xL 39 38,aZ 40 gP 39,aQ 41 8,bD 42 41,aQ 43 42,bE 43 40] (xR [aY 44,xA 45 5 8,xO 46 (.bslice .imm 5 (List.replicate 1 jJ) [(0,(.t 45))]),cU 47 5 72 44 46,cE 47]))) 48 .add 26 26 48
def c_65_k1:Xv:=xR [cV 49,xL 50 49,aY 51,xO 52 (.bslice .imm 1 DF [(0,(.t 51))]),cU 53 1 24 50 52,cV 54,bE 54 53]
def c_65_k2:Xv:=xR [dJ 55 .add 20,xM 20 55]
def c_65_l3:Xv:=T5 JF 21 0 (vY 1 (mG (aW 22 18 20) (xL 23 22) (bQ 23) (AY [jR 6 5] [aN 24,xN 25 24,bB 26] 2 c_65_l0 c_65_k1)) c_65_k2)
def c_65_l4:Xv:=mC [xB 60 .lss 59 58] 60 4 5 (cG [xX 61 2 57 59,aM 62 61,qC 10 cF a9,f9 10 62] [aQ 63 10,xL 64 63,aZ 65 gP 64,aQ 66 10,bE 66 65] (xR [jQ 67,xL 68 67,aM 69 10,xO 70 (.bslice .imm 2 (List.replicate 1 pY) [(0,(.t 69))]),cU 71 2 32 68 70,jQ 72,bE 72 71])) 73 .add 59 59 73
def c_65_l5:Xv:=mC [xB 78 .lss 77 76] 78 6 7 (mG (aW 79 75 77) (xL 80 79) (xM 12 80) (xD [bU 81 3,xL 82 81,xM 83 12,aZ 84 gP 83,xO 85 (.bslice .imm 1 (List.replicate 1 gN) [(0,(.t 84))]),cU 86 1 24 82 85,bU 87 3,bE 87 86])) 88 .add 77 77 88
def c_65_k6:Xv:=gD (aK 89 3) (bM 2 89)
def c_65_k7:Xv:=gC [bU 74 1,xL 75 74,xN 76 75,bB 77] 6 c_65_l5 c_65_k6
def c_65_k8:Xv:=gC [bD 56 1,xL 57 56,xN 58 57,bB 59] 4 c_65_l4 c_65_k7
def M3:AFn:=⟨1,v7,jS (eL 1) (eE 2 a9 a9 bA a9) (jV [fM 13,xL 14 13,aZ 15 eR 14,xO 16 PQ,eE 3 a9 a9 bA a9,bM 3 16] PM c_65_l3 c_65_k8)⟩
def M4:AFn:=⟨3,[],dQ [B3,bX 7 6,cN 8 7,⟨none,none,.store 1 (.t 8) kD⟩] (xR [aJ 9,aF 10,aT 11,xO 12 (.build DC [(0,1,(.t 10)),(1,1,(.t 11))]),bX 13 9,dS 14 13,bM 14 12])⟩
def c_67_l0:Xv:=iS [xB 12 .lss 11 10] 12 0 1 [xM 13 11,xX 14 2 9 11,aM 15 14,vD 7,cE 13,f9 7 15] 7 (cL [aM 16 7,aM 17 3,xO 18 (.eqs false true [.i,.i] (.t 16) (.t 17))] 18 [aY 19,bP 19,tK 5]) 20 .add 11 11 20
def c_67_k1:Xv:=w7 (cA 5)
def M5:AFn:=⟨2,gM,jV DI [bD 8 2,xL 9 8,xN 10 9,bB 11] c_67_l0 c_67_k1⟩
def uC:AFn:=⟨2,[.cell 4 true 2,.tmp 5],vA [dR,mL,vD 4,cM] [eK 9 2,aZ 10 CH 9,cE 10] (cL [aY 11,aO 12 .neq 11] 12 [xO 13 oP,aY 14,jW 13,bQ 14]) (dQ [eK 16 2,aM 17 3,aS 18 yL 16 17,xM 15 18,bS 19 15,bT 20 15,cO 19,cD 20] (jN 0 [bF 22,dJ 23 .neq 22,xM 21 23] 21 [xO 24 oP,jW 24,xI 5 8] (jL [gE 26,xL 27 26,aV 28,dW 29 27 28,cN 30 29,xL 31 30,xM 25 31] 25 [xO 32 oP,jW 32,xI 5 20] (AZ [gE 34,xL 35 34,aV 36,dW 37 35 36,aH 38 37,aM 39 38,aM 40 3,xO 41 (.eqs false true [.i,.i] (.t 39) (.t 40)),xM 33 41] 33 [gE 42,xL 43 42,aV 44,dW 45 43 44,bD 46 45,aM 47 46,jW 47,cM])) (bO [gE 48,xL 49 48,aV 50,dW 51 49 50,aH 52 51,aM 53 52,jW 53,cM])))⟩
def c_69_l0:Xv:=iS [xB 10 .lss 9 8] 10 0 1 [dW 11 7 9,xA 12 5 11,bC 5 JC,xS 5 5 12] 5 (xR [eJ 13,gZ 14,aM 15 14,bD 16 5,aM 17 16,xO 18 (.bslice .imm 2 (List.replicate 2 lW) [(0,(.t 15)),(1,(.t 17))]),cU 19 2 16 13 18,xM 3 19]) 20 .add 9 9 20
def c_69_k1:Xv:=bO [eJ 21,bD 22 1,xL 23 22,cU 24 2 16 21 23,xM 2 24]
def M6:AFn:=⟨1,[.tmp 2],jS (eL 1) (xC 2 bA) (jV [jR 3 2] [fM 6,xL 7 6,xN 8 7,iF] c_69_l0 c_69_k1)⟩
def M7:AFn:=⟨2,[.tmp 4],jO [dR,mL,cP] OQ .ret⟩
def TA:ADFn:=⟨1,v7,.seq (xR [xO 1 (.box (.t 0)),xO 2 (.alloc fH)]) (.dfr [⟨some 3,none,.mkfunc (.func G3) [] [.t 2]⟩] 3 (.seq (xR [xA 4 9 1,xO 5 (.pcall MD [.t 4])]) (.seq (xR [xA 6 9 1,xO 7 (.pcall ME [.t 6])]) (.seq (xR [xA 8 9 1,xO 9 (.pcall MF [.t 8])]) (.seq (xR [xA 10 9 1,xO 11 (.pcall MG [.t 10])]) (.seq (xR [xA 12 9 1,xO 13 (.pcall MH [.t 12])]) (.seq (xR [xO 14 gL,xS 4 2 14]) (.ret)))))))),G3,1,(some (4,1)),.seq (.seq (xR [xM 5 1,xO 6 (.eqs false false [] (.t 5) (.c (.niliface)))]) (.cond (.t 6) (.ret) (.skip))) (.seq (.seq (xR [xM 8 1,xO 9 (.tassert 249 true (.agg fH) (.t 8)),xM 7 9,xE 10 0 7,xE 11 1 7,xO 2 (.alloc fH),xS 4 2 10,xM 3 11]) (.seq (xR [xM 12 3]) (.cond (.t 12) (.seq (xR [xF 13 0 2,xA 14 4 13,xS 4 0 14]) (.ret)) (.skip)))) (xR [xM 15 1,⟨none,none,.panic (.t 15)⟩]))⟩
def c_81_l0:Xv:=iS [xB 29 .lss 28 27] 29 0 1 [dW 30 26 28,xA 31 5 30,bC 13 lY,xS 5 13 31] 13 (dU [aH 32 13,xL 33 32,xM 34 11,xB 35 .leq 33 34] 35 [xI 10 14] (xR [aH 36 13,xL 37 36,xM 11 37])) 38 .add 28 28 38
def c_81_l1:Xv:=iS [xB 53 .lss 52 51] 53 2 3 [xM 54 52,dW 55 50 52,xA 56 5 55,bC 15 lY,xM 14 54,xS 5 15 56] 15 (lK [kH 57 5,aF 58,aQ 59 15,aK 60 59,fI 61 rL 57 58 60,xM 16 61] (cL [xM 62 16,aO 63 .neq 62] 63 [xM 64 16,xM 10 64]) (cL [aT 65,xM 66 14,xO 67 (.slc 5 (.t 65) none (some (.t 66)) none),xO 68 (.mkfunc (.func iW) [] [.t 15]),aS 69 kP 67 68] 69 [xI 10 7])) 70 .add 52 52 70
def c_81_k2:Xv:=bO [kH 71 5,aF 72,aM 73 9,fI 74 nA 71 72 73,xM 10 74]
def c_81_k3:Xv:=dU [eJ 39,xM 40 11,xB 41 .leq 39 40,xM 42 41,b9 43 42 3,eY 44 42 .lss 43 1,xW 45 42 44,xM 46 45,b9 47 46 3,eY 48 46 .gtr 47 1073741824,xW 49 46 48] 49 [xI 10 14] (gC [aT 50,xN 51 50,bB 52] 2 c_81_l1 c_81_k2)
def HK:AFn:=⟨5,[.tmp 10],lL [eL 5,xJ 9 4,bB 10] [aT 17,xN 18 17,dS 19 5,xL 20 19,aF 21,xX 22 6 20 21,dS 23 22,xL 24 23,xB 25 .gtr 18 24] 25 (xI 10 12) (jV [bB 11] [aT 26,xN 27 26,bB 28] c_81_l0 c_81_k3)⟩
def c_82_l0:Xv:=mC [xB 18 .lss 17 16] 18 0 1 (cG [xM 19 17,aW 20 15 17,xL 21 20,bQ 19,cE 21] [aY 22,xN 23 22,bU 24 2,xL 25 24,aN 26,xX 27 3 25 26,bD 28 27,xL 29 28,xB 30 .neq 23 29] (pI 30 [dV 2])) 31 .add 17 17 31
def c_82_l1:Xv:=mC [xB 35 .lss 34 33] 35 2 3 (jO [xM 36 34,aW 37 32 34,xL 38 37,cO 36,cD 38] [aV 39,xN 40 39,aO 41 .gtr 40,xM 42 41,cH 43 42 8,oT 44 42 yM [.t 43],eV 45 42 3 2,dZ 46 42 45,cH 47 42 7,dE 48 42 (BP 3 46 47),eV 49 42 1 48,dZ 50 42 49,oT 51 42 gQ [.t 50],oV 52 42 .gtr 44 51,xV 53 42 52] (pI 53 [dV 9])) 54 .add 34 34 54
def c_82_k2:Xv:=mF dF
def c_82_k3:Xv:=gC [aF 32,xN 33 32,bB 34] 2 c_82_l1 c_82_k2
def HL:AFn:=⟨2,[.tmp 4],jP [dR,dF] [aF 9,xN 10 9,bU 11 2,xL 12 11,xN 13 12,xB 14 .neq 10 13] 14 (dV 2) [aF 15,xN 16 15,bB 17] 0 c_82_l0 c_82_k3⟩
def yG:AFn:=⟨3,[.cell 6 true 6,.tmp 7],d8 [lM,mE 4,xJ 5 2,bC 6 oO,cA 7] [gH 10,aZ 11 uM 10,xO 12 (.fld false 0 1 (.t 11)),aO 13 .neq 12,xM 14 13,jU 15 14 9 3,jU 16 14 4 4,oU 17 14 uH [.t 15,.t 16],mK 18 14 .neq 17 gX,xW 19 14 18,xM 20 19,bL 21 20 0 5,aU 22 20 21,mK 23 20 .lss 22 gX,xW 24 20 23,xM 25 24,bL 26 25 0 5,aU 27 25 26,eY 28 25 .gtr 27 255,xW 29 25 28] 29 [xO 30 (.build oO []),dC 6 30,cA 7] (fL [gH 32,aQ 33 5,xL 34 33,aS 35 nB 32 34,xM 31 35,bS 36 31,bT 37 31,eE 8 a9 a9 a9 a9,jX 36,dG 37] 8 (dU [bN 38,aO 39 .neq 38] 39 [xO 40 (.build oO []),dC 6 40,cA 7] (fD [gH 41,aK 42 8,xO 43 (.build lW [(0,1,AQ),(1,1,iE)]),gZ 44,xL 45 44,xO 46 (vC .u32 45),iT 47 iX 41 42 43 46,bU 48 4,xL 49 48,xO 50 (.build oO [(0,4,(.t 47)),(4,1,(.t 49))]),dC 6 50,tK 7] .ret)))⟩
def C7:AFn:=⟨3,PP,cG [lM,mB 4 1,xJ 5 2,PU 6 qA a9 kE,eE 7 a9 a9 bA a9] [cN 9 5,xL 10 9,bU 11 4,bE 11 10] (vZ [gH 12,gZ 13,aK 14 13,aS 15 kQ 12 14,cD 15] [gZ 16,bD 17 16,xL 18 17,xO 19 (Hs 1 18 (jM 2)),xL 20 19,qD 21 .eql 20 (vF 1),xM 22 21,b9 23 22 8,cK 24 22 23,eY 25 22 .gtr 24 512,xW 26 22 25] 26 (qF [(3,4)] [⟨some 27,none,.faddr 5 (.t 5)⟩,⟨some 28,none,.load false 1 (.t 27)⟩,⟨some 29,none,.build uX [(0,1,kD),(3,1,(.t 28))]⟩,⟨some 30,none,.load true 4 (.t 4)⟩,⟨none,none,.store 4 (.t 6) (.t 29)⟩,⟨none,none,.store 4 (.t 7) (.t 30)⟩] none) (qF [(10,11)] [⟨some 31,none,.faddr 0 (.t 5)⟩,⟨some 32,none,.faddr 2 (.t 31)⟩,⟨some 33,none,.load false 1 (.t 32)⟩,⟨some 34,none,.iaddr 1 none (.t 33) AS⟩,⟨some 35,none,.load false 1 (.t 34)⟩,⟨some 36,none,.conv .i64 (.t 35)⟩,⟨some 37,none,.mov (.t 8)⟩,⟨some 38,none,.faddr 5 (.t 5)⟩,⟨some 39,none,.load false 1 (.t 38)⟩,⟨some 40,none,.build uX [(1,1,(.t 36)),(2,1,(.t 37)),(3,1,(.t 39))]⟩,⟨some 41,none,.load true 4 (.t 4)⟩,⟨none,none,.store 4 (.t 6) (.t 40)⟩,⟨none,none,.store 4 (.t 7) (.t 41)⟩] none))⟩
def c_85_l0:Xv:=cW [bN 11,aT 12,xN 13 12,xB 14 .lss 11 13] 14 0 1 (vA [cA 10] [aT 17,bN 18,dW 19 17 18,aH 20 19,xL 21 20,xK 22 .eql 21 2] (kF 22 (xD [aT 23,bN 24,dW 25 23 24,bD 26 25,xL 27 26,kJ 28,xO 29 (.build DA [(0,9,(.t 28))]),aH 30 7,aK 31 30,Rp 32 rM 27 29 31 (.c a9),qD 33 .eql 32 (vF 1),xM 10 33]) (xD [kJ 35,aK 36 5,aT 37,bN 38,dW 39 37 38,aQ 40 39,xL 41 40,cJ 42 7,iT 43 kR 35 36 41 42,xM 34 43,bS 44 34,bT 45 34,dC 7 44,xM 10 45])) (hO (xM 46 10) (kF 46 (xD [kJ 47,aK 48 5,aT 49,bN 50,dW 51 49 50,bU 52 51,xL 53 52,cJ 54 7,iT 55 A9 47 48 53 54,dC 7 55]) (xD [kJ 56,aK 57 5,aT 58,bN 59,dW 60 58 59,cN 61 60,xL 62 61,cJ 63 7,iT 64 A9 56 57 62 63,dC 7 64])))) 15 9 16 .add 15 9 16
def c_85_k1:Xv:=gD (cJ 65 7) (dC 8 65)
def M8:AFn:=⟨4,[.cell 8 true 6],fO [eL 4,mE 5,mB 7 3,bC 8 oO] iF c_85_l0 c_85_k1⟩
def c_86_l0:Xv:=cW [bQ 4,fM 6,xL 7 6,xN 8 7,xB 9 .lss 5 8] 9 0 1 (xD [eJ 12,fM 13,xL 14 13,xM 15 4,dW 16 14 15,aH 17 16,aM 18 17,fM 19,xL 20 19,xM 21 4,dW 22 20 21,bD 23 22,aM 24 23,xO 25 (.bslice .imm 2 (List.replicate 2 lW) [(0,(.t 18)),(1,(.t 24))]),cU 26 2 16 12 25,xM 3 26]) 10 4 11 .add 10 4 11
def c_86_k1:Xv:=bO [eJ 27,bD 28 1,xL 29 28,cU 30 2 16 27 29,xM 2 30]
def M9:AFn:=⟨1,[.tmp 2],jS (eL 1) (xC 2 bA) (fO [jR 3 2] dF c_86_l0 c_86_k1)⟩
def MA:AFn:=⟨2,[.tmp 4],jO [dR,mL,cP] OQ .ret⟩
def c_89_l0:Xv:=cW [xM 22 10,aT 23,xN 24 23,xB 25 .lss 22 24] 25 0 1 (dU [aT 28,xM 29 10,dW 30 28 29,aH 31 30,xL 32 31,bN 33,xB 34 .leq 32 33] 34 [xI 8 14] (xR [aT 35,xM 36 10,dW 37 35 36,aH 38 37,xL 39 38,dG 39])) 26 10 27 .add 26 10 27
def c_89_l1:Xv:=cW [xM 47 11,aT 48,xN 49 48,xB 50 .lss 47 49] 50 2 3 (fD [kJ 53,aF 54,aT 55,xM 56 11,dW 57 55 56,aQ 58 57,aK 59 58,fI 60 rN 53 54 59,xM 12 60] (.block 4 (jL [xM 62 12,aO 63 .neq 62,xM 61 63] 61 [xM 64 12,cD 64] (AZ [aT 66,xM 67 11,xO 68 (.slc 5 (.t 66) none (some (.t 67)) none),aT 69,xM 70 11,dW 71 69 70,aQ 72 71,aK 73 72,aS 74 nC 68 73,xM 65 74] 65 [xI 8 7])))) 51 11 52 .add 51 11 52
def c_89_k2:Xv:=mF kI
def c_89_k3:Xv:=dU [eJ 40,bN 41,xB 42 .leq 40 41,xM 43 42,b9 44 43 3,eY 45 43 .gtr 44 1073741824,xW 46 43 45] 46 [xI 8 14] (gC [bB 11] 2 c_89_l1 c_89_k2)
def HM:AFn:=⟨4,[.tmp 8],lL [eL 4,kI] [aT 13,xN 14 13,dS 15 4,xL 16 15,aF 17,xX 18 6 16 17,dS 19 18,xL 20 19,xB 21 .gtr 14 20] 21 (xI 8 12) (fO [iF] (bB 10) c_89_l0 c_89_k3)⟩
def HO:AFn:=⟨3,[.tmp 6],qE DJ [gH 7,w6,gZ 9,xL 10 9,fI 11 rO 7 8 10,bY 12 11] 12 (xI 6 8) [gH 13,aM 14 5,aS 15 iY 13 14,cE 15]⟩
def c_91_l0:Xv:=iG [aN 14,aF 15,xN 16 15,xB 17 .lss 14 16] 17 0 1 [aF 20,aN 21,aW 22 20 21,xL 23 22,xN 24 23,bU 25 2,xL 26 25,aN 27,xX 28 3 26 27,bD 29 28,xL 30 29,xB 31 .neq 24 30] 31 [dV 2] 18 5 19 .add 18 5 19
def c_91_l1:Xv:=iG [bF 38,aF 39,aY 40,aW 41 39 40,xL 42 41,xN 43 42,xB 44 .lss 38 43] 44 4 5 [aF 47,aY 48,aW 49 47 48,xL 50 49,bF 51,aW 52 50 51,xL 53 52,bU 54 2,xL 55 54,aY 56,xX 57 3 55 56,eK 58 57,aZ 59 nE 58,aS 60 nD 53 59,bY 61 60] 61 [dV 9] 45 7 46 .add 45 7 46
def c_91_k2:Xv:=xR [aY 36,dJ 37 .add 36,cE 37]
def c_91_l3:Xv:=H6 [aY 32,aF 33,xN 34 33,xB 35 .lss 32 34] 35 2 (vY 3 (hO dB (DP 4 c_91_l1)) c_91_k2)
def c_91_k4:Xv:=mF dF
def c_91_k5:Xv:=gC [cQ] 2 c_91_l3 c_91_k4
def HQ:AFn:=⟨2,[.tmp 4],jP [dR,dF] [w6,xN 9 8,bU 10 2,xL 11 10,xN 12 11,xB 13 .neq 9 12] 13 (dV 2) [cM] 0 c_91_l0 c_91_k5⟩
def C8:AFn:=⟨3,PD,dQ P5 (d8 [gH 12,aK 13 4,mH 14 kS 12 13,xM 11 14,bS 15 11,bT 16 11,xM 10 15,dG 16] [bN 17,aO 18 .neq 17] 18 [xO 19 DK,bN 20,gY 19,xC 7 a9,xI 8 (-1),dG 20] (d8 [xM 22 10,aT 23,mH 24 nF 22 23,xM 21 24,bS 25 21,bT 26 21,xE 27 2 21,cO 25,cD 26,dG 27] [bN 28,aO 29 .neq 28] 29 [xO 30 DK,aV 31,bN 32,gY 30,xC 7 a9,cD 31,dG 32] (bO [xM 33 10,dY 34 rP [.t 33],bF 35,gY 34,cO 35,kI,iF])))⟩
def C9:AFn:=⟨3,[.cell 6 true 3,.tmp 7],d8 [lM,bC 6 jK,dB] OT 17 PA (fL [eK 19 3,dY 20 lS [.t 19],bC 8 jK,xS 3 8 20] 8 OU)⟩
def lP:AFn:=⟨2,[.cell 4 true 6],vG [mN 2,mB 3 1,bC 4 d7] [(3,4)] [⟨some 5,none,.bslice .imm 4 [] []⟩,⟨some 6,none,.faddr 5 (.t 2)⟩,⟨some 7,none,.load false 1 (.t 6)⟩,⟨some 8,none,.append .app 4 32 (.t 5) (.t 7)⟩,⟨some 9,none,.load true 4 (.t 3)⟩,⟨some 10,none,.bslice .imm 4 (List.replicate 1 fH) [(0,(.t 9))]⟩,⟨some 11,none,.append .app 4 32 (.t 8) (.t 10)⟩,⟨some 12,none,.faddr 5 (.t 2)⟩,⟨none,none,.store 1 (.t 12) (.t 11)⟩] none (gD (cJ 13 2) (dC 4 13))⟩
def pM:AFn:=⟨5,[.cell 10 true 6],mG (mN 5) (mB 7 2) (bC 10 d7) (cG [cN 11 7,⟨none,none,.store 1 (.t 11) kD⟩] [eJ 12,xM 13 4,bU 14 7,xL 15 14,xO 16 (.build DC [(0,1,(.t 12)),(1,1,(.t 13)),(2,1,(.t 15))]),dS 17 7,bM 17 16] (bO [cJ 18 5,aF 19,kH 20 7,dY 21 pR [.t 18,.t 19,.t 20],dC 10 21]))⟩
def c_96_l0:Xv:=iG [aY 7,bD 8 2,xL 9 8,xN 10 9,xB 11 .lss 7 10] 11 0 1 [bD 14 2,xL 15 14,aY 16,xX 17 2 15 16,aM 18 17,aM 19 3,xO 20 (.eqs false true [.i,.i] (.t 18) (.t 19))] 20 JD 12 6 13 .add 12 6 13
def c_96_k1:Xv:=w7 (cA 5)
def MB:AFn:=⟨2,gM,fO DI cQ c_96_l0 c_96_k1⟩
def uD:AFn:=⟨2,[.cell 4 true 2,.tmp 5],dQ [dR,mL,vD 4,cM] (cG [eK 9 2,aZ 10 CJ 9,cE 10] [eK 12 2,aM 13 3,aS 14 yN 12 13,xM 11 14,bS 15 11,bT 16 11,cO 15,cD 16] (jN 0 [aY 18,aO 19 .neq 18,xM 17 19] 17 [xO 20 oP,aY 21,jW 20,bQ 21] (jL [aV 23,bY 24 23,xM 22 24] 22 [xO 25 oP,jW 25,xI 5 8] (jL [gE 27,xL 28 27,bF 29,dW 30 28 29,cN 31 30,xL 32 31,xM 26 32] 26 [xO 33 oP,jW 33,xI 5 20] (AZ [gE 35,xL 36 35,bF 37,dW 38 36 37,aH 39 38,aM 40 39,aM 41 3,xO 42 (.eqs false true [.i,.i] (.t 40) (.t 41)),xM 34 42] 34 [gE 43,xL 44 43,bF 45,dW 46 44 45,bD 47 46,aM 48 47,jW 48,cM]))) (bO [gE 49,xL 50 49,bF 51,dW 52 50 51,aH 53 52,aM 54 53,jW 54,cM])))⟩
def pN:AFn:=⟨3,[.cell 6 true 6],mG (mN 3) (mB 5 2) (bC 6 d7) (cG [xO 7 (.bslice .imm 9 [] []),cN 8 3,xL 9 8,qB 10 .row 9 136 7 9,cN 11 3,bE 11 10] [cN 12 3,xL 13 12,aF 14,kH 15 5,xX 16 9 13 14,xS 9 16 15] (gD (cJ 17 3) (dC 6 17)))⟩
def HS:AFn:=⟨3,PD,oR P5 (xQ [gH 14,aK 15 4,aT 16,fI 17 yO 14 15 16,xM 13 17,bS 18 13,bT 19 13,xE 20 2 13,qC 10 mA a9,f9 10 18,xM 11 19,xM 12 20] [10]) (dU [xM 21 12,aO 22 .neq 21] 22 [xO 23 DK,xM 24 11,xM 25 12,gY 23,xC 7 a9,cD 24,dG 25] (qF [(7,8)] [⟨some 26,none,.faddr 0 (.t 10)⟩,⟨some 27,none,.load false 1 (.t 26)⟩,⟨some 28,none,.mov (.t 2)⟩,⟨some 29,none,.len (.t 28)⟩,⟨some 30,none,.iaddr 4 none (.t 27) (.t 29)⟩,⟨some 31,none,.load true 4 (.t 30)⟩,⟨some 32,none,.faddr 1 (.t 10)⟩,⟨some 33,none,.load false 1 (.t 32)⟩,⟨none,none,.store 4 (.t 6) (.t 31)⟩,⟨some 7,none,.mov (.t 33)⟩,⟨some 8,none,.mov iE⟩,⟨some 9,none,.mov iE⟩] none))⟩
def qJ:AFn:=⟨3,[.cell 6 true 3,.tmp 7],d8 [lM,bC 6 jK,dB] OT 17 PA (fL [eK 19 3,dY 20 kT [.t 19],bC 8 jK,xS 3 8 20] 8 OU)⟩
def c_101_l0:Xv:=iG uY 14 0 1 OW 25 [cP] 15 5 16 .add 15 5 16
def c_101_k1:Xv:=tN 4
def wB:AFn:=⟨2,[.tmp 4],jP [cP] uZ 10 cP [cM] 0 c_101_l0 c_101_k1⟩
def c_102_l0:Xv:=iG uY 14 0 1 [aJ 17,aN 18,aW 19 17 18,xL 20 19,aF 21,aN 22,aW 23 21 22,xL 24 23,aS 25 yP 20 24,bY 26 25] 26 [cP] 15 5 16 .add 15 5 16
def c_102_k1:Xv:=tN 4
def wC:AFn:=⟨2,[.tmp 4],jP [cP] uZ 10 cP [cM] 0 c_102_l0 c_102_k1⟩
def c_103_l0:Xv:=iG uY 14 0 1 [aJ 17,aN 18,dW 19 17 18,aH 20 19,xL 21 20,aF 22,aN 23,dW 24 22 23,aH 25 24,xL 26 25,xB 27 .neq 21 26,xM 28 27,b9 29 28 0,b9 30 28 5,oW 31 28 5 29 30,eZ 32 28 31,eZ 33 28 32,aU 34 28 33,jY 35 28,b9 36 28 5,oW 37 28 5 35 36,eZ 38 28 37,eZ 39 28 38,aU 40 28 39,eH 41 28 .neq 34 40,xW 42 28 41,xM 43 42,b9 44 43 0,b9 45 43 5,oW 46 43 5 44 45,eZ 47 43 46,jU 48 43 4 47,jY 49 43,b9 50 43 5,oW 51 43 5 49 50,eZ 52 43 51,jU 53 43 4 52,oU 54 43 rQ [.t 48,.t 53],vB 55 43 54,xW 56 43 55] 56 [cP] 15 5 16 .add 15 5 16
def c_103_k1:Xv:=tN 4
def wD:AFn:=⟨2,[.tmp 4],jP [cP] uZ 10 cP [cM] 0 c_103_l0 c_103_k1⟩
def c_104_l0:Xv:=iG [aN 20,gE 21,xL 22 21,xN 23 22,xB 24 .lss 20 23] 24 0 1 [gE 27,xL 28 27,aN 29,aW 30 28 29,xL 31 30,eM 32,xL 33 32,aN 34,aW 35 33 34,xL 36 35,xB 37 .neq 31 36] 37 [cP] 25 5 26 .add 25 5 26
def c_104_k1:Xv:=tN 4
def qK:AFn:=⟨2,[.tmp 4],jP AR [aH 6 2,xL 7 6,cV 8,xL 9 8,xB 10 .neq 7 9,xM 11 10,eZ 12 11 2,aU 13 11 12,cK 14 11 13,eZ 15 11 3,aU 16 11 15,cK 17 11 16,eH 18 11 .neq 14 17,xW 19 11 18] 19 cP [cM] 0 c_104_l0 c_104_k1⟩
def wE:AFn:=⟨2,DE,d8 [dR,vD 4,xC 5 a9,cA 6] [cJ 7 2,w6,aS 9 A8 7 8,aO 10 .neq 9] 10 [xO 11 oP,jW 11,xC 5 a9,cA 6] (qF [(7,12),(11,12)] [⟨some 12,none,.faddr 4 (.t 2)⟩,⟨some 13,none,.load false 1 (.t 12)⟩,⟨some 14,none,.mov (.t 1)⟩,⟨some 15,none,.iaddr 9 none (.t 13) (.t 14)⟩,⟨some 16,none,.faddr 0 (.t 15)⟩,⟨some 17,none,.load true 2 (.t 16)⟩,⟨some 18,none,.faddr 4 (.t 2)⟩,⟨some 19,none,.load false 1 (.t 18)⟩,⟨some 20,none,.mov (.t 1)⟩,⟨some 21,none,.iaddr 9 none (.t 19) (.t 20)⟩,⟨some 22,none,.faddr 2 (.t 21)⟩,⟨some 23,none,.load false 1 (.t 22)⟩,⟨none,none,.store 2 (.t 4) (.t 17)⟩,⟨some 5,none,.mov (.t 23)⟩,⟨some 6,none,.mov kD⟩] none)⟩
def mO:AFn:=⟨2,DG,d8 [dR,LI 4 kE bA,cA 5] [aF 6,aO 7 .lss 6,bF 8,jY 9 8,bL 10 8 4 2,aU 11 8 10,cK 12 8 11,eH 13 8 .geq 9 12,xW 14 8 13,xM 15 14,bL 16 15 4 2,aU 17 15 16,jY 18 15,oW 19 15 9 17 18,bL 20 15 4 19,aU 21 15 20,vB 22 15 21,xW 23 15 22] 23 [xO 24 (.build DC []),bM 4 24,cA 5] (bO [cN 25 2,xL 26 25,aF 27,xX 28 9 26 27,dS 29 28,aK 30 29,bM 4 30,tK 5])⟩
def c_107_l0:Xv:=iG uY 14 0 1 [aJ 17,aN 18,xX 19 3 17 18,eK 20 19,aF 21,aN 22,xX 23 3 21 22,eK 24 23,xO 25 (.eqs true true [.i,.i,.i] (.t 20) (.t 24))] 25 [cP] 15 5 16 .add 15 5 16
def c_107_k1:Xv:=tN 4
def DZ:AFn:=⟨2,[.tmp 4],jP [cP] uZ 10 cP [cM] 0 c_107_l0 c_107_k1⟩
def qL:AFn:=⟨2,[.tmp 4],qE [dR,xC 4 kE] J2 13 DO [cN 14 2,xL 15 14,aF 16,xX 17 9 15 16,bU 18 17,xL 19 18,bP 19]⟩
def qM:AFn:=⟨2,[.tmp 4],qE [dR,xC 4 a9] J2 13 pZ [cN 14 2,xL 15 14,aF 16,xX 17 9 15 16,bD 18 17,xL 19 18,bP 19]⟩
def qN:AFn:=⟨2,gM,vA JG [eK 11 2,aM 12 3,aS 13 yQ 11 12,xM 10 13,bS 14 10,bT 15 10,cE 14,cO 15] (cL [bF 16] 16 [aY 17,dV 1,bQ 17]) (lK [eK 19 2,aM 20 3,aS 21 CN 19 20,xM 18 21,bS 22 18,bT 23 18,cD 22,dG 23] (cL [bN 24] 24 [aV 25,dV 2,bQ 25]) (w7 cM))⟩
def c_127_l0:Xv:=iS [xB 42 .lss 41 40] 42 0 1 [xM 43 41,xX 44 2 39 41,aM 45 44,qC 12 (LH 0) (LH 0),xM 11 43,f9 12 45] 12 (fD [aM 46 12,bN 47,xM 48 11,xX 49 3 47 48,bD 50 49,xL 51 50,xM 52 10,xM 53 11,aW 54 52 53,xL 55 54,fI 56 yR 46 51 55,xM 13 56] (cL [xM 57 13,aO 58 .neq 57] 58 [xM 59 13,cE 59])) 60 .add 41 41 60
def c_127_k1:Xv:=jN 2 [aQ 62 5,xL 63 62,aO 64 .lss 63,xM 65 64,eZ 66 65 5,aU 67 65 66,eY 68 65 .gtr 67 255,xW 69 65 68,xM 61 69] 61 [xI 6 9] (jL [aQ 71 5,xL 72 71,aO 73 .neq 72,xM 74 73,dE 75 74 (DQ 9 3),cH 76 74 1,oT 77 74 yS [.t 75,.t 76],pJ 78 74 .neq 77 (jM 3),xV 79 74 78,xM 70 79] 70 [xI 6 11] (cL [gH 81,aF 82,bD 83 5,aH 84 83,xL 85 84,fI 86 rT 81 82 85,bY 87 86,xM 80 87] 80 [xI 6 8])) (bO [gH 88,bD 89 5,aM 90 89,aS 91 nG 88 90,cE 91])
def qO:AFn:=⟨3,[.tmp 6],vA DJ [gH 15,aF 16,aS 17 rR 15 16,xM 14 17,bS 18 14,bT 19 14,cO 18,cD 19] (cL [aV 20,aO 21 .neq 20] 21 [aV 22,cE 22]) (fD [dS 23 3,xL 24 23,aF 25,xX 26 6 24 25,aQ 27 26,xL 28 27,gH 29,aF 30,aS 31 rS 29 30,dG 28,xM 10 31] (dU [gZ 32,xL 33 32,xN 34 33,bN 35,xN 36 35,xB 37 .neq 34 36] 37 [xI 6 2] (gC [gZ 38,xL 39 38,xN 40 39,bB 41] 0 c_127_l0 c_127_k1)))⟩
def wG:AFn:=⟨2,[.tmp 4],eW [cP] [aJ 5,aF 6,aS 7 rU 5 6,aO 8 .geq 7,aV 4]⟩
def E0:AFn:=⟨2,[.tmp 3],eW [dR,cA 3] [gE 4,aK 5 4,fM 6,aK 7 6,aS 8 n9 5 7,aV 3]⟩
def c_130_l0:Xv:=mC [xB 25 .lss 24 23] 25 0 1 (jO [xM 26 24,xX 27 2 22 24,aM 28 27,qC 6 (LH 0) (LH 0),bQ 26,f9 6 28] [aM 29 6,cV 30,xL 31 30,aN 32,xX 33 2 31 32,aM 34 33,xO 35 (.eqs true true [.i,.i] (.t 29) (.t 34))] (pI 35 [cP])) 36 .add 24 24 36
def c_130_k1:Xv:=tN 4
def qP:AFn:=⟨2,[.tmp 4],jP AR [gE 7,xL 8 7,eM 9,xL 10 9,xB 11 .neq 8 10,xM 12 11,bL 13 12 0 2,aU 14 12 13,cK 15 12 14,bL 16 12 0 3,aU 17 12 16,cK 18 12 17,eH 19 12 .neq 15 18,xW 20 12 19] 20 cP [aH 21 2,xL 22 21,xN 23 22,bB 24] 0 c_130_l0 c_130_k1⟩
def wH:AFn:=⟨3,[.tmp 6],qE DJ [gH 7,w6,gZ 9,xL 10 9,fI 11 rT 7 8 10,bY 12 11] 12 (xI 6 8) [gH 13,aM 14 5,aS 15 nG 13 14,cE 15]⟩
def c_132_l0:Xv:=cW [xM 12 4,aJ 13,xN 14 13,xB 15 .lss 12 14] 15 0 1 (xR [eJ 18,aJ 19,xM 20 4,aW 21 19 20,xL 22 21,xO 23 (.minmax true [.t 18,.t 22]),xM 3 23]) 16 4 17 .add 16 4 17
def c_132_k1:Xv:=gD (eJ 24) (xM 2 24)
def E3:AFn:=⟨1,[.tmp 2],vZ [mD 2 0] [aJ 5,xN 6 5,dJ 7 .lss 6] 7 (xR [xO 8 (.mkiface 9 (.c (.str [115,108,105,99,101,115,46,77,97,120,58,32,101,109,112,116,121,32,108,105,115,116]))),⟨none,none,.panic (.t 8)⟩]) (fO [aJ 9,xO 10 (Hs 1 9 gX),xL 11 10,xM 3 11] (dV 1) c_132_l0 c_132_k1)⟩
def wI:AFn:=⟨1,[.tmp 2],qE [mD 2 0] [aJ 3,xO 4 (.bslice .imm 1 kC [(0,(.t 3))]),aZ 5 kU 4,bY 6 5] 6 (mD 2 0) [aJ 7,xO 8 (.bin .sub (jM 32) (.t 7)),xO 9 (.bin .shr (vF 4294967295) (.t 8)),bN 2]⟩
def E4:AFn:=⟨2,DG,oR [dR,eE 4 a9 a9 a9 a9,cM] (xQ [eI 10,aF 11,aS 12 nH 10 11,dG 12,bS 13 9,bT 14 9,xE 15 2 9,eE 6 a9 a9 a9 a9,gY 13,cO 14,cD 15] [6]) (bO [aK 16 6,aV 17,bM 4 16,bQ 17])⟩
def E5:AFn:=⟨4,[.cell 8 true 4],oR [eL 4,mE 5,xJ 6 2,eE 8 a9 a9 a9 a9] (xQ [aK 11 5,dY 12 cC [.t 11],eE 9 a9 a9 a9 a9,bM 9 12] [9]) (d8 [kJ 13,aM 14 6,aS 15 nI 13 14,xM 10 15] [xM 16 10,aO 17 .eql 16,xM 18 17,jU 19 18 4 5,jU 20 18 2 6,oU 21 18 rV [.t 19,.t 20],vB 22 18 21,xW 23 18 22,xM 24 23,bL 25 24 0 6,aU 26 24 25,eY 27 24 .neq 26 (-1),b9 28 24 27,dE 29 28 (DQ 4 5),eV 30 28 0 6,dZ 31 28 30,oT 32 28 rW [.t 29,.t 31],dE 33 28 (LG 32),iQ 34 24 (.pick (.t 28) (.t 33) (.c qA)),xW 35 24 34] 35 [aK 36 9,jX 36] (lK [aH 37 6,xL 38 37,xK 39 .eql 38 (-1)] (kF 39 (xD [bD 40 9,xL 41 40,aQ 42 6,xL 43 42,eJ 44,xM 45 10,aS 46 rX 44 45,aW 47 41 43,bE 47 46]) (xD [aQ 48 9,xL 49 48,aH 50 6,xL 51 50,aW 52 49 51,xL 53 52,aQ 54 6,xL 55 54,eJ 56,xM 57 10,aS 58 rX 56 57,aW 59 53 55,bE 59 58])) (gD (aK 60 9) (jX 60))))⟩
def c_136_l0:Xv:=cW [bF 29,gE 30,xL 31 30,xN 32 31,xB 33 .lss 29 32] 33 0 1 (cL [gE 36,xL 37 36,bF 38,xX 39 2 37 38,aM 40 39,aZ 41 dM 40,aO 42 .neq 41] 42 [xC 4 a9]) 34 7 35 .add 34 7 35
def c_136_l1:Xv:=cW [bN 44,xF 45 8 2,xL 46 45,xN 47 46,xB 48 .lss 44 47] 48 2 3 (cG [xF 51 8 2,xL 52 51,bN 53,aW 54 52 53,xL 55 54,xM 10 55] [cV 56,xL 57 56,xM 58 10,aW 59 57 58,xL 60 59] (kG 60 (oS [(1,15),(4,15),(6,15),(9,15),(10,15),(11,15)] [⟨some 62,none,.faddr 1 (.t 2)⟩,⟨some 63,none,.load false 1 (.t 62)⟩,⟨some 64,none,.mov (.t 10)⟩,⟨some 65,none,.iaddr 2 none (.t 63) (.t 64)⟩,⟨some 66,none,.load true 2 (.t 65)⟩,⟨some 67,none,.faddr 1 (.t 3)⟩,⟨some 68,none,.load false 1 (.t 67)⟩,⟨some 69,none,.mov (.t 10)⟩,⟨some 70,none,.iaddr 1 none (.t 68) (.t 69)⟩,⟨some 71,none,.load false 1 (.t 70)⟩,⟨some 72,none,.load true 1 (.t 8)⟩,⟨some 73,none,.pcall yV [.t 66,.t 71,.t 72]⟩,⟨some 61,none,.mov (.t 73)⟩,⟨some 74,none,.ext 0 (.t 61)⟩,⟨some 75,none,.ext 1 (.t 61)⟩,⟨some 11,none,.alloc gN⟩,⟨none,none,.store 1 (.t 11) (.t 74)⟩,⟨some 12,none,.mov (.t 75)⟩] (some [11]) (xR [xA 76 1 11,bE 8 76])))) 49 9 50 .add 49 9 50
def c_136_k2:Xv:=cG [xA 78 1 8,aZ 79 yW 78,xM 77 79,bS 80 77,bT 81 77,xM 13 80,xM 14 81] [jR 15 1] (cG [xM 82 15,xM 83 13,cU 84 1 1 82 83,xM 15 84] [xM 85 15,bU 86 3,xL 87 86,cU 88 1 1 85 87,xM 15 88] (Ro (xM 89 15) 89))
def c_136_k3:Xv:=AY [v9 43 yU [],bC 8 gN,bE 8 43] [iF] 2 c_136_l1 c_136_k2
def wJ:AFn:=⟨2,[.tmp 4],mG dR mL pZ (jP [eI 17,aZ 18 yT 17,xM 16 18,bS 19 16,bT 20 16,bQ 19,cE 20] [aY 21,aO 22 .neq 21,xM 23 22,jU 24 23 9 2,jU 25 23 4 3,oU 26 23 rY [.t 24,.t 25],mK 27 23 .neq 26 gX,xW 28 23 27] 28 pZ [dB] 0 c_136_l0 c_136_k3)⟩
def E6:AFn:=⟨4,[.cell 8 true 6,.tmp 9],oR [eL 4,mE 5,xJ 7 3,bC 8 oO,cA 9] (xQ [kJ 16,aK 17 5,aT 18,aH 19 7,aK 20 19,iT 21 nJ 16 17 18 20,xM 15 21,bS 22 15,bT 23 15,bC 10 lY,qC 11 cF a9,xS 5 10 22,f9 11 23] [10,11]) (fL [kJ 25,aM 26 11,aH 27 7,aK 28 27,cN 29 7,xL 30 29,iT 31 nK 25 26 28 30,xM 24 31,bS 32 24,bT 33 24,eE 12 a9 a9 a9 a9,bM 12 32,xM 13 33] 12 (cG [jR 14 3] [xM 34 14,dS 35 7,xL 36 35,cU 37 3 24 34 36,xM 14 37] (vG [xM 38 14,aT 39,aH 40 10,xL 41 40,aH 42 11,xL 43 42,xO 44 (.build lX [(0,1,(.t 39)),(1,1,(.t 41)),(2,1,(.t 43))]),xO 45 (.bslice .imm 3 (List.replicate 1 lX) [(0,(.t 44))]),cU 46 3 24 38 45,xM 14 46] [(5,7)] [⟨some 47,none,.load true 4 (.t 12)⟩,⟨some 48,none,.mov (.t 13)⟩,⟨some 49,none,.mov (.t 14)⟩,⟨some 50,none,.build oO [(0,4,(.t 47)),(4,1,(.t 48)),(5,1,(.t 49))]⟩,⟨some 51,none,.faddr 0 (.t 10)⟩,⟨some 52,none,.load false 1 (.t 51)⟩,⟨some 53,none,.bin .gtr (.t 52) iE⟩,⟨none,none,.store 6 (.t 8) (.t 50)⟩,⟨some 9,none,.mov (.t 53)⟩] none .ret)))⟩
def c_146_l0:Xv:=cW [xM 29 10,bN 30,xN 31 30,xB 32 .lss 29 31] 32 0 1 (fD [gZ 35,xL 36 35,xM 37 10,xX 38 2 36 37,aM 39 38,bN 40,xM 41 10,aW 42 40 41,xL 43 42,dS 44 3,xL 45 44,aF 46,xX 47 6 45 46,aQ 48 47,xL 49 48,xM 50 10,xX 51 3 49 50,bD 52 51,xL 53 52,fI 54 yZ 39 43 53,cD 54] (cL [aV 55,aO 56 .neq 55] 56 [aV 57,cE 57])) 33 10 34 .add 33 10 34
def c_146_k1:Xv:=jN 2 [aQ 59 5,xL 60 59,aO 61 .lss 60,xM 62 61,eZ 63 62 5,aU 64 62 63,eY 65 62 .gtr 64 255,xW 66 62 65,xM 58 66] 58 [xI 6 9] (jL [aQ 68 5,xL 69 68,aO 70 .gtr 69,xM 71 70,dE 72 71 (DQ 9 3),cH 73 71 1,oT 74 71 zA [.t 72,.t 73],pJ 75 71 .neq 74 (jM 3),xV 76 71 75,xM 67 76] 67 [xI 6 11] (cL [gH 78,aF 79,bD 80 5,aH 81 80,xL 82 81,fI 83 rO 78 79 82,bY 84 83,xM 77 84] 77 [xI 6 8])) (bO [gH 85,bD 86 5,aM 87 86,aS 88 iY 85 87,cE 88])
def qQ:AFn:=⟨3,[.tmp 6],mG lM (xJ 5 2) cQ (d8 [gH 12,aF 13,aS 14 rZ 12 13,xM 11 14,bS 15 11,bT 16 11,cO 15,cD 16] [aV 17,aO 18 .neq 17] 18 [aV 19,cE 19] (jP [gH 20,aF 21,aS 22 sA 20 21,dG 22] [gZ 23,xL 24 23,xN 25 24,bN 26,xN 27 26,xB 28 .neq 25 27] 28 (xI 6 2) [bB 10] 0 c_146_l0 c_146_k1))⟩
def c_147_l0:Xv:=iG J5 9 0 1 [aJ 12,aN 13,dW 14 12 13,aQ 15 14,aK 16 15,aK 17 3,aS 18 nL 16 17] 18 [tK 4] 10 5 11 .add 10 5 11
def c_147_k1:Xv:=mF cP
def E7:AFn:=⟨2,[.tmp 4],fO [mL,cP] cM c_147_l0 c_147_k1⟩
def wK:AFn:=⟨3,[.tmp 6],eW DN [gH 7,w6,aS 9 sB 7 8,bN 10,eV 11 10 5 3,dZ 12 10 11,cH 13 10 1,dE 14 10 (BP 6 12 13),eV 15 10 2 14,dZ 16 10 15,cH 17 10 2,oT 18 10 nM [.t 16,.t 17],pJ 19 10 .geq 18 gX,xV 20 10 19,cE 20]⟩
def c_149_l0:Xv:=iG [aY 31,aN 32,xN 33 32,xB 34 .lss 31 33] 34 0 1 [eM 37,xL 38 37,aY 39,aW 40 38 39,xL 41 40,aN 42,aY 43,xX 44 2 42 43,aQ 45 44,xL 46 45,aS 47 kV 41 46,bY 48 47] 48 [dV 9] 35 6 36 .add 35 6 36
def c_149_k1:Xv:=mF dF
def mP:AFn:=⟨2,[.tmp 4],lL oQ [cV 7,xL 8 7,aO 9 .lss 8,bN 10,bL 11 10 0 3,aU 12 10 11,bL 13 10 4 2,aU 14 10 13,cK 15 10 14,eH 16 10 .geq 12 15,xW 17 10 16] 17 (dV 8) (jP [cN 18 2,xL 19 18,cV 20,xL 21 20,xX 22 3 19 21,aQ 23 22,xL 24 23,bQ 24] [eM 25,xL 26 25,xN 27 26,aN 28,xN 29 28,xB 30 .neq 27 29] 30 (dV 2) [cQ] 0 c_149_l0 c_149_k1)⟩
def c_150_l0:Xv:=cW [aY 7,w6,xB 9 .lss 7 8] 9 0 1 P4 10 6 11 .add 10 6 11
def c_150_k1:Xv:=bO [aJ 14,xO 15 (vC .u64 14),aN 16,xB 17 .lss 15 16,bP 17]
def E8:AFn:=⟨2,[.tmp 4],hO cP (fO [xC 5 DM] cQ c_150_l0 c_150_k1)⟩
def mQ:AFn:=⟨1,[.tmp 2],qE [eL 1,bB 2] [fM 3,xL 4 3,dJ 5 .lss 4,aN 6,eZ 7 6 1,aU 8 6 7,eY 9 6 .gtr 8 32,xW 10 6 9] 10 (bB 2) [fM 11,xL 12 11,xM 2 12]⟩
def wL:AFn:=⟨2,gM,vA [dR,mL,tL 4,cM] [eI 7,aK 8 3,aS 9 CI 7 8,bN 6] (cL [aY 10,aO 11 .neq 10] 11 [aY 12,tL 4,bQ 12]) (bO [eI 13,aK 14 3,mH 15 kW 13 14,bP 15,cM])⟩
def c_153_l0:Xv:=mC [xB 37 .lss 36 35] 37 0 1 (dQ [xM 38 36,xX 39 9 34 36,kH 40 39,bC 11 [cF,cF,cF,.Xu 2 [],cF,cF,.Xu 1 [],cF,.Xu 1 []],xM 10 38,xS 9 11 40] (d8 [xL 42 2,kH 43 11,mH 44 sD 42 43,xM 41 44,bS 45 41,bT 46 41,xM 12 45,xM 13 46] [xM 47 13,aO 48 .neq 47] 48 [xM 49 10,xM 50 13,xC 4 a9,bQ 49,bE 6 50] (xR [bN 51,xM 52 12,xO 53 (.bslice .imm 1 kC [(0,(.t 52))]),cU 54 1 8 51 53,dG 54]))) 55 .add 36 36 55
def c_153_k1:Xv:=bO [bN 56,bP 56,cM,⟨none,none,.store 1 (.t 6) iE⟩]
def bG:ADFn:=⟨2,[.tmp 4,.tmp 5,.cell 6 false 1],.seq (xR [xO 2 (.box (.t 0)),xC 4 a9,xI 5 0,xO 6 (.alloc [.int .i64 0])]) (.seq (xR [xL 14 2,xO 15 (.tcall nN [.t 14]),xO 7 (.alloc [.nilptr]),xS 1 7 15]) (.seq (.seq (xR [xL 16 2,xO 17 (.build pY []),xO 18 (.tcall kX [.t 16,.c (.int .i64 (-1)),.c AU,.t 17]),xK 19 .eql 18 1,xM 20 19,xG 21 20 false (.load false 1 (.t 7)),xG 22 20 false (.eqn false (.t 21) (.c (.nilptr))),xW 23 20 22]) (.cond (.t 23) (.seq (xR [xC 4 a9,xI 5 (-1),⟨none,none,.store 1 (.t 6) AS⟩]) (.ret)) (.skip))) (.seq (.seq (xR [xM 24 1,xN 25 24,xK 26 .gtr 25 64]) (.cond (.t 26) (.seq (xR [xC 4 a9,xI 5 (-1),⟨none,none,.store 1 (.t 6) (.c (.int .i64 12))⟩]) (.ret)) (.skip))) (.dfr [⟨some 27,none,.mkfunc (.func gR) [] [.t 6,.t 7,.t 2]⟩] 27 (.seq (xR [xM 28 1,xN 29 28,xO 30 (.mkslice .row 9 120 [.int .i64 0,.int .i64 0,.int .i64 0,.Xu 2 [],.int .i64 0,.int .i64 0,.Xu 1 [],.int .i64 0,.Xu 1 []] (.t 29) (.t 29)),xM 8 30]) (.seq (xR [xM 31 8,xM 32 1,xO 33 (.copy 9 (.t 31) (.t 32))]) (.seq (xR [xO 9 (.nilapp 1)]) (.seq (.seq (xR [xM 34 8,xN 35 34,xI 36 0]) (.block 0 (.loop c_153_l0))) c_153_k1)))))))),gR,3,none,.seq (xR [xL 3 0,xK 4 .neq 3 0]) (.cond (.t 4) (xD [xL 5 2,xL 6 1,xO 7 (.nilchk (.t 6)),xA 8 15 7,xO 9 (.nilchk (.t 5)),xS 15 9 8]) (.skip))⟩
def E9:AFn:=⟨1,v7,d8 [eE 2 a9 a9 bA a9] OY 11 [xO 12 DK,bM 2 12] (bO [aJ 13,bX 14 13,aH 15 14,aK 16 15,dY 17 fT [.t 16],bM 2 17])⟩
def c_155_l0:Xv:=iG [aY 7,gE 8,xL 9 8,xN 10 9,xB 11 .lss 7 10] 11 0 1 [gE 14,xL 15 14,aY 16,dW 17 15 16,aH 18 17,aM 19 18,aM 20 3,xO 21 (.eqs false true [.i,.i] (.t 19) (.t 20)),xM 22 21,eZ 23 22 2,aU 24 22 23,b9 25 22 6,oW 26 22 5 24 25,bL 27 22 2 26,jU 28 22 2 27,jU 29 22 2 3,iQ 30 22 (.eqs false true [.i,.i] (.t 28) (.t 29)),xW 31 22 30] 31 [aY 32,bP 32,tK 5] 12 6 13 .add 12 6 13
def c_155_k1:Xv:=w7 (cA 5)
def EA:AFn:=⟨2,gM,fO DI cQ c_155_l0 c_155_k1⟩
def c_156_l0:Xv:=cW [xM 32 11,aT 33,xN 34 33,xB 35 .lss 32 34] 35 0 1 (oS [(0,15),(2,15),(5,15),(9,15),(10,15)] [⟨some 39,none,.load true 9 (.t 3)⟩,⟨some 40,none,.faddr 0 (.t 10)⟩,⟨some 41,none,.load false 1 (.t 40)⟩,⟨some 42,none,.mov (.t 11)⟩,⟨some 43,none,.iaddr 4 none (.t 41) (.t 42)⟩,⟨some 44,none,.load true 4 (.t 43)⟩,⟨some 45,none,.mov (.t 2)⟩,⟨some 46,none,.mov (.t 11)⟩,⟨some 47,none,.iaddr 9 none (.t 45) (.t 46)⟩,⟨some 48,none,.load true 9 (.t 47)⟩,⟨some 49,none,.pcall zB [.t 39,.t 44,.t 48]⟩,⟨some 38,none,.mov (.t 49)⟩,⟨some 50,none,.ext 0 (.t 38)⟩,⟨some 51,none,.ext 1 (.t 38)⟩,⟨some 52,none,.ext 2 (.t 38)⟩,⟨some 12,none,.alloc gK⟩,⟨none,none,.store 4 (.t 12) (.t 50)⟩,⟨some 13,none,.mov (.t 51)⟩,⟨some 14,none,.mov (.t 52)⟩] (some [12]) (dU [xM 53 14,aO 54 .neq 53] 54 [xO 55 (.build JE []),xM 56 11,xM 57 14,f9 6 55,cO 56,cD 57] (dQ [aH 58 10,xL 59 58,aK 60 12,xO 61 (.bslice .imm 4 (List.replicate 1 gK) [(0,(.t 60))]),cU 62 4 96 59 61,aH 63 10,bE 63 62] (xR [aQ 64 10,xL 65 64,xM 66 13,xO 67 (.bslice .imm 1 kC [(0,(.t 66))]),cU 68 1 8 65 67,aQ 69 10,bE 69 68])))) 36 11 37 .add 36 11 37
def c_156_k1:Xv:=bO [aM 70 10,f9 6 70,dB,kI]
def qR:AFn:=⟨3,[.cell 6 true 2,.tmp 7,.tmp 8],dQ [lM,mE 4,qC 6 mA a9,dB,kI] (vZ [gH 15,aK 16 4,aS 17 uH 15 16,dG 17] [bN 18,aO 19 .eql 18,xM 20 19,cH 21 20 2,B2 22 20 21,pJ 23 20 .gtr 22 (jM 64),xV 24 20 23] 24 (xR [xI 9 12]) (dU [bN 25,aO 26 .neq 25] 26 [xO 27 (.build JE []),bN 28,f9 6 27,xI 7 (-1),cD 28] (fO [aK 29 4,xO 30 (.bslice .imm 4 (List.replicate 1 gK) [(0,(.t 29))]),xO 31 (.build JE [(0,1,(.t 30))]),qC 10 mA a9,f9 10 31] (bB 11) c_156_l0 c_156_k1)))⟩
def EB:AFn:=⟨1,JI,jS (eL 1) (bC 2 jK) (cG [bC 3 jK] [cV 4,xL 5 4,lN 6,xL 7 6,cU 8 1 8 5 7,cV 9,bE 9 8] (cG [eM 10,xL 11 10,fM 12,xL 13 12,qB 14 .row 5 40 11 13,eM 15,bE 15 14] [jQ 16,xL 17 16,bD 18 1,xL 19 18,cU 20 2 16 17 19,jQ 21,bE 21 20] (gD (eK 22 3) (xS 3 2 22))))⟩
def c_158_l0:Xv:=iG uY 14 0 1 OW 25 [cP] 15 5 16 .add 15 5 16
def c_158_k1:Xv:=tN 4
def wM:AFn:=⟨2,[.tmp 4],jP [cP] uZ 10 cP [cM] 0 c_158_l0 c_158_k1⟩
def qS:AFn:=⟨2,[.tmp 4],eW AR [aK 5 2,aK 6 3,aS 7 nL 5 6,bF 8,eV 9 8 2 2,dE 10 8 (DQ 2 9),eV 11 8 2 3,dE 12 8 (DQ 2 11),oT 13 8 n7 [.t 10,.t 12],xV 14 8 13,bP 14]⟩
def c_160_l0:Xv:=iS [xB 12 .lss 11 10] 12 0 1 [xM 13 11,dW 14 9 11,xA 15 5 14,bC 7 JC,cE 13,xS 5 7 15] 7 (cL [aH 16 7,aM 17 16,aM 18 3,xO 19 (.eqs false true [.i,.i] (.t 17) (.t 18)),xM 20 19,bL 21 20 2 7,jU 22 20 2 21,jU 23 20 2 3,iQ 24 20 (.eqs false true [.i,.i] (.t 22) (.t 23)),xW 25 20 24] 25 [aY 26,bP 26,tK 5]) 27 .add 11 11 27
def c_160_k1:Xv:=w7 (cA 5)
def EC:AFn:=⟨2,gM,jV DI [gE 8,xL 9 8,xN 10 9,bB 11] c_160_l0 c_160_k1⟩
def eP:AFn:=⟨2,gM,d8 [dR,dF,cM] [aF 7,aO 8 .lss 7,aV 9,jY 10 9,bL 11 9 5 2,aU 12 9 11,cK 13 9 12,eH 14 9 .geq 10 13,xW 15 9 14] 15 [B1,xI 5 8] (fL [dS 16 2,xL 17 16,aF 18,xX 19 6 17 18,cJ 20 19,bC 6 DB,dC 6 20] 6 (jN 0 [aH 22 6,xL 23 22,aZ 24 zC 23,bY 25 24,xM 21 25] 21 [B1,xI 5 6] (jL [aQ 27 6,xL 28 27,xN 29 28,xK 30 .gtr 29 6,xM 31 30,bL 32 31 2 6,aU 33 31 32,cK 34 31 33,eY 35 31 .gtr 34 16,xW 36 31 35,xM 26 36] 26 [B1,xI 5 12] (cL [dS 38 6,xL 39 38,dJ 40 .lss 39,xM 41 40,bL 42 41 5 6,aU 43 41 42,eY 44 41 .gtr 43 256,xW 45 41 44,xM 37 45] 37 [B1,xI 5 9])) (lK [eI 47,cJ 48 6,aS 49 zD 47 48,xM 46 49,bS 50 46,bT 51 46,bP 50,bQ 51] (cL [aN 52,aO 53 .neq 52] 53 [xM 54 4,aN 55,bP 54,bQ 55]) (lK [eI 56,cJ 57 6,aS 58 zE 56 57,bQ 58] (cL [aN 59,aO 60 .neq 59] 60 [aN 61,dV (-3),bQ 61]) (w7 cM)))))⟩
def c_183_l0:Xv:=iS [xB 20 .lss 19 18] 20 0 1 P6 7 (xR [aN 23,eI 24,aH 25 7,aM 26 25,aS 27 sF 24 26,xO 28 PI,cU 29 1 8 23 28,bQ 29]) 30 .add 19 19 30
def c_183_k1:Xv:=vE 31 31
def ED:AFn:=⟨2,[.tmp 4],lL [dR,xC 4 a9] PB 11 pZ (jV [jR 5 1] P0 c_183_l0 c_183_k1)⟩
def fQ:AFn:=⟨3,[.tmp 6],jS lM cQ (jN 0 [cV 10,xL 11 10,aT 12,aS 13 nO 11 12,bY 14 13,xM 15 14,eZ 16 15 3,aU 17 15 16,b9 18 15 2,oU 19 15 nO [.t 17,.t 18],vB 20 15 19,xW 21 15 20,dG 21] 9 [xI 6 9] (jL [cV 23,xL 24 23,eM 25,xL 26 25,xB 27 .andNot 24 26,qD 28 .neq 27 (vF 0),xM 22 28] 22 [xI 6 5] (AZ [aF 30,dJ 31 .eql 30,xM 32 31,eV 33 32 1 3,dZ 34 32 33,cH 35 32 2,oT 36 32 gQ [.t 35],oV 37 32 .neq 34 36,xV 38 32 37,xM 29 38] 29 [xI 6 11])) (lK [aF 39,xK 40 .eql 39 2] (kG 40 (cG [eM 42,xL 43 42,aT 44,aS 45 zF 43 44,xM 41 45,bS 46 41,bT 47 41,cO 46,cD 47] [aV 48,bY 49 48] (pI 49 [xI 6 11]))) (mF cQ)))⟩
def c_185_l0:Xv:=iS [xB 20 .lss 19 18] 20 0 1 P6 7 (.block 2 (jL [bD 24 7,xL 25 24,xK 26 .eql 25 3,xM 23 26] 23 [dV 3] (dQ [bD 28 7,xL 29 28,xK 30 .eql 29 2,xM 27 30] (kG 27 (xR [xI 5 2]))))) 31 .add 19 19 31
def c_185_k1:Xv:=vE 32 32
def wN:AFn:=⟨2,[.tmp 4],lL [dR,dF] PB 11 dF (jV [xI 5 1] P0 c_185_l0 c_185_k1)⟩
def c_186_l0:Xv:=mC JF 21 0 1 (cG [aW 22 18 20,xL 23 22,cD 23] [aV 24,aT 25,xB 26 .eql 24 25] (pI 26 [tK 6])) 27 .add 20 20 27
def c_186_k1:Xv:=mF (cA 6)
def wO:AFn:=⟨3,[.tmp 6],jP DN [gH 9,aF 10,aS 11 sE 9 10,bY 12 11] 12 (cA 6) [dS 13 3,xL 14 13,aF 15,xX 16 6 14 15,bD 17 16,xL 18 17,xN 19 18,bB 20] 0 c_186_l0 c_186_k1⟩
def c_187_l0:Xv:=mC [xB 36 .lss 35 34] 36 0 1 (cG [xM 37 35,aW 38 33 35,xL 39 38,cE 37,cO 39] [bF 40,aN 41,aY 42,xX 43 2 41 42,aQ 44 43,xL 45 44,aS 46 nO 40 45,bY 47 46] (pI 47 [dV 9])) 48 .add 35 35 48
def c_187_k1:Xv:=mF dF
def mS:AFn:=⟨2,[.tmp 4],lL oQ [cV 8,xL 9 8,aO 10 .lss 9,xM 11 10,bL 12 11 0 3,aU 13 11 12,bL 14 11 4 2,aU 15 11 14,cK 16 11 15,eH 17 11 .geq 13 16,xW 18 11 17] 18 (dV 8) (jP [cN 19 2,xL 20 19,cV 21,xL 22 21,xX 23 3 20 22,aQ 24 23,xL 25 24,bQ 25] [eM 26,xL 27 26,xN 28 27,aN 29,xN 30 29,xB 31 .neq 28 30] 31 (dV 2) [eM 32,xL 33 32,xN 34 33,bB 35] 0 c_187_l0 c_187_k1)⟩
def c_188_l0:Xv:=mC [xB 9 .lss 8 7] 9 0 1 (cG [aV 10,bQ 10] [aF 11,aJ 12,aN 13,dW 14 12 13,xA 15 5 14,xO 16 (Hu 11 [.t 15])] (pI 16 [aN 17,bP 17])) 18 .add 8 8 18
def c_188_k1:Xv:=mF B1
def wP:AFn:=⟨2,[.tmp 4],jV [dF] [B3,xN 7 6,kI] c_188_l0 c_188_k1⟩
def c_189_l0:Xv:=mC [xB 8 .lss 7 6] 8 0 1 (cG [aW 9 5 7,xL 10 9,bP 10] [xM 11 4,dJ 12 .lss 11,xM 13 12,b9 14 13 4,eY 15 13 .gtr 14 32,xW 16 13 15] (pI 16 [cA 2])) 17 .add 7 7 17
def c_189_k1:Xv:=tN 2
def qT:AFn:=⟨1,[.tmp 2],jV [cA 2] [aJ 5,xN 6 5,dB] c_189_l0 c_189_k1⟩
def c_190_l0:Xv:=H6 [xM 24 11,aO 25 .geq 24] 25 0 (.block 1 (jO [xM 26 10,xM 27 11,xO 28 PI,cU 29 1 8 26 28,xM 10 29] [eI 31,xF 32 6 2,xL 33 32,xM 34 11,xX 35 7 33 34,xA 36 7 35,aK 37 8,aM 38 9,iT 39 nQ 31 36 37 38,xM 30 39,bS 40 30,bT 41 30,xE 42 2 30,jX 40,f9 9 41,cO 42] (dU [bF 43,aO 44 .neq 43] 44 [eI 45,aZ 46 jA 45,xM 47 10,bF 48,bM 4 46,bQ 47,cE 48] (xD [xF 49 6 2,xL 50 49,xM 51 11,xX 52 7 50 51,xA 53 7 52,aK 54 8,aS 55 sH 53 54,xM 11 55]))))
def c_190_k1:Xv:=dU [xM 56 11,xK 57 .eql 56 (-2)] 57 [eI 58,aZ 59 jA 58,xM 60 10,bM 4 59,bQ 60,xI 6 15] (eW [aM 62 9,aZ 63 sJ 62,xM 61 63,bS 64 61,bT 65 61,bU 66 8,bE 66 64] [aK 67 8,xM 68 10,bM 4 67,bQ 68,cQ])
def wQ:AFn:=⟨2,[.cell 4 true 4,.tmp 5,.tmp 6],dQ [dR,eE 4 a9 a9 a9 a9,xC 5 a9,cQ] (d8 [eI 12,aF 13,aS 14 nP 12 13,cO 14] J9 16 [eI 17,aZ 18 jA 17,bF 19,bM 4 18,xC 5 a9,cE 19] (cG [eI 20,aZ 21 jA 20,eE 8 a9 a9 a9 a9,jX 21] [aF 22,aZ 23 sG 22,H7 9 a9,f9 9 23] (cG [jR 10 1] [bB 11] (vY 0 (.loop c_190_l0) c_190_k1))))⟩
def c_191_l0:Xv:=cW [xM 11 4,fM 12,xL 13 12,xN 14 13,xB 15 .lss 11 14] 15 0 1 (PS [(1,8),(1,9)] [⟨some 18,none,.faddr 1 (.t 3)⟩,⟨some 19,none,.load false 1 (.t 18)⟩,⟨some 20,none,.bslice .imm 1 [] []⟩,⟨some 21,none,.faddr 1 (.t 1)⟩,⟨some 22,none,.load false 1 (.t 21)⟩,⟨some 23,none,.mov (.t 4)⟩,⟨some 24,none,.iaddr 1 none (.t 22) (.t 23)⟩,⟨some 25,none,.load false 1 (.t 24)⟩,⟨some 26,none,.append .row 1 4 (.t 20) (.t 25)⟩,⟨some 27,none,.bslice .row 1 (List.replicate 1 gN) [(0,(.t 26))]⟩,⟨some 28,none,.append .row 1 24 (.t 19) (.t 27)⟩,⟨some 29,none,.faddr 1 (.t 3)⟩,⟨none,none,.store 1 (.t 29) (.t 28)⟩] none) 16 4 17 .add 16 4 17
def c_191_k1:Xv:=cG [jQ 30,xL 31 30,bD 32 1,xL 33 32,qB 34 .row 1 4 31 33,jQ 35,bE 35 34] [bU 36 3,xL 37 36,bU 38 1,xL 39 38,cU 40 1 1 37 39,bU 41 3,bE 41 40] (gD (aK 42 3) (bM 2 42))
def iU:AFn:=⟨1,v7,cG [eL 1,eE 2 a9 a9 a9 a9] [eE 3 a9 a9 a9 a9] (fO [cV 5,xL 6 5,lN 7,xL 8 7,qB 9 .row 1 1 6 8,cV 10,bE 10 9] dF c_191_l0 c_191_k1)⟩
def dK:AFn:=⟨2,[.tmp 4],mG dR mL dF OP⟩
def fR:AFn:=⟨2,[.tmp 4],d8 [dR,mL,cP] [cV 5,xL 6 5,xK 7 .eql 6 (-1)] 7 [eM 8,xL 9 8,aO 10 .geq 9,xM 11 10,eV 12 11 1 3,dZ 13 11 12,eV 14 11 2 2,dZ 15 11 14,B2 16 11 15,oV 17 11 .lss 13 16,xV 18 11 17,bP 18] (fD [cV 19,xL 20 19,aO 21 .geq 20,xM 22 21,eV 23 22 0 3,dZ 24 22 23,eV 25 22 1 2,dZ 26 22 25,B2 27 22 26,oV 28 22 .lss 24 27,xV 29 22 28,xM 30 29,eV 31 30 1 3,dZ 32 30 31,pJ 33 30 .geq 32 gX,xV 34 30 33,xM 35 34,eV 36 35 1 3,dZ 37 35 36,eV 38 35 1 2,dZ 39 35 38,eV 40 35 0 3,dZ 41 35 40,dE 42 35 (BP 1 39 41),dZ 43 35 42,B2 44 35 43,oV 45 35 .lss 37 44,xV 46 35 45,bP 46] .ret)⟩
def qU:AFn:=⟨2,[.tmp 4],eW [dR,cP] [aF 5,aO 6 .geq 5,aY 7,cH 8 7 1,eV 9 7 0 2,dZ 10 7 9,B2 11 7 10,oV 12 7 .lss 8 11,xV 13 7 12,xM 14 13,eV 15 14 0 2,dZ 16 14 15,cH 17 14 1,dE 18 14 (BP 1 16 17),dZ 19 14 18,xV 20 14 19,bP 20]⟩
def c_195_l0:Xv:=cW [aY 7,w6,xB 9 .lss 7 8] 9 0 1 P4 10 6 11 .add 10 6 11
def c_195_k1:Xv:=bO [aJ 14,xO 15 (vC .u64 14),aN 16,xB 17 .rem 15 16,xO 18 (vC .u32 17),bP 18]
def EF:AFn:=⟨2,[.tmp 4],hO (mD 4 0) (fO [xC 5 DM] cQ c_195_l0 c_195_k1)⟩
def c_197_l0:Xv:=iG [aY 21,eM 22,xL 23 22,aN 24,aW 25 23 24,xL 26 25,xN 27 26,xB 28 .lss 21 27] 28 2 3 [eM 31,xL 32 31,aN 33,aW 34 32 33,xL 35 34,aY 36,aW 37 35 36,xL 38 37,eI 39,aN 40,aY 41,xO 42 (.build lW [(0,1,(.t 40)),(1,1,(.t 41))]),aS 43 nI 39 42,aS 44 nD 38 43,bY 45 44] 45 [dV 9] 29 6 30 .add 29 6 30
def c_197_k1:Xv:=xR [aN 19,dJ 20 .add 19,bQ 20]
def c_197_l2:Xv:=H6 [aN 14,eM 15,xL 16 15,xN 17 16,xB 18 .lss 14 17] 18 0 (vY 1 (hO cQ (DP 2 c_197_l0)) c_197_k1)
def c_197_l3:Xv:=iG [bF 46,jQ 47,xL 48 47,xN 49 48,xB 50 .lss 46 49] 50 4 5 [jQ 53,xL 54 53,bF 55,aW 56 54 55,xL 57 56,eI 58,bF 59,xO 60 (.build lW [(0,1,AQ),(1,1,(.t 59))]),aS 61 nI 58 60,aS 62 nD 57 61,bY 63 62] 63 [dV 9] 51 7 52 .add 51 7 52
def c_197_l4:Xv:=cW [bN 71,eM 72,xL 73 72,aV 74,aW 75 73 74,xL 76 75,xN 77 76,xB 78 .lss 71 77] 78 8 9 (cL [cV 81,xL 82 81,aV 83,aW 84 82 83,xL 85 84,bY 86 85,xM 87 86,eV 88 87 1 3,dZ 89 87 88,cH 90 87 8,dE 91 87 (BP 1 89 90),dZ 92 87 91,cH 93 87 9,dE 94 87 (BP 1 92 93),dZ 95 87 94,pJ 96 87 .neq 95 (vF 0),xV 97 87 96] 97 [dV 5]) 79 9 80 .add 79 9 80
def c_197_k5:Xv:=xR [aV 69,dJ 70 .add 69,cD 70]
def c_197_l6:Xv:=H6 [aV 64,eM 65,xL 66 65,xN 67 66,xB 68 .lss 64 67] 68 6 (vY 7 (hO iF (DP 8 c_197_l4)) c_197_k5)
def c_197_k7:Xv:=mF dF
def c_197_k8:Xv:=gC [kI] 6 c_197_l6 c_197_k7
def c_197_k9:Xv:=gC [dB] 4 c_197_l3 c_197_k8
def EG:AFn:=⟨2,[.tmp 4],jP oQ [eI 10,aK 11 3,aS 12 zG 10 11,bY 13 12] 13 (dV 2) [cM] 0 c_197_l2 c_197_k9⟩
def EH:AFn:=⟨0,[.cell 0 true 1],eW [bC 0 gN] [xO 1 (.build gN []),bE 0 1]⟩
def c_200_l0:Xv:=cW [xM 29 10,aF 30,xN 31 30,xB 32 .lss 29 31] 32 1 2 (oS [(0,15),(4,15),(6,15),(10,15),(11,15)] [⟨some 36,none,.load true 1 (.t 9)⟩,⟨some 37,none,.mov (.t 1)⟩,⟨some 38,none,.mov (.t 10)⟩,⟨some 39,none,.iaddr 1 none (.t 37) (.t 38)⟩,⟨some 40,none,.load false 1 (.t 39)⟩,⟨some 41,none,.faddr 1 (.t 3)⟩,⟨some 42,none,.load false 1 (.t 41)⟩,⟨some 43,none,.mov (.t 10)⟩,⟨some 44,none,.iaddr 2 none (.t 42) (.t 43)⟩,⟨some 45,none,.faddr 1 (.t 44)⟩,⟨some 46,none,.load false 1 (.t 45)⟩,⟨some 47,none,.pcall sK [.t 36,.t 40,.t 46]⟩,⟨some 35,none,.mov (.t 47)⟩,⟨some 48,none,.ext 0 (.t 35)⟩,⟨some 49,none,.ext 1 (.t 35)⟩,⟨some 11,none,.alloc gN⟩,⟨none,none,.store 1 (.t 11) (.t 48)⟩,⟨some 12,none,.mov (.t 49)⟩] (some [11]) (dU [xM 50 12,aO 51 .neq 50] 51 [xA 52 1 5,xM 53 12,bE 6 52,cO 53] (xR [xA 54 1 11,bE 9 54]))) 33 10 34 .add 33 10 34
def c_200_k1:Xv:=bO [xA 55 1 9,bE 6 55,dB]
def wR:AFn:=⟨3,[.cell 6 true 1,.tmp 7],cG [lM,xJ 5 2,bC 6 gN,dB] [aM 13 3,aZ 14 dM 13,cD 14] (jN 0 [aV 16,aO 17 .neq 16,xM 15 17] 15 [xA 18 1 5,aV 19,bE 6 18,cO 19] (cL [aF 21,xN 22 21,eM 23,xL 24 23,xN 25 24,xB 26 .neq 22 25,xM 20 26] 20 [xA 27 1 5,bE 6 27,xI 7 2]) (AY [xA 28 1 5,bC 9 gN,bE 9 28] [bB 10] 1 c_200_l0 c_200_k1))⟩
def c_201_l0:Xv:=cW [aN 16,lN 17,xL 18 17,xN 19 18,xB 20 .lss 16 19] 20 0 1 (cG [xM 23 4,aN 24,xK 25 .quo 24 8,xM 26 4,aN 27,xK 28 .quo 27 8,aW 29 26 28,xL 30 29,xO 31 (.bin .mul (BS 2) (.t 30)),aW 32 23 25,bE 32 31] [lN 33,xL 34 33,aN 35,aW 36 34 35,xL 37 36] (kG 37 (xR [xM 38 4,aN 39,xK 40 .quo 39 8,aW 41 38 40,xL 42 41,qD 43 .add 42 (BS 1),aW 44 38 40,bE 44 43]))) 21 5 22 .add 21 5 22
def c_201_k1:Xv:=bO [xM 45 4,xM 2 45,bB 3]
def wT:AFn:=⟨1,[.tmp 2,.tmp 3],d8 [eL 1,xC 2 a9,bB 3] [lN 6,xL 7 6,xN 8 7,xK 9 .rem 8 8,aO 10 .neq 9] 10 [xC 2 a9,xI 3 10] (fO [lN 11,xL 12 11,xN 13 12,xK 14 .quo 13 8,xO 15 (.mkslice .row 1 1 [.int .u8 0] (.t 14) (.t 14)),bP 15] cM c_201_l0 c_201_k1)⟩
def wU:AFn:=⟨4,[.cell 8 true 5,.cell 9 true 2],vG [eL 4,mE 5,xJ 7 3,bC 8 lY,qC 9 cF a9] [(0,15),(3,15),(6,15),(7,15),(9,15),(10,15),(11,15)] [⟨some 13,none,.load true 9 (.t 4)⟩,⟨some 14,none,.mov (.t 2)⟩,⟨some 15,none,.faddr 0 (.t 5)⟩,⟨some 16,none,.load false 1 (.t 15)⟩,⟨some 17,none,.mov (.t 2)⟩,⟨some 18,none,.iaddr 1 none (.t 16) (.t 17)⟩,⟨some 19,none,.load false 1 (.t 18)⟩,⟨some 20,none,.load true 9 (.t 4)⟩,⟨some 21,none,.mov (.t 2)⟩,⟨some 22,none,.load true 4 (.t 7)⟩,⟨some 23,none,.pcall gS [.t 20,.t 21,.t 22]⟩,⟨some 24,none,.pcall zI [.t 13,.t 14,.t 19,.t 23]⟩,⟨some 12,none,.mov (.t 24)⟩,⟨some 25,none,.ext 0 (.t 12)⟩,⟨some 26,none,.ext 1 (.t 12)⟩,⟨some 10,none,.alloc jJ⟩,⟨none,none,.store 5 (.t 10) (.t 25)⟩,⟨some 11,none,.mov (.t 26)⟩] (some [10]) (lK [xM 27 11,bY 28 27] (kG 28 (qF [(2,6),(5,6)] [⟨some 29,none,.build jJ []⟩,⟨some 30,none,.faddr 2 (.t 5)⟩,⟨some 31,none,.load false 1 (.t 30)⟩,⟨some 32,none,.mov (.t 2)⟩,⟨some 33,none,.iaddr 2 none (.t 31) (.t 32)⟩,⟨some 34,none,.load true 2 (.t 33)⟩,⟨none,none,.store 5 (.t 8) (.t 29)⟩,⟨none,none,.store 2 (.t 9) (.t 34)⟩] none)) (qF [(3,4)] [⟨some 35,none,.load true 5 (.t 10)⟩,⟨some 36,none,.faddr 1 (.t 10)⟩,⟨some 37,none,.faddr 2 (.t 36)⟩,⟨some 38,none,.load true 2 (.t 37)⟩,⟨none,none,.store 5 (.t 8) (.t 35)⟩,⟨none,none,.store 2 (.t 9) (.t 38)⟩] none))⟩
def c_205_l0:Xv:=cW [xM 46 14,xM 47 13,xN 48 47,xB 49 .lss 46 48] 49 0 1 (fL [xM 52 13,xM 53 14,xX 54 7 52 53,xA 55 7 54,bC 15 J4,xS 7 15 55] 15 (dQ [dS 56 15,xL 57 56,xA 58 10 12,aK 59 6,aQ 60 5,xL 61 60,iT 62 rM 57 58 59 61,xM 16 62] (cG [xF 63 6 15,xL 64 63,xA 65 10 12,aK 66 6,aQ 67 5,xL 68 67,iT 69 rM 64 65 66 68,xM 17 69] [aH 70 15,xL 71 70] (.block 2 (tO (dJ 80 .eql 71) 79 80 (kF 79 (xR [kJ 81,aK 82 6,aQ 83 15,aM 84 83,xM 85 17,iT 86 iX 81 82 84 85,gY 86]) (tO (xK 88 .eql 71 2) 87 88 (kF 87 (xR [kJ 89,aK 90 6,cN 91 15,xL 92 91,fI 93 sL 89 90 92,gY 93]) (tO (xK 95 .eql 71 3) 94 95 (kF 94 (xR [kJ 96,aK 97 6,cN 98 15,xL 99 98,fI 100 sN 96 97 99,gY 100]) (tO (xK 102 .eql 71 4) 101 102 (kF 101 (xD [kJ 103,aK 104 6,aQ 105 15,aM 106 105,kJ 107,eJ 108,bU 109 15,xL 110 109,xM 111 16,iT 112 zK 107 108 110 111,iT 113 iX 103 104 106 112,gY 113]) (xR [kJ 72,eJ 73,bU 74 15,xL 75 74,xM 76 16,xM 77 17,v9 78 kY [.t 72,.t 73,.t 75,.t 76,.t 77],xM 3 78]))))))))))))) 50 14 51 .add 50 14 51
def c_205_k1:Xv:=bO [aK 114 6,eJ 115,jX 114,dG 115]
def EJ:AFn:=⟨4,JA,dQ [eL 4,mE 5,mB 6 2,eE 8 a9 a9 a9 a9,xC 9 a9] (d8 [kJ 19,gZ 20,xL 21 20,aS 22 j9 19 21,xM 18 22,bS 23 18,bT 24 18,xM 10 23,xM 11 24] [xM 25 11,aO 26 .neq 25,xM 27 26,jU 28 27 9 4,jU 29 27 2 5,oU 30 27 iY [.t 28,.t 29],mK 31 27 .neq 30 gX,xW 32 27 31] 32 [aK 33 6,eJ 34,jX 33,dG 34] (fL [kJ 35,gZ 36,xL 37 36,aS 38 zJ 35 37,bC 12 DA,xS 10 12 38] 12 (fO [cN 39 4,xL 40 39,gZ 41,xL 42 41,xX 43 3 40 42,bD 44 43,xL 45 44,xM 13 45] (bB 14) c_205_l0 c_205_k1)))⟩
def c_206_l0:Xv:=cW [eJ 17,aJ 18,xO 19 (.slen (.t 18)),xB 20 .lss 17 19] 20 0 1 (cL [aJ 23,eJ 24,xO 25 (.idxs (.t 23) (.t 24)),aZ 26 sO 25,bY 27 26,xM 28 27,cH 29 28 0,cH 30 28 3,dE 31 28 (.idxs (.t 29) (.t 30)),oT 32 28 zL [.t 31],dE 33 28 (LG 32),xV 34 28 33,xM 35 34,cH 36 35 0,cH 37 35 3,dE 38 35 (.idxs (.t 36) (.t 37)),pJ 39 35 .neq 38 (BS 95),xV 40 35 39] 40 [cA 2]) 21 3 22 .add 21 3 22
def c_206_k1:Xv:=tN 2
def mT:AFn:=⟨1,[.tmp 2],jP [cA 2] [aJ 4,qD 5 .eql 4 (.c (.str [])),aN 6,b9 7 6 0,iQ 8 6 (.slen (.t 7)),eY 9 6 .gtr 8 16,xW 10 6 9,xM 11 10,b9 12 11 0,iQ 13 11 (.idxs (.t 12) gX),oU 14 11 sO [.t 13],vB 15 11 14,xW 16 11 15] 16 (cA 2) [bB 3] 0 c_206_l0 c_206_k1⟩
def eQ:AFn:=⟨2,gM,d8 [dR,dF,cM] [aF 9,aO 10 .lss 9,xM 11 10,jY 12 11,bL 13 11 5 2,aU 14 11 13,cK 15 11 14,eH 16 11 .geq 12 15,xW 17 11 16] 17 [B1,xI 5 8] (fL [dS 18 2,xL 19 18,aF 20,xX 21 6 19 20,cJ 22 21,bC 6 DB,dC 6 22] 6 (jN 0 [aH 24 6,xL 25 24,aZ 26 yX 25,bY 27 26,xM 23 27] 23 [B1,xI 5 6] (jL [aQ 29 6,xL 30 29,xN 31 30,xK 32 .gtr 31 6,xM 33 32,bL 34 33 2 6,aU 35 33 34,cK 36 33 35,eY 37 33 .gtr 36 16,xW 38 33 37,xM 28 38] 28 [B1,xI 5 12] (cL [dS 40 6,xL 41 40,dJ 42 .lss 41,xM 43 42,bL 44 43 5 6,aU 45 43 44,eY 46 43 .gtr 45 256,xW 47 43 46,xM 39 47] 39 [B1,xI 5 9])) (d8 [eI 49,cJ 50 6,aS 51 zM 49 50,xM 48 51,bS 52 48,bT 53 48,cO 52,cD 53] [aV 54,aO 55 .neq 54] 55 [bF 56,aV 57,bP 56,bQ 57] (d8 [eI 58,cJ 59 6,aS 60 zN 58 59,cD 60] [aV 61,aO 62 .neq 61] 62 [aV 63,dV (-3),bQ 63] (w7 cM)))))⟩
def c_214_l0:Xv:=cW OV 19 0 1 (xD [aN 22,eI 23,dS 24 2,xL 25 24,aF 26,xX 27 6 25 26,aQ 28 27,xL 29 28,aY 30,xX 31 3 29 30,aH 32 31,aM 33 32,aS 34 sP 23 33,xO 35 PJ,cU 36 1 8 22 35,bQ 36]) 20 6 21 .add 20 6 21
def c_214_k1:Xv:=vE 37 37
def EK:AFn:=⟨2,[.tmp 4],lL [dR,xC 4 a9] PF 10 pZ (fO [jR 5 1] cQ c_214_l0 c_214_k1)⟩
def fS:AFn:=⟨3,[.tmp 6],cG [lM,cQ] [eM 10,xL 11 10,aF 12,aS 13 zO 11 12,dG 13,bS 14 9,bT 15 9,cO 14,cD 15] (jN 0 [cV 17,xL 18 17,aF 19,aS 20 kV 18 19,bY 21 20,xM 22 21,eZ 23 22 3,aU 24 22 23,jY 25 22,oU 26 22 kV [.t 24,.t 25],vB 27 22 26,xW 28 22 27,xM 16 28] 16 [xI 6 9] (jL [cV 30,xL 31 30,eM 32,xL 33 32,xB 34 .and 31 33,cV 35,xL 36 35,xB 37 .neq 34 36,xM 29 37] 29 [xI 6 5] (AZ [aT 39,dJ 40 .eql 39,xM 41 40,eV 42 41 1 3,dZ 43 41 42,cH 44 41 1,oT 45 41 zP [.t 44],oV 46 41 .neq 43 45,xV 47 41 46,xM 48 47,b9 49 48 2,eY 50 48 .eql 49 2,b9 51 48 50,cH 52 51 8,dE 53 51 (LG 52),iQ 54 48 (.pick (.t 51) (.t 53) (.c qA)),xW 55 48 54,xM 38 55] 38 [xI 6 11])) (mF cQ))⟩
def c_216_l0:Xv:=cW OV 19 0 1 (xR [aN 22,dS 23 2,xL 24 23,aF 25,xX 26 6 24 25,aQ 27 26,xL 28 27,aY 29,xX 30 3 28 29,bD 31 30,xL 32 31,xO 33 (.minmax true [.t 22,.t 32]),bQ 33]) 20 6 21 .add 20 6 21
def c_216_k1:Xv:=vE 34 34
def wV:AFn:=⟨2,[.tmp 4],lL [dR,dF] PF 10 dF (fO [xI 5 1] cQ c_216_l0 c_216_k1)⟩
def c_217_l0:Xv:=iG [aN 20,aH 21 2,xL 22 21,xN 23 22,xB 24 .lss 20 23] 24 0 1 [aH 27 2,xL 28 27,aN 29,xX 30 2 28 29,aM 31 30,cV 32,xL 33 32,aN 34,xX 35 2 33 34,aM 36 35,xO 37 (.eqs true true [.i,.i] (.t 31) (.t 36))] 37 [cP] 25 5 26 .add 25 5 26
def c_217_k1:Xv:=tN 4
def qV:AFn:=⟨2,[.tmp 4],jP AR [aH 6 2,xL 7 6,xN 8 7,cV 9,xL 10 9,xN 11 10,xB 12 .neq 8 11,xM 13 12,eZ 14 13 2,aU 15 13 14,eZ 16 13 3,aU 17 13 16,eH 18 13 .neq 15 17,xW 19 13 18] 19 cP [cM] 0 c_217_l0 c_217_k1⟩
def EL:AFn:=⟨2,[.tmp 4],cG [dR,cP] [eI 8,aF 9,aS 10 rZ 8 9,cO 10,bS 11 7,bT 12 7,bQ 11,cE 12] PG⟩
def c_219_l0:Xv:=cW J5 9 0 1 (cL [aJ 12,aN 13,aW 14 12 13,xL 15 14,aF 16,xB 17 .eql 15 16] 17 [aN 18,bP 18]) 10 5 11 .add 10 5 11
def c_219_k1:Xv:=mF B1
def EM:AFn:=⟨2,[.tmp 4],fO [dF] cM c_219_l0 c_219_k1⟩
def wW:AFn:=⟨2,[.tmp 4],eW [cP] [aF 5,aZ 6 kZ 5,aY 7,cH 8 7 0,dE 9 7 (vC .u64 8),cH 10 7 1,oT 11 7 l6 [.t 10],oV 12 7 .lss 9 11,xV 13 7 12,bP 13]⟩
def c_221_l0:Xv:=mC [xB 30 .lss 29 28] 30 0 1 (jS (xM 31 29) (cE 31) (xR [aN 32,aY 33,mH 34 nR 32 33])) 35 .add 29 29 35
def c_221_k1:Xv:=vE 36 36
def EN:AFn:=⟨2,[.tmp 4],vG [dR,mB 3 1,tL 4] [(1,2)] [⟨some 7,none,.load true 4 (.t 3)⟩,⟨some 8,none,.tcall fT [.t 7]⟩,⟨some 9,none,.load true 9 (.t 2)⟩,⟨some 10,none,.pcall zQ [.t 9]⟩,⟨some 11,none,.build [.Xu 1 [],.Xu 1 [],.Xu 2 [],.Xu 1 [],.str [],.Xu 2 [],.Xu 2 [],.Xu 3 [],.Xu 3 [],.Xu 6 [],.Xu 7 [],.Xu 5 [],.Xu 1 [],.Xu 1 [],.bool false] [(0,4,(.t 8)),(4,9,(.t 10)),(14,1,kD)]⟩,⟨some 12,none,.box (.t 11)⟩,⟨some 5,none,.mov (.t 12)⟩] none (jV [aN 13,aN 14,bX 15 14,aH 16 15,aH 17 16,xL 18 17,xN 19 18,xO 20 (.mkslice .row 1 8 [.nilmap] (.t 19) (.t 19)),bX 21 13,xF 22 13 21,bE 22 20] [aN 23,bX 24 23,aH 25 24,aH 26 25,xL 27 26,xN 28 27,bB 29] c_221_l0 c_221_k1)⟩
def EO:AFn:=⟨1,[.tmp 2],lL [tL 2] OY 11 (tL 2) (fD [aJ 12,bX 13 12,cN 14 13,kH 15 14,aJ 16,bX 17 16,aH 18 17,aK 19 18,mH 20 kW 15 19,xM 2 20] .ret)⟩
def mU:AFn:=⟨4,[.tmp 8],jS (mB 7 3) kI (vZ [aJ 12,aF 13,aT 14,dY 15 nS [.t 12,.t 13,.t 14],xM 11 15,bS 16 11,bT 17 11,dG 16,xM 10 17] [xM 18 10,aO 19 .eql 18] 19 (xD [aJ 20,bX 21 20,cN 22 21,kH 23 22,aF 24,aM 25 7,fI 26 nA 23 24 25,xM 10 26]) (lK [xM 27 10,aO 28 .eql 27] (kG 28 (xD [aJ 29,bX 30 29,aH 31 30,aH 32 31,xL 33 32,aF 34,aW 35 33 34,xL 36 35,bN 37,aM 38 7,aZ 39 l7 38,dW 40 36 37,aQ 41 40,bD 42 41,f9 42 39])) (gD (xM 43 10) (cD 43))))⟩
def kK:AFn:=⟨2,gM,vA [mB 3 1,dF,cM] [cV 6,xL 7 6] (.block 0 (jL [dJ 9 .eql 7,bN 8] 8 [aJ 10,eM 11,xL 12 11,bU 13 3,aK 14 13,dY 15 nT [.t 10,.t 12,.t 14],bS 16 15,bT 17 15,bP 16,bQ 17] (jL [xK 19 .eql 7 2,xM 18 19] 18 [aJ 20,eM 21,xL 22 21,jQ 23,xL 24 23,xF 25 7 3,aM 26 25,dY 27 kX [.t 20,.t 22,.t 24,.t 26],dF,bQ 27] (jL [xK 29 .eql 7 3,xM 28 29] 28 [aJ 30,eM 31,xL 32 31,jQ 33,xL 34 33,dY 35 sQ [.t 30,.t 32,.t 34],dF,bQ 35] (cL [xK 37 .eql 7 4,xM 36 37] 36 [aJ 38,eM 39,xL 40 39,xF 41 7 3,aM 42 41,dY 43 sS [.t 38,.t 40,.t 42],dF,bQ 43]))))) (w7 (xI 5 11))⟩
def c_226_l0:Xv:=iS [xB 27 .lss 26 25] 27 2 3 P8 8 (xR [aY 30,xA 31 5 8,aZ 32 zR 31,xO 33 (.bslice .imm 5 (List.replicate 1 jJ) [(0,(.t 32))]),qB 34 .row 5 72 30 33,cE 34]) 35 .add 26 26 35
def c_226_k1:Xv:=xR [cV 36,xL 37 36,aY 38,xO 39 (.bslice .row 1 DF [(0,(.t 38))]),qB 40 .row 1 24 37 39,cV 41,bE 41 40]
def c_226_k2:Xv:=xR [dJ 42 .add 20,xM 20 42]
def c_226_l3:Xv:=T5 JF 21 0 (vY 1 (mG (aW 22 18 20) (xL 23 22) (bQ 23) (AY [xC 6 AW] [aN 24,xN 25 24,bB 26] 2 c_226_l0 c_226_k1)) c_226_k2)
def c_226_l4:Xv:=iS [xB 47 .lss 46 45] 47 4 5 [xX 48 2 44 46,aM 49 48,qC 10 cF a9,f9 10 49] 10 (xD [jQ 50,xL 51 50,aM 52 10,aZ 53 l7 52,xO 54 (.bslice .imm 2 (List.replicate 1 pY) [(0,(.t 53))]),qB 55 .row 2 32 51 54,jQ 56,bE 56 55]) 57 .add 46 46 57
def c_226_l5:Xv:=mC [xB 62 .lss 61 60] 62 6 7 (mG (aW 63 59 61) (xL 64 63) (xM 12 64) (xD [bU 65 3,xL 66 65,xM 67 12,aZ 68 gP 67,xO 69 (.bslice .imm 1 (List.replicate 1 gN) [(0,(.t 68))]),cU 70 1 24 66 69,bU 71 3,bE 71 70])) 72 .add 61 61 72
def c_226_k6:Xv:=gD (aK 73 3) (bM 2 73)
def c_226_k7:Xv:=gC [bU 58 1,xL 59 58,xN 60 59,bB 61] 6 c_226_l5 c_226_k6
def c_226_k8:Xv:=gC [bD 43 1,xL 44 43,xN 45 44,bB 46] 4 c_226_l4 c_226_k7
def EP:AFn:=⟨1,v7,jS (mN 1) (eE 2 a9 a9 bA a9) (jV [fM 13,xL 14 13,dY 15 eR [.t 14],xO 16 PQ,eE 3 a9 a9 bA a9,bM 3 16] PM c_226_l3 c_226_k8)⟩
def kL:AFn:=⟨3,[.cell 6 true 4,.tmp 7,.tmp 8],vA [lM,mE 4,xJ 5 2,eE 6 a9 a9 bA a9,dB,kI] [gZ 15,xL 16 15] (.block 0 (jL [dJ 18 .eql 16,xM 17 18] 17 [gH 19,aK 20 4,aQ 21 5,xL 22 21,bU 23 5,aK 24 23,iT 25 sT 19 20 22 24,bS 26 25,bT 27 25,xE 28 2 25,gY 26,cO 27,cD 28] (tO (xK 30 .eql 16 2) 29 30 (kF 29 (fL [gH 32,aK 33 4,aQ 34 5,xL 35 34,bD 36 5,xL 37 36,xF 38 7 5,aM 39 38,v9 40 nU [.t 32,.t 33,.t 35,.t 37,.t 39],xM 31 40,bS 41 31,bT 42 31,eE 9 a9 a9 bA a9,bM 9 41,xM 10 42] 9 (bO [aK 43 9,xM 44 10,gY 43,dB,cD 44])) (tO (xK 46 .eql 16 3) 45 46 (kF 45 (fL [gH 48,aK 49 4,aQ 50 5,xL 51 50,bD 52 5,xL 53 52,iT 54 sU 48 49 51 53,xM 47 54,bS 55 47,bT 56 47,eE 11 a9 a9 bA a9,bM 11 55,xM 12 56] 11 (bO [aK 57 11,xM 58 12,gY 57,dB,cD 58])) (tO (xK 60 .eql 16 4) 59 60 (kG 59 (fL [gH 62,aK 63 4,aQ 64 5,xL 65 64,xF 66 7 5,aM 67 66,iT 68 sV 62 63 65 67,xM 61 68,bS 69 61,bT 70 61,eE 13 a9 a9 bA a9,bM 13 69,xM 14 70] 13 (bO [aK 71 13,xM 72 14,gY 71,dB,cD 72])))))))))) (bO [aK 73 4,gY 73,dB,xI 8 11])⟩
def mV:AFn:=⟨1,[.tmp 2],qE [cA 2] [aJ 3,xO 4 (.slen (.t 3)),aO 5 .eql 4,aN 6,b9 7 6 0,iQ 8 6 (.slen (.t 7)),eY 9 6 .gtr 8 16,xW 10 6 9,xM 11 10,b9 12 11 0,iQ 13 11 (.idxs (.t 12) gX),oU 14 11 sW [.t 13],vB 15 11 14,xW 16 11 15] 16 (cA 2) [aJ 17,BO 18 zT 17 (.c (.func (.func nV) [] [])),aJ 19,xO 20 (.slen (.t 19)),xB 21 .eql 18 20,xM 2 21]⟩
def c_235_l0:Xv:=iS [xB 15 .lss 14 13] 15 0 1 [xM 16 14,xX 17 3 12 14,eK 18 17,bC 9 [cF,cF,cF],cD 16,xS 3 9 18] 9 (d8 [eI 19,aH 20 9,aM 21 20,aS 22 sF 19 21,xM 10 22] [xM 23 10,aO 24 .eql 23] 24 [aV 25,bP 25,xI 5 8] (lK [bD 26 9,xL 27 26] (.block 2 (tO (xK 30 .eql 27 2) 29 30 (kF 29 (xR [aY 31,dJ 32 .add 31,cE 32]) (lK [dJ 34 .eql 27,xM 33 34] (kF 33 .skip (xR [xK 35 .eql 27 3,xM 33 35])) (kF 33 .skip (bO [aV 28,bP 28,xI 5 11])))))) (xR [bF 36,xM 37 10,xB 38 .add 36 37,cO 38]))) 39 .add 14 14 39
def c_235_k1:Xv:=dU [aY 40,dJ 41 .gtr 40] 41 [dV (-2),xI 5 7] (dU [bF 42,xK 43 .gtr 42 64] 43 [dV (-2),xI 5 10] (w7 cM))
def EQ:AFn:=⟨2,gM,dQ JG (jV [cQ,dB] [eM 11,xL 12 11,xN 13 12,bB 14] c_235_l0 c_235_k1)⟩
def c_236_l0:Xv:=mC [xB 13 .lss 12 11] 13 0 1 (lL [aW 14 10 12,xL 15 14,cO 15] [bF 16,aO 17 .lss 16,xM 18 17,b9 19 18 7,bL 20 18 4 2,aU 21 18 20,cK 22 18 21,eH 23 18 .geq 19 22,xW 24 18 23] 24 (dV 8) (dU [aN 25,bF 26,xO 27 (.lookup .i (.bool false) false (.t 25) (.t 26))] 27 [dV 7] (xR [aN 28,bF 29,⟨none,none,.update .i (.t 28) (.t 29) kD⟩]))) 30 .add 12 12 30
def c_236_k1:Xv:=dU [aN 31,bU 32 3,aH 33 32,xL 34 33,xO 35 (.lookup .i (.bool false) false (.t 31) (.t 34)),bY 36 35] 36 [dV 8] (bO [eI 37,bU 38 3,aM 39 38,aS 40 nG 37 39,bP 40])
def ER:AFn:=⟨2,[.tmp 4],mG dR mL dF (jV [xO 8 .mkmap,aV 5] [jQ 9,xL 10 9,xN 11 10,bB 12] c_236_l0 c_236_k1)⟩
def ES:AFn:=⟨2,[.tmp 4],cG [dR,cP] [eI 8,aF 9,aS 10 rR 8 9,cO 10,bS 11 7,bT 12 7,bQ 11,cE 12] PG⟩
def qW:AFn:=⟨2,[.tmp 4],jO oQ [eI 6,cV 7,xL 8 7,aS 9 zW 6 8,eM 10,xL 11 10,aS 12 zV 9 11,xO 13 (.fld false 1 1 (.t 12)),bQ 13] (dU [aN 14,aZ 15 gQ 14,qD 16 .eql 15 (vF 0)] 16 [dF] (vE 17 17))⟩
def wX:AFn:=⟨2,[.tmp 4],eW [cP] [aF 5,xO 6 PK,aZ 7 kU 6,bF 8,cH 9 8 0,cH 10 8 1,oT 11 8 gQ [.t 10],oV 12 8 .leq 9 11,xV 13 8 12,bP 13]⟩
def c_248_l0:Xv:=mC [xB 14 .lss 13 12] 14 0 1 (cG [xM 15 13,cE 15] [aY 16,aF 17,aS 18 zX 16 17,aJ 19,xB 20 .eql 18 19] (pI 20 JD)) 22 .add 13 13 22
def c_248_k1:Xv:=w7 (cA 5)
def wY:AFn:=⟨2,gM,d8 [dF,cA 5] [aF 7,xO 8 (.bslice .imm 1 kC [(0,(.t 7))]),aZ 9 kU 8,bY 10 9] 10 [dF,cA 5] (gC [aF 11,dJ 12 .add 11,bB 13] 0 c_248_l0 c_248_k1)⟩
def c_249_l0:Xv:=cW [aV 17,gE 18,xL 19 18,xN 20 19,xB 21 .lss 17 20] 21 0 1 (cL [gE 24,xL 25 24,aV 26,xX 27 2 25 26,aM 28 27,aZ 29 dM 28,aO 30 .neq 29] 30 [dV 2]) 22 8 23 .add 22 8 23
def c_249_k1:Xv:=dU [aF 31,xN 32 31,xK 33 .gtr 32 512] 33 [dV 4] (mF dF)
def ET:AFn:=⟨2,[.tmp 4],jS dR dF (jP [eI 10,aZ 11 yY 10,dG 11,bS 12 9,bT 13 9,xE 14 2 9,bQ 12,cE 13,cO 14] J9 16 (dV 2) [kI] 0 c_249_l0 c_249_k1)⟩
def EU:AFn:=⟨1,JJ,cG [H7 2 a9] [jR 3 1] (bO [bP 3,aJ 5,cU 6 1 1 4 5,xO 7 (.build JB [(0,1,(.t 6))]),f9 2 7])⟩
def c_252_l0:Xv:=cW [xM 16 11,aQ 17 5,xL 18 17,xN 19 18,xB 20 .lss 16 19] 20 0 1 (vG [aQ 23 5,xL 24 23,xM 25 11,aW 26 24 25,xL 27 26,xM 12 27] [(1,11),(4,11),(5,11),(6,11)] [⟨some 29,none,.faddr 1 (.t 4)⟩,⟨some 30,none,.load false 1 (.t 29)⟩,⟨some 31,none,.mov (.t 12)⟩,⟨some 32,none,.iaddr 2 none (.t 30) (.t 31)⟩,⟨some 33,none,.load true 2 (.t 32)⟩,⟨some 34,none,.load true 2 (.t 7)⟩,⟨some 35,none,.pcall fV [.t 33,.t 34]⟩,⟨some 28,none,.mov (.t 35)⟩,⟨some 36,none,.ext 0 (.t 28)⟩,⟨some 37,none,.ext 1 (.t 28)⟩,⟨some 38,none,.ext 2 (.t 28)⟩,⟨some 13,none,.alloc JB⟩,⟨none,none,.store 2 (.t 13) (.t 36)⟩,⟨some 14,none,.mov (.t 37)⟩,⟨some 15,none,.mov (.t 38)⟩] (some [13]) (lK [xM 39 15,aO 40 .neq 39] (kG 40 (qF [(1,3)] [⟨some 41,none,.load true 4 (.t 6)⟩,⟨some 42,none,.load true 2 (.t 7)⟩,⟨some 43,none,.mov (.t 15)⟩,⟨none,none,.store 4 (.t 8) (.t 41)⟩,⟨none,none,.store 2 (.t 9) (.t 42)⟩,⟨some 10,none,.mov (.t 43)⟩] none)) (jS (aM 44 13) (f9 7 44) (cG [aK 45 6,dY 46 cC [.t 45],gY 46] [aH 47 6,xL 48 47,xM 49 12,aW 50 48 49,⟨none,none,.store 1 (.t 50) kD⟩] (xR [aQ 51 6,xL 52 51,xM 53 12,xM 54 14,aW 55 52 53,bE 55 54]))))) 21 11 22 .add 21 11 22
def c_252_k1:Xv:=qF [(1,2)] [⟨some 56,none,.load true 4 (.t 6)⟩,⟨some 57,none,.load true 2 (.t 7)⟩,⟨none,none,.store 4 (.t 8) (.t 56)⟩,⟨none,none,.store 2 (.t 9) (.t 57)⟩,⟨some 10,none,.mov iE⟩] none
def wZ:AFn:=⟨4,[.cell 8 true 4,.cell 9 true 2,.tmp 10],fO [eL 4,mE 5,mB 6 2,mB 7 3,eE 8 a9 a9 a9 a9,H7 9 a9,bB 10] (bB 11) c_252_l0 c_252_k1⟩
def c_253_l0:Xv:=iG [aN 6,dS 7 2,xL 8 7,xN 9 8,xB 10 .lss 6 9,xM 11 10,eV 12 11 2 2,dZ 13 11 12,xV 14 11 13] 14 0 1 [aK 17 3,bU 18 2,aM 19 18,aS 20 zH 17 19,dS 21 2,xL 22 21,aN 23,xX 24 3 22 23,aQ 25 24,xL 26 25,xB 27 .and 20 26,dS 28 2,xL 29 28,aN 30,xX 31 3 29 30,aH 32 31,xL 33 32,xB 34 .eql 27 33] 34 [dS 35 2,xL 36 35,aN 37,xX 38 3 36 37,bD 39 38,xL 40 39,bP 40] 15 5 16 .add 15 5 16
def c_253_k1:Xv:=bO [xF 41 6 2,xL 42 41,bP 42]
def EV:AFn:=⟨2,[.tmp 4],fO oQ cM c_253_l0 c_253_k1⟩
def EW:AFn:=⟨1,[.tmp 2,.tmp 3],d8 [eL 1,xC 2 a9,bB 3] [fM 5,xL 6 5,xK 7 .rem 6 8,aO 8 .neq 7] 8 [xC 2 a9,xI 3 10] (eW [jR 4 1] [dG 4,lN 10,xL 11 10,fM 12,xL 13 12,xK 14 .quo 13 8,xO 15 (.slc 1 (.t 11) (some (.t 14)) none none),cU 16 1 1 9 15,xM 2 16,bB 3])⟩
def c_257_l0:Xv:=cW [bN 27,aO 28 .geq 27] 28 1 2 (xR [aV 31,aF 32,bN 33,xB 34 .shr 32 33,qD 35 .rem 34 (vF 2),qD 36 .eql 35 (vF 1),xO 37 (.bslice .imm 1 (List.replicate 1 [.bool false]) [(0,(.t 36))]),cU 38 1 1 31 37,cD 38]) 29 9 30 .sub 29 9 30
def c_257_k1:Xv:=bO [aV 39,xO 40 (.build gN [(0,1,(.t 39))]),bE 6 40,dB]
def xH:AFn:=⟨3,[.cell 6 true 1,.tmp 7],mG lM (bC 6 gN) dB (jN 0 [aT 11,aZ 12 sX 11,bY 13 12,xM 10 13] 10 [xA 14 1 3,bE 6 14,xI 7 10] (cL [aF 16,aT 17,aS 18 kV 16 17,bY 19 18,xM 15 19] 15 [xA 20 1 3,bE 6 20,xI 7 9]) (hO (jR 8 1) (AY [aV 21,cV 22,xL 23 22,cU 24 1 1 21 23,cD 24] [aT 25,dJ 26 .sub 25,dG 26] 1 c_257_l0 c_257_k1)))⟩
def kN:AFn:=⟨2,[.tmp 4],lL [dR,mL,mD 4 0] [aK 5 2,aM 6 3,aS 7 rV 5 6,bY 8 7] 8 (mD 4 0) (dU [cV 9,xL 10 9,xK 11 .eql 10 (-1)] 11 [bD 12 2,xL 13 12,eM 14,xL 15 14,aW 16 13 15,xL 17 16,bP 17] (dU [aK 18 2,cV 19,xL 20 19,aS 21 rW 18 20,bY 22 21] 22 [mD 4 0] (fD [gE 23,xL 24 23,cV 25,xL 26 25,aW 27 24 26,xL 28 27,eM 29,xL 30 29,aW 31 28 30,xL 32 31,bP 32] .ret)))⟩
def c_264_l0:Xv:=cW [xM 14 12,aT 15,xN 16 15,xB 17 .lss 14 16,xM 18 17,cH 19 18 1,pJ 20 18 .geq 19 gX,xV 21 18 20,xM 22 21,cH 23 22 1,eV 24 22 5 4,dZ 25 22 24,B2 26 22 25,oV 27 22 .lss 23 26,xV 28 22 27] 28 0 1 (fD [aT 31,xM 32 12,dW 33 31 32,aQ 34 33,aK 35 34,eJ 36,aS 37 zY 35 36,xM 38 37,cH 39 38 11,dE 40 38 (LG 39),cH 41 38 40,jU 42 41 9 4,jY 43 41,b9 44 41 2,b9 45 41 12,oW 46 41 5 44 45,jU 47 41 5 46,jU 48 41 5 10,oU 49 41 zZ [.t 42,.t 43,.t 47,.t 48],dE 50 38 (.pick (.t 41) (.c Ht) (.t 49)),xV 51 38 50] (kG 51 (dQ [aT 52,xM 53 12,dW 54 52 53,xA 55 5 54,xS 5 10 55] (xR [tK 11])))) 29 12 30 .add 29 12 30
def c_264_k1:Xv:=bO [xA 56 5 10,xM 57 11,xS 5 8 56,dG 57]
def EX:AFn:=⟨4,[.cell 8 true 5,.tmp 9],cG [eL 4,bC 8 lY,cA 9] [xO 13 (.build jJ []),bC 10 lY,xS 5 10 13] (fO [cA 11] (bB 12) c_264_l0 c_264_k1)⟩
def EY:AFn:=⟨2,[.cell 4 true 10],jO [dR,bC 4 DA] [eI 5,cN 6 2,xL 7 6,w6,xX 9 3 7 8,aQ 10 9,xL 11 10,xO 12 (.build DA [(0,9,(.t 5)),(9,1,(.t 11))]),xS 10 4 12] .ret⟩
def EZ:AFn:=⟨3,JK,d8 PE [aT 7,aO 8 .lss 7,aV 9,b9 10 9 2,eZ 11 9 3,aU 12 9 11,cK 13 9 12,eH 14 9 .geq 10 13,xW 15 9 14,xM 16 15,b9 17 16 2,bL 18 16 0 4,aU 19 16 18,cK 20 16 19,eH 21 16 .geq 17 20,xW 22 16 21,xM 23 22,bL 24 23 0 4,aU 25 23 24,b9 26 23 2,oW 27 23 1 25 26,aU 28 23 27,xW 29 23 28] 29 [aK 30 4,aZ 31 cC 30,gY 31] (bO [aK 32 4,aT 33,T6 34 nW 32 33 (.c Ht),gY 34])⟩
def F0:AFn:=⟨3,JK,d8 PE [aT 7,aO 8 .lss 7,aV 9,b9 10 9 2,eZ 11 9 3,aU 12 9 11,cK 13 9 12,eH 14 9 .geq 10 13,xW 15 9 14,xM 16 15,b9 17 16 2,bL 18 16 0 4,aU 19 16 18,cK 20 16 19,eH 21 16 .geq 17 20,xW 22 16 21] 22 [aK 23 4,aZ 24 cC 23,gY 24] (bO [aK 25 4,aT 26,T6 27 nW 25 26 (.c qA),gY 27])⟩
def xP:AFn:=⟨4,[.tmp 8],qE [eL 4,mD 8 0] [kJ 9,aF 10,aT 11,eJ 12,iT 13 sY 9 10 11 12,bY 14 13] 14 (mD 8 0) [aF 15,aT 16,aW 17 15 16,xL 18 17,eJ 19,aW 20 18 19,xL 21 20,cD 21]⟩
def c_270_l0:Xv:=cW [xM 15 12,aF 16,xN 17 16,xB 18 .lss 15 17] 18 0 1 (xR [xM 21 11,xO 22 (.bslice .imm 1 [] []),aF 23,xM 24 12,aW 25 23 24,xL 26 25,qB 27 .row 1 4 22 26,xO 28 (.bslice .row 1 (List.replicate 1 gN) [(0,(.t 27))]),qB 29 .row 1 24 21 28,xM 11 29]) 19 12 20 .add 19 12 20
def c_270_l1:Xv:=cW [xM 46 14,bU 47 5,xL 48 47,aT 49,xX 50 3 48 49,aQ 51 50,xL 52 51,xB 53 .lss 46 52] 53 2 3 (xR [xM 56 13,xO 57 (.bin .mul (PT .u64 2) (.t 56)),xM 13 57]) 54 14 55 .add 54 14 55
def c_270_k2:Xv:=fD [xM 58 11,aT 59,aW 60 58 59,xL 61 60,eJ 62,xM 63 4,xO 64 (vC .u64 63),xM 65 13,xB 66 .rem 64 65,xO 67 (vC .u32 66),aW 68 61 62,bE 68 67] (gD (xM 69 11) (xM 10 69))
def c_270_k3:Xv:=dU [kH 30 5,aF 31,aT 32,eJ 33,iT 34 sY 30 31 32 33,bY 35 34,xM 36 35,bL 37 36 3 5,aU 38 36 37,b9 39 36 2,oW 40 36 3 38 39,jU 41 36 3 40,oU 42 36 nE [.t 41],mK 43 36 .eql 42 gX,xW 44 36 43] 44 [xM 45 11,xM 10 45] (AY [xC 13 DM] [bB 14] 2 c_270_l1 c_270_k2)
def F1:AFn:=⟨5,[.tmp 10],jS (eL 5) (xC 10 a9) (fO [xC 11 a9] (bB 12) c_270_l0 c_270_k3)⟩
def F2:AFn:=⟨1,[.tmp 2],eW [cA 2] OR⟩
def F3:AFn:=⟨1,[.tmp 2],eW [cA 2] OZ⟩
def c_275_l0:Xv:=cW [aV 11,eM 12,xL 13 12,xN 14 13,xB 15 .lss 11 14] 15 0 1 (fD [eI 18,eM 19,xL 20 19,aV 21,xX 22 3 20 21,aH 23 22,aM 24 23,aS 25 sP 18 24,dG 25] (dQ [eM 26,xL 27 26,aV 28,xX 29 3 27 28,bD 30 29,xL 31 30,xM 10 31] (Ho 2 (jL [bN 33,aO 34 .eql 33,xM 32 34] 32 [aV 35,bP 35,xI 5 8] (jL [xM 37 10,dJ 38 .neq 37,xM 39 38,cH 40 39 10,pJ 41 39 .neq 40 (jM 2),xV 42 39 41,xM 43 42,cH 44 43 10,pJ 45 43 .neq 44 (jM 3),xV 46 43 45,xM 36 46] 36 [aV 47,bP 47,xI 5 11] (mG (xM 49 10) (xK 50 .eql 49 2) (xM 48 50) (kG 48 (xR [bF 51,dJ 52 .add 51,cO 52]))))) [aY 53,bN 54,xB 55 .add 53 54,cE 55]))) 16 8 17 .add 16 8 17
def c_275_k1:Xv:=jN 3 [bF 57,dJ 58 .gtr 57,xM 56 58] 56 [dV (-2),xI 5 7] (cL [aY 60,xK 61 .gtr 60 64,xM 59 61] 59 [dV (-2),xI 5 10]) (w7 cM)
def F4:AFn:=⟨2,gM,cG JG [cQ] (fO [dB] kI c_275_l0 c_275_k1)⟩
def c_276_l0:Xv:=cW [aN 6,jQ 7,xL 8 7,xN 9 8,xB 10 .lss 6 9] 10 0 1 (.block 2 (fD [jQ 14,xL 15 14,aN 16,aW 17 15 16,xL 18 17,aO 19 .lss 18,xM 20 19,bL 21 20 2 3,aU 22 20 21,b9 23 20 5,oW 24 20 1 22 23,aU 25 20 24,bL 26 20 4 2,aU 27 20 26,cK 28 20 27,eH 29 20 .geq 25 28,xW 30 20 29,xM 13 30] (T4 13 [dV 8] (AZ [jQ 32,xL 33 32,jQ 34,xL 35 34,aN 36,aW 37 35 36,xL 38 37,aS 39 nM 33 38,aN 40,xB 41 .lss 39 40,xM 31 41] 31 [dV 7])))) 11 5 12 .add 11 5 12
def c_276_k1:Xv:=dU [jQ 42,xL 43 42,bU 44 3,aH 45 44,xL 46 45,aS 47 nM 43 46,aO 48 .lss 47] 48 [dV 8] (bO [eI 49,bU 50 3,aM 51 50,aS 52 iY 49 51,bP 52])
def F5:AFn:=⟨2,[.tmp 4],fO oQ cM c_276_l0 c_276_k1⟩
def dL:AFn:=⟨2,[.tmp 4],mG dR mL dF OP⟩
def c_283_l0:Xv:=cW [aY 7,w6,xB 9 .leq 7 8,bN 10,cH 11 10 1,oT 12 10 kZ [.t 11],xV 13 10 12] 13 0 1 (cL [aY 16,aF 17,aS 18 A1 16 17,aJ 19,xB 20 .eql 18 19] 20 JD) 14 6 15 .add 14 6 15
def c_283_k1:Xv:=w7 (cA 5)
def xT:AFn:=⟨2,gM,fO [dF,cA 5] cQ c_283_l0 c_283_k1⟩
def xU:AFn:=⟨1,[.tmp 2],qE [mD 2 0] [aJ 3,aZ 4 kZ 3,bY 5 4] 5 (mD 2 0) [B3,aZ 7 l6 6,qD 8 .sub 7 (PT .u64 1),xO 9 (vC .u32 8),bN 2]⟩
def qX:AFn:=⟨1,[.tmp 2],eW [cA 2] P1⟩
def c_286_l0:Xv:=cW [bQ 4,B3,xB 7 .lss 5 6] 7 0 1 (xR [eJ 10,xO 11 (.bin .mul (PT .u64 2) (.t 10)),xM 3 11]) 8 4 9 .add 8 4 9
def c_286_k1:Xv:=gD (eJ 12) (xM 2 12)
def F6:AFn:=⟨1,[.tmp 2],hO (xC 2 (.int .u64 0)) (fO [xC 3 DM] dF c_286_l0 c_286_k1)⟩
def F7:AFn:=⟨1,[.cell 2 true 9],jO [eL 1,bC 2 J3] [lN 3,xL 4 3,fM 5,xL 6 5,BO 7 sZ 6 (.c (.func (.func l8) [] [])),bD 8 1,xL 9 8,aZ 10 nX 9,bU 11 1,xL 12 11,aZ 13 A3 12,cN 14 1,xL 15 14,BO 16 t5 15 (.c (.func (.func l9) [] [])),dS 17 1,xL 18 17,BO 19 t6 18 (.c (.func (.func lA) [] [])),xF 20 6 1,xL 21 20,BO 22 t7 21 (.c (.func (.func lB) [] [])),xF 23 7 1,xL 24 23,BO 25 lC 24 J6,xF 26 8 1,xL 27 26,aZ 28 eR 27,xO 29 (.build J3 [(0,1,(.t 4)),(1,1,(.t 7)),(2,1,(.t 10)),(3,1,(.t 13)),(4,1,(.t 16)),(5,1,(.t 19)),(6,1,(.t 22)),(7,1,(.t 25)),(8,1,(.t 28))]),xS 9 2 29] .ret⟩
def c_288_l0:Xv:=iS [xB 23 .lss 22 21] 23 0 1 [xM 24 22,dW 25 20 22,xA 26 5 25,bC 5 lY,bP 24,xS 5 5 26] 5 (xD [aJ 27,bX 28 27,xF 29 13 28,xL 30 29,aF 31,aW 32 30 31,xL 33 32,gZ 34,xL 35 34,xM 36 4,⟨none,none,.update .i (.t 33) (.t 35) (.t 36)⟩]) 37 .add 22 22 37
def F8:AFn:=⟨2,[],cG [B3,bX 7 6,xF 8 13 7,xL 9 8,aF 10,xO 11 .mkmap,aW 12 9 10,bE 12 11] [aJ 13,bX 14 13,aH 15 14,aH 16 15,xL 17 16,aF 18,aW 19 17 18,xL 20 19,xN 21 20,bB 22] (DP 0 c_288_l0)⟩
def qY:AFn:=⟨3,DL,jS cQ dB (jN 0 OS 10 [cQ,xI 7 1] P2 (d8 [aJ 26,bX 27 26,xF 28 13 27,xL 29 28,aF 30,aW 31 29 30,xL 32 31,aT 33,xO 34 (.lookup .i AU true (.t 32) (.t 33)),xM 25 34,bS 35 25,bT 36 25,cD 35,dG 36] [bN 37,bY 38 37] 38 [cQ,xI 7 8] (bO [aV 39,cE 39,dB])))⟩
def F9:AFn:=⟨1,JJ,jO [eL 1,qC 2 cF a9] [lN 3,xL 4 3,fM 5,xL 6 5,aZ 7 gP 6,xO 8 (.build pY [(0,1,(.t 4)),(1,1,(.t 7))]),f9 2 8] .ret⟩
def iV:AFn:=⟨3,DL,mG (mB 5 2) cQ dB (jN 0 OS 10 [cQ,xI 7 1] P2 (.seq (fD [aJ 25,bX 26 25,cN 27 26,kH 28 27,aF 29,aK 30 5,fI 31 rL 28 29 30,cD 31] (cL [aV 32,aO 33 .neq 32] 33 [aV 34,cQ,cO 34])) (dU [aJ 35,bX 36 35,aH 37 36,aH 38 37,xL 39 38,aF 40,aW 41 39 40,xL 42 41,xO 43 (.mkfunc (.func jB) [] [.t 5]),aS 44 kP 42 43] 44 [cQ,xI 7 7] (oR [aJ 45,bX 46 45,aH 47 46,aQ 48 47,xL 49 48,aF 50,aW 51 49 50,xL 52 51,dG 52] (AZ [aJ 53,bX 54 53,aH 55 54,aH 56 55,xL 57 56,aF 58,aW 59 57 58,xL 60 59,xN 61 60,aJ 62,bX 63 62,cN 64 63,dS 65 64,xL 66 65,aF 67,xX 68 6 66 67,dS 69 68,xL 70 69,xB 71 .geq 61 70,xM 72 71,b9 73 72 9,eY 74 72 .geq 73 1073741824,xW 75 72 74] 75 [cQ,xI 7 13]) (fD [aJ 76,bX 77 76,xF 78 13 77,xL 79 78,aF 80,aW 81 79 80,xL 82 81,bN 83,aJ 84,bX 85 84,aH 86 85,aH 87 86,xL 88 87,aF 89,aW 90 88 89,xL 91 90,xN 92 91,⟨none,none,.update .i (.t 82) (.t 83) (.t 92)⟩] (oS [(4,19)] [⟨some 93,none,.mov (.t 0)⟩,⟨some 94,none,.nilchk (.t 93)⟩,⟨some 95,none,.faddr 0 (.t 94)⟩,⟨some 96,none,.faddr 0 (.t 95)⟩,⟨some 97,none,.load false 1 (.t 96)⟩,⟨some 98,none,.mov (.t 1)⟩,⟨some 99,none,.mov (.t 0)⟩,⟨some 100,none,.nilchk (.t 99)⟩,⟨some 101,none,.faddr 0 (.t 100)⟩,⟨some 102,none,.faddr 0 (.t 101)⟩,⟨some 103,none,.load false 1 (.t 102)⟩,⟨some 104,none,.mov (.t 1)⟩,⟨some 105,none,.iaddr 1 none (.t 103) (.t 104)⟩,⟨some 106,none,.load false 1 (.t 105)⟩,⟨some 107,none,.mov (.t 9)⟩,⟨some 108,none,.load true 4 (.t 5)⟩,⟨some 109,none,.pcall t8 [.t 108]⟩,⟨some 110,none,.build jJ [(0,1,(.t 107)),(1,4,(.t 109))]⟩,⟨some 111,none,.bslice .imm 5 (List.replicate 1 jJ) [(0,(.t 110))]⟩,⟨some 112,none,.append .row 5 72 (.t 106) (.t 111)⟩,⟨some 113,none,.iaddr 1 none (.t 97) (.t 98)⟩,⟨none,none,.store 1 (.t 113) (.t 112)⟩] none (eW [aJ 114,bX 115 114,aH 116 115,aQ 117 116,xL 118 117,aF 119,aW 120 118 119,xL 121 120,dJ 122 .add 121,aW 123 118 119,bE 123 122] [bN 124,cE 124,dB])))))))⟩
def xY:AFn:=⟨3,[.tmp 6],hO cQ (vZ [aJ 10,aF 11,aT 12,dY 13 nS [.t 10,.t 11,.t 12],dG 13,bS 14 9,bT 15 9,cO 14,cD 15] [aV 16,aO 17 .eql 16] 17 (oS [(4,17)] [⟨some 18,none,.mov (.t 0)⟩,⟨some 19,none,.nilchk (.t 18)⟩,⟨some 20,none,.faddr 0 (.t 19)⟩,⟨some 21,none,.faddr 0 (.t 20)⟩,⟨some 22,none,.load false 1 (.t 21)⟩,⟨some 23,none,.mov (.t 1)⟩,⟨some 24,none,.mov (.t 0)⟩,⟨some 25,none,.nilchk (.t 24)⟩,⟨some 26,none,.faddr 0 (.t 25)⟩,⟨some 27,none,.faddr 0 (.t 26)⟩,⟨some 28,none,.load false 1 (.t 27)⟩,⟨some 29,none,.mov (.t 1)⟩,⟨some 30,none,.iaddr 1 none (.t 28) (.t 29)⟩,⟨some 31,none,.load false 1 (.t 30)⟩,⟨some 32,none,.mov (.t 7)⟩,⟨some 33,none,.mov (.t 7)⟩,⟨some 34,none,.bin .add (.t 33) AS⟩,⟨some 35,none,.tcall nZ [.t 31,.t 32,.t 34]⟩,⟨some 36,none,.iaddr 1 none (.t 22) (.t 23)⟩,⟨none,none,.store 1 (.t 36) (.t 35)⟩] none (xR [aJ 37,aF 38,mH 39 nR 37 38])) (gD (aV 40) (cE 40)))⟩
def qZ:AFn:=⟨3,[.tmp 6],jS (mB 5 2) cQ (jN 0 [aJ 9,BR 10 9,xM 11 10,b9 12 11 0,DR 13 11 12,bL 14 11 14 13,aU 15 11 14,vB 16 11 15,xW 17 11 16,cD 17] 8 [xI 6 1] (cL [aJ 19,aF 20,mH 21 nY 19 20,bY 22 21,xM 18 22] 18 [xI 6 8]) (fD [aJ 23,bX 24 23,cN 25 24,kH 26 25,aF 27,aM 28 5,fI 29 nA 26 27 28,cO 29] (lK [bF 30,aO 31 .eql 30] (kG 31 (xD [aJ 32,bX 33 32,aH 34 33,bD 35 34,xL 36 35,aF 37,aM 38 5,aZ 39 l7 38,xX 40 2 36 37,f9 40 39])) (gD (bF 41) (cE 41)))))⟩
def FA:AFn:=⟨1,[.cell 2 true 5],jO [eL 1,bC 2 lY] [lN 3,xL 4 3,fM 5,aK 6 5,aZ 7 t8 6,xO 8 (.build jJ [(0,1,(.t 4)),(1,4,(.t 7))]),xS 5 2 8] .ret⟩
def gO:AFn:=⟨4,[.cell 8 true 4,.tmp 9,.tmp 10],d8 [eL 4,mE 5,xJ 7 3,eE 8 a9 a9 bA a9,iF,bB 10] [aT 14,aO 15 .lss 14,xM 16 15,b9 17 16 2,bL 18 16 5 4,aU 19 16 18,cK 20 16 19,eH 21 16 .geq 17 20,xW 22 16 21] 22 [aK 23 5,jX 23,iF,xI 10 8] (dQ [kJ 24,aT 25,aK 26 7,fI 27 rN 24 25 26,xM 11 27] (jN 0 [xM 29 11,aO 30 .neq 29,xM 28 30] 28 [aK 31 5,xM 32 11,jX 31,iF,xM 10 32] (fD [gZ 34,xL 35 34,aT 36,aW 37 35 36,xL 38 37,aK 39 7,aS 40 nC 38 39,xM 33 40] (T4 33 [aK 41 5,jX 41,iF,xI 10 7] (AZ [gZ 43,xL 44 43,aT 45,aW 46 44 45,xL 47 46,xN 48 47,dS 49 4,xL 50 49,aT 51,xX 52 6 50 51,dS 53 52,xL 54 53,xB 55 .geq 48 54,xM 56 55,eZ 57 56 5,aU 58 56 57,b9 59 56 2,oW 60 56 1 58 59,aU 61 56 60,eY 62 56 .geq 61 1073741824,xW 63 56 62,xM 42 63] 42 [aK 64 5,jX 64,iF,xI 10 13]))) (cG [aQ 65 5,xL 66 65,aT 67,aW 68 66 67,xL 69 68,xM 12 69] [jR 13 5] (cG [xM 70 13,gZ 71,xL 72 71,aT 73,aW 74 72 73,xL 75 74,cU 76 5 72 70 75,xM 13 76] [xM 77 13,xM 78 12,aK 79 7,xO 80 (.build jJ [(0,1,(.t 78)),(1,4,(.t 79))]),xO 81 (.bslice .imm 5 (List.replicate 1 jJ) [(0,(.t 80))]),cU 82 5 72 77 81,xM 13 82] (bO [aK 83 5,aT 84,xM 85 13,xM 86 12,dJ 87 .add 86,iT 88 oC 83 84 85 87,xM 89 12,jX 88,dG 89,bB 10])))))⟩
def kO:AFn:=⟨5,[.cell 10 true 4,.tmp 11],d8 [eL 5,mE 6,xJ 9 4,eE 10 a9 a9 bA a9,bB 11] [aT 14,aO 15 .lss 14,xM 16 15,b9 17 16 2,bL 18 16 5 5,aU 19 16 18,cK 20 16 19,eH 21 16 .geq 17 20,xW 22 16 21,xM 23 22,bL 24 23 0 6,aU 25 23 24,b9 26 23 2,oW 27 23 1 25 26,aU 28 23 27,b9 29 23 3,oU 30 23 lE [.t 28,.t 29],mK 31 23 .lss 30 gX,xW 32 23 31] 32 [aK 33 6,bM 10 33,xI 11 8] (d8 [kH 34 5,aT 35,aM 36 9,fI 37 AA 34 35 36,xM 12 37] [xM 38 12,aO 39 .neq 38] 39 [aK 40 6,xM 41 12,bM 10 40,xM 11 41] (hO (xC 13 AW) (jO [xM 42 13,aH 43 6,xL 44 43,aT 45,aW 46 44 45,xL 47 46,qB 48 .row 5 72 42 47,xM 13 48] [xM 49 13,xM 50 13,eJ 51,aS 52 lE 50 51,aM 53 9,dW 54 49 52,aQ 55 54,bD 56 55,f9 56 53] (fD [aK 57 6,aT 58,xM 59 13,aQ 60 6,xL 61 60,aT 62,aW 63 61 62,xL 64 63,xO 65 (.pcallk oC [.t 57,.t 58,.t 59,.t 64]),bM 10 65,bB 11] .ret))))⟩
def mW:AFn:=⟨4,JA,d8 [eL 4,mE 5,eE 8 a9 a9 bA a9,iF] [aT 12,aO 13 .lss 12,xM 14 13,b9 15 14 2,bL 16 14 5 4,aU 17 14 16,cK 18 14 17,eH 19 14 .geq 15 18,xW 20 14 19,xM 21 20,bL 22 21 0 5,aU 23 21 22,b9 24 21 2,oW 25 21 1 23 24,aU 26 21 25,b9 27 21 3,oU 28 21 lE [.t 26,.t 27],mK 29 21 .lss 28 gX,xW 30 21 29] 30 [aK 31 5,jX 31,xI 9 8] (dQ [gZ 32,xL 33 32,aT 34,aW 35 33 34,xL 36 35,eJ 37,aS 38 lE 36 37,xM 10 38] (cG [jR 11 5] [xM 39 11,gZ 40,xL 41 40,aT 42,aW 43 41 42,xL 44 43,xM 45 10,xO 46 (.slc 5 (.t 44) none (some (.t 45)) none),cU 47 5 72 39 46,xM 11 47] (jO [xM 48 11,gZ 49,xL 50 49,aT 51,aW 52 50 51,xL 53 52,xM 54 10,dJ 55 .add 54,xO 56 (.slc 5 (.t 53) (some (.t 55)) none none),cU 57 5 72 48 56,xM 11 57] [aK 58 5,aT 59,xM 60 11,aQ 61 5,xL 62 61,aT 63,aW 64 62 63,xL 65 64,iT 66 oC 58 59 60 65,jX 66,iF] .ret)))⟩
def mX:AFn:=⟨4,JA,d8 [eL 4,mE 5,xJ 7 3,eE 8 a9 a9 bA a9,iF] [aT 12,aO 13 .lss 12,xM 14 13,b9 15 14 2,bL 16 14 5 4,aU 17 14 16,cK 18 14 17,eH 19 14 .geq 15 18,xW 20 14 19] 20 [aK 21 5,jX 21,xI 9 8] (d8 [kJ 22,aT 23,aM 24 7,fI 25 AA 22 23 24,xM 10 25] [xM 26 10,aO 27 .neq 26] 27 [aK 28 5,xM 29 10,jX 28,dG 29] (dQ [gZ 30,xL 31 30,aQ 32 5,xL 33 32,bU 34 5,xL 35 34,xO 36 (.build gK [(0,1,(.t 31)),(1,1,(.t 33)),(3,1,(.t 35))]),eE 11 a9 a9 bA a9,bM 11 36] (cG [bD 37 11,xL 38 37,bD 39 5,xL 40 39,qB 41 .row 2 32 38 40,bD 42 11,bE 42 41] [bD 43 11,xL 44 43,aT 45,aM 46 7,xX 47 2 44 45,f9 47 46] (bO [aK 48 11,jX 48,iF]))))⟩
def FB:AFn:=⟨1,[.tmp 2],eW [cA 2] OR⟩
def c_300_l0:Xv:=H6 [aN 6,aJ 7,xO 8 (.slen (.t 7)),xB 9 .lss 6 8,bN 10,cH 11 10 1,cH 12 10 0,cH 13 10 5,dE 14 10 (.idxs (.t 12) (.t 13)),dE 15 10 (Hu 11 [.t 14]),xV 16 10 15] 16 0 (.block 1 (xR [aN 17,dJ 18 .add 17,bQ 18]))
def c_300_k1:Xv:=vE 19 19
def FC:AFn:=⟨2,[.tmp 4],cG [dF] [cM] (vY 0 (.loop c_300_l0) c_300_k1)⟩
def FD:AFn:=⟨1,[.tmp 2],eW [cA 2] [aJ 3,aZ 4 sW 3,bQ 4,b9 6 5 0,oU 7 5 zU [.t 6],xW 8 5 7,aV 9,b9 10 9 0,mK 11 9 .eql 10 (BS 95),xW 12 9 11,xM 2 12]⟩
def FE:AFn:=⟨1,[.tmp 2],eW [cA 2] OZ⟩
def r9:AFn:=⟨2,[.cell 4 true 2],hO (H7 4 (.str [])) (d8 [H7 5 (.str [])] OX 13 [aM 14 5,jW 14] P7)⟩
def rA:AFn:=⟨2,[.tmp 4],d8 [dR,xC 4 bA] [aF 5,xK 6 .eql 5 (-1)] 6 [bD 7 2,xL 8 7,aV 4] (bO [gE 9,xL 10 9,aF 11,aS 12 A4 10 11,xO 13 (.fld false 1 1 (.t 12)),bP 13])⟩
def FF:AFn:=⟨2,[.tmp 4],qE [mD 4 0] [aF 5,xO 6 PK,aZ 7 kU 6,bY 8 7] 8 (mD 4 0) [aF 9,aZ 10 gQ 9,aF 11,aZ 12 gQ 11,aJ 13,xO 14 (.minmax true [.t 13,.c AU]),aF 15,xO 16 (.minmax false [.t 14,.t 15]),xB 17 .shr 12 16,xB 18 .andNot 10 17,bP 18]⟩
def c_316_l0:Xv:=cW [bN 27,gE 28,xL 29 28,xN 30 29,xB 31 .lss 27 30] 31 1 2 (oS [(0,12),(2,12),(6,12),(7,12)] [⟨some 35,none,.load true 2 (.t 3)⟩,⟨some 36,none,.faddr 1 (.t 2)⟩,⟨some 37,none,.load false 1 (.t 36)⟩,⟨some 38,none,.mov (.t 9)⟩,⟨some 39,none,.iaddr 2 none (.t 37) (.t 38)⟩,⟨some 40,none,.faddr 1 (.t 39)⟩,⟨some 41,none,.load false 1 (.t 40)⟩,⟨some 42,none,.pcall A5 [.t 35,.t 41]⟩,⟨some 34,none,.mov (.t 42)⟩,⟨some 43,none,.ext 0 (.t 34)⟩,⟨some 44,none,.ext 1 (.t 34)⟩,⟨some 45,none,.ext 2 (.t 34)⟩,⟨some 10,none,.alloc JB⟩,⟨none,none,.store 2 (.t 10) (.t 43)⟩,⟨some 11,none,.mov (.t 44)⟩,⟨some 12,none,.mov (.t 45)⟩] (some [10]) (jS (aM 46 10) (f9 3 46) (xR [aV 47,xM 48 11,xO 49 (.bslice .imm 1 (List.replicate 1 [.int .u32 0]) [(0,(.t 48))]),cU 50 1 4 47 49,cD 50]))) 32 9 33 .add 32 9 33
def c_316_k1:Xv:=bO [aM 51 3,aV 52,jW 51,bQ 52,cQ]
def xZ:AFn:=⟨2,DE,cG [dR,mB 3 1,H7 4 a9,xC 5 a9,cQ] [aM 13 2,aZ 14 dM 13,cO 14] (jN 0 [bF 16,aO 17 .neq 16,xM 15 17] 15 [aM 18 3,bF 19,jW 18,xC 5 a9,cE 19] (AZ [aM 21 2,aZ 22 lF 21,aM 23 3,aZ 24 t9 23,xB 25 .gtr 22 24,xM 20 25] 20 [aM 26 3,jW 26,xC 5 a9,xI 6 3]) (AY [jR 8 1] [iF] 1 c_316_l0 c_316_k1))⟩
def FG:AFn:=⟨1,[.tmp 2],eW [cA 2] P1⟩
def c_327_l0:Xv:=iG [aN 12,aF 13,xN 14 13,xB 15 .lss 12 14] 15 0 1 [aF 18,aN 19,aW 20 18 19,xL 21 20,aH 22 2,xL 23 22,aN 24,xX 25 2 23 24,aH 26 25,xL 27 26,xB 28 .xor 21 27,aH 29 2,xL 30 29,aN 31,xX 32 2 30 31,aQ 33 32,xL 34 33,xB 35 .and 28 34,qD 36 .neq 35 (vF 0)] 36 [cP] 16 5 17 .add 16 5 17
def c_327_k1:Xv:=tN 4
def yA:AFn:=⟨2,[.tmp 4],jP [dR,cP] [aH 6 2,xL 7 6,xN 8 7,aF 9,xN 10 9,xB 11 .neq 8 10] 11 cP [cM] 0 c_327_l0 c_327_k1⟩
def rB:AFn:=⟨4,[.tmp 8],jO [eL 4,xJ 6 2,xJ 7 3,cA 8] [kJ 11,aF 12,aQ 13 6,aK 14 13,fI 15 tA 11 12 14,kJ 16,aF 17,aQ 18 7,aK 19 18,fI 20 tA 16 17 19,dG 15,xM 10 20] (jN 0 [aQ 22 6,aQ 23 22,xL 24 23,aQ 25 7,aQ 26 25,xL 27 26,xB 28 .neq 24 27,xM 21 28] 21 [aQ 29 6,aQ 30 29,xL 31 30,aQ 32 7,aQ 33 32,xL 34 33,xB 35 .gtr 31 34,cD 35] (cL [bN 37,xM 38 10,xB 39 .neq 37 38,xM 36 39] 36 [bN 40,xM 41 10,xB 42 .gtr 40 41,cD 42]) (bO [aH 43 6,xL 44 43,aH 45 7,xL 46 45,xB 47 .lss 44 46,cD 47]))⟩
def FH:AFn:=⟨3,JK,oR [lM,eE 6 a9 a9 a9 a9] (xQ [aK 8 3,dY 9 cC [.t 8],eE 7 a9 a9 a9 a9,bM 7 9] [7]) (vZ [aH 10 7,xL 11 10,aF 12,aT 13,aW 14 11 12,bE 14 13] [aF 15,aQ 16 7,xL 17 16,xN 18 17,xB 19 .lss 15 18] 19 (PS [(1,9)] [⟨some 20,none,.faddr 1 (.t 7)⟩,⟨some 21,none,.load false 1 (.t 20)⟩,⟨some 22,none,.mov (.t 1)⟩,⟨some 23,none,.faddr 1 (.t 7)⟩,⟨some 24,none,.load false 1 (.t 23)⟩,⟨some 25,none,.mov (.t 1)⟩,⟨some 26,none,.iaddr 1 none (.t 24) (.t 25)⟩,⟨some 27,none,.load false 1 (.t 26)⟩,⟨some 28,none,.len (.t 27)⟩,⟨some 29,none,.mkslice .row 1 4 [.int .u32 0] (.t 28) (.t 28)⟩,⟨some 30,none,.iaddr 1 none (.t 21) (.t 22)⟩,⟨none,none,.store 1 (.t 30) (.t 29)⟩] none) (gD (aK 31 7) (gY 31)))⟩
def yB:AFn:=⟨4,[.tmp 8],eW [eL 4,cA 8] [aT 9,aO 10 .geq 9,xM 11 10,cH 12 11 2,eV 13 11 3 4,dZ 14 11 13,B2 15 11 14,oV 16 11 .lss 12 15,xV 17 11 16,xM 18 17,cH 19 18 2,cH 20 18 1,B2 21 18 20,oV 22 18 .lss 19 21,xV 23 18 22,xM 24 23,cH 25 24 3,dE 26 24 (vC .i64 25),eV 27 24 3 4,dZ 28 24 27,cH 29 24 2,dE 30 24 (BP 3 28 29),eV 31 24 2 30,dZ 32 24 31,oV 33 24 .lss 26 32,xV 34 24 33,xM 35 34,cH 36 35 3,dE 37 35 (vC .i64 36),cH 38 35 1,cH 39 35 2,dE 40 35 (BP 1 38 39),dZ 41 35 40,B2 42 35 41,oV 43 35 .lss 37 42,xV 44 35 43,cD 44]⟩
def FI:AFn:=⟨2,[.tmp 4],lL [mD 4 0] [aF 5,aZ 6 kZ 5,bY 7 6] 7 (mD 4 0) (eW [aJ 8,xO 9 (.minmax true [.t 8,.c AU]),aF 10,xO 11 (.minmax false [.t 9,.t 10]),xM 0 11] [aF 12,aZ 13 l6 12,aF 14,aJ 15,xB 16 .sub 14 15,aZ 17 l6 16,xB 18 .sub 13 17,xO 19 (vC .u32 18),bP 19])⟩
def c_337_l0:Xv:=iS v6 11 0 1 [xX 12 2 8 10,aM 13 12,qC 7 (.str []) bA,f9 7 13] 7 (xR [aN 14,aF 15,aM 16 7,xO 17 v8,xO 18 (.bslice .imm 2 (List.replicate 1 [.str [],.Xu 2 []]) [(0,(.t 17))]),cU 19 2 40 14 18,bQ 19]) 20 .add 10 10 20
def c_337_k1:Xv:=vE 21 21
def FJ:AFn:=⟨2,[.tmp 4],hO (xC 4 bA) (jV [jR 5 2] v5 c_337_l0 c_337_k1)⟩
def FK:AFn:=⟨1,JJ,cG [mN 1,qC 2 (.str []) bA] [fM 3,xL 4 3,aZ 5 nX 4,fM 6,bE 6 5] (gD (aM 7 1) (f9 2 7))⟩
def c_341_l0:Xv:=iS v6 11 0 1 [xX 12 3 8 10,eK 13 12,bC 7 J7,xS 3 7 13] 7 (xR [aN 14,aF 15,eK 16 7,xO 17 v8,xO 18 (.bslice .imm 3 (List.replicate 1 J7) [(0,(.t 17))]),cU 19 3 64 14 18,bQ 19]) 20 .add 10 10 20
def c_341_k1:Xv:=vE 21 21
def FL:AFn:=⟨2,[.tmp 4],hO DO (jV [jR 5 3] v5 c_341_l0 c_341_k1)⟩
def FM:AFn:=⟨1,JI,jO [mN 1,bC 2 J7] [fM 3,xL 4 3,aZ 5 nX 4,bD 6 1,xL 7 6,BO 8 tB 7 (.c (.func (.func lG) [] [])),fM 9,bE 9 5,bD 10 1,bE 10 8] (gD (eK 11 1) (xS 3 2 11))⟩
def c_343_l0:Xv:=iS v6 11 0 1 [xX 12 6 8 10,cJ 13 12,bC 7 DB,dC 7 13] 7 (xR [aN 14,aF 15,cJ 16 7,xO 17 v8,xO 18 (.bslice .imm 6 (List.replicate 1 [.str [],.Xu 3 [],.Xu 1 [],.int .i64 0,.Xu 1 [],.int .i64 0]) [(0,(.t 17))]),cU 19 6 104 14 18,bQ 19]) 20 .add 10 10 20
def c_343_k1:Xv:=vE 21 21
def FN:AFn:=⟨2,[.tmp 4],hO (xC 4 (.Xu 6 [])) (jV [jR 5 6] v5 c_343_l0 c_343_k1)⟩
def FO:AFn:=⟨1,[.cell 2 true 6],jO [mN 1,bC 2 DB] [fM 3,xL 4 3,aZ 5 A6 4,bD 6 1,xL 7 6,aZ 8 eR 7,bU 9 1,aQ 10 9,xL 11 10,aZ 12 gP 11,fM 13,bE 13 5,bD 14 1,bE 14 8,bU 15 1,aQ 16 15,bE 16 12] (gD (cJ 17 1) (dC 2 17))⟩
def c_345_l0:Xv:=iS v6 11 0 1 [xX 12 7 8 10,xA 13 7 12,bC 7 P9,xS 7 7 13] 7 (xR [aN 14,aF 15,xA 16 7 7,xO 17 v8,xO 18 (.bslice .imm 7 (List.replicate 1 [.str [],.Xu 1 [],.bool false,.int .i64 0,.int .i64 0,.Xu 3 [],.int .i64 0]) [(0,(.t 17))]),cU 19 7 96 14 18,bQ 19]) 20 .add 10 10 20
def c_345_k1:Xv:=vE 21 21
def FP:AFn:=⟨2,[.tmp 4],hO (xC 4 (.Xu 7 [])) (jV [jR 5 7] v5 c_345_l0 c_345_k1)⟩
def FQ:AFn:=⟨1,[.cell 2 true 7],jO [mN 1,bC 2 P9] [fM 3,xL 4 3,aZ 5 eR 4,dS 6 1,xL 7 6,aZ 8 A7 7,fM 9,bE 9 5,dS 10 1,bE 10 8] PR⟩
def c_347_l0:Xv:=iS v6 11 0 1 [dW 12 8 10,xA 13 5 12,bC 7 PH,xS 5 7 13] 7 (xR [aN 14,aF 15,xA 16 5 7,xO 17 v8,xO 18 (.bslice .imm 5 (List.replicate 1 [.int .i64 0,.int .i64 0,.Xu 3 [],.Xu 5 [],.Xu 5 []]) [(0,(.t 17))]),cU 19 5 88 14 18,bQ 19]) 20 .add 10 10 20
def c_347_k1:Xv:=vE 21 21
def FR:AFn:=⟨2,[.tmp 4],hO (xC 4 AW) (jV [jR 5 5] v5 c_347_l0 c_347_k1)⟩
def FS:AFn:=⟨1,[.cell 2 true 5],jO [mN 1,bC 2 PH] [bD 3 1,xL 4 3,aZ 5 oD 4,bU 6 1,xL 7 6,BO 8 lC 7 J6,cN 9 1,xL 10 9,BO 11 lC 10 J6,bD 12 1,bE 12 5,bU 13 1,bE 13 8,cN 14 1,bE 14 11] (gD (xA 15 5 1) (xS 5 2 15))⟩
def yC:AFn:=⟨2,[.tmp 4],eW [cP] [aF 5,aO 6 .geq 5,aY 7,cH 8 7 1,cH 9 7 0,dE 10 7 (SZ 9),eV 11 7 0 10,eV 12 7 0 11,dZ 13 7 12,B2 14 7 13,oV 15 7 .lss 8 14,xV 16 7 15,bP 16]⟩
def FT:AFn:=⟨2,[.tmp 3],eW [mN 2,cA 3] [gE 4,aK 5 4,aK 6 1,aS 7 n9 5 6,bF 3]⟩
def FU:AFn:=⟨1,v7,jO [eL 1,PU 2 bA cF a9] [lN 3,xL 4 3,aZ 5 rK 4,fM 6,xL 7 6,bD 8 1,aM 9 8,aZ 10 l7 9,xO 11 (.build [.Xu 2 [],.int .i64 0,.int .i64 0,.Xu 1 []] [(0,1,(.t 5)),(1,1,(.t 7)),(2,2,(.t 10))]),bM 2 11] .ret⟩
def yD:AFn:=⟨3,[.tmp 6],hO (xC 6 AW) (d8 [aJ 8,aF 9,aT 10,aJ 11,xN 12 11,xO 13 (.slcH 5 (.t 8) (some (.t 9)) (some (.t 10)) (some (.t 12)))] [aF 14,aT 15,xB 16 .eql 14 15] 16 [aJ 17,cE 17] (jO [aJ 18,xN 19 18,cO 19] [aJ 20,aF 21,xO 22 (.slc 5 (.t 20) none (some (.t 21)) none),aJ 23,aT 24,xO 25 (.slc 5 (.t 23) (some (.t 24)) none none),cU 26 5 72 22 25,xM 0 26] (eW [aJ 27,aJ 28,xN 29 28,bF 30,xO 31 (.slcH 5 (.t 27) (some (.t 29)) (some (.t 30)) none),⟨none,none,.clear jJ (.t 31)⟩] [aJ 32,cE 32])))⟩
def c_353_l0:Xv:=cW [xM 16 10,aH 17 4,xL 18 17,xN 19 18,xB 20 .lss 16 19] 20 0 1 (mG (xM 23 10) (aF 24) (xB 25 .eql 23 24) (kF 25 (dQ [aH 26 9,xL 27 26,aT 28,xO 29 (.bslice .imm 1 DF [(0,(.t 28))]),cU 30 1 24 27 29,aH 31 9,bE 31 30] (xR [aQ 32 9,xL 33 32,eJ 34,xO 35 PJ,cU 36 1 8 33 35,aQ 37 9,bE 37 36])) (fD [aH 38 9,xL 39 38,aH 40 4,xL 41 40,xM 42 10,aW 43 41 42,xL 44 43,xO 45 (.bslice .imm 1 DF [(0,(.t 44))]),cU 46 1 24 39 45,aH 47 9,bE 47 46] (xD [aQ 48 9,xL 49 48,aQ 50 4,xL 51 50,xM 52 10,aW 53 51 52,xL 54 53,xO 55 (.bslice .imm 1 kC [(0,(.t 54))]),cU 56 1 8 49 55,aQ 57 9,bE 57 56])))) 21 10 22 .add 21 10 22
def c_353_k1:Xv:=gD (aK 58 9) (jX 58)
def FV:AFn:=⟨4,[.cell 8 true 4],jS (eL 4) (eE 8 a9 a9 bA a9) (fO [bD 11 4,xL 12 11,bU 13 4,xL 14 13,xO 15 (.build gK [(2,1,(.t 12)),(3,1,(.t 14))]),eE 9 a9 a9 bA a9,bM 9 15] (bB 10) c_353_l0 c_353_k1)⟩
def c_354_l0:Xv:=cW J5 9 0 1 (cL [aJ 12,aN 13,dW 14 12 13,aH 15 14,xL 16 15,aF 17,xB 18 .eql 16 17] 18 [aN 19,bP 19]) 10 5 11 .add 10 5 11
def c_354_k1:Xv:=mF B1
def FW:AFn:=⟨2,[.tmp 4],fO [dF] cM c_354_l0 c_354_k1⟩
def rD:AFn:=⟨2,[.cell 4 true 2],hO (qC 4 (.str []) bA) (d8 [qC 5 (.str []) bA] OX 13 [aM 14 5,jW 14] P7)⟩
def FY:AFn:=⟨1,[.tmp 2],eW [eL 1,bB 2] [lN 3,xL 4 3,xN 5 4,xO 6 (.bin .mul (jM 8) (.t 5)),fM 7,xL 8 7,xB 9 .sub 6 8,bN 2]⟩
def c_360_l0:Xv:=cW [aV 21,aF 22,xB 23 .lss 21 22] 23 1 2 (cG [aH 26 2,xL 27 26,gE 28,xL 29 28,xK 30 .quo 29 8,aW 31 27 30,xL 32 31,xO 33 (vC .u32 32),dG 33] [bF 34,xO 35 (.bin .mul (vF 2) (.t 34)),bN 36,gE 37,xL 38 37,xK 39 .rem 38 8,xO 40 (.bin .sub (jM 7) (.t 39)),xB 41 .shr 36 40,qD 42 .rem 41 (vF 2),xB 43 .add 35 42,cO 43] (xR [gE 44,xL 45 44,dJ 46 .add 45,gE 47,bE 47 46])) 24 8 25 .add 24 8 25
def c_360_k1:Xv:=bO [aM 48 2,bF 49,jW 48,bQ 49,cQ]
def FZ:AFn:=⟨2,DE,dQ [mN 2,H7 4 a9,mD 5 0,cQ] (jN 0 [aF 11,aZ 12 sX 11,bY 13 12,xM 10 13] 10 [aM 14 2,jW 14,mD 5 0,xI 6 10] (cL [aF 16,aM 17 2,aZ 18 t9 17,xB 19 .gtr 16 18,xM 15 19] 15 [aM 20 2,jW 20,mD 5 0,xI 6 3]) (AY [mD 7 0] [kI] 1 c_360_l0 c_360_k1))⟩
def c_362_l0:Xv:=cW [bF 17,dS 18 3,xL 19 18,aF 20,xX 21 6 19 20,aQ 22 21,xL 23 22,xN 24 23,xB 25 .lss 17 24] 25 0 1 (dQ [dS 28 3,xL 29 28,aF 30,xX 31 6 29 30,aQ 32 31,xL 33 32,bF 34,xX 35 3 33 34,bD 36 35,xL 37 36,xK 38 .eql 37 2] (kG 38 (dU [bF 39,gZ 40,xL 41 40,xN 42 41,xB 43 .geq 39 42] 43 [cQ] (bO [gZ 44,xL 45 44,bF 46,xX 47 2 45 46,aQ 48 47,xL 49 48,aZ 50 tC 49,cE 50])))) 26 7 27 .add 26 7 27
def c_362_k1:Xv:=mF cQ
def rE:AFn:=⟨3,[.tmp 6],jP DJ [w6,aO 9 .lss 8,bN 10,jY 11 10,bL 12 10 5 3,aU 13 10 12,cK 14 10 13,eH 15 10 .geq 11 14,xW 16 10 15] 16 cQ [dB] 0 c_362_l0 c_362_k1⟩
def c_364_l0:Xv:=iS v6 11 0 1 [xX 12 7 8 10,xA 13 7 12,bC 7 J4,xS 7 7 13] 7 (xR [aN 14,aF 15,xA 16 7 7,xO 17 v8,xO 18 (.bslice .imm 7 (List.replicate 1 [.int .i64 0,.int .i64 0,.int .i64 0,.int .i64 0,.int .i64 0,.Xu 3 [],.Xu 3 []]) [(0,(.t 17))]),cU 19 7 88 14 18,bQ 19]) 20 .add 10 10 20
def c_364_k1:Xv:=vE 21 21
def G0:AFn:=⟨2,[.tmp 4],hO (xC 4 (.Xu 7 [])) (jV [jR 5 7] v5 c_364_l0 c_364_k1)⟩
def G1:AFn:=⟨1,[.cell 2 true 7],jO [mN 1,bC 2 J4] [dS 3 1,xL 4 3,aZ 5 oD 4,xF 6 6 1,xL 7 6,aZ 8 oD 7,dS 9 1,bE 9 5,xF 10 6 1,bE 10 8] PR⟩
def c_372_l0:Xv:=cW [bQ 4,xK 6 .lss 5 32] 6 0 1 (dQ [dG 3,aJ 10,qD 11 .rem 10 (vF 2),xO 12 (vC .i64 11),xB 13 .add 9 12,xM 3 13] (xR [aJ 14,qD 15 .quo 14 (vF 2),xM 0 15])) 7 4 8 .add 7 4 8
def c_372_k1:Xv:=gD (eJ 16) (xM 2 16)
def G2:AFn:=⟨1,[.tmp 2],hO (bB 2) (fO [bB 3] dF c_372_l0 c_372_k1)⟩
def tabL:List (Nat×AFn):=[(TC,Q9),
  (TD,M2),
  (MS,HJ),
  (JY,QE),
  (dX,HD),
  (yK,wF),
  (uE,LS),
  (uF,tU),
  (CA,BW),
  (CB,tV),
  (CC,tW),
  (CD,tX),
  (iZ,pL),
  (lQ,LT),
  (CE,LU),
  (uG,tY),
  (k9,cY),
  (zS,LV),
  (CF,tZ),
  (CG,BZ),
  (CH,LW),
  (CI,u7),
  (lS,C3),
  (oE,LX),
  (lT,HE),
  (CJ,LY),
  (uH,u9),
  (oF,mY),
  (CK,C4),
  (jC,lO),
  (oG,uA),
  (HT,yE),
  (A8,C5),
  (CL,HG),
  (i7,yF),
  (uJ,mZ),
  (HU,HH),
  (CM,LZ),
  (HV,M1),
  (HW,uB),
  (uK,C6),
  (jD,HI),
  (uL,M3),
  (pP,M4),
  (CN,M5),
  (HX,uC),
  (CO,M6),
  (HY,M7),
  (HZ,HK),
  (I0,HL),
  (CQ,yG),
  (CR,C7),
  (A9,M8),
  (CS,M9),
  (I1,MA),
  (I2,HM),
  (AA,HO),
  (I3,HQ),
  (I4,C8),
  (CT,C9),
  (i8,lP),
  (pQ,pM),
  (I5,MB),
  (I6,uD),
  (pR,pN),
  (I7,HS),
  (rF,qJ),
  (yH,wB),
  (yI,wC),
  (yJ,wD),
  (n7,qK),
  (rG,wE),
  (n8,mO),
  (rH,DZ),
  (rI,qL),
  (rJ,qM),
  (yL,qN),
  (rL,qO),
  (kP,wG),
  (iW,E0),
  (n9,qP),
  (nA,wH),
  (yM,E3),
  (gQ,wI),
  (nB,E4),
  (iX,E5),
  (kQ,wJ),
  (kR,E6),
  (rN,qQ),
  (nC,E7),
  (rO,wK),
  (iY,mP),
  (nD,E8),
  (nE,mQ),
  (kS,wL),
  (rP,E9),
  (yN,EA),
  (yO,qR),
  (kT,EB),
  (yP,wM),
  (rQ,qS),
  (yQ,EC),
  (rR,eP),
  (rS,ED),
  (yR,fQ),
  (yS,wN),
  (rT,wO),
  (nG,mS),
  (rU,wP),
  (kU,qT),
  (nH,wQ),
  (cC,iU),
  (nI,dK),
  (rV,fR),
  (rW,qU),
  (rX,EF),
  (rY,EG),
  (yU,EH),
  (yV,wR),
  (yW,wT),
  (nJ,wU),
  (nK,EJ),
  (yX,mT),
  (rZ,eQ),
  (sA,EK),
  (yZ,fS),
  (zA,wV),
  (nL,qV),
  (sB,EL),
  (nM,EM),
  (kV,wW),
  (kW,EN),
  (nN,EO),
  (kX,mU),
  (sD,kK),
  (fT,EP),
  (zB,kL),
  (zC,mV),
  (zD,EQ),
  (zE,ER),
  (sE,ES),
  (sF,qW),
  (nO,wX),
  (zF,wY),
  (nP,ET),
  (sG,EU),
  (nQ,wZ),
  (sH,EV),
  (sJ,EW),
  (sK,xH),
  (zH,kN),
  (zI,EX),
  (zJ,EY),
  (sL,EZ),
  (sN,F0),
  (zK,xP),
  (kY,F1),
  (sO,F2),
  (zL,F3),
  (zM,F4),
  (zN,F5),
  (sP,dL),
  (zO,xT),
  (zP,xU),
  (kZ,qX),
  (l6,F6),
  (zQ,F7),
  (nR,F8),
  (nS,qY),
  (l7,F9),
  (nT,iV),
  (sQ,xY),
  (sS,qZ),
  (zR,FA),
  (sT,gO),
  (nU,kO),
  (sU,mW),
  (sV,mX),
  (sW,FB),
  (zT,FC),
  (nV,FD),
  (zU,FE),
  (zV,r9),
  (zW,rA),
  (zX,FF),
  (fV,xZ),
  (sX,FG),
  (zY,yA),
  (zZ,rB),
  (nW,FH),
  (sY,yB),
  (A1,FI),
  (sZ,FJ),
  (l8,FK),
  (t5,FL),
  (l9,FM),
  (t6,FN),
  (lA,FO),
  (t7,FP),
  (lB,FQ),
  (lC,FR),
  (lD,FS),
  (nY,yC),
  (jB,FT),
  (t8,FU),
  (nZ,yD),
  (oC,FV),
  (lE,FW),
  (A4,rD),
  (t9,FY),
  (A5,FZ),
  (tA,rE),
  (tB,G0),
  (lG,G1),
  (tC,G2)]
def tabD:List (Nat×ADFn):=[(CP,TA),
  (nF,bG)]
def tabC:List CloneD:=[⟨uI,4,32,.app⟩,⟨pO,3,24,.app⟩,⟨oH,1,1,.app⟩,⟨eR,1,8,.row⟩,⟨rK,2,8,.app⟩,⟨gP,1,4,.app⟩,⟨nX,2,24,.app⟩,⟨A3,3,32,.app⟩,⟨A6,3,24,.app⟩,⟨A7,3,16,.app⟩,⟨oD,3,24,.app⟩]
def nilL:List (Nat×Nat):=[(zS,3),(CM,3),(MR,3),(TE,4),(uL,6),(CO,3),(MT,3),(CS,3),(MC,5),(kQ,15),(kR,14),(nF,9),(MI,5),(MJ,5),(MK,5),(ML,5),(MM,5),(rS,5),(nH,10),(MN,16),(sA,5),(MO,3),(sG,3),(sJ,4),(sK,8),(MP,12),(gS,8),(MQ,3),(sT,13),(sU,11),(fV,8),(sZ,5),(t5,5),(t6,5),(t7,5),(lC,5),(tB,5)]
def thr:List Nat:=[JY,uE,uF,CA,CB,CC,CD,lQ,uG,k9,zS,CF,CG,oE,oF,CK,jC,oG,jD,pP,kS,nF,rP,kW,nN,kX,sD,fT,G4,nR,nS,nT,sQ,sS,nY,jB,nZ]
def thrAt:List (Nat×Nat):=[(i7,i8),(i7,pQ),(i7,pR),(pQ,pR),(uJ,i8),(lQ,uI),(lQ,pO),(CT,lS),(rF,kT),(iX,cC),(nW,cC),(fT,eR),(A2,MT),(nQ,cC)]
def thrV:List Nat:=[G4]
def rowAt:List (Nat×Nat):=[(kY,27),(kY,29),(lQ,60),(i7,31),(pR,10),(uJ,59),(lS,8),(kT,14),(cC,26),(cC,34),(nT,112),(nU,48),(sV,41),(eR,7),(cC,9),(cC,28)]
def thrVAt:List (Nat×Nat):=[(k9,122),(k9,148),(k9,170),(k9,191)]
def rowF:List Nat:=[fT,uG,oE]
def rowFB:List Nat:=[uG,oE]
def appAt:List (Nat×Nat):=[(fT,70)]
def immAt:List (Nat×Nat):=[(jA,26),(MR,27)]
def slcHL:List Nat:=[nZ]
def browAt:List (Nat×Nat):=[(kY,28),(lQ,59),(cC,27),(fT,39)]
def boxiAt:List (Nat×Nat):=[(lS,1),(kT,1),(cC,1),(JY,3),(uF,3),(kW,2),(kS,2),(kS,3)]
def takeAt:List (Nat×Nat):=[(nU,65)]
def boxiL:List (Nat×List Nat):=[(3,[3]),(4,[3]),(5,[3]),(6,[3,5]),(7,[3]),(10,[2,3]),(11,[2]),(13,[3]),(20,[2]),(21,[3,4]),(23,[3]),(25,[1]),(27,[2,3]),(33,[1]),(35,[2,3]),(38,[3,4,5]),(39,[1]),(40,[2,3]),(49,[2]),(51,[6,7]),(52,[7]),(54,[1]),(57,[4]),(58,[1]),(65,[1]),(67,[2,3]),(68,[2,3]),(69,[1]),(70,[2,3]),(77,[1]),(81,[5,9]),(82,[2]),(83,[3,4,5]),(84,[3,5]),(85,[4,5]),(86,[1]),(87,[2,3]),(88,[1]),(89,[4]),(90,[3,5]),(91,[2]),(92,[3,4]),(93,[3]),(96,[2,3]),(97,[2,3]),(99,[3,4]),(100,[3]),(105,[2]),(106,[2]),(108,[2]),(109,[2]),(110,[2]),(116,[2,3]),(118,[2]),(122,[1]),(123,[1]),(124,[1]),(125,[1]),(126,[1]),(127,[3,5]),(129,[2]),(131,[3,5]),(134,[2]),(135,[4,5,6]),(136,[2,3]),(137,[5,6]),(138,[4,5,7]),(139,[1]),(140,[1]),(141,[1]),(142,[1]),(143,[1]),(144,[1]),(145,[1]),(146,[3,5]),(147,[3]),(148,[3]),(149,[2,3]),(151,[1]),(155,[2,3]),(156,[3,4]),(160,[2,3]),(165,[1]),(166,[1]),(169,[1]),(172,[1]),(173,[1]),(175,[1]),(176,[2]),(178,[1]),(179,[2]),(180,[1]),(181,[1]),(182,[1]),(183,[2]),(184,[3]),(185,[2]),(186,[3]),(187,[2,3]),(190,[2]),(192,[2,3]),(193,[2,3]),(194,[2]),(196,[1]),(197,[2,3]),(198,[1]),(200,[3,5]),(201,[1]),(202,[3]),(203,[7,8]),(204,[4,5,7]),(205,[4,5]),(209,[1]),(210,[2]),(211,[2]),(212,[1]),(213,[1]),(214,[2]),(215,[3]),(216,[2]),(218,[2]),(227,[3,4,5]),(230,[1]),(232,[1]),(233,[1]),(234,[2,3]),(235,[2,3]),(236,[2,3]),(237,[2]),(241,[5]),(242,[3,4]),(243,[1]),(245,[2]),(246,[2,3]),(249,[2]),(250,[1]),(252,[4,5]),(253,[2,3]),(254,[1]),(255,[2,3]),(256,[2]),(257,[3]),(258,[5]),(260,[2,3]),(263,[2]),(264,[4]),(265,[3,5]),(266,[2]),(267,[3,4]),(268,[3,4]),(269,[4]),(270,[5]),(274,[3,4,5]),(275,[2,3]),(276,[2,3]),(277,[2]),(281,[3]),(282,[2,3]),(287,[1]),(290,[1]),(294,[1]),(295,[4,5,7]),(296,[5,6,9]),(297,[4,5]),(298,[4,5,7]),(305,[2]),(306,[2,3]),(307,[3]),(308,[3]),(309,[3,5]),(310,[3]),(311,[2]),(314,[2]),(316,[2]),(318,[2,3]),(319,[2]),(327,[2]),(328,[4,6,7]),(329,[3]),(330,[4]),(331,[2,3]),(332,[4]),(333,[2]),(334,[3]),(351,[1]),(353,[4]),(356,[3]),(358,[1]),(359,[1]),(362,[3,5]),(363,[1]),(370,[2,3]),(371,[2,3]),(374,[3])]
def keepL:List (Nat×List (Nat×List Nat)):=[(3,[(4,[9])]),(4,[(9,[10])]),(5,[(8,[13]),(19,[18]),(20,[20]),(26,[25])]),(8,[(5,[5]),(6,[7]),(7,[9])]),(9,[(6,[9]),(9,[11])]),(12,[(4,[12]),(5,[14,16])]),(14,[(6,[10])]),(20,[(4,[6]),(5,[7])]),(21,[(3,[10]),(8,[14,15]),(10,[17]),(11,[18,19]),(12,[20,21]),(15,[22]),(18,[24])]),(26,[(7,[3]),(8,[4])]),(29,[(9,[10,11]),(17,[12]),(18,[13]),(23,[16])]),(30,[(6,[5])]),(33,[(14,[7]),(20,[9]),(23,[11]),(30,[13])]),(35,[(1,[5])]),(37,[(4,[5])]),(38,[(1,[8])]),(41,[(7,[9])]),(42,[(3,[7])]),(50,[(4,[8]),(5,[9,10]),(6,[11])]),(51,[(8,[13]),(15,[15]),(20,[18])]),(52,[(5,[10])]),(53,[(1,[8])]),(57,[(1,[7]),(2,[10]),(3,[13]),(4,[15])]),(60,[(2,[2])]),(64,[(1,[11])]),(67,[(3,[7])]),(69,[(4,[5])]),(73,[(2,[2])]),(74,[(2,[2]),(3,[3])]),(81,[(6,[13]),(15,[15])]),(83,[(3,[8])]),(93,[(3,[8])]),(99,[(1,[10])]),(100,[(3,[8])]),(120,[(4,[7])]),(123,[(4,[4])]),(124,[(5,[4]),(12,[6])]),(125,[(4,[4])]),(127,[(9,[12])]),(134,[(1,[6])]),(135,[(1,[9])]),(136,[(15,[11])]),(138,[(1,[10,11]),(2,[12])]),(156,[(10,[12])]),(160,[(3,[7])]),(164,[(4,[7])]),(166,[(9,[4])]),(168,[(4,[7])]),(171,[(4,[7])]),(174,[(4,[7])]),(176,[(3,[6]),(7,[7]),(10,[9])]),(177,[(4,[7])]),(179,[(3,[6])]),(180,[(8,[7])]),(183,[(6,[7])]),(185,[(6,[7])]),(198,[(11,[5])]),(200,[(10,[11])]),(203,[(1,[11]),(20,[19])]),(204,[(1,[10])]),(205,[(4,[12]),(9,[15])]),(210,[(3,[6])]),(211,[(3,[6])]),(226,[(8,[8]),(15,[10])]),(227,[(5,[9]),(8,[11]),(11,[13])]),(230,[(4,[5])]),(233,[(7,[4])]),(234,[(1,[5])]),(235,[(4,[9])]),(237,[(1,[6]),(16,[10])]),(239,[(6,[5])]),(240,[(3,[6])]),(252,[(5,[13])]),(277,[(1,[6])]),(281,[(1,[7])]),(288,[(3,[5])]),(316,[(10,[10])]),(329,[(1,[7])]),(333,[(1,[6]),(6,[9])]),(337,[(4,[7])]),(341,[(4,[7])]),(343,[(4,[7])]),(345,[(4,[7])]),(347,[(4,[7])]),(364,[(4,[7])]),(370,[(8,[8])])]
def Bs:List (Nat×List Nat):=[(122,[1,2,3,4,5]),(123,[5,6,7]),(124,[1,6,7,8,13]),(125,[5,6,13,14,21,22]),(126,[2,4,6]),(132,[2]),(161,[1])]
def ann:Ann:=
  { pure:=fun fn f _=> !(iA f thr)&& !(thrAt.any fun p=>p.1 == fn&&p.2 == f)
    purev:=fun fn d=> !(iA fn thrV)&& !(match d with | some t=>thrVAt.any (fun q=>q.1 == fn&&q.2 == t) | none=>false),bmode:=fun fn d=>if iA fn rowFB || (match d with | some t=>browAt.any (fun q=>q.1 == fn&&q.2 == t) | none=>false) then .row else .imm,smode:=fun fn d=>match d with | some t=>if immAt.any (fun q=>q.1 == fn&&q.2 == t) then .imm else .row | none=> .row,amode:=fun fn d=>match d with | some t=>if rowAt.any (fun q=>q.1 == fn&&q.2 == t) || (iA fn rowF&& !(appAt.any fun q=>q.1 == fn&&q.2 == t)) then .row else .app | none=> .app
    nilapp:=fun fn d=>match d with | some t=>nilL.any (fun q=>q.1 == fn&&q.2 == t) | none=>false
    slch:=fun fn d=>(iA fn slcHL&&(match d with | some t=>t == 13 || t == 31 | none=>false)) || (match d with | some t=>takeAt.any (fun q=>q.1 == fn&&q.2 == t) | none=>false)
    boxi:=fun fn d=>match d with | some t=>boxiAt.any (fun q=>q.1 == fn&&q.2 == t) || (match look fn boxiL with | some l=>iA t l | none=>false) | none=>false
    keep:=fun fn id=>(look fn keepL).bind (look id)
    split:=fun fn id=>match look fn Bs with | some l=>iA id l | none=>false }
def ktabL:List Nat:=[176,234,307,233,305,306,181,241,238,311,239,243,242,240,182,308,356,374,370,369,371,373,34,71,73,117,118,79,76,77,72,78,119,75,74,120,166,229,230,24,13,27,8,180,309,237,310,175,126,123,122,124,125,169,165,163,174,168,164,171,177,172,167,161,178,162,170,324,326,320,259,321,322,323,325,358,198,256,250,255,262,202,331,137,263,261,258,203,318,319,361,209,58,210,273,332,274,265,212,333,334,277,196,213,278,279,280,335,363,281,88,143,207,145,208,140,141,142,144,139,25,26,59,110,61,63,111,62,112,60,173,232,304,244,231,355,312,303,224]
def SQ (b:FuncId->Option AFun) (P:Program) (A:Ann) (l:List Nat) (f:FuncId):Option AFun:=match b f with
  | some x=>some x
  | none=>if iA f l then (cFn P A f).map .code else none
def Φ:FuncId->Option AFun:=SQ (SY tabL tabD tabC) Go.Proofs.Tryz.prog ann ktabL
end
end Go.Av
