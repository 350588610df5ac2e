/-
  The compact form of the program's functions, printed by a program.
-/
import Derived.Test.YtcehjengeaafpaaGreatAvD
import Derived.Test.YtcehjengeaafpaaGreatRows
set_option linter.unusedVariables false
set_option linter.unusedSimpArgs false
set_option linter.constructorNameAsVariable false
namespace Go.Av
noncomputable section
abbrev xM (d s:Nat):Xv:=⟨some d,none,.mov (.t s)⟩
abbrev xI (d:Nat) (n:Int):Xv:=⟨some d,none,.mov (.c (.int .i64 n))⟩
abbrev xC (d:Nat) (v:AV):Xv:=⟨some d,none,.mov (.c v)⟩
abbrev xF (d o s:Nat):Xv:=⟨some d,none,.faddr o (.t s)⟩
abbrev xL (d s:Nat):Xv:=⟨some d,none,.load false 1 (.t s)⟩
abbrev xA (d n s:Nat):Xv:=⟨some d,none,.load true n (.t s)⟩
abbrev xX (d z a i:Nat):Xv:=⟨some d,none,.iaddr z none (.t a) (.t i)⟩
abbrev xS (n p v:Nat):Xv:=⟨none,none,.store n (.t p) (.t v)⟩
abbrev xN (d s:Nat):Xv:=⟨some d,none,.len (.t s)⟩
abbrev xE (d i s:Nat):Xv:=⟨some d,none,.ext i (.t s)⟩
abbrev xB (d:Nat) (p:BinOp) (a b:Nat):Xv:=⟨some d,none,.bin p (.t a) (.t b)⟩
abbrev xK (d:Nat) (p:BinOp) (a:Nat) (n:Int):Xv:=⟨some d,none,.bin p (.t a) (.c (.int .i64 n))⟩
abbrev xW (d a b:Nat):Xv:=⟨some d,none,.pick (.t a) (.c (.bool true)) (.t b)⟩
abbrev xV (d a b:Nat):Xv:=⟨some d,none,.pick (.t a) (.t b) (.c (.bool false))⟩
abbrev xJ (d s:Nat):Xv:=⟨some d,none,.boxi (.t s)⟩
abbrev xO (d:Nat) (p:AOp):Xv:=⟨some d,none,p⟩
abbrev xG (d g:Nat) (b:Bool) (p:AOp):Xv:=⟨some d,some (g,b),p⟩
abbrev xR (l:List Xv):Xu:= .region false [] l none
abbrev xD (l:List Xv):Xu:= .region true [] l none
abbrev xQ (l:List Xv) (k:List Nat):Xu:= .region false [] l (some k)
abbrev bJ (a:List Xv) (b:Xu):Xu:= .seq (xR a) b
abbrev DP (a:Nat) (b c:Xu):Xu:= .cond (.t a) b c
abbrev eU (a b:Nat) (c:AOp):Xv:=xG a b false c
abbrev c9 (a:List Xv):Xu:=bJ a .ret
abbrev GE (a b:Nat) (c:List AX):Xv:=xO a (.pcall b c)
abbrev fC (a:List Xv) (b c:Xu):Xu:= .seq (bJ a b) c
abbrev a7 (a:Int):AV:= .int .i64 a
abbrev NX (a:Nat) (b:List Xv) (c:Xu):Xu:=DP a (c9 b) c
abbrev NY (a:Nat) (b:List Xv):Xu:=NX a b .skip
abbrev rF (a:Nat) (b c:Xu):Xu:= .seq (.block a b) c
abbrev yak (a b:Nat):AOp:= .faddr a (.t b)
abbrev yal (a:Bool) (b c:Nat):AOp:= .load a b (.t c)
abbrev w6 (a:Nat) (b:Xu):Xu:= .block a (.loop b)
abbrev iJ (a b:List Xv) (c d:Xu):Xu:=bJ a (fC b c d)
abbrev fM (a b:Nat) (c:AOp):Xv:=xG a b true c
abbrev dD (a:Int):AX:= .c (a7 a)
abbrev qX:AV:= .bool false
abbrev Uc (a:BinOp) (b:Nat) (c:AX):AOp:= .bin a (.t b) c
abbrev yas (a b:Nat):AOp:=yal false a b
abbrev yat (a:Nat) (b:Xu) (c:Nat):Xu:=DP a b (.exit c)
abbrev yau (a:Nat):AOp:= .mov (.t a)
abbrev d8 (a:Nat) (b:List AV):Xv:=xO a (.alloc b)
abbrev bB (a b c d:Nat):Xv:=eU a b (yak c d)
abbrev yax (a b c d:Nat):Xv:=eU a b (yas c d)
abbrev yay (a b:Nat):Xu:=yat a .skip b
abbrev l6 (a:List Xv) (b c:Xu):Xu:=bJ a (.seq b c)
abbrev b7 (a:Nat):Xv:=xI a 0
abbrev WZ (a b:Nat) (c:BinOp) (d:Nat) (e:AX):Xv:=eU a b (Uc c d e)
abbrev X0 (a:Nat) (b:Xu) (c:List Xv):Xu:=rF a b (xR c)
abbrev cQ (a b c:Nat):Xv:=eU a b (yau c)
abbrev NW (a:Nat):AOp:= .nilchk (.t a)
abbrev dK (a:List Xv) (b:Nat) (c:List Xv):Xu:=bJ a (NY b c)
abbrev l5 (a b:List Xv) (c:Nat) (d:List Xv) (e:Xu):Xu:=iJ a b (NY c d) e
abbrev ya7 (a b:Nat) (c d:AX):Xv:=GE a b [c,d]
abbrev GD (a b c:Nat) (d:AX):Xv:=ya7 a b (.t c) d
abbrev aL (a b c d:Nat):Xv:=GD a b c (.t d)
abbrev yba (a:AX):AOp:= .un .not a
abbrev PO (a:Nat):AOp:=yba (.t a)
abbrev ybc (a:Nat):AOp:= .len (.t a)
abbrev Ud (a:List Xv) (b c:Nat) (d:Xu):Xu:=l6 a (yay b c) d
abbrev cU:AV:=a7 0
abbrev eQ (a:Nat):Xv:=xC a qX
abbrev iK (a:List Xv) (b:Xu):Xu:= .seq (xD a) b
abbrev aO (a b:Nat):Xv:=xF a 0 b
abbrev ybi (a:List Xv) (b c d:Nat) (e:Xu) (f:List Xv):Xu:=Ud a b c (X0 d e f)
abbrev EK (a b:List Xv) (c:Nat) (d e:Xu):Xu:=iJ a b (w6 c d) e
abbrev L4 (a:Int):AV:= .int .u32 a
abbrev aG (a:Nat):Xv:=xM a 0
abbrev aP (a b:Nat):Xv:=xF a 1 b
abbrev eV (a b:List Xv):Xu:=bJ a (c9 b)
abbrev cV (a:List Xv) (b:Nat) (c:List Xv) (d:Xu):Xu:=fC a (NY b c) d
abbrev bF (a b:Nat):Xv:=xO a (PO b)
abbrev dP (a b c:Nat):Xv:=fM a b (yau c)
abbrev l7 (a:List Xv) (b:Nat) (c:List Xv) (d:Xu):Xu:=bJ a (NX b c d)
abbrev ybs (a:Nat) (b:Option Nat) (c:Nat) (d:AX):AOp:= .iaddr a b (.t c) d
abbrev aD (a:Nat):Xv:=xM a 1
abbrev cJ (a b c:Nat):Xv:=eU a b (ybc c)
abbrev aK (a b c:Nat):Xv:=yax a b 1 c
abbrev cE (a b:Nat) (c:BinOp) (d:Nat) (e:Int):Xv:=WZ a b c d (dD e)
abbrev ybx (a b:Nat) (c:AX):Xv:=GE a b [c]
abbrev aI (a b c:Nat):Xv:=ybx a b (.t c)
abbrev ybz (a:List Xv) (b:List Nat) (c:Xu):Xu:= .seq (xQ a b) c
abbrev EJ (a:List Xv) (b c:Nat) (d:Xu):Xu:=fC a (yay b c) d
abbrev bQ (a b:Nat):Xv:=xO a (NW b)
abbrev bN (a:Nat) (b:BinOp) (c:Nat):Xv:=xK a b c 1
abbrev aF (a:Nat):Xv:=xM a 5
abbrev gZ (a:Nat) (b:Xu):Xu:=DP a b .skip
abbrev bO:Xv:=b7 4
abbrev nQ (a:List Xv) (b:Nat) (c d:Xu):Xu:=fC a (w6 b c) d
abbrev hS (a b:Nat) (c:BinOp) (d:Nat) (e:AX):Xv:=fM a b (Uc c d e)
abbrev yb8 (a:List Xv) (b c d:Nat) (e:Xu) (f:List Xv):Xu:=EJ a b c (X0 d e f)
abbrev cT (a b:Nat) (c:BinOp) (d e:Nat):Xv:=WZ a b c d (.t e)
abbrev d9 (a b c d:Nat):Xv:=fM a b (yak c d)
abbrev ycb (a b c d:Nat):Xv:=fM a b (yas c d)
abbrev fD (a b:Nat) (c:List AX):Xv:=xO a (.tcall b c)
abbrev jA (a b:Xv) (c:Xu):Xu:=bJ [a,b] c
abbrev l9 (a:Xv) (b c:Nat) (d:Xu):Xu:=jA a (xM b c) d
abbrev aR (a:Nat) (b:BinOp) (c:Nat):Xv:=xK a b c 0
abbrev aN (a:Nat):Xv:=xM 4 a
abbrev ych (a:Nat):AOp:= .box (.t a)
abbrev yci (a:SM) (b c:Nat) (d:AX) (e:Nat):AOp:= .append a b c d (.t e)
abbrev X1:AV:= .bool true
abbrev yck (a:List Xv) (b c d:Nat) (e:Xu) (f g:Xv):Xu:=ybi a b c d e [f,g]
abbrev ycl (a:List Xv) (b c d:Nat) (e:Xu) (f:Nat) (g:BinOp) (h:Nat) (i:Xv):Xu:=yck a b c d e (bN f g h) i
abbrev ycm (a:List Xv) (b c d:Nat) (e:Xu) (f:Nat) (g:BinOp) (h i j:Nat):Xu:=ycl a b c d e f g h (xM i j)
abbrev uV (a:Nat):Xv:=xJ a 0
abbrev nK (a:Nat):Xv:=xI a (-1)
abbrev EL (a b:Nat) (c d e f:AX):Xv:=GE a b [c,d,e,f]
abbrev aS (a:Nat):Xv:=xM 5 a
abbrev i6 (a b:Nat):Xv:=xA a 9 b
abbrev jC (a b:Xv):Xu:=c9 [a,b]
abbrev EN (a b:Nat) (c:AX) (d:Int) (e f:AX):Xv:=EL a b c (dD d) e f
abbrev gD (a b:Nat):Xv:=xO a (ych b)
abbrev w8 (a:List Xv) (b:Nat) (c:List Xv):Xu:=iK a (NY b c)
abbrev uW (a b:Nat) (c:AX):AOp:=ybs a none b c
abbrev jD (a b:List Xv) (c:Xu):Xu:=bJ a (bJ b c)
abbrev aW (a:Nat):Xv:=xM a 3
abbrev n7 (a:Nat) (b c d e:AV):Xv:=d8 a [b,c,d,e]
abbrev yc0 (a:List Xv) (b c d:Nat) (e:Xu) (f g h:Xv):Xu:=yb8 a b c d e [f,g,h]
abbrev gN (a:List Xv) (b c d:Nat) (e:Xu) (f:Xv) (g:Nat) (h:BinOp) (i:Nat) (j:Xv):Xu:=yc0 a b c d e f (bN g h i) j
abbrev cY:Xv:=b7 5
abbrev dL:AX:=dD 0
abbrev NZ (a:Xv) (b c d:Nat) (e f:Xu):Xu:=l9 a b c (DP d e f)
abbrev cA (a:Nat):Xv:=aO a 3
abbrev l8 (a b c:Nat) (d:List AX):Xv:=fM a b (.pcall c d)
abbrev cF:Xv:=eQ 4
abbrev aV (a:Nat):Xv:=xM a 6
abbrev dM (a b c:Nat):Xv:=bB a b 1 c
abbrev gE:AV:=L4 0
abbrev aX (a:Nat):Xv:=xM a 8
abbrev ydc (a b:Nat) (c d e:AX):Xv:=GE a b [c,d,e]
abbrev ydd (a b c:Nat) (d e:AX):Xv:=ydc a b (.t c) d e
abbrev Ue (a b c:Nat) (d:AX) (e:Nat):Xv:=ydd a b c d (.t e)
abbrev eK (a b c d e:Nat):Xv:=Ue a b c (.t d) e
abbrev dQ (a:Xv):Xu:=c9 [a]
abbrev b6 (a:Nat):Xv:=xM 6 a
abbrev eL (a b:List Xv) (c d:Xu):Xu:=EK a b 0 c d
abbrev aZ (a b:Nat):Xv:=xA a 2 b
abbrev gO:Xv:=uV 2
abbrev Uf (a:Xv) (b c d:Nat) (e:Xu) (f:Nat) (g:BinOp) (h i j:Nat):Xu:=ycm [a] b c d e f g h i j
abbrev dZ (a:Nat) (b:BinOp) (c d e f g:Nat) (h:Xu) (i:Nat) (j:BinOp) (k l m:Nat):Xu:=Uf (xB a b c d) e f g h i j k l m
abbrev qC (a b:Nat):Xv:=xO a (.nilapp b)
abbrev iE (a:Nat) (b:List Xv) (c:Nat) (d:List Xv) (e f:Xu):Xu:=rF a (l7 b c d e) f
abbrev dE:Xv:=b7 6
abbrev jE (a:List Xv) (b:Nat) (c:Xu):Xu:=ybz a [b] c
abbrev bT (a b c:Nat):Xv:=xX a 1 b c
abbrev b9 (a b:Nat):Xv:=xF a 2 b
abbrev dA (a:Nat):Xv:=i6 a 2
abbrev ydu (a b:Nat):AOp:=yal true a b
abbrev qD (a b c:Nat) (d:List AX):Xv:=eU a b (.pcall c d)
abbrev bM (a:Nat):Xv:=xM a 7
abbrev dF:Xv:=b7 2
abbrev jF (a b c:List Xv) (d e:Xu):Xu:=bJ a (eL b c d e)
abbrev dR (a:Nat):Xv:=aP a 3
abbrev X3 (a:Nat) (b:SM) (c d:Nat) (e:AX) (f:Nat):Xv:=xO a (yci b c d e f)
abbrev O5 (a b c:Nat) (d:Int) (e f:AX):Xv:=EN a b (.t c) d e f
abbrev DQ (a b c:Nat):AOp:=uW a b (.t c)
abbrev bG (a b:Nat):Xv:=xE a 0 b
abbrev bI (a b:Nat):Xv:=xE a 1 b
abbrev fO (a:Nat) (b:BinOp) (c d e f g:Nat) (h:List Xv) (i:Nat) (j:Xu) (k:Nat) (l:BinOp) (m n o:Nat):Xu:=dZ a b c d e f g (jE h i j) k l m n o
abbrev uX (a:Nat) (b c:AV):Xv:=d8 a [b,c]
abbrev bP (a:Nat):Xv:=xM 8 a
abbrev dY (a b:Nat):Xv:=xS 4 a b
abbrev L5 (a b:Xv) (c:Nat) (d:List Xv):Xu:=dK [a,b] c d
abbrev g0 (a:Xv) (b:Nat) (c:BinOp) (d e:Nat) (f:List Xv):Xu:=L5 a (aR b c d) e f
abbrev X4 (a b c:Nat) (d:AX) (e:Nat):Xv:=X3 a .app b c d e
abbrev yec (a:Nat) (b:List AX):AOp:= .pcallv (.t a) b
abbrev eA (a:Int):Xv:=xI 5 a
abbrev dB (a b c:Nat):Xv:=ycb a b 1 c
abbrev bS (a:Nat):Xv:=xM a 2
abbrev fU (a b:List Xv) (c:Nat) (d:Xv) (e:Xu):Xu:=l5 a b c [d] e
abbrev g6 (a:Nat):Xv:=xC a gE
abbrev uZ (a:List (Nat×Nat)) (b:List Xv) (c:Option (List Nat)):Xu:= .region true a b c
abbrev cG (a:Nat):Xv:=xM a 4
abbrev TZ (a:IntKind) (b:Int):AX:= .c (.int a b)
abbrev lB (a:Nat) (b:List Xv):Xu:=gZ a (xR b)
abbrev gG:Xv:=uV 1
abbrev rG (a b:List Xv) (c:Nat) (d e:Xu):Xu:=iJ a b (.block c d) e
abbrev cC (a:Nat):Xv:=xM 7 a
abbrev jG (a:Nat) (b:AV):Xv:=uX a b cU
abbrev w9 (a:Nat):Xv:=xC a X1
abbrev lC (a b c d e:Nat):Xv:=X4 a b c (.t d) e
abbrev bX (a b:Nat):Xv:=xA a 4 b
abbrev qY (a:Nat):Xu:=dQ (w9 a)
abbrev cK (a:Int):Xv:=xI 4 a
abbrev iF (a:Nat) (b:BinOp) (c:Nat) (d:Int) (e f g:Nat) (h i:Xu):Xu:=NZ (xK a b c d) e f g h i
abbrev wA (a b c:Xv) (d:Xu):Xu:=bJ [a,b,c] d
abbrev O6 (a b c:Nat) (d:Int) (e:Nat) (f:AX):Xv:=O5 a b c d (.t e) f
abbrev eR (a:Nat):Xv:=xM 2 a
abbrev cL (a b c:Nat):Xv:=xX a 2 b c
abbrev kV:Xv:=nK 4
abbrev uY (a:IntKind) (b:Nat):AOp:= .conv a (.t b)
abbrev PP (a:Nat) (b:BinOp) (c:Nat) (d:AX):Xv:=xO a (Uc b c d)
abbrev cO (a b:Nat):Xv:=xS 2 a b
abbrev qE (a:List Xv):Xu:=iK a .ret
abbrev fP (a:Nat):Xv:=aP a 1
abbrev gF:Xv:=b7 3
abbrev nL (a b:Nat) (c:BinOp) (d e:Nat):Xv:=hS a b c d (.t e)
abbrev qF (a b c:Nat) (d:Int):Xv:=GD a b c (dD d)
abbrev i7 (a:Nat):Xv:=aP a 2
abbrev dG (a:Nat):Xv:=xM a 9
abbrev qG (a:List Xv) (b c:Xu):Xu:=nQ a 0 b c
abbrev n8 (a b:List Xv) (c:Nat) (d:Xv) (e:List Xv) (f g:Xu):Xu:=fU a b c d (qG e f g)
abbrev rH (a b c:Nat):Xv:=eU a b (PO c)
abbrev wT:Xv:=aG 6
abbrev yff (a:Nat) (b:Xv):Xu:=jC (aW a) b
abbrev v5 (a b:Nat):Xu:=yff a (eR b)
abbrev v6 (a:List Xv) (b:Nat) (c d:List Xv):Xu:=cV a b c (c9 d)
abbrev lR (a:Nat):Xv:=dY 2 a
abbrev wD (a:Nat):Xv:=xJ a 1
abbrev v7:Xv:=wD 3
abbrev i8 (a:Nat):Xv:=i6 a 3
abbrev gH (a:Xv) (b:List Xv):Xu:=eV [a] b
abbrev dW (a:Int):Xv:=xI 6 a
abbrev dN (a b:Nat):Xv:=xF a b 1
abbrev qZ:Xv:=uV 3
abbrev iL (a:Nat):Xv:=aO a 2
abbrev v8 (a b c d e:Nat):Xv:=eU a b (DQ c d e)
abbrev qH (a:List Xv) (b:Nat) (c d:List Xv) (e:Nat) (f:List Xv):Xu:=l7 a b c (dK d e f)
abbrev wU (a b c:Nat):Xv:=fM a b (ybc c)
abbrev i9 (a b:List Xv) (c:Nat) (d e:Xv) (f:Xu):Xu:=l5 a b c [d,e] f
abbrev iV (a:Nat):Xv:=aO a 5
abbrev lE (a:List Xv) (b c d:Nat) (e:List Xv) (f:Nat) (g:List Xv) (h:Xv) (i:Nat) (j:BinOp) (k:Nat) (l:Xv):Xu:=gN a b c d (w8 e f g) h i j k l
abbrev yfx (a:Xv) (b:Nat):Xu:=jC a (aN b)
abbrev dS (a b c:Nat):Xv:=xX a 3 b c
abbrev rI (a b:List Xv) (c:Xu):Xu:=l6 a (xD b) c
abbrev GF (a:Int):AX:=TZ .u8 a
abbrev lD:Xv:=eQ 2
abbrev fE (a:Nat):Xv:=xM 9 a
abbrev kW (a b:Nat):Xv:=cQ a b 1
abbrev wB (a b c d:Nat):Xv:=eU a b (ydu c d)
abbrev wC (a b c d:Nat):Xv:=fM a b (ydu c d)
abbrev wS:Xv:=b7 8
abbrev fV (a:Nat):Xv:=xM 3 a
abbrev DR (a b:Nat):Xu:=yfx (aF a) b
abbrev EO (a:Nat) (b:Xu):Xu:=DP a .skip b
abbrev wV (a:Nat) (b c d:AV):Xv:=n7 a b cU c d
abbrev fQ (a:Int):Xv:=xI 2 a
abbrev eW (a b:Nat):Xv:=xF a 3 b
abbrev X5 (a b c:Nat) (d:AX):AOp:=ybs a (some b) c d
abbrev qI (a:Nat):Xv:=aO a 1
abbrev qJ:Xv:=aG 3
abbrev DS (a b:Nat) (c:List AX):Xv:=xO a (yec b c)
abbrev lS (a:Nat):Xv:=i6 a 1
abbrev EP (a:Xv) (b:Nat):Xu:=jC a (lR b)
abbrev v9 (a b c:Nat) (d e:Xv) (f:Xu):Xu:=wA (bT a b c) d e f
abbrev vA (a:Nat) (b:BinOp) (c:Nat) (d:AV):Xv:=PP a b c (.c d)
abbrev DT (a:BinOp) (b:AX) (c:Nat):AOp:= .bin a b (.t c)
abbrev nR (a b:Nat):Xv:=cQ a b 0
abbrev nS (a b c:Nat) (d:Int) (e:Nat):Xv:=O6 a b c d e dL
abbrev g7 (a b:Nat):Xv:=xF a 5 b
abbrev nT:Xv:=aG 5
abbrev qK (a b:Nat):Xv:=dM a b 3
abbrev qL (a b:Nat):Xv:=dP a b 0
def f_6:Nat:=6
def XC:Nat:=7
def XF:Nat:=8
def LM:Nat:=11
def F6:Nat:=12
def LN:Nat:=13
def LO:Nat:=15
def LP:Nat:=16
def F7:Nat:=18
def X9:Nat:=19
def AG:Nat:=21
def LQ:Nat:=22
def LR:Nat:=23
def XA:Nat:=25
def QW:Nat:=26
def QX:Nat:=27
def XB:Nat:=30
def LS:Nat:=40
def LT:Nat:=41
def LU:Nat:=42
def LV:Nat:=43
def CN:Nat:=44
def F8:Nat:=45
def LW:Nat:=46
def LX:Nat:=47
def LY:Nat:=48
def LZ:Nat:=49
def M0:Nat:=50
def M2:Nat:=51
def M4:Nat:=52
def M5:Nat:=53
def M6:Nat:=54
def M7:Nat:=55
def M8:Nat:=56
def M9:Nat:=57
def R7:Nat:=62
def MA:Nat:=70
def R8:Nat:=71
def MB:Nat:=72
def XD:Nat:=73
def MC:Nat:=74
def F9:Nat:=75
def XE:Nat:=76
def FA:Nat:=77
def CO:Nat:=82
def XG:Nat:=85
def XH:Nat:=90
def XJ:Nat:=91
def XK:Nat:=93
def MD:Nat:=94
def FB:Nat:=95
def CP:Nat:=96
def FC:Nat:=97
def FD:Nat:=98
def CQ:Nat:=99
def zG:Nat:=100
def zH:Nat:=101
def zI:Nat:=102
def kC:Nat:=103
def sH:Nat:=104
def kD:Nat:=105
def mA:Nat:=106
def sI:Nat:=107
def fX:Nat:=108
def bZ:Nat:=109
def zJ:Nat:=110
def zK:Nat:=111
def zL:Nat:=112
def zM:Nat:=113
def oS:Nat:=114
def zN:Nat:=115
def zO:Nat:=116
def zP:Nat:=117
def zQ:Nat:=118
def sJ:Nat:=119
def sK:Nat:=120
def oT:Nat:=121
def oU:Nat:=122
def zR:Nat:=123
def Q9:Nat:=128
def kE:Nat:=129
def zS:Nat:=130
def zT:Nat:=131
def zU:Nat:=132
def zV:Nat:=133
def zW:Nat:=134
def QE:Nat:=136
def oV:Nat:=139
def oW:Nat:=140
def zX:Nat:=141
def zY:Nat:=142
def sL:Nat:=143
def mB:Nat:=144
def zZ:Nat:=145
def oY:Nat:=147
def QF:Nat:=151
def iQ:Nat:=152
def sN:Nat:=153
def mD:Nat:=161
def QG:Nat:=162
def oZ:Nat:=165
def kF:Nat:=166
def A1:Nat:=167
def A4:Nat:=168
def bE:Nat:=169
def p5:Nat:=170
def eG:Nat:=171
def iR:Nat:=172
def kG:Nat:=173
def QH:Nat:=174
def QI:Nat:=175
def kH:Nat:=176
def sO:Nat:=177
def p6:Nat:=178
def sP:Nat:=179
def sQ:Nat:=180
def sR:Nat:=181
def A5:Nat:=182
def p7:Nat:=183
def sS:Nat:=184
def A6:Nat:=185
def A7:Nat:=186
def sT:Nat:=187
def A8:Nat:=188
def A9:Nat:=189
def AA:Nat:=190
def AB:Nat:=191
def AC:Nat:=192
def p8:Nat:=193
def p9:Nat:=194
def mE:Nat:=195
def AD:Nat:=196
def sW:Nat:=197
def AE:Nat:=198
def AF:Nat:=199
def sX:Nat:=200
def pA:Nat:=201
def pB:Nat:=202
def bA:Nat:=203
def cP:Nat:=204
def sY:Nat:=205
def sZ:Nat:=206
def pC:Nat:=207
def iS:Nat:=208
def kI:Nat:=209
def t6:Nat:=210
def pD:Nat:=211
def AJ:Nat:=212
def t7:Nat:=213
def pE:Nat:=214
def AK:Nat:=215
def t8:Nat:=216
def pF:Nat:=217
def t9:Nat:=218
def tA:Nat:=219
def pG:Nat:=220
def tB:Nat:=221
def AM:Nat:=222
def tC:Nat:=223
def QJ:Nat:=224
def QK:Nat:=226
def QL:Nat:=227
def QM:Nat:=228
def QN:Nat:=230
def QO:Nat:=232
def QP:Nat:=234
def AN:Nat:=236
def fY:Nat:=237
def AP:Nat:=238
def AQ:Nat:=239
def tD:Nat:=240
def iT:Nat:=241
def AR:Nat:=242
def QQ:Nat:=244
def QR:Nat:=245
def QS:Nat:=246
def QT:Nat:=248
def QU:Nat:=250
def pH:Nat:=251
def AS:Nat:=255
def QV:Nat:=258
def AU:Nat:=262
def fZ:Nat:=263
def iU:Nat:=264
def AW:Nat:=265
def tE:Nat:=266
def tG:Nat:=267
def AY:Nat:=268
def pI:Nat:=269
def mF:Nat:=270
def kJ:Nat:=271
def tH:Nat:=272
def AZ:Nat:=273
def B1:Nat:=274
def tI:Nat:=275
def mG:Nat:=276
def B2:Nat:=277
def B4:Nat:=278
def mH:Nat:=279
def dO:Nat:=280
def B5:Nat:=281
def mI:Nat:=282
def pJ:Nat:=283
def tJ:Nat:=284
def B6:Nat:=285
def tK:Nat:=286
def tL:Nat:=287
def tN:Nat:=288
def tO:Nat:=289
def tP:Nat:=290
def tQ:Nat:=291
def tR:Nat:=292
def mJ:Nat:=293
def fJ:Nat:=294
def B7:Nat:=295
def pK:Nat:=296
def tS:Nat:=297
def tT:Nat:=298
def mK:Nat:=299
def pL:Nat:=300
def pM:Nat:=301
def tU:Nat:=302
def tV:Nat:=303
def tW:Nat:=304
def B8:Nat:=305
def B9:Nat:=306
def tX:Nat:=307
def mL:Nat:=308
def mM:Nat:=309
def pN:Nat:=310
def mN:Nat:=311
def tY:Nat:=312
def BA:Nat:=313
def BB:Nat:=314
def BC:Nat:=315
def BD:Nat:=316
def pO:Nat:=317
def gV:Nat:=318
def tZ:Nat:=319
def BE:Nat:=320
def BF:Nat:=321
def BG:Nat:=322
def QY:Nat:=323
def QZ:Nat:=325
def R0:Nat:=326
def R3:Nat:=327
def u5:Nat:=328
def BH:Nat:=329
def pP:Nat:=330
def BI:Nat:=331
def BJ:Nat:=332
def R4:Nat:=333
def BK:Nat:=335
def pQ:Nat:=336
def R5:Nat:=346
def mO:Nat:=348
def pR:Nat:=349
def BL:Nat:=350
def u6:Nat:=351
def mP:Nat:=352
def BM:Nat:=353
def BN:Nat:=354
def BO:Nat:=355
def u9:Nat:=356
def uA:Nat:=357
def pS:Nat:=358
def BP:Nat:=359
def BQ:Nat:=360
def BR:Nat:=361
def BS:Nat:=362
def BT:Nat:=363
def kK:Nat:=364
def BU:Nat:=365
def BV:Nat:=366
def BW:Nat:=367
def BZ:Nat:=368
def mQ:Nat:=369
def uB:Nat:=370
def pT:Nat:=371
def C0:Nat:=372
def uC:Nat:=373
def uD:Nat:=374
def C1:Nat:=375
def mR:Nat:=379
def uE:Nat:=381
def C2:Nat:=382
def uF:Nat:=383
def uG:Nat:=384
def mT:Nat:=385
def uH:Nat:=386
def uI:Nat:=387
def uJ:Nat:=388
def C3:Nat:=389
def C4:Nat:=390
def C5:Nat:=391
def C6:Nat:=392
def C7:Nat:=393
def C8:Nat:=394
def C9:Nat:=395
def CA:Nat:=396
def uK:Nat:=397
def CB:Nat:=398
def uL:Nat:=399
def CC:Nat:=400
def CD:Nat:=401
def CE:Nat:=402
def CG:Nat:=404
def CH:Nat:=405
def kL:Nat:=406
def CJ:Nat:=407
def CK:Nat:=408
def mU:Nat:=409
def CL:Nat:=410
def uM:Nat:=428
def uN:Nat:=429
def CM:Nat:=430
def R6:Nat:=431
abbrev aB:AV:= .Xt 1 []
abbrev SP:Xu:=iJ [b9 6 2,xL 7 6,aS 7] [cA 8,xL 9 8,aR 10 .geq 9] (gZ 10 (cV [cA 11,xL 12 11,i7 13,xL 14 13,xN 15 14,xB 16 .geq 12 15] 16 [bO] (xR [i7 17,xL 18 17,cA 19,xL 20 19,cL 21 18 20,aP 22 21,xL 23 22,aS 23]))) (v6 [cA 24,xL 25 24,xK 26 .lss 25 (-1),xM 27 26,qK 28 27,aK 29 27 28,cE 30 27 .lss 29 0,xW 31 27 30,xM 32 31,qK 33 32,aK 34 32 33,cQ 35 32 5,cJ 36 32 35,cT 37 32 .geq 34 36,xW 38 32 37,xM 39 38,cQ 40 39 5,qK 41 39,aK 42 39 41,v8 43 39 2 40 42,dM 44 39 43,aK 45 39 44,cE 46 39 .lss 45 1,xW 47 39 46,xM 48 47,cQ 49 48 5,qK 50 48,aK 51 48 50,v8 52 48 2 49 51,dM 53 48 52,aK 54 48 53,cE 55 48 .gtr 54 32,xW 56 48 55] 56 [bO] [aF 57,dR 58,xL 59 58,cL 60 57 59,aP 61 60,xL 62 61,aN 62])
abbrev nH:List AV:=[.str [],.Xt 2 [],.Xt 2 [],.Xt 3 [],.Xt 3 [],.Xt 6 [],.Xt 7 [],.Xt 5 [],.Xt 1 [],.Xt 2 []]
abbrev rC:List AV:=[.int .i64 0,.int .i64 0,.int .i64 0,.int .i64 0]
abbrev cZ:List ARes:=[.tmp 4,.tmp 5]
abbrev iH:List AV:=[.int .u32 0,.int .i64 0]
abbrev lP:List AV:=[cU,.Xt 2 [],cU,cU,.Xt 1 []]
abbrev FV:List Xv:=[aD 6,aR 7 .lss 6,bM 8,kW 9 8,nR 10 8,cJ 11 8 10,cT 12 8 .geq 9 11,xW 13 8 12]
abbrev NJ:AOp:= .bslice .imm 1 (List.replicate 1 [.str []]) [(0,(.t 17))]
abbrev SS:List Xv:=[qJ,PP 4 .geq 3 (GF 97),aS 4,qL 6 5,hS 7 5 .leq 6 (GF 122),xV 8 5 7,aX 9,nR 10 9,WZ 11 9 .geq 10 (GF 65),cQ 12 9 11,qL 13 12,hS 14 12 .leq 13 (GF 90),eU 15 9 (.pick (.t 12) (.t 14) (.c qX)),xW 16 9 15,eR 16]
abbrev FW:List AV:=[.bool false,.int .i64 0,.Xt 1 [],.Xt 3 []]
abbrev NK:List Xv:=[aD 5,aR 6 .geq 5,aV 7,dP 8 7 1,qL 9 7,wU 10 7 9,nL 11 7 .lss 8 10,xV 12 7 11,aN 12]
abbrev iI:List ARes:=[.cell 2 true 4]
abbrev FX:List AV:=[.int .i64 0,.Xt 2 [],.int .i64 0,.int .i64 0,.Xt 1 []]
abbrev DA:List Xv:=[aF 11,aG 12,xN 13 12,xB 14 .lss 11 13]
abbrev DB:List Xv:=[wT,xN 7 6,aD 8,xN 9 8,xB 10 .neq 7 9]
abbrev vT:List AV:=[.str [],.int .i64 0]
abbrev FY:List AV:=[.int .i64 0,.int .i64 0,.Xt 3 [],.Xt 5 [],.Xt 5 []]
abbrev q8:AX:= .c (.bool true)
abbrev kT:List AV:=[.int .i64 0]
abbrev lQ:List Xv:=[wT,xN 7 6,wS]
abbrev FZ:List AV:=[.str [],.Xt 1 [],qX,cU,cU,.Xt 3 [],cU]
abbrev vU:List AV:=[.int .i64 0,.int .i64 0]
abbrev gC:AV:= .Xt 2 []
abbrev kU:List Xv:=[gO,v7,bO]
abbrev G0:List AV:=[.Xt 1 [],.Xt 1 [],.Xt 1 [],.Xt 1 []]
abbrev G1:List AV:=[cU,cU,.Xt 3 [],.Xt 5 [],.Xt 5 []]
abbrev q9:AOp:= .build rC []
abbrev SU:List Xv:=[aV 11,g7 12 2,xL 13 12,aD 14,xX 15 6 13 14,aP 16 15,xL 17 16,xN 18 17,xB 19 .lss 11 18]
abbrev qA:AV:= .int .i64 0
abbrev SV:List Xv:=[aG 17,aF 18,bT 19 17 18,xL 20 19,aD 21,aF 22,bT 23 21 22,xL 24 23,xB 25 .neq 20 24]
abbrev SW:List AV:=[.str [],.Xt 2 [],.Xt 2 [],.Xt 3 [],.Xt 3 [],.Xt 6 [],.Xt 7 [],.Xt 5 [],.Xt 1 [],.Xt 1 []]
abbrev SX:List Xv:=[qI 3,xL 4 3,bN 5 .eql 4,aF 6,bB 7 6 0 1,aK 8 6 7,cE 9 6 .eql 8 3,xW 10 6 9,eR 10]
abbrev DC:List Xv:=[gG,wV 2 cU cU cU]
abbrev NL:List AV:=[.str [],.Xt 3 [],.Xt 1 [],cU,.Xt 1 [],cU]
abbrev SY:Xu:=xR [aF 14,aD 15,xA 16 3 7,DS 17 15 [.t 16],xO 18 NJ,lC 19 1 16 14 18,aS 19]
abbrev SZ:Xu:=xR [aF 14,aD 15,aZ 16 7,DS 17 15 [.t 16],xO 18 NJ,lC 19 1 16 14 18,aS 19]
abbrev rD:List ARes:=[.tmp 2,.tmp 3]
abbrev T0:List Xv:=[qJ,PP 4 .geq 3 (GF 48),aS 4,qL 6 5,hS 7 5 .leq 6 (GF 57),xV 8 5 7,aX 2]
abbrev qB:List Xv:=[gO,bO,cY]
abbrev DE:List Xv:=[gD 2 0,gD 3 1,cF]
abbrev DF:List Xv:=[aG 8,xN 9 8,b7 10]
abbrev G2:List AV:=[.str [],.Xt 2 [],.Xt 7 []]
abbrev T6:List Xv:=[g7 12 2,xL 13 12,aD 14,xX 15 6 13 14,aP 16 15,xL 17 16,xN 18 17,b7 19]
abbrev nJ:List AV:=[.Xt 1 []]
abbrev DG:List Xv:=[gG,xC 2 (.str [])]
abbrev DH:List Xv:=[qI 3,xL 4 3,cG 2]
abbrev T7:AOp:= .build vT [(0,1,(.c (.str [111,117,116]))),(1,1,(.c (.int .i64 8)))]
abbrev NM:List AV:=[.int .i64 0,.int .i64 0,.int .i64 0]
abbrev T8:AOp:= .build vT [(0,1,(.c (.str [105,110]))),(1,1,(.c (.int .i64 8)))]
abbrev T9:List Xv:=[cA 5,xL 6 5,iL 7,aP 8 7,xL 9 8,xO 10 (.tcallv (.t 6) [.t 9])]
abbrev NN:List Xv:=[dR 32,xL 33 32,xN 34 33,b7 35]
abbrev TB:List Xv:=[wT,xN 7 6,xO 8 (.mkslice .row 1 24 nJ (.t 7) (.t 7)),aX 3]
abbrev DI:List Xv:=[gO,v7,bO,cY]
abbrev NO:List Xv:=[aS 4,wT,xN 7 6,xB 8 .lss 5 7]
abbrev G3:List Xv:=[aG 9,xN 10 9,b7 11]
abbrev TC:List Xv:=[aG 4,bN 5 .lss 4,aF 6,nR 7 6,cE 8 6 .gtr 7 32,xW 9 6 8]
abbrev DJ:List Xv:=[qZ,xJ 5 2,dE]
abbrev vV:List AV:=[.int .u32 0]
abbrev SR:Xu:=jD [xM 13 11,bT 14 9 11,xL 15 14,aN 13,aS 15] [aW 16,cG 17,aF 18,xN 19 18,xO 20 (.mkslice .row 1 4 vV (.t 19) (.t 19)),bT 21 16 17,xS 1 21 20] (xR [aW 22,cG 23,bT 24 22 23,xL 25 24,aF 26,xO 27 (.copy 1 (.t 25) (.t 26))])
abbrev vW:Xu:=jC bO cY
abbrev TE:List Xv:=[aO 24 6,xL 25 24,aI 26 fX 25,bF 27 26,xM 23 27]
abbrev DK:AOp:=X5 1 3 3 dL
abbrev TF:AOp:= .bslice .imm 1 (List.replicate 1 kT) [(0,(.t 5))]
abbrev TG:AOp:= .bslice .imm 1 (List.replicate 1 kT) [(0,(.t 7))]
abbrev TH:Xu:=c9 [aG 15,aD 16,cL 17 15 16,aZ 18 17,cO 4 18]
abbrev G4:AOp:=X5 1 3 3 (dD 1)
abbrev vX:List Xv:=[bO,eA 10]
abbrev rE:AV:= .Xt 3 []
abbrev NP:AOp:= .build FW [(0,1,q8)]
abbrev TI:Xu:=c9 [aG 15,aD 16,bT 17 15 16,xL 18 17,aN 18]
abbrev vY:List Xv:=[xC 2 aB]
abbrev vZ:List Xv:=[qZ,eQ 6]
abbrev w4:List Xv:=[xC 4 aB]
abbrev w5:List Xv:=[bO,eA 9]
abbrev G5:List ARes:=[.cell 4 true 2]
abbrev NQ:List AV:=[.int .i64 0,.Xt 1 []]
abbrev DL:List Xv:=[kV,eA 12]
abbrev G6:List Xv:=[aF 17,aN 17]
abbrev ST:Xu:=l9 (aX 10) 5 10 (dK [aD 11,aG 12,aF 13,bT 14 12 13,xL 15 14,xB 16 .eql 11 15] 16 G6)
abbrev NS:AX:= .c (.int .i64 (-1))
abbrev TJ:List Xv:=[dA 8,aD 9,aL 10 tD 8 9,bF 11 10]
abbrev TK:Xu:=EO 43 (xR [xK 45 .eql 33 3,xM 43 45])
abbrev TL:List AV:=[cU,cU,cU,cU,cU,.Xt 3 [],.Xt 3 []]
abbrev TM:List Xv:=[dA 7,aD 8,aL 9 sX 7 8,bF 10 9]
abbrev DM:List Xv:=[bO,eA 8]
abbrev TN:List Xv:=[dN 6 8,xL 7 6,xN 8 7,xK 9 .gtr 8 8]
abbrev TO:List Xv:=[qZ,wD 4,n7 6 aB aB aB aB]
abbrev NT:Xv:=wV 2 cU cU cU
abbrev G7:List AV:=[cU,cU,cU]
abbrev TD:List Xv:=[dS 21 17 19,xA 22 3 21,d8 7 G7,xS 3 7 22]
abbrev G8:List Xv:=[gO,v7,cF]
abbrev TP:List Xv:=[gD 1 0,n7 2 aB aB aB aB]
abbrev TQ:Xu:=c9 [aV 35,bM 36,aN 35,aS 36]
abbrev NU:AX:= .c (.int .i64 1)
abbrev T5:AOp:= .build vT [(0,1,(.c (.str [100,114,111,112]))),(1,1,NU)]
abbrev DN:Xv:=xL 11 10
abbrev TR:List Xv:=[aF 6,aG 7,xN 8 7,xB 9 .lss 6 8]
abbrev DO:AV:= .Xt 5 []
abbrev TS:List AV:=[.Xt 1 [],.int .i64 0,.bool false]
abbrev TT:List Xv:=[aV 26,aW 27,xB 28 .lss 26 27]
abbrev TU:AOp:= .pick (.t 26) (.c X1) (.t 32)
abbrev TV:List Xv:=[aW 11,bN 12 .add 11,fV 12]
abbrev TW:List Xv:=[aW 12,bN 13 .add 12,fV 13]
abbrev NV:List ARes:=[.cell 2 true 2]
abbrev TX:List Xv:=[aV 13,aR 14 .eql 13,aN 14]
abbrev G9:List Xv:=[bO,eQ 5]
abbrev SQ:Xu:=iJ [b9 7 2,xL 8 7,aX 6] [cA 9,xL 10 9,xK 11 .neq 10 (-1)] (gZ 11 (cV [cA 12,xL 13 12,aR 14 .lss 13,xM 15 14,bB 16 15 0 3,aK 17 15 16,dM 18 15 2,aK 19 15 18,cJ 20 15 19,cT 21 15 .geq 17 20,xW 22 15 21] 22 G9 (xR [i7 23,xL 24 23,cA 25,xL 26 25,cL 27 24 26,aP 28 27,xL 29 28,b6 29]))) (v6 [dR 30,xL 31 30,aR 32 .lss 31,xM 33 32,qK 34 33,aK 35 33 34,cQ 36 33 6,cJ 37 33 36,cT 38 33 .geq 35 37,xW 39 33 38] 39 G9 [aV 40,dR 41,xL 42 41,cL 43 40 42,aP 44 43,xL 45 44,aN 45,w9 5])
abbrev GA:List Xv:=[kV,eA 6]
abbrev GB:Xv:=xC 4 aB
abbrev GC:List Xv:=[kV,eA 8]
abbrev TY:AOp:= .minmax true [.t 8,.c qA]
def K0:AFn:=⟨1,[.tmp 2],i9 [gG,lD] [qI 6,i6 7 6,dN 8 9,bX 9 8,aL 10 LM 7 9,xM 11 10,bB 12 11 13 1,dM 13 11 12,aK 14 11 13,cJ 15 11 14,cE 16 11 .gtr 15 600,xW 17 11 16] 17 (GE 18 F6 []) (eR 18) (ybz [qI 20,i6 21 20,dN 22 9,bX 23 22,dN 24 13,aZ 25 24,eK 26 LN 21 23 25,xM 19 26,bG 27 19,bI 28 19,wV 3 qX aB rE,n7 4 aB aB gC aB,dY 3 27,dY 4 28] [3,4] (eV [qI 29,i6 30 29,aI 31 AG 30,xO 32 (.fld false 0 1 (.t 31)),aR 33 .neq 32,xM 34 33,bB 35 34 0 1,wB 36 34 9 35,bB 37 34 9 1,wB 38 34 4 37,qD 39 34 LQ [.t 36,.t 38],cE 40 34 .neq 39 0,xW 41 34 40,xM 42 41,bB 43 42 13 1,bB 44 42 0 43,aK 45 42 44,cE 46 42 .lss 45 0,xW 47 42 46,xM 48 47,bB 49 48 13 1,bB 50 48 0 49,aK 51 48 50,cE 52 48 .gtr 51 255,xW 53 48 52,aS 53] [aF 54,bF 55 54,xM 56 55,wB 57 56 4 3,eU 58 56 NP,qD 59 56 LO [.t 57,.t 58],cQ 60 56 59,wC 61 60 4 4,d9 62 60 9 1,wC 63 60 4 62,l8 64 60 LP [.t 61,.t 63],eU 65 56 (.pick (.t 60) (.t 64) (.c qX)),xW 66 56 65,xM 67 66,l8 68 67 F6 [],xV 69 67 68,eR 69]))⟩
def c_11_l0:Xu:=gN [bM 9,cA 10,xL 11 10,xN 12 11,xB 13 .lss 9 12] 13 0 1 (xR [aF 16,cA 17,xL 18 17,bM 19,bT 20 18 19,xL 21 20,xN 22 21,xB 23 .add 16 22,aS 23]) (bM 14) 15 .add 14 (cC 15)
def c_11_l1:Xu:=gN [aX 24,xF 25 4 2,xL 26 25,xN 27 26,xB 28 .lss 24 27] 28 2 3 (xR [aV 31,xF 32 4 2,xL 33 32,aX 34,dS 35 33 34,b9 36 35,xL 37 36,xN 38 37,xB 39 .add 31 38,b6 39]) (aX 29) 30 .add 29 (bP 30)
def c_11_k2:Xu:=c9 [aF 40,xK 41 .gtr 40 60,xM 42 41,cQ 43 42 6,cE 44 42 .gtr 43 60,xW 45 42 44,xM 46 45,dM 47 46 2,aK 48 46 47,cJ 49 46 48,cE 50 46 .gtr 49 12,xW 51 46 50,xM 52 51,bB 53 52 5 2,aK 54 52 53,cJ 55 52 54,cE 56 52 .gtr 55 16,xW 57 52 56,xM 58 57,bB 59 58 6 2,aK 60 58 59,cJ 61 58 60,cE 62 58 .gtr 61 16,xW 63 58 62,xM 64 63,bB 65 64 7 2,aK 66 64 65,cJ 67 64 66,cE 68 64 .gtr 67 30,xW 69 64 68,xM 70 69,bB 71 70 3 3,aK 72 70 71,cJ 73 70 72,cE 74 70 .gtr 73 8,xW 75 70 74,aN 75]
def c_11_k3:Xu:=nQ [wS] 2 c_11_l1 c_11_k2
def LB:AFn:=⟨2,[.tmp 4],jF G8 [cY,dE] [b7 7] c_11_l0 c_11_k3⟩
def PY:AFn:=⟨3,[.cell 6 true 4,.cell 7 true 4],l6 [qZ,wD 4,xJ 5 2,wV 6 qX aB rE,n7 7 aB aB gC aB] (xQ [i8 11,bX 12 4,aZ 13 5,xO 14 (.bslice .imm 2 (List.replicate 1 NQ) [(0,(.t 13))]),eK 15 F7 11 12 14,xM 10 15,bG 16 10,bI 17 10,n7 9 aB aB gC aB,bP 16,dY 9 17] [9]) (.seq (uZ [(3,4)] [⟨some 18,none,.mov (.t 8)⟩,⟨some 19,none,.iaddr 4 none (.t 18) (.c qA)⟩,⟨some 20,none,.load true 4 (.t 19)⟩,⟨some 21,none,.load true 4 (.t 9)⟩,⟨none,none,.store 4 (.t 6) (.t 20)⟩,⟨none,none,.store 4 (.t 7) (.t 21)⟩] none) .ret)⟩
def PZ:AFn:=⟨2,[.tmp 4],eV G8 [iL 5,xL 6 5,cA 7,xL 8 7,xO 9 (.eqs false false [.b] (.t 6) (.t 8)),dG 10,d9 11 10 1 2,dB 12 10 11,d9 13 10 1 3,dB 14 10 13,nL 15 10 .eql 12 14,xV 16 10 15,xM 17 16,d9 18 17 2 2,dB 19 17 18,d9 20 17 2 3,dB 21 17 20,l8 22 17 LR [.t 19,.t 21],xV 23 17 22,xM 24 23,d9 25 24 3 2,dB 26 24 25,d9 27 24 3 3,dB 28 24 27,l8 29 24 LS [.t 26,.t 28],xV 30 24 29,aN 30]⟩
def c_16_l0:Xu:=lE [aF 39,iL 40,xL 41 40,xN 42 41,xB 43 .lss 39 42] 43 0 1 [iL 46,xL 47 46,aF 48,bT 49 47 48,xL 50 49,cA 51,xL 52 51,aF 53,bT 54 52 53,xL 55 54,aL 56 LV 50 55,bF 57 56] 57 [cF] (aF 44) 45 .add 44 (aS 45)
def c_16_l1:Xu:=lE [aV 58,b9 59 2,xL 60 59,xN 61 60,xB 62 .lss 58 61] 62 2 3 [b9 65 2,xL 66 65,aV 67,cL 68 66 67,aZ 69 68,b9 70 3,xL 71 70,aV 72,cL 73 71 72,aZ 74 73,aL 75 CN 69 74,bF 76 75] 76 [cF] (aV 63) 64 .add 63 (b6 64)
def c_16_k2:Xu:=qY 4
def c_16_k3:Xu:=nQ [dE] 2 c_16_l1 c_16_k2
def vD:AFn:=⟨2,[.tmp 4],n8 DE [iL 7,xL 8 7,xN 9 8,cA 10,xL 11 10,xN 12 11,xB 13 .neq 9 12,xM 14 13,dM 15 14 2,aK 16 14 15,qK 17 14,aK 18 14 17,qD 19 14 LT [.t 16,.t 18],rH 20 14 19,xW 21 14 20,xM 22 21,bB 23 22 2 2,aK 24 22 23,cJ 25 22 24,bB 26 22 2 3,aK 27 22 26,cJ 28 22 27,cT 29 22 .neq 25 28,xW 30 22 29,xM 31 30,bB 32 31 3 2,aK 33 31 32,bB 34 31 3 3,aK 35 31 34,qD 36 31 LU [.t 33,.t 35],rH 37 31 36,xW 38 31 37] 38 cF [cY] c_16_l0 c_16_k3⟩
def c_18_l0:Xu:=fO 26 .lss 25 24 26 0 1 [cL 27 23 25,aZ 28 27,uX 12 cU aB,cO 12 28] 12 (iJ [xO 29 NP,wV 13 qX aB rE,dY 13 29] [dG 30] (gZ 30 (jE [i8 32,bX 33 8,aZ 34 12,eK 35 LX 32 33 34,xM 31 35,bG 36 31,bI 37 31,xE 38 2 31,wV 14 qX aB rE,dY 14 36,xM 15 37,xM 16 38] 14 (jA (bX 39 14) (dY 13 39) (bJ [xM 40 16] (lB 40 [xM 41 15,eW 42 8,xS 1 42 41]))))) (xR [xM 43 10,bX 44 13,xO 45 (.bslice .imm 4 (List.replicate 1 FW) [(0,(.t 44))]),lC 46 4 64 43 45,xM 10 46])) 47 .add 25 25 47
def c_18_k1:Xu:=qE [xM 48 10,bX 49 8,b6 48,dY 7 49]
def yE:AFn:=⟨3,[.tmp 6,.cell 7 true 4],bJ [qZ,wD 4,xC 6 (.Xt 4 []),n7 7 aB aB gC aB] (jD [bX 17 4,aI 18 F8 17,n7 8 aB aB gC aB,dY 8 18] [i8 19,bX 20 4,aL 21 LW 19 20,aR 22 .eql 21,fE 22] (eL [qC 10 4] [bS 23,xN 24 23,b7 25] c_18_l0 c_18_k1))⟩
def nA:AFn:=⟨1,iI,jA gG NT (iJ [lS 4,aI 5 LY 4,wV 3 cU cU cU,dY 3 5] [cA 6,xL 7 6,aR 8 .eql 7] (lB 8 [lS 9,aI 10 LZ 9,dY 3 10]) (fC [cA 11,xL 12 11,aR 13 .eql 12] (lB 13 [lS 14,aI 15 M0 14,dY 3 15]) (fC [cA 16,xL 17 16,aR 18 .eql 17] (lB 18 [lS 19,aI 20 M2 19,dY 3 20]) (fC [cA 21,xL 22 21,aR 23 .eql 22] (lB 23 [lS 24,aI 25 M4 24,dY 3 25]) (fC [cA 26,xL 27 26,aR 28 .eql 27] (lB 28 [lS 29,aI 30 M5 29,dY 3 30]) (fC [cA 31,xL 32 31,aR 33 .eql 32] (lB 33 [lS 34,aI 35 M6 34,dY 3 35]) (EP (bX 36 3) 36)))))))⟩
def c_22_l0:Xu:=gN [aV 39,aF 40,xB 41 .lss 39 40] 41 1 2 (iK [dA 44,aV 45,cA 46,xL 47 46,aV 48,bT 49 47 48,xL 50 49,dR 51,xL 52 51,aV 53,bT 54 52 53,xL 55 54,EL 56 M7 (.t 44) (.t 45) (.t 50) (.t 55),cC 56] (cV [bM 57,aR 58 .neq 57] 58 [bM 59,aN 59] (iK [dA 60,aV 61,b9 62 3,xL 63 62,aV 64,cL 65 63 64,aZ 66 65,eK 67 M8 60 61 66,cC 67] (g0 (bM 68) 69 .neq 68 69 [bM 70,aN 70])))) (aV 42) 43 .add 42 (b6 43)
def c_22_k1:Xu:=c9 [dA 71,eW 72 3,xL 73 72,aL 74 M9 71 73,aN 74]
def vE:AFn:=⟨2,[.tmp 4],jD kU [g7 8 2,xL 9 8,xN 10 9,aS 10] (iE 0 [dA 12,aI 13 AG 12,xO 14 (.fld false 0 1 (.t 13)),aR 15 .neq 14,xM 11 15] 11 [dA 16,aI 17 AG 16,xO 18 (.fld false 0 1 (.t 17)),aN 18] (dK [cA 20,xL 21 20,xN 22 21,aF 23,xB 24 .neq 22 23,xM 25 24,qK 26 25,aK 27 25 26,cJ 28 25 27,cQ 29 25 5,cT 30 25 .neq 28 29,xW 31 25 30,xM 32 31,bB 33 32 2 3,aK 34 32 33,cJ 35 32 34,cQ 36 32 5,cT 37 32 .neq 35 36,xW 38 32 37,xM 19 38] 19 [cK 2]) (nQ [dE] 1 c_22_l0 c_22_k1))⟩
def Q0:AFn:=⟨2,[.tmp 4],gH cF [nT,xO 6 (.b2s (.t 5)),aD 7,xO 8 (.b2s (.t 7)),xB 9 .eql 6 8,aN 9]⟩
def c_40_l0:Xu:=lE DA 14 0 1 [aG 17,aF 18,dS 19 17 18,xA 20 3 19,aD 21,aF 22,dS 23 21 22,xA 24 3 23,xO 25 (.eqs true true [.i,.i,.i] (.t 20) (.t 24))] 25 [cF] (aF 15) 16 .add 15 (aS 16)
def c_40_k1:Xu:=qY 4
def LC:AFn:=⟨2,[.tmp 4],n8 [cF] DB 10 cF [cY] c_40_l0 c_40_k1⟩
def c_41_l0:Xu:=lE DA 14 0 1 SV 25 [cF] (aF 15) 16 .add 15 (aS 16)
def c_41_k1:Xu:=qY 4
def LD:AFn:=⟨2,[.tmp 4],n8 [cF] DB 10 cF [cY] c_41_l0 c_41_k1⟩
def c_42_l0:Xu:=lE DA 14 0 1 [aG 17,aF 18,bT 19 17 18,xL 20 19,aD 21,aF 22,bT 23 21 22,xL 24 23,aL 25 MD 20 24,bF 26 25] 26 [cF] (aF 15) 16 .add 15 (aS 16)
def c_42_k1:Xu:=qY 4
def LE:AFn:=⟨2,[.tmp 4],n8 [cF] DB 10 cF [cY] c_42_l0 c_42_k1⟩
def c_43_l0:Xu:=lE DA 14 0 1 [aG 17,aF 18,xX 19 5 17 18,aO 20 19,xL 21 20,aD 22,aF 23,xX 24 5 22 23,aO 25 24,xL 26 25,xB 27 .neq 21 26,xM 28 27,nR 29 28,cQ 30 28 5,v8 31 28 5 29 30,dM 32 28 31,dM 33 28 32,aK 34 28 33,kW 35 28,cQ 36 28 5,v8 37 28 5 35 36,dM 38 28 37,dM 39 28 38,aK 40 28 39,cT 41 28 .neq 34 40,xW 42 28 41,xM 43 42,nR 44 43,cQ 45 43 5,v8 46 43 5 44 45,dM 47 43 46,wB 48 43 4 47,kW 49 43,cQ 50 43 5,v8 51 43 5 49 50,dM 52 43 51,wB 53 43 4 52,qD 54 43 FB [.t 48,.t 53],rH 55 43 54,xW 56 43 55] 56 [cF] (aF 15) 16 .add 15 (aS 16)
def c_43_k1:Xu:=qY 4
def LF:AFn:=⟨2,[.tmp 4],n8 [cF] DB 10 cF [cY] c_43_l0 c_43_k1⟩
def c_44_l0:Xu:=lE [aF 20,i7 21,xL 22 21,xN 23 22,xB 24 .lss 20 23] 24 0 1 [i7 27,xL 28 27,aF 29,bT 30 28 29,xL 31 30,dR 32,xL 33 32,aF 34,bT 35 33 34,xL 36 35,xB 37 .neq 31 36] 37 [cF] (aF 25) 26 .add 25 (aS 26)
def c_44_k1:Xu:=qY 4
def F0:AFn:=⟨2,[.tmp 4],n8 DE [iL 6,xL 7 6,cA 8,xL 9 8,xB 10 .neq 7 9,xM 11 10,dM 12 11 2,aK 13 11 12,cJ 14 11 13,qK 15 11,aK 16 11 15,cJ 17 11 16,cT 18 11 .neq 14 17,xW 19 11 18] 19 cF [cY] c_44_l0 c_44_k1⟩
def c_45_l0:Xu:=fO 26 .lss 25 24 26 2 3 [xX 27 5 23 25,xA 28 5 27,d8 8 lP,xS 5 8 28] 8 (jE [aP 29 8,bX 30 29,wV 9 gC cU aB,dY 9 30] 9 (xD [aV 31,aO 32 8,xL 33 32,aO 34 9,xL 35 34,aI 36 FC 35,aP 37 9,xL 38 37,b9 39 9,aZ 40 39,aI 41 FD 40,xO 42 (.build [.Xt 2 [],.int .i64 0,.int .i64 0,.Xt 1 []] [(0,1,(.t 36)),(1,1,(.t 38)),(2,2,(.t 41))]),xO 43 (.build FX [(0,1,(.t 33)),(1,4,(.t 42))]),xO 44 (.bslice .imm 5 (List.replicate 1 FX) [(0,(.t 43))]),lC 45 5 72 31 44,b6 45])) 46 .add 25 25 46
def c_45_k1:Xu:=xR [cA 47,xL 48 47,aV 49,xO 50 (.bslice .imm 1 (List.replicate 1 [.Xt 5 []]) [(0,(.t 49))]),lC 51 1 24 48 50,cA 52,xS 1 52 51]
def c_45_k2:Xu:=xR [bN 53 .add 19,xM 19 53]
def c_45_l3:Xu:=Ud [xB 20 .lss 19 18] 20 0 (rF 1 (v9 21 17 19 (xL 22 21) (aS 22) (EK [qC 6 5] [aF 23,xN 24 23,b7 25] 2 c_45_l0 c_45_k1)) c_45_k2)
def c_45_l4:Xu:=fO 58 .lss 57 56 58 4 5 [cL 59 55 57,aZ 60 59,uX 11 cU aB,cO 11 60] 11 (xD [b9 61 3,xL 62 61,aZ 63 11,aI 64 FD 63,xO 65 (.bslice .imm 2 (List.replicate 1 NQ) [(0,(.t 64))]),lC 66 2 32 62 65,b9 67 3,xS 1 67 66]) 68 .add 57 57 68
def c_45_k5:Xu:=eV [dN 69 3,xL 70 69,aI 71 CQ 70,eW 72 3,xS 1 72 71] [bX 73 3,lR 73]
def c_45_k6:Xu:=nQ [b9 54 1,xL 55 54,xN 56 55,b7 57] 4 c_45_l4 c_45_k5
def oR:AFn:=⟨1,iI,jA gG (n7 2 aB aB gC aB) (eL [fP 12,xL 13 12,aI 14 CP 13,xO 15 (.build [.Xt 1 [],.Xt 1 [],.Xt 2 [],.Xt 1 []] [(1,1,(.t 14))]),n7 3 aB aB gC aB,dY 3 15] [qI 16,xL 17 16,xN 18 17,b7 19] c_45_l3 c_45_k6)⟩
def c_46_l0:Xu:=dZ 40 .lss 39 38 40 0 1 (rI [xM 41 39,cC 41] [dA 42,bM 43,cA 44,xL 45 44,bM 46,bT 47 45 46,xL 48 47,dR 49,xL 50 49,bM 51,bT 52 50 51,xL 53 52,b9 54 3,xL 55 54,bM 56,cL 57 55 56,aZ 58 57,GE 59 zG [.t 42,.t 43,.t 48,.t 53,.t 58],bP 59] (g0 (aX 60) 61 .neq 60 61 [aX 62,aN 62])) 63 .add 39 39 63
def c_46_k1:Xu:=c9 [dA 64,eW 65 3,xL 66 65,aL 67 zH 64 66,aN 67]
def vF:AFn:=⟨2,[.tmp 4],l6 kU (jE [dA 9,aI 10 MA 9,wV 5 cU cU cU,dY 5 10] 5 (dK [iV 11,xL 12 11,aR 13 .neq 12] 13 [iV 14,xL 15 14,aN 15])) (n8 [g7 16 2,xL 17 16,xN 18 17,b6 18] [cA 19,xL 20 19,xN 21 20,aV 22,xB 23 .neq 21 22,xM 24 23,qK 25 24,aK 26 24 25,cJ 27 24 26,cQ 28 24 6,cT 29 24 .neq 27 28,xW 30 24 29,xM 31 30,bB 32 31 2 3,aK 33 31 32,cJ 34 31 33,cQ 35 31 6,cT 36 31 .neq 34 35,xW 37 31 36] 37 (cK 2) [aV 38,b7 39] c_46_l0 c_46_k1)⟩
def r7:AFn:=⟨3,[.cell 6 true 4,.tmp 7,.tmp 8],l6 [qZ,wD 4,xJ 5 2,wV 6 qX aB rE,xC 7 aB,eQ 8] (xQ [i8 14,aP 15 5,xL 16 15,aL 17 zI 14 16,xM 13 17,bG 18 13,bI 19 13,n7 9 aB aB aB aB,dY 9 18,xM 10 19] [9]) (cV [iV 20,xL 21 20,aR 22 .lss 21,xM 23 22,bB 24 23 0 5,aK 25 23 24,cE 26 23 .gtr 25 255,xW 27 23 26,xM 28 27,cQ 29 28 10,cE 30 28 .neq 29 0,xW 31 28 30] 31 [xO 32 NP,dY 6 32,xC 7 aB,eQ 8] (jE [xO 33 (.build vU [(0,1,NS),(1,1,(.c qA))]),jG 11 cU,cO 11 33] 11 (iK [i8 34,bX 35 9,aZ 36 11,iV 37,xL 38 37,xO 39 (uY .u32 38),EL 40 kC (.t 34) (.t 35) (.t 36) (.t 39),eW 41 4,xL 42 41,xO 43 (.build [.Xt 1 [],.Xt 1 [],.Xt 1 [],.Xt 1 [],.Xt 1 [],.Xt 3 []] [(0,4,(.t 40)),(4,1,(.t 42))]),i8 44,bX 45 4,xO 46 (.build [.Xt 1 [],.Xt 1 [],.Xt 1 [],.Xt 1 [],.Xt 1 [],.Xt 3 [],.str [],.Xt 2 [],.Xt 2 [],.Xt 3 [],.Xt 3 [],.Xt 6 [],.Xt 7 [],.Xt 5 [],.Xt 1 [],.Xt 1 [],.Xt 1 [],.Xt 2 [],.Xt 1 []] [(0,6,(.t 43)),(6,9,(.t 44)),(15,4,(.t 45))]),gD 47 46,xM 12 47] (l6 [xF 48 7 3,xL 49 48,xM 50 12,xO 51 (.mkfunc (.func kD) [.t 50] []),xM 52 12,xO 53 (.mkfunc (.func mA) [.t 52] []),fD 54 sH [.t 49,.t 51,.t 53]] (uZ [(1,6)] [⟨some 55,none,.mov (.t 12)⟩,⟨some 56,none,.tcall sI [.t 55]⟩,⟨some 57,none,.mov (.t 12)⟩,⟨some 58,none,.nilchk (.t 57)⟩,⟨some 59,none,.faddr 0 (.t 58)⟩,⟨some 60,none,.faddr 4 (.t 59)⟩,⟨some 61,none,.load false 1 (.t 60)⟩,⟨some 62,none,.pcall CQ [.t 61]⟩,⟨none,none,.store 4 (.t 6) (.t 56)⟩,⟨some 7,none,.mov (.t 62)⟩,⟨some 8,none,.mov q8⟩] none) .ret))))⟩
def r8:AFn:=⟨1,iI,jA gG NT (iE 0 [qI 4,xL 5 4,aI 6 fX 5,bF 7 6,bM 3] 3 [EN 8 bZ (dD 6) 0 dL dL,lR 8] (l7 [fP 10,xL 11 10,xN 12 11,xK 13 .gtr 12 8,fE 13] 9 [EN 14 bZ (dD 12) 0 (dD 1) dL,lR 14] (l7 [dN 16 3,xL 17 16,xN 18 17,xK 19 .gtr 18 4,xM 15 19] 15 [EN 20 bZ (dD 12) 0 (dD 3) dL,lR 20] (qH [dN 22 4,xL 23 22,xN 24 23,xK 25 .gtr 24 16,xM 21 25] 21 [EN 26 bZ (dD 12) 0 (dD 4) dL,lR 26] [dN 28 5,xL 29 28,xN 30 29,xK 31 .gtr 30 12,xM 27 31] 27 [EN 32 bZ (dD 12) 0 (dD 5) dL,lR 32]))) (EP (xO 33 q9) 33))⟩
def c_49_l0:Xu:=gN [aF 30,aW 31,xB 32 .lss 30 31,xM 33 32,dP 34 33 4,hS 35 33 .eql 34 dL,xV 36 33 35] 36 2 3 (iK [fP 39,xL 40 39,aF 41,cL 42 40 41,aO 43 42,xL 44 43,fP 45,xL 46 45,aW 47,cL 48 46 47,aO 49 48,xL 50 49,xB 51 .eql 44 50] (lB 51 [cK 7])) (aF 37) 38 .add 37 (aS 38)
def c_49_k1:Xu:=g0 (cG 52) 53 .neq 52 53 [cG 54,aW 55,nS 56 bZ 54 1 55,lR 56]
def c_49_k2:Xu:=xR TV
def c_49_l3:Xu:=EJ [aW 6,fP 7,xL 8 7,xN 9 8,xB 10 .lss 6 9] 10 0 (rF 1 (iJ [fP 13,xL 14 13,aW 15,cL 16 14 15,aZ 17 16,aI 18 zJ 17,aN 18] [cG 19,aR 20 .eql 19,xM 21 20,d9 22 21 1 1,dB 23 21 22,dP 24 21 3,fM 25 21 (DQ 2 23 24),d9 26 21 0 25,dB 27 21 26,hS 28 21 .eql 27 (.c (.str [109,101,116,97])),xV 29 21 28] (lB 29 [cK 6]) (nQ [cY] 2 c_49_l0 c_49_k1)) c_49_k2)
def c_49_k4:Xu:=EP (xO 57 q9) 57
def Q1:AFn:=⟨1,iI,eL DC [gF] c_49_l3 c_49_k4⟩
def c_50_l0:Xu:=gN [aW 12,b9 13 1,xL 14 13,xN 15 14,xB 16 .lss 12 15] 16 0 1 (bJ [b9 19 1,xL 20 19,aW 21,aL 22 zK 20 21,aN 22] (g0 (cG 23) 24 .neq 23 24 [cG 25,aW 26,nS 27 bZ 25 2 26,lR 27])) (aW 17) 18 .add 17 (fV 18)
def c_50_l1:Xu:=lE [aV 32,aF 33,xN 34 33,xB 35 .lss 32 34] 35 2 3 [aV 38,b9 39 1,xL 40 39,xN 41 40,xB 42 .geq 38 41,xM 43 42,bB 44 43 2 1,aK 45 43 44,cQ 46 43 6,v8 47 43 2 45 46,wB 48 43 2 47,cQ 49 43 5,cQ 50 43 6,v8 51 43 2 49 50,wB 52 43 2 51,eU 53 43 (.eqs true true [.s,.i] (.t 48) (.t 52)),xW 54 43 53] 54 [aV 55,EN 56 bZ (dD 5) 2 (.t 55) dL,lR 56] (aV 36) 37 .add 36 (b6 37)
def c_50_k2:Xu:=EP (xO 57 q9) 57
def c_50_k3:Xu:=EK [xO 28 T8,xO 29 T7,xO 30 T5,xO 31 (.bslice .imm 2 (List.replicate 3 vT) [(0,(.t 28)),(1,(.t 29)),(2,(.t 30))]),aS 31] [dE] 2 c_50_l1 c_50_k2
def LG:AFn:=⟨1,iI,i9 DC [b9 7 1,xL 8 7,xN 9 8,xK 10 .gtr 9 12] 10 (EN 11 bZ (dD 12) 2 dL dL) (lR 11) (qG [gF] c_50_l0 c_50_k3)⟩
def c_51_l0:Xu:=gN [aF 19,aW 20,xB 21 .lss 19 20,xM 22 21,dP 23 22 4,hS 24 22 .eql 23 dL,xV 25 22 24] 25 2 3 (iK [dN 28 3,xL 29 28,aF 30,dS 31 29 30,aO 32 31,xL 33 32,dN 34 3,xL 35 34,aW 36,dS 37 35 36,aO 38 37,xL 39 38,xB 40 .eql 33 39] (lB 40 [cK 7])) (aF 26) 27 .add 26 (aS 27)
def c_51_k1:Xu:=g0 (cG 41) 42 .neq 41 42 [cG 43,aW 44,nS 45 bZ 43 3 44,lR 45]
def c_51_k2:Xu:=xR TV
def c_51_l3:Xu:=EJ [aW 6,dN 7 3,xL 8 7,xN 9 8,xB 10 .lss 6 9] 10 0 (rF 1 (EK [dN 13 3,xL 14 13,aW 15,dS 16 14 15,xA 17 3 16,aI 18 zL 17,aN 18] [cY] 2 c_51_l0 c_51_k1) c_51_k2)
def c_51_k4:Xu:=EP (xO 46 q9) 46
def Q2:AFn:=⟨1,iI,eL DC [gF] c_51_l3 c_51_k4⟩
def c_52_l0:Xu:=lE TT 28 2 3 [dN 31 4,xL 32 31,aV 33,dS 34 32 33,aO 35 34,xL 36 35,dN 37 4,xL 38 37,aW 39,dS 40 38 39,aO 41 40,xL 42 41,xB 43 .eql 36 42] 43 [aW 44,EN 45 bZ (dD 7) 4 (.t 44) dL,lR 45] (aV 29) 30 .add 29 (b6 30)
def c_52_k1:Xu:=xR TW
def c_52_l2:Xu:=EJ [aW 7,dN 8 4,xL 9 8,xN 10 9,xB 11 .lss 7 10] 11 0 (rF 1 (l5 [lS 15,aW 16,aL 17 zM 15 16,xM 14 17,bG 18 14,bI 19 14,aN 18,aS 19] [aF 20,aR 21 .neq 20] 21 [aF 22,aW 23,cG 24,O6 25 bZ 22 4 23 (.t 24),lR 25] (bJ [dE] (w6 2 c_52_l0))) c_52_k1)
def c_52_k3:Xu:=EP (xO 46 q9) 46
def Q3:AFn:=⟨1,iI,eL DC [gF] c_52_l2 c_52_k3⟩
def c_53_l0:Xu:=lE TT 28 2 3 [dN 31 5,xL 32 31,aV 33,xX 34 6 32 33,aO 35 34,xL 36 35,dN 37 5,xL 38 37,aW 39,xX 40 6 38 39,aO 41 40,xL 42 41,xB 43 .eql 36 42] 43 [aW 44,EN 45 bZ (dD 7) 5 (.t 44) dL,lR 45] (aV 29) 30 .add 29 (b6 30)
def c_53_k1:Xu:=xR TW
def c_53_l2:Xu:=EJ [aW 7,dN 8 5,xL 9 8,xN 10 9,xB 11 .lss 7 10] 11 0 (rF 1 (l5 [lS 15,aW 16,aL 17 oS 15 16,xM 14 17,bG 18 14,bI 19 14,aN 18,aS 19] [aF 20,aR 21 .neq 20] 21 [aF 22,aW 23,cG 24,O6 25 bZ 22 5 23 (.t 24),lR 25] (bJ [dE] (w6 2 c_53_l0))) c_53_k1)
def c_53_k3:Xu:=EP (xO 46 q9) 46
def Q4:AFn:=⟨1,iI,eL DC [gF] c_53_l2 c_53_k3⟩
def zF:AFn:=⟨1,iI,jA gG NT (l5 [lS 7,aI 8 zN 7,aX 6,bG 9 6,bI 10 6,xE 11 2 6,dG 3,aN 10,aS 11] [aF 12,aR 13 .neq 12] 13 [aF 14,aW 15,cG 16,O6 17 bZ 14 6 15 (.t 16),lR 17] (l5 [lS 19,aI 20 zO 19,xM 18 20,bG 21 18,bI 22 18,fV 21,aS 22] [aF 23,aR 24 .neq 23] 24 [aF 25,aW 26,nS 27 bZ 25 7 26,lR 27] (l5 [lS 29,aI 30 zP 29,xM 28 30,bG 31 28,bI 32 28,fV 31,aS 32] [aF 33,aR 34 .neq 33] 34 [aF 35,aW 36,nS 37 bZ 35 8 36,lR 37] (EP (xO 38 q9) 38))))⟩
def c_55_l0:Xu:=gN [xM 22 10,bS 23,xN 24 23,xB 25 .lss 22 24] 25 0 1 (cV [bS 28,xM 29 10,xX 30 5 28 29,aO 31 30,xL 32 31,dG 33,xB 34 .leq 32 33] 34 [xI 8 14] (xR [bS 35,xM 36 10,xX 37 5 35 36,aO 38 37,xL 39 38,fE 39])) (xM 26 10) 27 .add 26 (xM 10 27)
def c_55_l1:Xu:=gN [xM 47 11,bS 48,xN 49 48,xB 50 .lss 47 49] 50 2 3 (iK [i6 53 4,aD 54,bS 55,xM 56 11,xX 57 5 55 56,aP 58 57,bX 59 58,eK 60 zQ 53 54 59,xM 12 60] (.block 4 (l7 [xM 62 12,aR 63 .neq 62,xM 61 63] 61 [xM 64 12,bP 64] (w8 [bS 66,xM 67 11,xO 68 (.slc 5 (.t 66) none (some (.t 67)) none),bS 69,xM 70 11,xX 71 5 69 70,aP 72 71,bX 73 72,aL 74 sJ 68 73,xM 65 74] 65 [xI 8 7])))) (xM 51 11) 52 .add 51 (xM 11 52)
def c_55_k2:Xu:=dQ wS
def c_55_k3:Xu:=cV [aW 40,dG 41,xB 42 .leq 40 41,xM 43 42,cQ 44 43 3,cE 45 43 .gtr 44 1073741824,xW 46 43 45] 46 [xI 8 14] (nQ [b7 11] 2 c_55_l1 c_55_k2)
def LH:AFn:=⟨4,[.tmp 8],fU [uV 4,wS] [bS 13,xN 14 13,g7 15 4,xL 16 15,aD 17,xX 18 6 16 17,g7 19 18,xL 20 19,xB 21 .gtr 14 20] 21 (xI 8 12) (eL [b7 9] [b7 10] c_55_l0 c_55_k3)⟩
def LI:AFn:=⟨3,[.tmp 6],fU DJ [i8 7,aD 8,iV 9,xL 10 9,eK 11 sK 7 8 10,bF 12 11] 12 (dW 8) (c9 [i8 13,aZ 14 5,aL 15 oT 13 14,b6 15])⟩
def c_57_l0:Xu:=lE [aF 14,aD 15,xN 16 15,xB 17 .lss 14 16] 17 0 1 [aD 20,aF 21,bT 22 20 21,xL 23 22,xN 24 23,eW 25 2,xL 26 25,aF 27,dS 28 26 27,b9 29 28,xL 30 29,xB 31 .neq 24 30] 31 [cK 2] (aF 18) 19 .add 18 (aS 19)
def c_57_l1:Xu:=lE [bM 38,aD 39,aV 40,bT 41 39 40,xL 42 41,xN 43 42,xB 44 .lss 38 43] 44 4 5 [aD 47,aV 48,bT 49 47 48,xL 50 49,bM 51,bT 52 50 51,xL 53 52,eW 54 2,xL 55 54,aV 56,dS 57 55 56,xA 58 3 57,aI 59 zR 58,aL 60 oU 53 59,bF 61 60] 61 [cK 9] (bM 45) 46 .add 45 (cC 46)
def c_57_k2:Xu:=xR [aV 36,bN 37 .add 36,b6 37]
def c_57_l3:Xu:=EJ [aV 32,aD 33,xN 34 33,xB 35 .lss 32 34] 35 2 (rF 3 (bJ [b7 7] (w6 4 c_57_l1)) c_57_k2)
def c_57_k4:Xu:=dQ bO
def c_57_k5:Xu:=nQ [dE] 2 c_57_l3 c_57_k4
def LJ:AFn:=⟨2,[.tmp 4],n8 [gO,bO] [aD 8,xN 9 8,eW 10 2,xL 11 10,xN 12 11,xB 13 .neq 9 12] 13 (cK 2) [cY] c_57_l0 c_57_k5⟩
def dT:ADFn:=⟨1,iI,.seq (xR [xO 1 (.box (.t 0)),xO 2 (.alloc rC)]) (.dfr [⟨some 3,none,.mkfunc (.func kE) [] [.t 2]⟩] 3 (.seq (xR [xA 4 9 1,xO 5 (.pcall zS [.t 4])]) (.seq (xR [xA 6 9 1,xO 7 (.pcall zT [.t 6])]) (.seq (xR [xA 8 9 1,xO 9 (.pcall zU [.t 8])]) (.seq (xR [xA 10 9 1,xO 11 (.pcall zV [.t 10])]) (.seq (xR [xA 12 9 1,xO 13 (.pcall zW [.t 12])]) (.seq (xR [xO 14 q9,xS 4 2 14]) (.ret)))))))),kE,1,(some (4,1)),.seq (.seq (xR [xM 5 1,xO 6 (.eqs false false [] (.t 5) (.c (.niliface)))]) (.cond (.t 6) (.ret) (.skip))) (.seq (.seq (xR [xM 8 1,xO 9 (.tassert 225 true (.agg rC) (.t 8)),xM 7 9,xE 10 0 7,xE 11 1 7,xO 2 (.alloc rC),xS 4 2 10,xM 3 11]) (.seq (xR [xM 12 3]) (.cond (.t 12) (.seq (xR [xF 13 0 2,xA 14 4 13,xS 4 0 14]) (.ret)) (.skip)))) (xR [xM 15 1,⟨none,none,.panic (.t 15)⟩]))⟩
def c_74_l0:Xu:=fO 42 .lss 41 40 42 0 1 [xM 43 41,cL 44 39 41,aZ 45 44,uX 12 gE gE,xM 11 43,cO 12 45] 12 (iK [aZ 46 12,dG 47,xM 48 11,dS 49 47 48,b9 50 49,xL 51 50,xM 52 10,xM 53 11,bT 54 52 53,xL 55 54,eK 56 zX 46 51 55,xM 13 56] (g0 (xM 57 13) 58 .neq 57 58 [xM 59 13,b6 59])) 60 .add 41 41 60
def c_74_k1:Xu:=iE 2 [aP 62 5,xL 63 62,aR 64 .lss 63,xM 65 64,dM 66 65 5,aK 67 65 66,cE 68 65 .gtr 67 255,xW 69 65 68,xM 61 69] 61 [dW 9] (qH [aP 71 5,xL 72 71,aR 73 .neq 72,xM 74 73,wC 75 74 9 3,dP 76 74 1,l8 77 74 zY [.t 75,.t 76],hS 78 74 .neq 77 (dD 3),xV 79 74 78,xM 70 79] 70 [dW 11] [i8 81,aD 82,b9 83 5,aO 84 83,xL 85 84,eK 86 sL 81 82 85,bF 87 86,xM 80 87] 80 [dW 8]) (c9 [i8 88,b9 89 5,aZ 90 89,aL 91 mB 88 90,b6 91])
def F2:AFn:=⟨3,[.tmp 6],iJ DJ [i8 15,aD 16,aL 17 oV 15 16,xM 14 17,bG 18 14,bI 19 14,cC 18,bP 19] (g0 (aX 20) 21 .neq 20 21 [aX 22,b6 22]) (iK [g7 23 3,xL 24 23,aD 25,xX 26 6 24 25,aP 27 26,xL 28 27,i8 29,aD 30,aL 31 oW 29 30,fE 28,xM 10 31] (cV [iV 32,xL 33 32,xN 34 33,dG 35,xN 36 35,xB 37 .neq 34 36] 37 [dW 2] (qG [iV 38,xL 39 38,xN 40 39,b7 41] c_74_l0 c_74_k1)))⟩
def Q5:AFn:=⟨2,[.tmp 4],gH cF [nT,aD 6,aL 7 zZ 5 6,aR 8 .geq 7,aN 8]⟩
def c_77_l0:Xu:=dZ 25 .lss 24 23 25 0 1 (rI [xM 26 24,cL 27 22 24,aZ 28 27,uX 6 gE gE,aS 26,cO 6 28] [aZ 29 6,cA 30,xL 31 30,aF 32,cL 33 31 32,aZ 34 33,xO 35 (.eqs true true [.i,.i] (.t 29) (.t 34))] (NY 35 [cF])) 36 .add 24 24 36
def c_77_k1:Xu:=qY 4
def F4:AFn:=⟨2,[.tmp 4],n8 DE [i7 7,xL 8 7,dR 9,xL 10 9,xB 11 .neq 8 10,xM 12 11,bB 13 12 0 2,aK 14 12 13,cJ 15 12 14,bB 16 12 0 3,aK 17 12 16,cJ 18 12 17,cT 19 12 .neq 15 18,xW 20 12 19] 20 cF [iL 21,xL 22 21,xN 23 22,b7 24] c_77_l0 c_77_k1⟩
def c_94_l0:Xu:=lE DA 14 0 1 SV 25 [cF] (aF 15) 16 .add 15 (aS 16)
def c_94_k1:Xu:=qY 4
def LK:AFn:=⟨2,[.tmp 4],n8 [cF] DB 10 cF [cY] c_94_l0 c_94_k1⟩
def F5:AFn:=⟨2,[.tmp 4],eV DE [bX 5 2,bX 6 3,aL 7 oZ 5 6,bM 8,d9 9 8 2 2,wC 10 8 2 9,d9 11 8 2 3,wC 12 8 2 11,l8 13 8 CN [.t 10,.t 12],xV 14 8 13,aN 14]⟩
def Q6:AFn:=⟨1,NV,rI [gG,uX 2 cU aB] [qI 3,xL 4 3,fP 5,xL 6 5,aI 7 oY 6,xO 8 (.build NQ [(0,1,(.t 4)),(1,1,(.t 7))]),cO 2 8] .ret⟩
def c_99_l0:Xu:=dZ 9 .lss 8 7 9 0 1 (v9 10 6 8 DN (aS 11) (xR [aW 12,aF 13,aI 14 oY 13,xO 15 (.bslice .imm 1 (List.replicate 1 nJ) [(0,(.t 14))]),lC 16 1 24 12 15,fV 16])) 17 .add 8 8 17
def c_99_k1:Xu:=v5 18 18
def LL:AFn:=⟨1,[.tmp 2],jF vY [qC 3 1] lQ c_99_l0 c_99_k1⟩
def c_100_l0:Xu:=fO 29 .lss 28 27 29 0 1 [xX 30 5 26 28,xA 31 5 30,d8 13 lP,xS 5 13 31] 13 (cV [aO 32 13,xL 33 32,xM 34 11,xB 35 .leq 33 34] 35 [xI 10 14] (xR [aO 36 13,xL 37 36,xM 11 37])) 38 .add 28 28 38
def c_100_l1:Xu:=fO 53 .lss 52 51 53 2 3 [xM 54 52,xX 55 5 50 52,xA 56 5 55,d8 15 lP,xM 14 54,xS 5 15 56] 15 (fC [i6 57 5,aD 58,aP 59 15,bX 60 59,eK 61 MC 57 58 60,xM 16 61] (g0 (xM 62 16) 63 .neq 62 63 [xM 64 16,xM 10 64]) (dK [bS 65,xM 66 14,xO 67 (.slc 5 (.t 65) none (some (.t 66)) none),xO 68 (.mkfunc (.func kF) [] [.t 15]),aL 69 F9 67 68] 69 [xI 10 7])) 70 .add 52 52 70
def c_100_k2:Xu:=c9 [i6 71 5,aD 72,aZ 73 9,eK 74 A1 71 72 73,xM 10 74]
def c_100_k3:Xu:=cV [aW 39,xM 40 11,xB 41 .leq 39 40,xM 42 41,cQ 43 42 3,cE 44 42 .lss 43 1,xW 45 42 44,xM 46 45,cQ 47 46 3,cE 48 46 .gtr 47 1073741824,xW 49 46 48] 49 [xI 10 14] (nQ [bS 50,xN 51 50,b7 52] 2 c_100_l1 c_100_k2)
def wY:AFn:=⟨5,[.tmp 10],fU [uV 5,xJ 9 4,b7 10] [bS 17,xN 18 17,g7 19 5,xL 20 19,aD 21,xX 22 6 20 21,g7 23 22,xL 24 23,xB 25 .gtr 18 24] 25 (xI 10 12) (eL [b7 11] [bS 26,xN 27 26,b7 28] c_100_l0 c_100_k3)⟩
def c_101_l0:Xu:=dZ 18 .lss 17 16 18 0 1 (bJ [xM 19 17,bT 20 15 17,xL 21 20,aS 19,b6 21] (dK [aV 22,xN 23 22,eW 24 2,xL 25 24,aF 26,dS 27 25 26,b9 28 27,xL 29 28,xB 30 .neq 23 29] 30 [cK 2])) 31 .add 17 17 31
def c_101_l1:Xu:=dZ 35 .lss 34 33 35 2 3 (rI [xM 36 34,bT 37 32 34,xL 38 37,cC 36,bP 38] [aX 39,xN 40 39,aR 41 .gtr 40,xM 42 41,dP 43 42 8,l8 44 42 A4 [.t 43],d9 45 42 3 2,dB 46 42 45,dP 47 42 7,fM 48 42 (DQ 3 46 47),d9 49 42 1 48,dB 50 42 49,l8 51 42 bE [.t 50],nL 52 42 .gtr 44 51,xV 53 42 52] (NY 53 [cK 9])) 54 .add 34 34 54
def c_101_k2:Xu:=dQ bO
def c_101_k3:Xu:=nQ [aD 32,xN 33 32,b7 34] 2 c_101_l1 c_101_k2
def wZ:AFn:=⟨2,[.tmp 4],n8 [gO,bO] [aD 9,xN 10 9,eW 11 2,xL 12 11,xN 13 12,xB 14 .neq 10 13] 14 (cK 2) [aD 15,xN 16 15,b7 17] c_101_l0 c_101_k3⟩
def xH:AFn:=⟨2,[.cell 4 true 4,.tmp 5],l6 [gO,n7 4 aB aB aB aB,cY] (xQ [dA 10,aD 11,aL 12 p5 10 11,fE 12,bG 13 9,bI 14 9,xE 15 2 9,n7 6 aB aB aB aB,dY 6 13,cC 14,bP 15] [6]) (c9 [bX 16 6,aX 17,dY 4 16,aS 17])⟩
def nX:AFn:=⟨4,[.cell 8 true 4],l6 [uV 4,wD 5,xJ 6 2,n7 8 aB aB aB aB] (xQ [bX 13 5,fD 14 eG [.t 13],n7 9 aB aB aB aB,dY 9 14] [9]) (iJ [i6 15 4,aZ 16 6,aL 17 iR 15 16,xM 10 17] [bX 19 9,aZ 20 6,fD 21 kG [.t 19,.t 20],xM 18 21,bG 22 18,bI 23 18,xM 11 22,xM 12 23] (bJ [xM 24 12,xM 25 24,dP 26 25 10,hS 27 25 .gtr 26 dL,xV 28 25 27] (gZ 28 (xD [xM 29 11,aP 30 6,xL 31 30,aW 32,xM 33 10,aI 34 bE 33,xB 35 .and 32 34,bT 36 29 31,xS 1 36 35]))) (jC (bX 37 9) (dY 8 37)))⟩
def GM:AFn:=⟨3,[],fC [aD 6,xO 7 (.eqs false false [] (.t 6) (.c (.nilfunc)))] (lB 7 [xC 1 (.func (.func QH) [] [])]) (fC [bP 2,xO 9 (.eqs false false [] (.t 8) (.c (.nilfunc)))] (lB 9 [xC 2 (.func (.func QI) [] [])]) (xR [aD 10,bS 11,xO 12 (.build [.nilfunc,.nilfunc] [(0,1,(.t 10)),(1,1,(.t 11))]),aG 13,fD 14 kH [.t 12,.t 13]]))⟩
def nY:AFn:=⟨2,[.tmp 4],rI [cF] [aG 9,bQ 10 9,xF 11 6 10,i6 12 11,aD 13,aG 14,bQ 15 14,aO 16 15,aO 17 16,bX 18 17,eK 19 sO 12 13 18,aS 19] (.seq (uZ [(3,18),(9,18),(12,18),(14,18)] [⟨some 21,none,.mov (.t 0)⟩,⟨some 22,none,.nilchk (.t 21)⟩,⟨some 23,none,.faddr 6 (.t 22)⟩,⟨some 24,none,.load true 9 (.t 23)⟩,⟨some 25,none,.mov (.t 1)⟩,⟨some 26,none,.mov (.t 0)⟩,⟨some 27,none,.nilchk (.t 26)⟩,⟨some 28,none,.faddr 15 (.t 27)⟩,⟨some 29,none,.faddr 0 (.t 28)⟩,⟨some 30,none,.load false 1 (.t 29)⟩,⟨some 31,none,.mov (.t 1)⟩,⟨some 32,none,.iaddr 1 none (.t 30) (.t 31)⟩,⟨some 33,none,.load false 1 (.t 32)⟩,⟨some 34,none,.mov (.t 5)⟩,⟨some 35,none,.pcall p6 [.t 24,.t 25,.t 33,.t 34]⟩,⟨some 20,none,.mov (.t 35)⟩,⟨some 36,none,.ext 0 (.t 20)⟩,⟨some 37,none,.ext 1 (.t 20)⟩,⟨some 6,none,.alloc FX⟩,⟨none,none,.store 5 (.t 6) (.t 36)⟩,⟨some 7,none,.mov (.t 37)⟩] (some [6])) (iJ [aG 38,bQ 39 38,xF 40 15 39,b9 41 40,xL 42 41,aD 43,cL 44 42 43,aZ 45 44,uX 8 cU aB,cO 8 45] [bM 46] (lB 46 [aP 47 6,b9 48 47,aZ 49 48,cO 8 49]) (iK [aG 51,aG 52,aG 53,bQ 54 53,xF 55 6 54,i6 56 55,aZ 57 8,aG 58,bQ 59 58,aO 60 59,aO 61 60,bX 62 61,aG 63,bQ 64 63,aO 65 64,xF 66 4 65,xL 67 66,EL 68 sP (.t 56) (.t 57) (.t 62) (.t 67),xM 50 68,bG 69 50,bI 70 50,bQ 71 51,aO 72 71,aO 73 72,dY 73 69,bQ 74 52,aO 75 74,xF 76 4 75,xS 1 76 70] (iK [aG 77,aG 78,bQ 79 78,aO 80 79,g7 81 80,xL 82 81,aD 83,aO 84 6,xL 85 84,aO 86 8,xL 87 86,xO 88 (.build NM [(0,1,(.t 83)),(1,1,(.t 85)),(2,1,(.t 87))]),xO 89 (.bslice .imm 3 (List.replicate 1 NM) [(0,(.t 88))]),lC 90 3 24 82 89,bQ 91 77,aO 92 91,g7 93 92,xS 1 93 90] (yfx (bM 94) 94)))))⟩
def GN:AFn:=⟨2,[.tmp 4],rI [cF] [aD 5,wT,bQ 7 6,xF 8 6 7,i6 9 8,xO 10 (.build nH [(0,9,(.t 9))]),aG 11,bQ 12 11,aO 13 12,aO 14 13,bX 15 14,EL 16 sQ (.t 5) (.t 10) (.t 15) (.c aB),vA 17 .eql 16 (L4 1),aN 17] .ret⟩
def jR:AFn:=⟨1,iI,l6 [wV 2 qX aB rE] (w8 [qJ,qF 4 sR 3 2,vA 5 .eql 4 (L4 1),aF 6,nR 7 6,eU 8 6 (NW 7),bB 9 6 6 8,wB 10 6 9 9,nR 11 6,eU 12 6 (NW 11),bB 13 6 0 12,bB 14 6 0 13,wB 15 6 4 14,qD 16 6 A5 [.t 10,.t 15],cE 17 6 .gtr 16 512,xW 18 6 17] 18 [aG 19,bQ 20 19,aO 21 20,g7 22 21,xL 23 22,xO 24 (.build FW [(0,1,q8),(3,1,(.t 23))]),lR 24]) (qE [aG 25,qF 26 sR 25 1,xO 27 (uY .i64 26),aG 28,bQ 29 28,xF 30 6 29,i6 31 30,aG 32,bQ 33 32,aO 34 33,aO 35 34,bX 36 35,aL 37 p7 31 36,aG 38,bQ 39 38,aO 40 39,g7 41 40,xL 42 41,xO 43 (.build FW [(1,1,(.t 27)),(2,1,(.t 37)),(3,1,(.t 42))]),lR 43])⟩
def c_108_l0:Xu:=gN [aW 17,aG 18,xO 19 (.slen (.t 18)),xB 20 .lss 17 19] 20 0 1 (dK [aG 23,aW 24,xO 25 (.idxs (.t 23) (.t 24)),aI 26 sS 25,bF 27 26,xM 28 27,qL 29 28,dP 30 28 3,fM 31 28 (.idxs (.t 29) (.t 30)),l8 32 28 A6 [.t 31],fM 33 28 (PO 32),xV 34 28 33,xM 35 34,qL 36 35,dP 37 35 3,fM 38 35 (.idxs (.t 36) (.t 37)),hS 39 35 .neq 38 (GF 95),xV 40 35 39] 40 [lD]) (aW 21) 22 .add 21 (fV 22)
def c_108_k1:Xu:=qY 2
def nZ:AFn:=⟨1,[.tmp 2],n8 [lD] [aG 4,vA 5 .eql 4 (.str []),aF 6,nR 7 6,eU 8 6 (.slen (.t 7)),cE 9 6 .gtr 8 16,xW 10 6 9,xM 11 10,nR 12 11,eU 13 11 (.idxs (.t 12) dL),qD 14 11 sS [.t 13],rH 15 11 14,xW 16 11 15] 16 lD [gF] c_108_l0 c_108_k1⟩
def GO:AFn:=⟨4,[.cell 8 true 4],gH (wV 8 cU cU cU) [aG 9,aD 10,bS 11,aW 12,xO 13 (.build rC [(0,1,(.t 9)),(1,1,(.t 10)),(2,1,(.t 11)),(3,1,(.t 12))]),dY 8 13]⟩
def c_110_l0:Xu:=gN [cG 23,fP 24,xL 25 24,xN 26 25,xB 27 .lss 23 26] 27 1 2 (jE [fP 30,xL 31 30,cG 32,cL 33 31 32,aZ 34 33,jG 5 (.str []),cO 5 34] 5 (bJ [aZ 36 1,iV 37,xL 38 37,aL 39 A7 36 38,xM 35 39,bG 40 35,bI 41 35,b6 40,cC 41] (X0 3 (l7 [iV 43,xL 44 43,aI 45 fX 44,bF 46 45,xM 42 46] 42 [fQ 6] (qH [aP 48 5,xL 49 48,bN 50 .lss 49,xM 51 50,dM 52 51 5,aK 53 51 52,cE 54 51 .gtr 53 32,xW 55 51 54,xM 47 55] 47 [fQ 10] [aV 57,cG 58,xB 59 .lss 57 58,xM 56 59] 56 [fQ 7])) [aW 60,aP 61 5,xL 62 61,xB 63 .add 60 62,fV 63]))) (cG 28) 29 .add 28 (aN 29)
def c_110_k1:Xu:=cV [aW 64,xK 65 .rem 64 8,aR 66 .neq 65] 66 [fQ 10] (dQ dF)
def o9:AFn:=⟨1,[.tmp 2],jA gG dF (iE 0 [qI 9,xL 10 9,aI 11 fX 10,bF 12 11,bP 12] 8 [fQ 6] (qH [fP 14,xL 15 14,xN 16 15,aR 17 .eql 16,xM 13 17] 13 [fQ 8] [fP 19,xL 20 19,xN 21 20,xK 22 .gtr 21 12,xM 18 22] 18 [fQ 12]) (EK [gF] [bO] 1 c_110_l0 c_110_k1))⟩
def c_111_l0:Xu:=lE [aF 27,aD 28,xB 29 .lss 27 28] 29 0 1 [aG 32,aF 33,cL 34 32 33,aO 35 34,xL 36 35,aG 37,aD 38,cL 39 37 38,aO 40 39,xL 41 40,xB 42 .eql 36 41] 42 [cK 7] (aF 30) 31 .add 30 (aS 31)
def c_111_k1:Xu:=dQ bO
def oA:AFn:=⟨2,[.tmp 4],fU [bO] [wT,aD 7,cL 8 6 7,aO 9 8,xL 10 9,aI 11 fX 10,bF 12 11] 12 (cK 6) (cV [aG 13,aD 14,cL 15 13 14,aP 16 15,xL 17 16,bN 18 .lss 17,xM 19 18,nR 20 19,kW 21 19,v8 22 19 2 20 21,dM 23 19 22,aK 24 19 23,cE 25 19 .gtr 24 32,xW 26 19 25] 26 [cK 10] (qG [cY] c_111_l0 c_111_k1))⟩
def jS:AFn:=⟨1,[.tmp 2],fU [gG,dF] [qI 3,xL 4 3,aI 5 fX 4,bF 6 5] 6 (fQ 6) (cV [fP 7,xL 8 7,bN 9 .lss 8,dG 10,dM 11 10 1,aK 12 10 11,cE 13 10 .gtr 12 32,xW 14 10 13] 14 [fQ 10] (cV [b9 15 1,xL 16 15,bN 17 .lss 16,xM 18 17,bB 19 18 2 1,aK 20 18 19,cE 21 18 .gtr 20 64,xW 22 18 21] 22 [fQ 9] (dQ dF)))⟩
def c_113_l0:Xu:=gN [bM 47,b9 48 6,xL 49 48,xN 50 49,xB 51 .lss 47 50] 51 1 2 (iK [dA 54,b9 55 6,xL 56 55,bM 57,xX 58 7 56 57,xA 59 7 58,dA 60,aD 61,aL 62 A9 60 61,eK 63 A8 54 59 62,bP 63] (g0 (aX 64) 65 .neq 64 65 [bM 66,aX 67,aN 66,aS 67])) (bM 52) 53 .add 52 (cC 53)
def c_113_k1:Xu:=jC bO cY
def iM:AFn:=⟨2,cZ,i9 qB [aD 9,aR 10 .lss 9,xM 11 10,kW 12 11,bB 13 11 4 2,aK 14 11 13,cJ 15 11 14,cT 16 11 .geq 12 15,xW 17 11 16] 17 kV (eA 8) (jE [xF 18 4 2,xL 19 18,aD 20,dS 21 19 20,xA 22 3 21,d8 6 G2,xS 3 6 22] 6 (iE 0 TE 23 GA (qH [aP 29 6,xL 30 29,xN 31 30,xK 32 .gtr 31 4,xM 33 32,bB 34 33 2 6,aK 35 33 34,cJ 36 33 35,cE 37 33 .gtr 36 12,xW 38 33 37,xM 28 38] 28 DL [aP 40 6,xL 41 40,aI 42 sT 41,aR 43 .neq 42,xM 39 43] 39 [aP 44 6,xL 45 44,aI 46 sT 45,kV,aS 46]) (nQ [b7 7] 1 c_113_l0 c_113_k1)))⟩
def fF:AFn:=⟨2,cZ,i9 qB [aD 9,aR 10 .lss 9,xM 11 10,kW 12 11,bB 13 11 5 2,aK 14 11 13,cJ 15 11 14,cT 16 11 .geq 12 15,xW 17 11 16] 17 kV (eA 8) (jE [g7 18 2,xL 19 18,aD 20,xX 21 6 19 20,xA 22 6 21,d8 6 NL,xS 6 6 22] 6 (iE 0 TE 23 GA (qH [aP 29 6,xL 30 29,xN 31 30,xK 32 .gtr 31 6,xM 33 32,bB 34 33 2 6,aK 35 33 34,cJ 36 33 35,cE 37 33 .gtr 36 16,xW 38 33 37,xM 28 38] 28 DL [g7 40 6,xL 41 40,bN 42 .lss 41,xM 43 42,bB 44 43 5 6,aK 45 43 44,cE 46 43 .gtr 45 256,xW 47 43 46,xM 39 47] 39 [kV,eA 9]) (l5 [dA 49,xA 50 6 6,aL 51 AA 49 50,xM 48 51,bG 52 48,bI 53 48,cC 52,bP 53] [aX 54,aR 55 .neq 54] 55 [bM 56,aX 57,aN 56,aS 57] (l5 [dA 58,xA 59 6 6,aL 60 AB 58 59,bP 60] [aX 61,aR 62 .neq 61] 62 [aX 63,cK (-3),aS 63] vW))))⟩
def c_115_l0:Xu:=gN [aF 16,dN 17 6,xL 18 17,xN 19 18,xB 20 .lss 16 19] 20 0 1 (bJ [lS 24,aF 25,aL 26 AC 24 25,xM 23 26,bG 27 23,bI 28 23,b6 27,cC 28] (g0 (bM 29) 30 .neq 29 30 [aF 31,aV 32,bM 33,eR 31,fV 32,aN 33])) (aF 21) 22 .add 21 (aS 22)
def c_115_k1:Xu:=c9 [dF,gF,bO]
def rJ:AFn:=⟨1,[.tmp 2,.tmp 3,.tmp 4],l5 [gG,dF,gF,bO] [dN 8 6,xL 9 8,xN 10 9,aR 11 .eql 10] 11 [nK 2,nK 3,cK 8] (cV [dN 12 6,xL 13 12,xN 14 13,xK 15 .gtr 14 12] 15 [nK 2,nK 3,cK 12] (qG [cY] c_115_l0 c_115_k1))⟩
def c_116_l0:Xu:=gN [aF 20,cG 21,xN 22 21,xB 23 .lss 20 22] 23 1 2 (bJ [lS 26,cG 27,aF 28,eK 29 AD 26 27 28,b6 29] (g0 (aV 30) 31 .neq 30 31 [aF 32,aV 33,eR 32,fV 33])) (aF 24) 25 .add 24 (aS 25)
def c_116_k1:Xu:=jC dF gF
def rK:AFn:=⟨1,rD,wA gG dF gF (iE 0 [dN 8 7,xL 9 8,aI 10 p8 9,xK 11 .gtr 10 24,cC 11] 7 [nK 2,xI 3 12] (dK [dN 13 7,xL 14 13,aI 15 p9 14,xK 16 .gtr 15 6,xM 12 16] 12 [nK 2,xI 3 14]) (EK [dN 17 7,xL 18 17,aI 19 mE 18,aN 19] [cY] 1 c_116_l0 c_116_k1))⟩
def c_117_l0:Xu:=lE [aF 35,cG 36,xB 37 .lss 35 36] 37 2 3 [dN 40 8,xL 41 40,aF 42,bT 43 41 42,xL 44 43,dN 45 8,xL 46 45,cG 47,bT 48 46 47,xL 49 48,xB 50 .eql 44 49] 50 [cG 51,eR 51,xI 3 7] (aF 38) 39 .add 38 (aS 39)
def c_117_k1:Xu:=xR [cG 15,bN 16 .add 15,aN 16]
def c_117_l2:Xu:=EJ [cG 10,dN 11 8,xL 12 11,xN 13 12,xB 14 .lss 10 13] 14 0 (rF 1 (.seq (w8 [dN 17 8,xL 18 17,cG 19,bT 20 18 19,xL 21 20,aR 22 .lss 21,xM 23 22,bB 24 23 8 1,aK 25 23 24,cQ 26 23 4,v8 27 23 1 25 26,aK 28 23 27,dM 29 23 1,aK 30 23 29,cJ 31 23 30,cT 32 23 .geq 28 31,xW 33 23 32] 33 [cG 34,eR 34,xI 3 8]) (bJ [cY] (w6 2 c_117_l0))) c_117_k1)
def c_117_k3:Xu:=jC dF gF
def xP:AFn:=⟨1,rD,i9 [gG,dF,gF] TN 9 (nK 2) (xI 3 12) (qG [bO] c_117_l2 c_117_k3)⟩
def c_118_l0:Xu:=gN [xM 29 10,dG 30,xN 31 30,xB 32 .lss 29 31] 32 0 1 (iK [iV 35,xL 36 35,xM 37 10,cL 38 36 37,aZ 39 38,dG 40,xM 41 10,bT 42 40 41,xL 43 42,g7 44 3,xL 45 44,aD 46,xX 47 6 45 46,aP 48 47,xL 49 48,xM 50 10,dS 51 49 50,b9 52 51,xL 53 52,eK 54 AE 39 43 53,bP 54] (g0 (aX 55) 56 .neq 55 56 [aX 57,b6 57])) (xM 33 10) 34 .add 33 (xM 10 34)
def c_118_k1:Xu:=iE 2 [aP 59 5,xL 60 59,aR 61 .lss 60,xM 62 61,dM 63 62 5,aK 64 62 63,cE 65 62 .gtr 64 255,xW 66 62 65,xM 58 66] 58 [dW 9] (qH [aP 68 5,xL 69 68,aR 70 .gtr 69,xM 71 70,wC 72 71 9 3,dP 73 71 1,l8 74 71 AF [.t 72,.t 73],hS 75 71 .neq 74 (dD 3),xV 76 71 75,xM 67 76] 67 [dW 11] [i8 78,aD 79,b9 80 5,aO 81 80,xL 82 81,eK 83 sK 78 79 82,bF 84 83,xM 77 84] 77 [dW 8]) (c9 [i8 85,b9 86 5,aZ 87 86,aL 88 oT 85 87,b6 88])
def rL:AFn:=⟨3,[.tmp 6],wA qZ (xJ 5 2) dE (i9 [i8 12,aD 13,aL 14 oS 12 13,xM 11 14,bG 15 11,bI 16 11,cC 15,bP 16] [aX 17,aR 18 .neq 17] 18 (aX 19) (b6 19) (n8 [i8 20,aD 21,aL 22 sW 20 21,fE 22] [iV 23,xL 24 23,xN 25 24,dG 26,xN 27 26,xB 28 .neq 25 27] 28 (dW 2) [b7 10] c_118_l0 c_118_k1))⟩
def c_119_l0:Xu:=lE TR 9 0 1 [aG 12,aF 13,xX 14 5 12 13,aP 15 14,bX 16 15,bX 17 3,aL 18 oZ 16 17] 18 [w9 4] (aF 10) 11 .add 10 (aS 11)
def c_119_k1:Xu:=dQ cF
def GP:AFn:=⟨2,[.tmp 4],eL [v7,cF] [cY] c_119_l0 c_119_k1⟩
def xT:AFn:=⟨3,[.tmp 6],eV vZ [i8 7,aD 8,aL 9 sX 7 8,dG 10,d9 11 10 5 3,dB 12 10 11,dP 13 10 1,fM 14 10 (DQ 6 12 13),d9 15 10 2 14,dB 16 10 15,dP 17 10 2,l8 18 10 pA [.t 16,.t 17],hS 19 10 .geq 18 dL,xV 20 10 19,b6 20]⟩
def c_121_l0:Xu:=lE [aV 31,aF 32,xN 33 32,xB 34 .lss 31 33] 34 0 1 [dR 37,xL 38 37,aV 39,bT 40 38 39,xL 41 40,aF 42,aV 43,cL 44 42 43,aP 45 44,xL 46 45,aL 47 pB 41 46,bF 48 47] 48 [cK 9] (aV 35) 36 .add 35 (b6 36)
def c_121_k1:Xu:=dQ bO
def oC:AFn:=⟨2,[.tmp 4],fU kU [cA 7,xL 8 7,aR 9 .lss 8,dG 10,bB 11 10 0 3,aK 12 10 11,bB 13 10 4 2,aK 14 10 13,cJ 15 10 14,cT 16 10 .geq 12 15,xW 17 10 16] 17 (cK 8) (n8 [xF 18 4 2,xL 19 18,cA 20,xL 21 20,dS 22 19 21,aP 23 22,xL 24 23,aS 24] [dR 25,xL 26 25,xN 27 26,aF 28,xN 29 28,xB 30 .neq 27 29] 30 (cK 2) [dE] c_121_l0 c_121_k1)⟩
def c_122_l0:Xu:=gN [aV 7,aD 8,xB 9 .lss 7 8] 9 0 1 (xR [aF 12,xO 13 (DT .mul (TZ .u64 2) 12),aS 13]) (aV 10) 11 .add 10 (b6 11)
def c_122_k1:Xu:=c9 [aG 14,xO 15 (uY .u64 14),aF 16,xB 17 .lss 15 16,aN 17]
def GQ:AFn:=⟨2,[.tmp 4],jF [cF] [xC 5 (.int .u64 1)] [dE] c_122_l0 c_122_k1⟩
def rM:AFn:=⟨1,[.tmp 2],fU [gG,dF] [fP 3,xL 4 3,bN 5 .lss 4,aF 6,dM 7 6 1,aK 8 6 7,cE 9 6 .gtr 8 32,xW 10 6 9] 10 dF (c9 [fP 11,xL 12 11,eR 12])⟩
def jT:AFn:=⟨1,[],bJ [gG] (jD [qI 2,xL 3 2,aI 4 sY 3,qF 5 cP 4 6,O5 6 bA 5 0 dL dL] [fP 7,xL 8 7,xN 9 8,xK 10 .gtr 9 8,qF 11 cP 10 12,O5 12 bA 11 0 (dD 1) dL] (jD [dN 13 3,xL 14 13,xN 15 14,xK 16 .gtr 15 4,qF 17 cP 16 12,O5 18 bA 17 0 (dD 3) dL] [dN 19 4,xL 20 19,xN 21 20,xK 22 .gtr 21 16,qF 23 cP 22 12,O5 24 bA 23 0 (dD 4) dL] (xR [dN 25 5,xL 26 25,xN 27 26,xK 28 .gtr 27 12,qF 29 cP 28 12,O5 30 bA 29 0 (dD 5) dL])))⟩
def c_131_l0:Xu:=fO 12 .lss 11 10 12 0 1 [xM 13 11,cL 14 9 11,aZ 15 14,uX 4 (.str []) gC,fV 13,cO 4 15] 4 (jD [aZ 16 4,aI 17 iS 16,aW 18,nS 19 bA 17 1 18] [aO 20 4,xL 21 20,vA 22 .eql 21 (.str [109,101,116,97]),qF 23 cP 22 6,aW 24,nS 25 bA 23 1 24] (xR [bS 26,aW 27,aL 28 kI 26 27,qF 29 cP 28 7,aW 30,nS 31 bA 29 1 30])) 32 .add 11 11 32
def GR:AFn:=⟨1,[],bJ [gG] (jD [fP 5,xL 6 5,GD 7 sZ 6 (.c (.func (.func pC) [] [])),bM 2] [fP 8,xL 9 8,xN 10 9,b7 11] (w6 0 c_131_l0))⟩
def c_132_l0:Xu:=fO 20 .lss 19 18 20 0 1 [xM 21 19,cL 22 17 19,aZ 23 22,jG 4 (.str []),fV 21,cO 4 23] 4 (jD [aO 24 4,xL 25 24,aI 26 sY 25,qF 27 cP 26 6,aW 28,nS 29 bA 27 2 28] [aP 30 4,xL 31 30,aI 32 AJ 31,qF 33 cP 32 10,aW 34,nS 35 bA 33 2 34] (xR [bS 36,aW 37,aL 38 kI 36 37,qF 39 cP 38 7,aW 40,nS 41 bA 39 2 40])) 42 .add 19 19 42
def c_132_l1:Xu:=Uf (xK 48 .lss 47 3) 48 2 3 (jE [xM 49 47,xO 50 (.idxa true 3 2 (.t 46) (.t 47)),jG 6 (.str []),aS 49,cO 6 50] 6 (iK [aF 51,b9 52 1,xL 53 52,xN 54 53,xB 55 .geq 51 54,xM 56 55,bB 57 56 2 1,aK 58 56 57,cQ 59 56 5,v8 60 56 2 58 59,wB 61 56 2 60,wB 62 56 2 6,eU 63 56 (.eqs true true [.s,.i] (.t 61) (.t 62)),xW 64 56 63,qF 65 cP 64 5,aF 66] (xR [nS 67 bA 65 2 66]))) 68 .add 47 47 68
def c_132_k2:Xu:=bJ [xO 43 T8,xO 44 T7,xO 45 T5,xO 46 (.build [.str [],.int .i64 0,.str [],.int .i64 0,.str [],.int .i64 0] [(0,2,(.t 43)),(2,2,(.t 44)),(4,2,(.t 45))]),b7 47] (w6 2 c_132_l1)
def xU:AFn:=⟨1,[],jD [gG] [b9 7 1,xL 8 7,xN 9 8,xK 10 .gtr 9 12,qF 11 cP 10 12,O5 12 bA 11 2 dL dL] (eL [b9 13 1,xL 14 13,GD 15 t6 14 (.c (.func (.func pD) [] [])),eR 15] [b9 16 1,xL 17 16,xN 18 17,b7 19] c_132_l0 c_132_k2)⟩
def c_133_l0:Xu:=fO 18 .lss 17 16 18 0 1 [xM 19 17,dS 20 15 17,xA 21 3 20,d8 4 [.str [],cU,cU],fV 19,xS 3 4 21] 4 (bJ [xA 22 3 4,aI 23 AK 22,aW 24,nS 25 bA 23 3 24] (xR [bS 26,aW 27,aL 28 kI 26 27,qF 29 cP 28 7,aW 30,nS 31 bA 29 3 30])) 32 .add 17 17 32
def c_133_l1:Xu:=dZ 40 .lss 39 38 40 2 3 (l9 (xM 41 39) 5 41 (jD [lS 43,aF 44,aL 45 t9 43 44,xM 42 45,bG 46 42,bI 47 42,b6 46,cC 47] [bM 48,aF 49,aV 50,O6 51 bA 48 4 49 (.t 50)] (xR [bS 52,aF 53,aL 54 kI 52 53,qF 55 cP 54 7,aF 56,nS 57 bA 55 4 56]))) 58 .add 39 39 58
def c_133_l2:Xu:=dZ 66 .lss 65 64 66 4 5 (l9 (xM 67 65) 8 67 (jD [lS 69,aX 70,aL 71 oV 69 70,xM 68 71,bG 72 68,bI 73 68,fE 72,xM 10 73] [xM 74 10,aX 75,dG 76,O6 77 bA 74 5 75 (.t 76)] (xR [bS 78,aX 79,aL 80 kI 78 79,qF 81 cP 80 7,aX 82,nS 83 bA 81 5 82]))) 84 .add 65 65 84
def c_133_k3:Xu:=jD [dN 59 5,xL 60 59,GD 61 tA 60 (.c (.func (.func pG) [] [])),eR 61] [dN 62 5,xL 63 62,xN 64 63,b7 65] (w6 4 c_133_l2)
def c_133_k4:Xu:=EK [dN 33 4,xL 34 33,GD 35 t8 34 (.c (.func (.func pF) [] [])),eR 35] [dN 36 4,xL 37 36,xN 38 37,b7 39] 2 c_133_l1 c_133_k3
def GS:AFn:=⟨1,[],jF [gG] [dN 11 3,xL 12 11,GD 13 t7 12 (.c (.func (.func pE) [] [])),eR 13] [dN 14 3,xL 15 14,xN 16 15,b7 17] c_133_l0 c_133_k4⟩
def oD:AFn:=⟨1,[],jD [gG] [lS 7,aI 8 tB 7,aX 6,bG 9 6,bI 10 6,xE 11 2 6,eR 9,fV 10,aN 11] (jD [cG 12,bS 13,aW 14,O6 15 bA 12 6 13 (.t 14)] [lS 17,aI 18 AM 17,xM 16 18,bG 19 16,bI 20 16,aS 19,aN 20] (jD [cG 21,aF 22,nS 23 bA 21 7 22] [lS 25,aI 26 tC 25,xM 24 26,bG 27 24,bI 28 24,aS 27,aN 28] (xR [cG 29,aF 30,nS 31 bA 29 8 30])))⟩
def fG:AFn:=⟨2,cZ,i9 qB [aD 7,aR 8 .lss 7,aX 9,kW 10 9,bB 11 9 5 2,aK 12 9 11,cJ 13 9 12,cT 14 9 .geq 10 13,xW 15 9 14] 15 kV (eA 8) (jE [g7 16 2,xL 17 16,aD 18,xX 19 6 17 18,xA 20 6 19,d8 6 NL,xS 6 6 20] 6 (iE 0 [aO 22 6,xL 23 22,aI 24 fY 23,bF 25 24,xM 21 25] 21 GA (qH [aP 27 6,xL 28 27,xN 29 28,xK 30 .gtr 29 6,xM 31 30,bB 32 31 2 6,aK 33 31 32,cJ 34 31 33,cE 35 31 .gtr 34 16,xW 36 31 35,xM 26 36] 26 DL [g7 38 6,xL 39 38,bN 40 .lss 39,xM 41 40,bB 42 41 5 6,aK 43 41 42,cE 44 41 .gtr 43 256,xW 45 41 44,xM 37 45] 37 [kV,eA 9]) (fC [dA 47,xA 48 6 6,aL 49 AP 47 48,xM 46 49,bG 50 46,bI 51 46,aN 50,aS 51] (g0 (aF 52) 53 .neq 52 53 [cG 54,aF 55,aN 54,aS 55]) (fC [dA 56,xA 57 6 6,aL 58 AQ 56 57,aS 58] (g0 (aF 59) 60 .neq 59 60 [aF 61,cK (-3),aS 61]) vW))))⟩
def c_140_l0:Xu:=fO 20 .lss 19 18 20 0 1 TD 7 (xR [aF 23,dA 24,aO 25 7,aZ 26 25,aL 27 iR 24 26,xO 28 (.bslice .imm 1 (List.replicate 1 kT) [(0,(.t 27))]),lC 29 1 8 23 28,aS 29]) 30 .add 19 19 30
def c_140_k1:Xu:=DR 31 31
def GT:AFn:=⟨2,[.tmp 4],fU [gO,xC 4 aB] TJ 11 GB (eL [qC 5 1] T6 c_140_l0 c_140_k1)⟩
def gP:AFn:=⟨3,[.tmp 6],jA qZ dE (iE 0 [cA 10,xL 11 10,bS 12,aL 13 iT 11 12,bF 14 13,xM 15 14,qK 16 15,aK 17 15 16,cQ 18 15 2,qD 19 15 iT [.t 17,.t 18],rH 20 15 19,xW 21 15 20,fE 21] 9 [dW 9] (l7 [cA 23,xL 24 23,dR 25,xL 26 25,xB 27 .andNot 24 26,vA 28 .neq 27 gE,xM 22 28] 22 [dW 5] (w8 [aD 30,bN 31 .eql 30,xM 32 31,d9 33 32 1 3,dB 34 32 33,dP 35 32 2,l8 36 32 bE [.t 35],nL 37 32 .neq 34 36,xV 38 32 37,xM 29 38] 29 [dW 11])) (fC [aD 39,xK 40 .eql 39 2] (gZ 40 (bJ [dR 42,xL 43 42,bS 44,aL 45 AR 43 44,xM 41 45,bG 46 41,bI 47 41,cC 46,bP 47] (L5 (aX 48) (bF 49 48) 49 [dW 11]))) (dQ dE)))⟩
def c_142_l0:Xu:=fO 20 .lss 19 18 20 0 1 TD 7 (.block 2 (l7 [b9 24 7,xL 25 24,xK 26 .eql 25 3,xM 23 26] 23 [cK 3] (bJ [b9 28 7,xL 29 28,xK 30 .eql 29 2,xM 27 30] (lB 27 [eA 2])))) 31 .add 19 19 31
def c_142_k1:Xu:=DR 32 32
def xY:AFn:=⟨2,[.tmp 4],fU [gO,bO] TJ 11 bO (eL [eA 1] T6 c_142_l0 c_142_k1)⟩
def c_143_l0:Xu:=dZ 21 .lss 20 19 21 0 1 (v9 22 18 20 (xL 23 22) (bP 23) (dK [aX 24,bS 25,xB 26 .eql 24 25] 26 [w9 6])) 27 .add 20 20 27
def c_143_k1:Xu:=dQ (eQ 6)
def xZ:AFn:=⟨3,[.tmp 6],n8 vZ [i8 9,aD 10,aL 11 tD 9 10,bF 12 11] 12 (eQ 6) [g7 13 3,xL 14 13,aD 15,xX 16 6 14 15,b9 17 16,xL 18 17,xN 19 18,b7 20] c_143_l0 c_143_k1⟩
def c_144_l0:Xu:=dZ 36 .lss 35 34 36 0 1 (bJ [xM 37 35,bT 38 33 35,xL 39 38,b6 37,cC 39] (dK [bM 40,aF 41,aV 42,cL 43 41 42,aP 44 43,xL 45 44,aL 46 iT 40 45,bF 47 46] 47 [cK 9])) 48 .add 35 35 48
def c_144_k1:Xu:=dQ bO
def oE:AFn:=⟨2,[.tmp 4],fU kU [cA 8,xL 9 8,aR 10 .lss 9,xM 11 10,bB 12 11 0 3,aK 13 11 12,bB 14 11 4 2,aK 15 11 14,cJ 16 11 15,cT 17 11 .geq 13 16,xW 18 11 17] 18 (cK 8) (n8 [xF 19 4 2,xL 20 19,cA 21,xL 22 21,dS 23 20 22,aP 24 23,xL 25 24,aS 25] [dR 26,xL 27 26,xN 28 27,aF 29,xN 30 29,xB 31 .neq 28 30] 31 (cK 2) NN c_144_l0 c_144_k1)⟩
def c_145_l0:Xu:=dZ 9 .lss 8 7 9 0 1 (l9 (aX 10) 5 10 (dK [aD 11,aG 12,aF 13,xX 14 5 12 13,xA 15 5 14,DS 16 11 [.t 15]] 16 G6)) 18 .add 8 8 18
def c_145_k1:Xu:=dQ kV
def GU:AFn:=⟨2,[.tmp 4],eL [bO] lQ c_145_l0 c_145_k1⟩
def eB:AFn:=⟨2,[.tmp 4],wA gO v7 bO SP⟩
def oF:AFn:=⟨2,cZ,i9 [v7,bO,cY] [aG 9,xN 10 9,xK 11 .gtr 10 24] 11 bO (eA 12) (bJ [aG 13,xA 14 10 3,Ue 15 pH 13 dL 14,xM 12 15,bG 16 12,bI 17 12,xE 18 2 12,b6 16,cC 17,bP 18] (iE 0 [aX 20,aR 21 .neq 20,xM 19 21] 19 [aX 22,bO,aS 22] (dK [bM 24,aG 25,xN 26 25,xB 27 .lss 24 26,xM 23 27] 23 [bO,eA 4]) (c9 [aV 28,aN 28,cY])))⟩
def c_165_l0:Xu:=lE [aF 20,iL 21,xL 22 21,xN 23 22,xB 24 .lss 20 23] 24 0 1 [iL 27,xL 28 27,aF 29,cL 30 28 29,aZ 31 30,cA 32,xL 33 32,aF 34,cL 35 33 34,aZ 36 35,xO 37 (.eqs true true [.i,.i] (.t 31) (.t 36))] 37 [cF] (aF 25) 26 .add 25 (aS 26)
def c_165_k1:Xu:=qY 4
def rN:AFn:=⟨2,[.tmp 4],n8 DE [iL 6,xL 7 6,xN 8 7,cA 9,xL 10 9,xN 11 10,xB 12 .neq 8 11,xM 13 12,dM 14 13 2,aK 15 13 14,qK 16 13,aK 17 13 16,cT 18 13 .neq 15 17,xW 19 13 18] 19 cF [cY] c_165_l0 c_165_k1⟩
def GV:AFn:=⟨2,[.tmp 3],eV [gO,eQ 3] [i7 4,bX 5 4,fP 6,bX 7 6,aL 8 FA 5 7,aX 3]⟩
def yA:AFn:=⟨3,[.tmp 6],fU DJ [i8 7,aD 8,iV 9,xL 10 9,eK 11 sL 7 8 10,bF 12 11] 12 (dW 8) (c9 [i8 13,aZ 14 5,aL 15 mB 13 14,b6 15])⟩
def c_168_l0:Xu:=gN [cG 12,aG 13,xN 14 13,xB 15 .lss 12 14] 15 0 1 (xR [aW 18,aG 19,cG 20,bT 21 19 20,xL 22 21,xO 23 (.minmax true [.t 18,.t 22]),fV 23]) (cG 16) 17 .add 16 (aN 17)
def c_168_k1:Xu:=v5 24 24
def GW:AFn:=⟨1,[.tmp 2],iJ [g6 2] [nT,xN 6 5,bN 7 .lss 6] (lB 7 [xO 8 (.mkiface 9 (.c (.str [115,108,105,99,101,115,46,77,97,120,58,32,101,109,112,116,121,32,108,105,115,116]))),⟨none,none,.panic (.t 8)⟩]) (eL [aG 9,xO 10 (uW 1 9 dL),xL 11 10,fV 11] [cK 1] c_168_l0 c_168_k1)⟩
def yB:AFn:=⟨1,[.tmp 2],fU [g6 2] [qJ,xO 4 (.bslice .imm 1 (List.replicate 1 kT) [(0,(.t 3))]),aI 5 fZ 4,bF 6 5] 6 (g6 2) (c9 [aG 7,xO 8 (DT .sub (dD 32) 7),xO 9 (DT .shr (.c (L4 4294967295)) 8),eR 9])⟩
def c_170_l0:Xu:=EJ [xM 26 11,aR 27 .geq 26] 27 0 (.block 1 (l6 [xM 28 10,xM 29 11,xO 30 (.bslice .imm 1 (List.replicate 1 kT) [(0,(.t 29))]),lC 31 1 8 28 30,xM 10 31] (iK [dA 32,xF 33 6 2,xL 34 33,xM 35 11,xX 36 7 34 35,xA 37 7 36,bX 38 7,dG 39,fD 40 tG [.t 32,.t 37,.t 38,.t 39],xM 12 40] (g0 (xM 41 12) 42 .neq 41 42 [dA 43,fD 44 iU [.t 43],xM 45 10,xM 46 12,dY 4 44,aS 45,b6 46])) (xD [xF 47 6 2,xL 48 47,xM 49 11,xX 50 7 48 49,xA 51 7 50,bX 52 7,aL 53 AY 51 52,xM 11 53])))
def c_170_k1:Xu:=cV [xM 54 11,xK 55 .eql 54 (-2)] 55 [dA 56,fD 57 iU [.t 56],xM 58 10,dY 4 57,aS 58,dW 15] (l5 [dG 60,fD 61 pI [.t 60],xM 59 61,bG 62 59,bI 63 59,xM 13 62,xM 14 63] [xM 64 14,aR 65 .neq 64] 65 [dA 66,fD 67 iU [.t 66],xM 68 10,xM 69 14,dY 4 67,aS 68,b6 69] (eV [xM 70 13,eW 71 7,xS 1 71 70] [bX 72 7,xM 73 10,dY 4 72,aS 73,dE]))
def jV:AFn:=⟨2,[.cell 4 true 4,.tmp 5,.tmp 6],bJ [gO,n7 4 aB aB aB aB,xC 5 aB,dE] (iJ [dA 15,fD 16 iU [.t 15],n7 7 aB aB aB aB,dY 7 16] [dA 17,aD 18,aL 19 AW 17 18,bP 19] (g0 (aX 20) 21 .neq 20 21 [bX 22 7,aX 23,dY 4 22,xC 5 aB,b6 23]) (wA (aD 24) (fD 25 tE [.t 24]) (fE 25) (jD [qC 10 1] [b7 11] (rF 0 (.loop c_170_l0) c_170_k1))))⟩
def c_171_l0:Xu:=dZ 23 .lss 22 21 23 0 1 (v9 24 20 22 (xL 25 24) (aS 25) (uZ [(1,4),(1,5)] [⟨some 26,none,.faddr 1 (.t 3)⟩,⟨some 27,none,.load false 1 (.t 26)⟩,⟨some 28,none,.mov (.t 5)⟩,⟨some 29,none,.bslice .imm 1 (List.replicate 1 nJ) [(0,(.t 28))]⟩,⟨some 30,none,.pcallr kJ [.t 29]⟩,⟨some 31,none,.bslice .row 1 (List.replicate 1 nJ) [(0,(.t 30))]⟩,⟨some 32,none,.append .row 1 24 (.t 27) (.t 31)⟩,⟨some 33,none,.faddr 1 (.t 3)⟩,⟨none,none,.store 1 (.t 33) (.t 32)⟩] none)) 34 .add 22 22 34
def c_171_k1:Xu:=EP (bX 35 3) 35
def jW:AFn:=⟨1,iI,l6 TP (uZ [(3,5),(3,9),(7,9),(1,13),(3,13),(5,13),(7,13),(9,13),(11,13)] [⟨some 6,none,.faddr 0 (.t 1)⟩,⟨some 7,none,.load false 1 (.t 6)⟩,⟨some 8,none,.bslice .imm 1 (List.replicate 1 nJ) [(0,(.t 7))]⟩,⟨some 9,none,.pcallr mF [.t 8]⟩,⟨some 10,none,.faddr 2 (.t 1)⟩,⟨some 11,none,.load false 1 (.t 10)⟩,⟨some 12,none,.bslice .imm 1 (List.replicate 1 nJ) [(0,(.t 11))]⟩,⟨some 13,none,.pcallr kJ [.t 12]⟩,⟨some 14,none,.faddr 3 (.t 1)⟩,⟨some 15,none,.load false 1 (.t 14)⟩,⟨some 16,none,.bslice .imm 1 (List.replicate 1 nJ) [(0,(.t 15))]⟩,⟨some 17,none,.pcall tH [.t 16]⟩,⟨some 18,none,.build G0 [(0,1,(.t 9)),(2,1,(.t 13)),(3,1,(.t 17))]⟩,⟨some 3,none,.alloc G0⟩,⟨none,none,.store 4 (.t 3) (.t 18)⟩] none) (qG [fP 19,xL 20 19,xN 21 20,b7 22] c_171_l0 c_171_k1)⟩
def rO:AFn:=⟨2,[.tmp 4],rI kU [dA 6,cA 7,xL 8 7,aL 9 B1 6 8,dR 10,xL 11 10,aL 12 AZ 9 11,xO 13 (.fld false 1 1 (.t 12)),aS 13] (cV [aF 14,aI 15 bE 14,vA 16 .eql 15 gE] 16 [bO] (DR 17 17))⟩
def fH:AFn:=⟨2,cZ,iJ [gD 2 0,gD 3 1,xC 4 aB,eQ 5] [aZ 7 3,dR 8,xL 9 8,xO 10 (.build vU [(0,1,NS),(1,1,(.t 9))]),xO 11 (.eqs false true [.i,.i] (.t 7) (.t 10))] (gZ 11 (qE [b9 12 2,xL 13 12,b9 14 2,xL 15 14,dR 16,xL 17 16,aL 18 tI 15 17,aN 13,aS 18])) (eV [i7 19,xL 20 19,cA 21,xL 22 21,fD 23 mG [.t 20,.t 22],b6 23] [aV 24,iL 25,xL 26 25,cA 27,xL 28 27,aL 29 B2 26 28,xM 30 29,dP 31 30 6,d9 32 30 1 3,dB 33 30 32,l8 34 30 tI [.t 31,.t 33],xV 35 30 34,aN 24,aS 35])⟩
def c_176_l0:Xu:=fO 9 .lss 8 7 9 0 1 [xX 10 5 6 8,xA 11 5 10,d8 5 G1,xS 5 5 11] 5 (uZ [(0,4)] [⟨some 12,none,.load true 2 (.t 2)⟩,⟨some 13,none,.load true 5 (.t 5)⟩,⟨some 14,none,.pcall B4 [.t 13]⟩,⟨some 15,none,.load true 2 (.t 2)⟩,⟨some 16,none,.tinvoke [(413,uM),(414,uN),(415,CM),(417,R6)] (.t 14) [.t 15]⟩,⟨some 17,none,.tcall kH [.t 12,.t 16]⟩] none) 18 .add 8 8 18
def rP:AFn:=⟨2,[],jD [gD 2 0] [aD 6,xN 7 6,wS] (w6 0 c_176_l0)⟩
def c_177_l0:Xu:=dZ 15 .lss 14 13 15 0 1 (bJ [xM 16 14,bT 17 12 14,xL 18 17,bP 16,fE 18] (xD [bM 19,bX 20 5,g7 21 3,xL 22 21,aD 23,xX 24 6 22 23,aP 25 24,xL 26 25,aX 27,dS 28 26 27,aO 29 28,aZ 30 29,aL 31 mH 20 30,dG 32,aI 33 bE 32,xB 34 .and 31 33,xO 35 (.bslice .imm 1 (List.replicate 1 vV) [(0,(.t 34))]),lC 36 1 4 19 35,cC 36])) 37 .add 14 14 37
def c_177_k1:Xu:=jC (bM 38) (b6 38)
def yC:AFn:=⟨3,[.tmp 6],jF [qZ,xJ 5 2,xC 6 aB] [qC 7 1] [i8 10,aD 11,aL 12 oW 10 11,xN 13 12,b7 14] c_177_l0 c_177_k1⟩
def yD:AFn:=⟨4,[.cell 8 true 5,.tmp 9],l5 [gD 4 0,gD 5 1,gD 6 2,gD 7 3,d8 8 lP,eQ 9] [xL 13 5,aR 14 .lss 13,xM 15 14,aK 16 15 5,bB 17 15 5 4,aK 18 15 17,cJ 19 15 18,cT 20 15 .geq 16 19,xW 21 15 20] 21 [xO 22 (.build FX []),xS 5 8 22,eQ 9] (jE [xO 23 (.mkfunc (.func dO) [] [.t 7]),d8 10 [.nilfunc],xS 1 10 23] 10 (jE [xL 25 6,xO 26 (.mkfunc (.func pJ) [] [.t 10,.t 6,.t 4,.t 5]),fD 27 mI [.t 25,.t 26],xM 24 27,bG 28 24,bI 29 24,d8 11 lP,xS 5 11 28,xM 12 29] 11 (c9 [xA 30 5 11,aI 31 tK 30,xM 32 12,xS 5 8 31,fE 32])))⟩
def c_179_l0:Xu:=fO 68 .lss 67 66 68 0 1 [xX 69 7 65 67,xA 70 7 69,d8 15 TL,xS 7 15 70] 15 (rG [xC 16 (.func (.func tN) [] [])] [aO 71 15,xL 72 71] 2 (iF 74 .eql 72 2 73 74 73 (xR [xC 16 (.func (.func tO) [] [])]) (iF 76 .eql 72 3 75 76 75 (xR [xC 16 (.func (.func tP) [] [])]) (iF 78 .eql 72 4 77 78 77 (xR [xC 16 (.func (.func tQ) [] [])]) (l9 (xK 80 .eql 72 5) 79 80 (lB 79 [xC 16 (.func (.func tR) [] [])]))))) (xR [xM 81 16,xM 82 10,xA 83 7 15,xO 84 (.tcallv (.t 81) [.t 82,.t 83])])) 85 .add 67 67 85
def c_179_k1:Xu:= .seq (uZ [(7,8)] [⟨some 86,none,.mov (.t 10)⟩,⟨some 87,none,.nilchk (.t 86)⟩,⟨some 88,none,.faddr 11 (.t 87)⟩,⟨some 89,none,.load true 4 (.t 88)⟩,⟨some 90,none,.mov (.t 10)⟩,⟨some 91,none,.nilchk (.t 90)⟩,⟨some 92,none,.faddr 15 (.t 91)⟩,⟨some 93,none,.load false 1 (.t 92)⟩,⟨none,none,.store 4 (.t 8) (.t 89)⟩,⟨some 9,none,.mov (.t 93)⟩] none) .ret
def lT:AFn:=⟨4,[.cell 8 true 4,.tmp 9],bJ [uV 4,wD 5,xJ 6 2,n7 8 aB aB aB aB,xC 9 aB] (iJ [bX 17 6,aI 18 eG 17,aW 19,aI 20 tL 19,xO 21 (.build [.str [],.Xt 2 [],.Xt 2 [],.Xt 3 [],.Xt 3 [],.Xt 6 [],.Xt 7 [],.Xt 5 [],.Xt 1 [],.Xt 2 [],.Xt 1 [],.Xt 1 [],.Xt 1 [],.Xt 1 [],.Xt 1 [],.Xt 1 []] [(11,4,(.t 18)),(15,1,(.t 20))]),gD 22 21,xM 10 22] [i6 24 4,iV 25,xL 26 25,aL 27 t9 24 26,xM 23 27,bG 28 23,bI 29 23,xM 11 28,xM 12 29] (bJ [xM 30 12,aR 31 .neq 30,xM 32 31,wB 33 32 9 4,wB 34 32 2 5,qD 35 32 mB [.t 33,.t 34],cE 36 32 .neq 35 0,xW 37 32 36] (gZ 37 (.seq (uZ [(7,8)] [⟨some 38,none,.mov (.t 10)⟩,⟨some 39,none,.nilchk (.t 38)⟩,⟨some 40,none,.faddr 11 (.t 39)⟩,⟨some 41,none,.load true 4 (.t 40)⟩,⟨some 42,none,.mov (.t 10)⟩,⟨some 43,none,.nilchk (.t 42)⟩,⟨some 44,none,.faddr 15 (.t 43)⟩,⟨some 45,none,.load false 1 (.t 44)⟩,⟨none,none,.store 4 (.t 8) (.t 41)⟩,⟨some 9,none,.mov (.t 45)⟩] none) .ret))) (jE [xF 46 4 4,xL 47 46,iV 48,xL 49 48,dS 50 47 49,xA 51 3 50,d8 13 G2,xS 3 13 51] 13 (jF [xM 52 10,i6 53 4,aP 54 13,xL 55 54,xO 56 (.build nH [(0,9,(.t 53)),(9,1,(.t 55))]),bQ 57 52,aO 58 57,xS 10 58 56] [xM 59 10,aP 60 5,xL 61 60,bQ 62 59,xF 63 10 62,xS 1 63 61] [b9 64 13,xL 65 64,xN 66 65,b7 67] c_179_l0 c_179_k1)))⟩
def yF:AFn:=⟨4,[.tmp 8],iJ [wD 5,xJ 6 2,g6 8] [aG 13,xA 14 10 5,aL 15 mJ 13 14,xM 12 15,bG 16 12,bI 17 12,fE 16,xM 10 17] (g0 (xM 18 10) 19 .neq 18 19 [g6 8]) (eV [xA 20 10 5,bX 21 6,aW 22,aG 23,xO 24 (.build [.str [],.Xt 2 [],.Xt 2 [],.Xt 3 [],.Xt 3 [],.Xt 6 [],.Xt 7 [],.Xt 5 [],.Xt 1 [],.Xt 2 [],.Xt 1 [],.Xt 1 [],.Xt 1 [],.Xt 1 [],.Xt 1 [],.Xt 3 [],.int .i64 0] [(0,10,(.t 20)),(10,4,(.t 21)),(14,1,(.t 22)),(15,1,(.t 23))]),d8 11 [.str [],.Xt 2 [],.Xt 2 [],.Xt 3 [],.Xt 3 [],.Xt 6 [],.Xt 7 [],.Xt 5 [],.Xt 1 [],.Xt 2 [],.Xt 1 [],.Xt 1 [],.Xt 1 [],.Xt 1 [],.Xt 1 [],.Xt 3 [],cU],xS 17 11 24] [fD 25 fJ [.t 11],xO 26 (.fld false 0 1 (.t 25)),bP 26])⟩
def GX:AFn:=⟨2,[.tmp 4],gH (g6 4) [nT,bQ 6 5,aO 7 6,aO 8 7,bX 9 8,aD 10,xO 11 (.build vU [(0,1,NS),(1,1,(.t 10))]),aL 12 mH 9 11,aN 12]⟩
def GY:AFn:=⟨2,[.tmp 4],eV kU [dA 5,bX 6 3,aL 7 p7 5 6,xN 8 7,aN 8]⟩
def c_183_l0:Xu:=dZ 21 .lss 20 19 21 0 1 (v9 22 18 20 (xL 23 22) (bP 23) (xR [aV 24,aX 25,xO 26 (.tcallv (.t 24) [.t 25])])) 27 .add 20 20 27
def c_183_k1:Xu:=eV [xL 29 5,fD 30 mK [.t 29],xM 28 30,bG 31 28,bI 32 28,fE 31,xM 10 32] [dG 33,eW 34 3,xL 35 34,lC 36 1 1 33 35,aN 36]
def yG:AFn:=⟨2,[.tmp 4],fU [gO,v7,xC 4 aB] [dA 11,bX 12 3,aL 13 B7 11 12,bF 14 13] 14 GB (jE [fD 15 pK [],d8 5 [.nilptr],xS 1 5 15] 5 (eL [xO 16 (.mkfunc (.func tS) [] [.t 3,.t 2,.t 5]),b6 16] [xF 17 8 2,xL 18 17,xN 19 18,b7 20] c_183_l0 c_183_k1))⟩
def GZ:AFn:=⟨1,[.tmp 2],gH lD SS⟩
def H5:AFn:=⟨1,[.tmp 2],gH lD T0⟩
def c_186_l0:Xu:=gN [aV 7,i7 8,xL 9 8,xN 10 9,xB 11 .lss 7 10] 11 0 1 (dK [i7 14,xL 15 14,aV 16,cL 17 15 16,aO 18 17,xL 19 18,aD 20,xB 21 .eql 19 20] 21 [aV 22,aN 22,w9 5]) (aV 12) 13 .add 12 (b6 13)
def c_186_k1:Xu:=jC bO (eQ 5)
def H6:AFn:=⟨2,cZ,eL [gO,bO,eQ 5] [dE] c_186_l0 c_186_k1⟩
def c_187_l0:Xu:=lE [cG 34,aW 35,xB 36 .lss 34 35] 36 3 4 [aG 39,cG 40,cL 41 39 40,aO 42 41,xL 43 42,aG 44,aW 45,cL 46 44 45,aO 47 46,xL 48 47,xB 49 .eql 43 48] 49 [fQ 7] (cG 37) 38 .add 37 (aN 38)
def c_187_k1:Xu:=xR [aW 9,bN 10 .add 9,fV 10]
def c_187_l2:Xu:=EJ [aS 3,wT,xN 7 6,xB 8 .lss 5 7] 8 0 (rF 1 (iE 2 [aG 12,aW 13,cL 14 12 13,aO 15 14,xL 16 15,aI 17 fX 16,bF 18 17,xM 11 18] 11 [fQ 6] (dK [aG 20,aW 21,cL 22 20 21,aP 23 22,xL 24 23,bN 25 .lss 24,xM 26 25,nR 27 26,cQ 28 26 3,v8 29 26 2 27 28,dM 30 26 29,aK 31 26 30,cE 32 26 .gtr 31 32,xW 33 26 32,xM 19 33] 19 [fQ 10]) (bJ [bO] (w6 3 c_187_l0))) c_187_k1)
def c_187_k3:Xu:=dQ dF
def H7:AFn:=⟨1,[.tmp 2],eL [dF] [gF] c_187_l2 c_187_k3⟩
def aY:AFn:=⟨3,[.tmp 6],jD [qZ,wD 4,xJ 5 2,dE] [i8 15,aP 16 4,aZ 17 16,aL 18 pL 15 17,xM 14 18,bG 19 14,bI 20 14,cC 19,bP 20] (rG [eW 21 4,xL 22 21,aR 23 .geq 22,xM 24 23,d9 25 24 3 4,dB 26 24 25,d9 27 24 3 3,dB 28 24 27,wU 29 24 28,nL 30 24 .lss 26 29,xV 31 24 30,fE 31] [aO 32 4,xL 33 32] 0 (NZ (bN 35 .eql 33) 34 35 34 (v6 [aX 36,bF 37 36] 37 [dW 8] [xF 38 6 4,xL 39 38,xA 40 10 5,bM 41,eK 42 pM 39 40 41,b6 42]) (fC [xK 44 .eql 33 2,xM 43 44] TK (DP 43 (cV [xF 46 4 4,xL 47 46,aR 48 .lss 47,xM 49 48,bB 50 49 4 4,aK 51 49 50,qK 52 49,aK 53 49 52,cJ 54 49 53,cT 55 49 .geq 51 54,xW 56 49 55] 56 [dW 8] (dQ dE)) (iF 58 .eql 33 4 57 58 57 (cV [aX 59,bF 60 59,xM 61 60,cQ 62 61 9,rH 63 61 62,xW 64 61 63] 64 [dW 8] (fU [g7 66 4,xL 67 66,xA 68 10 5,aL 69 mD 67 68,xM 65 69,bG 70 65,bI 71 65,xM 10 70,xM 11 71] [xM 72 11,aR 73 .eql 72,xM 74 73,dP 75 74 7,d9 76 74 3 3,dB 77 74 76,d9 78 74 3 4,dB 79 74 78,fM 80 74 (DQ 3 77 79),d9 81 74 1 80,dB 82 74 81,nL 83 74 .neq 75 82,xV 84 74 83] 84 (dW 10) (jC (xM 85 11) (b6 85)))) (l9 (xK 87 .eql 33 5) 86 87 (gZ 86 (cV [dG 88,bF 89 88] 89 [dW 8] (i9 [g7 91 4,xL 92 91,xA 93 10 5,aL 94 mD 92 93,xM 90 94,bG 95 90,bI 96 90,xM 12 95,xM 13 96] [xM 97 13,aR 98 .neq 97] 98 (xM 99 13) (b6 99) (qE [xF 100 6 4,xL 101 100,xA 102 10 5,eW 103 3,xL 104 103,eW 105 4,xL 106 105,dS 107 104 106,aP 108 107,xL 109 108,eK 110 pM 101 102 109,b6 110]))))))))) (dQ (dW 11)))⟩
def H8:AFn:=⟨2,[.cell 4 true 10],rI [gO,d8 4 nH] [dA 5,xF 6 4 2,xL 7 6,aD 8,dS 9 7 8,aP 10 9,xL 11 10,xO 12 (.build nH [(0,9,(.t 5)),(9,1,(.t 11))]),xS 10 4 12] .ret⟩
def c_190_l0:Xu:=gN [aX 11,dR 12,xL 13 12,xN 14 13,xB 15 .lss 11 14] 15 0 1 (iK [dA 18,dR 19,xL 20 19,aX 21,dS 22 20 21,aO 23 22,aZ 24 23,aL 25 tU 18 24,fE 25] (bJ [dR 26,xL 27 26,aX 28,dS 29 27 28,b9 30 29,xL 31 30,xM 10 31] (X0 2 (l7 [dG 33,aR 34 .eql 33,xM 32 34] 32 [aX 35,aN 35,eA 8] (l7 [xM 37 10,bN 38 .neq 37,xM 39 38,dP 40 39 10,hS 41 39 .neq 40 (dD 2),xV 42 39 41,xM 43 42,dP 44 43 10,hS 45 43 .neq 44 (dD 3),xV 46 43 45,xM 36 46] 36 [aX 47,aN 47,eA 11] (wA (xM 49 10) (xK 50 .eql 49 2) (xM 48 50) (lB 48 [bM 51,bN 52 .add 51,cC 52])))) [aV 53,dG 54,xB 55 .add 53 54,b6 55]))) (aX 16) 17 .add 16 (bP 17)
def c_190_k1:Xu:=iE 3 [bM 57,bN 58 .gtr 57,xM 56 58] 56 [cK (-2),eA 7] (dK [aV 60,xK 61 .gtr 60 64,xM 59 61] 59 [cK (-2),eA 10]) vW
def H9:AFn:=⟨2,cZ,jD DI [dE] (eL [b7 7] [wS] c_190_l0 c_190_k1)⟩
def c_191_l0:Xu:=gN [aF 6,b9 7 3,xL 8 7,xN 9 8,xB 10 .lss 6 9] 10 0 1 (.block 2 (iK [b9 14 3,xL 15 14,aF 16,bT 17 15 16,xL 18 17,aR 19 .lss 18,xM 20 19,bB 21 20 2 3,aK 22 20 21,cQ 23 20 5,v8 24 20 1 22 23,aK 25 20 24,bB 26 20 4 2,aK 27 20 26,cJ 28 20 27,cT 29 20 .geq 25 28,xW 30 20 29,xM 13 30] (NX 13 [cK 8] (w8 [b9 32 3,xL 33 32,b9 34 3,xL 35 34,aF 36,bT 37 35 36,xL 38 37,aL 39 pA 33 38,aF 40,xB 41 .lss 39 40,xM 31 41] 31 [cK 7])))) (aF 11) 12 .add 11 (aS 12)
def c_191_k1:Xu:=v6 [b9 42 3,xL 43 42,eW 44 3,aO 45 44,xL 46 45,aL 47 pA 43 46,aR 48 .lss 47] 48 [cK 8] [dA 49,eW 50 3,aZ 51 50,aL 52 oT 49 51,aN 52]
def HA:AFn:=⟨2,[.tmp 4],eL kU [cY] c_191_l0 c_191_k1⟩
def c_192_l0:Xu:=lE [bM 20,aD 21,xB 22 .lss 20 21] 22 0 1 [xF 25 6 2,xL 26 25,bM 27,xX 28 7 26 27,aO 29 28,xL 30 29,aO 31 6,xL 32 31,xB 33 .eql 30 32] 33 [kV,eA 7] (bM 23) 24 .add 23 (cC 24)
def c_192_l1:Xu:=lE [aX 44,aP 45 6,xL 46 45,xN 47 46,xB 48 .lss 44 47] 48 2 3 [aP 51 6,xL 52 51,aX 53,bT 54 52 53,xL 55 54,aR 56 .lss 55,xM 57 56,dM 58 57 6,aK 59 57 58,cQ 60 57 8,v8 61 57 1 59 60,aK 62 57 61,dM 63 57 2,aK 64 57 63,cJ 65 57 64,cT 66 57 .geq 62 65,xW 67 57 66] 67 GC (aX 49) 50 .add 49 (bP 50)
def c_192_k2:Xu:=cV [b9 68 6,xL 69 68,xM 70 69,wC 71 70 9 2,d9 72 70 3 6,wC 73 70 2 72,l8 74 70 sN [.t 71,.t 73],hS 75 70 .eql 74 dL,xV 76 70 75] 76 GC (cV [b9 77 6,xL 78 77,bF 79 78,xM 80 79,d9 81 80 5 6,dB 82 80 81,wU 83 80 82,hS 84 80 .gtr 83 dL,xV 85 80 84] 85 [kV,eA 11] (l5 [dA 87,aD 88,aL 89 tV 87 88,xM 86 89,bG 90 86,bI 91 86,fE 90,xM 10 91] [xM 92 10,aR 93 .neq 92] 93 [dG 94,xM 95 10,aN 94,aS 95] (cV [dA 96,aD 97,xF 98 6 6,xL 99 98,eK 100 tW 96 97 99,bF 101 100] 101 [kV,eA 14] vW)))
def c_192_k3:Xu:=cV [aP 34 6,xL 35 34,xN 36 35,xK 37 .gtr 36 4,xM 38 37,bB 39 38 5 6,aK 40 38 39,cJ 41 38 40,cE 42 38 .gtr 41 8,xW 43 38 42] 43 DL (nQ [wS] 2 c_192_l1 c_192_k2)
def yH:AFn:=⟨2,cZ,l6 qB (xQ [xF 11 6 2,xL 12 11,aD 13,xX 14 7 12 13,xA 15 7 14,d8 6 FZ,xS 7 6 15] [6]) (cV [aO 16 6,xL 17 16,aI 18 fX 17,bF 19 18] 19 GA (qG [b7 7] c_192_l0 c_192_k3))⟩
def c_193_l0:Xu:=gN NO 8 0 1 (xD [aW 11,aG 12,cG 13,xX 14 5 12 13,eW 15 14,xL 16 15,aI 17 p8 16,xO 18 (DT .add (dD 1) 17),aG 19,cG 20,xX 21 5 19 20,xF 22 4 21,xL 23 22,aI 24 p8 23,xB 25 .add 18 24,xB 26 .add 11 25,fV 26]) (cG 9) 10 .add 9 (aN 10)
def c_193_k1:Xu:=v5 27 27
def HB:AFn:=⟨1,[.tmp 2],jF [dF] [gF] [bO] c_193_l0 c_193_k1⟩
def c_194_l0:Xu:=gN NO 8 0 1 (xD [aW 11,aG 12,cG 13,xX 14 5 12 13,eW 15 14,xL 16 15,aI 17 p9 16,xO 18 (DT .add (dD 1) 17),aG 19,cG 20,xX 21 5 19 20,xF 22 4 21,xL 23 22,aI 24 p9 23,xO 25 (DT .add (dD 1) 24),xO 26 (.minmax true [.t 11,.t 18,.t 25]),fV 26]) (cG 9) 10 .add 9 (aN 10)
def c_194_k1:Xu:=v5 27 27
def HC:AFn:=⟨1,[.tmp 2],jF [dF] [gF] [bO] c_194_l0 c_194_k1⟩
def c_195_l0:Xu:=gN NO 8 0 1 (jD [aW 11,aG 12,cG 13,xX 14 5 12 13,xA 15 5 14,xO 16 (.bslice .imm 5 (List.replicate 1 FY) [(0,(.t 15))]),lC 17 5 88 11 16,fV 17] [aW 18,aG 19,cG 20,xX 21 5 19 20,eW 22 21,xL 23 22,aI 24 mE 23,lC 25 5 88 18 24,fV 25] (xR [aW 26,aG 27,cG 28,xX 29 5 27 28,xF 30 4 29,xL 31 30,aI 32 mE 31,lC 33 5 88 26 32,fV 33])) (cG 9) 10 .add 9 (aN 10)
def c_195_k1:Xu:=v5 34 34
def HD:AFn:=⟨1,[.tmp 2],jF [xC 2 DO] [qC 3 5] [bO] c_195_l0 c_195_k1⟩
def eO:AFn:=⟨3,[.tmp 6],l6 [qZ,dE] (xQ [aD 10,bS 11,xX 12 5 10 11,xA 13 5 12,d8 7 G1,xS 5 7 13] [7]) (iE 0 [aO 15 7,xL 16 15,bN 17 .lss 16,xM 18 17,bB 19 18 0 7,aK 20 18 19,cE 21 18 .gtr 20 3,xW 22 18 21,xM 14 22] 14 [dW 11] (bJ [aO 24 7,xL 25 24,xK 26 .eql 25 2,xM 23 26] (DP 23 (iJ [b9 28 7,xL 29 28,i8 30,xO 31 (.build nH [(0,9,(.t 30))]),aL 32 mD 29 31,xM 27 32,bG 33 27,bI 34 27,bP 33,fE 34] [dG 35,aR 36 .eql 35,xM 37 36,dP 38 37 8,hS 39 37 .neq 38 (dD 1),xV 40 37 39] (lB 40 [xI 9 10]) (jC (dG 41) (b6 41))) (l7 [aP 43 7,xL 44 43,aR 45 .lss 44,xM 46 45,dM 47 46 7,aK 48 46 47,bB 49 46 5 3,aK 50 46 49,cJ 51 46 50,cT 52 46 .geq 48 51,xW 53 46 52,xM 42 53] 42 [dW 8] (qH [aD 55,bS 56,aL 57 B8 55 56,xM 54 57] 54 [dW 7] [aO 59 7,xL 60 59,bN 61 .eql 60,xM 62 61,d9 63 62 3 7,dB 64 62 63,wU 65 62 64,d9 66 62 4 7,dB 67 62 66,wU 68 62 67,nL 69 62 .add 65 68,hS 70 62 .gtr 69 dL,xV 71 62 70,xM 58 71] 58 [dW 5])))) (dQ dE))⟩
def c_197_l0:Xu:=gN SU 19 0 1 (xD [aF 22,dA 23,g7 24 2,xL 25 24,aD 26,xX 27 6 25 26,aP 28 27,xL 29 28,aV 30,dS 31 29 30,aO 32 31,aZ 33 32,aL 34 tU 23 33,xO 35 (.bslice .imm 1 (List.replicate 1 kT) [(0,(.t 34))]),lC 36 1 8 22 35,aS 36]) (aV 20) 21 .add 20 (b6 21)
def c_197_k1:Xu:=DR 37 37
def HE:AFn:=⟨2,[.tmp 4],fU [gO,xC 4 aB] TM 10 GB (eL [qC 5 1] [dE] c_197_l0 c_197_k1)⟩
def gQ:AFn:=⟨3,[.tmp 6],jA qZ dE (bJ [dR 10,xL 11 10,aD 12,aL 13 B9 11 12,fE 13,bG 14 9,bI 15 9,cC 14,bP 15] (iE 0 [cA 17,xL 18 17,aD 19,aL 20 pB 18 19,bF 21 20,xM 22 21,qK 23 22,aK 24 22 23,kW 25 22,qD 26 22 pB [.t 24,.t 25],rH 27 22 26,xW 28 22 27,xM 16 28] 16 [dW 9] (l7 [cA 30,xL 31 30,dR 32,xL 33 32,xB 34 .and 31 33,cA 35,xL 36 35,xB 37 .neq 34 36,xM 29 37] 29 [dW 5] (w8 [bS 39,bN 40 .eql 39,xM 41 40,d9 42 41 1 3,dB 43 41 42,dP 44 41 1,l8 45 41 tX [.t 44],nL 46 41 .neq 43 45,xV 47 41 46,xM 48 47,cQ 49 48 2,cE 50 48 .eql 49 2,cQ 51 48 50,dP 52 51 8,fM 53 51 (PO 52),eU 54 48 (.pick (.t 51) (.t 53) (.c qX)),xW 55 48 54,xM 38 55] 38 [dW 11])) (dQ dE)))⟩
def c_199_l0:Xu:=gN SU 19 0 1 (xR [aF 22,g7 23 2,xL 24 23,aD 25,xX 26 6 24 25,aP 27 26,xL 28 27,aV 29,dS 30 28 29,b9 31 30,xL 32 31,xO 33 (.minmax true [.t 22,.t 32]),aS 33]) (aV 20) 21 .add 20 (b6 21)
def c_199_k1:Xu:=DR 34 34
def yI:AFn:=⟨2,[.tmp 4],fU [gO,bO] TM 10 bO (eL [eA 1] [dE] c_199_l0 c_199_k1)⟩
def HG:AFn:=⟨2,[.tmp 4],jA gO cF (eV [dA 8,aD 9,aL 10 oS 8 9,cC 10,bG 11 7,bI 12 7,aS 11,b6 12] TX)⟩
def c_201_l0:Xu:=gN TR 9 0 1 (dK [aG 12,aF 13,bT 14 12 13,xL 15 14,aD 16,xB 17 .eql 15 16] 17 [aF 18,aN 18]) (aF 10) 11 .add 10 (aS 11)
def c_201_k1:Xu:=dQ kV
def HH:AFn:=⟨2,[.tmp 4],eL [bO] [cY] c_201_l0 c_201_k1⟩
def yJ:AFn:=⟨2,[.tmp 4],gH cF [aD 5,aI 6 mL 5,aV 7,qL 8 7,fM 9 7 (uY .u64 8),dP 10 7 1,l8 11 7 mM [.t 10],nL 12 7 .lss 9 11,xV 13 7 12,aN 13]⟩
def yK:AFn:=⟨4,[],jA (aG 8) (aR 9 .neq 8) (lB 9 [aG 10,aD 11,bS 12,aW 13,xO 14 (.build rC [(0,1,(.t 10)),(1,1,(.t 11)),(2,1,(.t 12)),(3,1,(.t 13))]),xO 15 (.build rC [(0,4,(.t 14))]),xO 16 (.mkiface 225 (.t 15)),⟨none,none,.panic (.t 16)⟩])⟩
def HI:AFn:=⟨2,[.tmp 4],i9 [bO] [nT] 5 (aD 6) (aN 6) (dQ bO)⟩
def HJ:AFn:=⟨1,[.tmp 2],gH lD [qJ,aI 4 fY 3,bF 5 4,aF 2]⟩
def c_206_l0:Xu:=fO 11 .lss 10 9 11 0 1 [cL 12 8 10,aZ 13 12,uX 7 (.str []) gC,cO 7 13] 7 SZ 20 .add 10 10 20
def c_206_k1:Xu:=DR 21 21
def HK:AFn:=⟨2,[.tmp 4],jF w4 [qC 5 1] DF c_206_l0 c_206_k1⟩
def HL:AFn:=⟨1,[.tmp 2],eV DG DH⟩
def c_208_l0:Xu:=dZ 48 .lss 47 46 48 3 4 (jD [cL 49 45 47,aZ 50 49,jG 6 (.str []),cO 6 50] [aP 51 4,xL 52 51,aP 53 6,xS 1 53 52] (dK [aZ 54 6,aZ 55 4,xO 56 (.eqs false true [.s,.i] (.t 54) (.t 55))] 56 [fQ 7])) 57 .add 47 47 57
def c_208_k1:Xu:=xR [bN 58 .add 25,xM 25 58]
def c_208_l2:Xu:=Ud [xB 26 .lss 25 24] 26 1 (rF 2 (jE [xM 27 25,cL 28 23 25,aZ 29 28,jG 4 (.str []),fV 27,cO 4 29] 4 (cV [aO 30 4,xL 31 30,aI 32 fY 31,bF 33 32] 33 [fQ 6] (cV [aP 34 4,xL 35 34,bN 36 .lss 35,xM 37 36,dM 38 37 4,aK 39 37 38,cE 40 37 .gtr 39 32,xW 41 37 40] 41 [fQ 10] (bJ [fP 42,xL 43 42,aW 44,xO 45 (.slc 2 (.t 43) none (some (.t 44)) none),xN 46 45,b7 47] (w6 3 c_208_l0))))) c_208_k1)
def c_208_k3:Xu:=cV [aZ 59 1,aI 60 mN 59,aI 61 pN 60,xK 62 .rem 61 8,aR 63 .neq 62] 63 [fQ 10] (dQ dF)
def oG:AFn:=⟨1,[.tmp 2],jA gG dF (iE 0 [qI 8,xL 9 8,aI 10 fY 9,bF 11 10,cC 11] 7 [fQ 6] (qH [fP 13,xL 14 13,xN 15 14,aR 16 .eql 15,xM 12 16] 12 [fQ 8] [fP 18,xL 19 18,xN 20 19,xK 21 .gtr 20 12,xM 17 21] 17 [fQ 12]) (nQ [fP 22,xL 23 22,xN 24 23,b7 25] 1 c_208_l2 c_208_k3))⟩
def HM:AFn:=⟨2,[.tmp 4],rI [cF] [nT,aD 6,xO 7 (.slc 1 (.t 5) none (some (.t 6)) none),aG 8,aD 9,bT 10 8 9,xL 11 10,aL 12 tY 7 11,aN 12] .ret⟩
def c_210_l0:Xu:=fO 11 .lss 10 9 11 0 1 [cL 12 8 10,aZ 13 12,jG 7 (.str []),cO 7 13] 7 SZ 20 .add 10 10 20
def c_210_k1:Xu:=DR 21 21
def HN:AFn:=⟨2,[.tmp 4],jF w4 [qC 5 1] DF c_210_l0 c_210_k1⟩
def HO:AFn:=⟨1,[.tmp 2],eV DG DH⟩
def HQ:AFn:=⟨1,[.tmp 2],gH lD [qJ,bN 4 .lss 3,aS 4,nR 6 5,cE 7 5 .gtr 6 32,xW 8 5 7,aX 2]⟩
def c_213_l0:Xu:=fO 11 .lss 10 9 11 0 1 [dS 12 8 10,xA 13 3 12,d8 7 [.str [],cU,cU],xS 3 7 13] 7 SY 20 .add 10 10 20
def c_213_k1:Xu:=DR 21 21
def HT:AFn:=⟨2,[.tmp 4],jF w4 [qC 5 1] DF c_213_l0 c_213_k1⟩
def HU:AFn:=⟨1,[.tmp 2],eV DG DH⟩
def lU:AFn:=⟨1,[.tmp 2],jA gG dF (iE 0 [qI 4,xL 5 4,aI 6 fY 5,bF 7 6,bM 3] 3 [fQ 6] (qH [fP 9,xL 10 9,aI 11 bE 10,vA 12 .eql 11 gE,bP 12] 8 [fQ 10] [xA 14 3 1,aI 15 AN 14,bF 16 15,xM 13 16] 13 [fQ 9]) (dQ dF))⟩
def c_216_l0:Xu:=fO 11 .lss 10 9 11 0 1 [dS 12 8 10,xA 13 3 12,d8 7 G2,xS 3 7 13] 7 SY 20 .add 10 10 20
def c_216_k1:Xu:=DR 21 21
def HW:AFn:=⟨2,[.tmp 4],jF w4 [qC 5 1] DF c_216_l0 c_216_k1⟩
def HX:AFn:=⟨1,[.tmp 2],eV DG DH⟩
def c_218_l0:Xu:=fO 38 .lss 37 36 38 0 1 [xM 39 37,xX 40 7 35 37,xA 41 7 40,d8 9 TL,bP 39,xS 7 9 41] 9 (bJ [xA 42 10 7,xA 43 7 9,aL 44 BB 42 43,aS 44] (g0 (aF 45) 46 .neq 45 46 [aX 47,aF 48,aN 47,aS 48])) 49 .add 37 37 49
def c_218_k1:Xu:=jC bO cY
def oH:AFn:=⟨2,cZ,i9 qB [aD 10,aR 11 .lss 10,xM 12 11,kW 13 12,bB 14 12 4 2,aK 15 12 14,cJ 16 12 15,cT 17 12 .geq 13 16,xW 18 12 17] 18 kV (eA 8) (jE [xF 19 4 2,xL 20 19,aD 21,dS 22 20 21,xA 23 3 22,d8 6 G2,xS 3 6 23] 6 (fC [xA 24 3 6,aI 25 BA 24,aS 25] (g0 (aF 26) 27 .neq 26 27 [aF 28,kV,aS 28]) (jE [dA 29,aP 30 6,xL 31 30,xO 32 (.build nH [(0,9,(.t 29)),(9,1,(.t 31))]),xO 33 (.build nH [(0,10,(.t 32))]),d8 7 nH,xS 10 7 33] 7 (qG [b9 34 6,xL 35 34,xN 36 35,b7 37] c_218_l0 c_218_k1))))⟩
def c_219_l0:Xu:=fO 11 .lss 10 9 11 0 1 [xX 12 6 8 10,xA 13 6 12,d8 7 NL,xS 6 7 13] 7 (xR [aF 14,aD 15,xA 16 6 7,DS 17 15 [.t 16],xO 18 NJ,lC 19 1 16 14 18,aS 19]) 20 .add 10 10 20
def c_219_k1:Xu:=DR 21 21
def HY:AFn:=⟨2,[.tmp 4],jF w4 [qC 5 1] DF c_219_l0 c_219_k1⟩
def HZ:AFn:=⟨1,[.tmp 2],eV DG DH⟩
def c_221_l0:Xu:=fO 25 .lss 24 23 25 1 2 [xM 26 24,xX 27 7 22 24,xA 28 7 27,d8 7 FZ,b6 26,xS 7 7 28] 7 (iE 3 [aO 30 7,xL 31 30,aI 32 fY 31,bF 33 32,xM 29 33] 29 [aV 34,eR 34,nK 3,cK 6] (dK [aF 36,aO 37 7,xL 38 37,xO 39 (.lookup .s (.bool false) false (.t 36) (.t 38)),xM 35 39] 35 [aV 40,eR 40,nK 3,cK 7]) (jD [aF 41,aO 42 7,xL 43 42,⟨none,none,.update .s (.t 41) (.t 43) q8⟩] [lS 45,aV 46,aL 47 BC 45 46,xM 44 47,bG 48 44,bI 49 44,bP 48,fE 49] (g0 (dG 50) 51 .neq 50 51 [aV 52,aX 53,dG 54,eR 52,fV 53,aN 54]))) 55 .add 24 24 55
def c_221_k1:Xu:=c9 [dF,gF,bO]
def rQ:AFn:=⟨1,[.tmp 2,.tmp 3,.tmp 4],bJ [gG,dF,gF,bO] (iE 0 [dN 11 6,xL 12 11,xN 13 12,aR 14 .eql 13,xM 10 14] 10 [nK 2,nK 3,cK 8] (dK [dN 16 6,xL 17 16,xN 18 17,xK 19 .gtr 18 12,xM 15 19] 15 [nK 2,nK 3,cK 12]) (EK [xO 20 .mkmap,aS 20] [dN 21 6,xL 22 21,xN 23 22,b7 24] 1 c_221_l0 c_221_k1))⟩
def jX:AFn:=⟨1,[.tmp 2,.cell 3 false 1],i9 [gG,dF,d8 3 [cU]] [dN 6 7,xL 7 6,aI 8 BD 7,xK 9 .gtr 8 24] 9 (nK 2) ⟨none,none,.store 1 (.t 3) (.c (.int .i64 12))⟩ (cV [dN 10 7,xL 11 10,aI 12 pO 11,xK 13 .gtr 12 6] 13 [nK 2,⟨none,none,.store 1 (.t 3) (.c (.int .i64 14))⟩] (jA (d8 4 [cU]) ⟨none,none,.store 1 (.t 4) (.c qA)⟩ (bJ [d8 5 nJ] (iJ [dN 14 7,xL 15 14,xO 16 (.mkfunc (.func tZ) [] [.t 1,.t 5,.t 3,.t 4]),fD 17 gV [.t 15,.t 16]] [xL 18 3,aR 19 .neq 18] (gZ 19 (qE [xL 20 4,xL 21 3,eR 20,xS 1 3 21])) (jC dF ⟨none,none,.store 1 (.t 3) (.c qA)⟩)))))⟩
def c_223_l0:Xu:=dZ 14 .lss 13 12 14 0 1 (bJ [xM 15 13,bT 16 11 13,xL 17 16,aN 15,aS 17] (.block 2 (qH [aF 19,aR 20 .lss 19,xM 21 20,cQ 22 21 5,dM 23 21 1,aK 24 21 23,cJ 25 21 24,cT 26 21 .geq 22 25,xW 27 21 26,xM 18 27] 18 [cG 28,eR 28,xI 3 8] [dN 30 8,xL 31 30,cG 32,xO 33 (.slc 1 (.t 31) none (some (.t 32)) none),aF 34,aL 35 BG 33 34,xM 29 35] 29 [cG 36,eR 36,xI 3 7]))) 37 .add 13 13 37
def c_223_k1:Xu:=jC dF gF
def yL:AFn:=⟨1,rD,i9 [gG,dF,gF] TN 9 (nK 2) (xI 3 12) (qG [dN 10 8,xL 11 10,xN 12 11,b7 13] c_223_l0 c_223_k1)⟩
def I4:AFn:=⟨1,[.tmp 2],eV [gG,lD] [b9 3 1,xL 4 3,bN 5 .geq 4,aF 6,d9 7 6 2 1,dB 8 6 7,hS 9 6 .leq 8 (dD 64),xV 10 6 9,eR 10]⟩
def oI:AFn:=⟨1,[.tmp 2],fU [lD] [qJ,xO 4 (.slen (.t 3)),aR 5 .eql 4,aF 6,nR 7 6,eU 8 6 (.slen (.t 7)),cE 9 6 .gtr 8 16,xW 10 6 9,xM 11 10,nR 12 11,eU 13 11 (.idxs (.t 12) dL),qD 14 11 u5 [.t 13],rH 15 11 14,xW 16 11 15] 16 lD (c9 [aG 17,GD 18 BH 17 (.c (.func (.func pP) [] [])),aG 19,xO 20 (.slen (.t 19)),xB 21 .eql 18 20,eR 21])⟩
def c_238_l0:Xu:=fO 15 .lss 14 13 15 0 1 [xM 16 14,dS 17 12 14,xA 18 3 17,d8 9 G7,bP 16,xS 3 9 18] 9 (l5 [dA 19,aO 20 9,aZ 21 20,aL 22 iR 19 21,xM 10 22] [xM 23 10,aR 24 .eql 23] 24 [aX 25,aN 25,eA 8] (fC [b9 26 9,xL 27 26] (.block 2 (iF 30 .eql 27 2 29 30 29 (xR [aV 31,bN 32 .add 31,b6 32]) (fC [bN 34 .eql 27,xM 33 34] (EO 33 (xR [xK 35 .eql 27 3,xM 33 35])) (EO 33 (c9 [aX 28,aN 28,eA 11]))))) (xR [bM 36,xM 37 10,xB 38 .add 36 37,cC 38]))) 39 .add 14 14 39
def c_238_k1:Xu:=cV [aV 40,bN 41 .gtr 40] 41 [cK (-2),eA 7] (cV [bM 42,xK 43 .gtr 42 64] 43 [cK (-2),eA 10] vW)
def I5:AFn:=⟨2,cZ,jF DI [dE,b7 7] [dR 11,xL 12 11,xN 13 12,b7 14] c_238_l0 c_238_k1⟩
def c_239_l0:Xu:=dZ 13 .lss 12 11 13 0 1 (fU [bT 14 10 12,xL 15 14,cC 15] [bM 16,aR 17 .lss 16,xM 18 17,cQ 19 18 7,bB 20 18 4 2,aK 21 18 20,cJ 22 18 21,cT 23 18 .geq 19 22,xW 24 18 23] 24 (cK 8) (cV [aF 25,bM 26,xO 27 (.lookup .i (.bool false) false (.t 25) (.t 26))] 27 [cK 7] (xR [aF 28,bM 29,⟨none,none,.update .i (.t 28) (.t 29) q8⟩]))) 30 .add 12 12 30
def c_239_k1:Xu:=v6 [aF 31,eW 32 3,aO 33 32,xL 34 33,xO 35 (.lookup .i (.bool false) false (.t 31) (.t 34)),bF 36 35] 36 [cK 8] [dA 37,eW 38 3,aZ 39 38,aL 40 mB 37 39,aN 40]
def I6:AFn:=⟨2,[.tmp 4],jF kU [xO 8 .mkmap,aS 8] [b9 9 3,xL 10 9,xN 11 10,b7 12] c_239_l0 c_239_k1⟩
def I7:AFn:=⟨2,[.tmp 4],jA gO cF (eV [dA 8,aD 9,aL 10 oV 8 9,cC 10,bG 11 7,bI 12 7,aS 11,b6 12] TX)⟩
def yM:AFn:=⟨2,[.tmp 4],gH cF [aD 5,xO 6 TF,aI 7 fZ 6,bM 8,qL 9 8,dP 10 8 1,l8 11 8 bE [.t 10],nL 12 8 .leq 9 11,xV 13 8 12,aN 13]⟩
def c_242_l0:Xu:=dZ 14 .lss 13 12 14 0 1 (l9 (xM 15 13) 6 15 (dK [aV 16,aD 17,aL 18 BJ 16 17,aG 19,xB 20 .eql 18 19] 20 [aV 21,aN 21,w9 5])) 22 .add 13 13 22
def c_242_k1:Xu:=jC bO (eQ 5)
def yN:AFn:=⟨2,cZ,i9 G9 [aD 7,xO 8 TG,aI 9 fZ 8,bF 10 9] 10 bO (eQ 5) (qG [aD 11,bN 12 .add 11,b7 13] c_242_l0 c_242_k1)⟩
def c_251_l0:Xu:=gN [xM 51 14,dG 52,xB 53 .lss 51 52] 53 0 1 (l5 [aG 57,xM 58 13,xA 59 10 5,eK 60 pH 57 58 59,xM 56 60,bG 61 56,bI 62 56,xE 63 2 56,xM 15 61,xM 16 62,xM 17 63] [xM 64 17,aR 65 .neq 64] 65 [xM 66 16,xM 67 17,dE,cC 66,bP 67] (bJ [xM 68 12,xM 69 15,xO 70 (.bslice .imm 1 (List.replicate 1 kT) [(0,(.t 69))]),lC 71 1 8 68 70,xM 12 71] (xR [xM 72 16,xM 13 72]))) (xM 54 14) 55 .add 54 (xM 14 55)
def c_251_k1:Xu:=eV [aG 74,aD 75,dS 76 74 75,xA 77 3 76,xM 78 12,aL 79 pQ 77 78,xM 73 79,bG 80 73,bI 81 73,xM 18 80,xM 19 81] [xM 82 18,xM 83 13,xM 84 19,b6 82,cC 83,bP 84]
def iN:AFn:=⟨3,[.tmp 6,.tmp 7,.tmp 8],l5 [xJ 5 2,dE,b7 7,wS] [aD 20,aG 21,xN 22 21,xB 23 .geq 20 22] 23 [aD 24,dE,cC 24,xI 8 3] (l5 [aG 25,aD 26,dS 27 25 26,aO 28 27,xL 29 28,aI 30 AS 29,fE 30] [dG 31,aR 32 .lss 31] 32 [aD 33,dE,cC 33,xI 8 11] (fC [dG 34,aR 35 .eql 34] (gZ 35 (iK [aG 37,aD 38,dS 39 37 38,xA 40 3 39,xA 41 10 5,aL 42 BK 40 41,xM 36 42,bG 43 36,bI 44 36,xM 10 43,xM 11 44] (c9 [xM 45 10,aD 46,bN 47 .add 46,xM 48 11,b6 45,cC 47,bP 48]))) (jF [qC 12 1] [aD 49,bN 50 .add 49,xM 13 50] [b7 14] c_251_l0 c_251_k1)))⟩
def jY:AFn:=⟨1,[.tmp 2],bJ [dF] (iE 0 [aG 4,bN 5 .geq 4,aF 6,qL 7 6,hS 8 6 .leq 7 (dD 4),xV 9 6 8,dG 3] 3 [dF] (l7 [aG 11,xK 12 .geq 11 5,xM 13 12,qL 14 13,hS 15 13 .leq 14 (dD 8),xV 16 13 15,xM 10 16] 10 [fQ 1] (qH [aG 18,xK 19 .geq 18 9,xM 20 19,qL 21 20,hS 22 20 .leq 21 (dD 16),xV 23 20 22,xM 17 23] 17 [fQ 2] [aG 25,xK 26 .eql 25 17,xM 24 26] 24 [fQ 3])) (dQ (nK 2)))⟩
def c_263_l0:Xu:=dZ 8 .lss 7 6 8 0 1 (v9 9 5 7 (xL 10 9) (aN 10) (dK [cG 11,bN 12 .lss 11,xM 13 12,cQ 14 13 4,cE 15 13 .gtr 14 32,xW 16 13 15] 16 [lD])) 17 .add 7 7 17
def c_263_k1:Xu:=qY 2
def lW:AFn:=⟨1,[.tmp 2],eL [lD] [nT,xN 6 5,b7 7] c_263_l0 c_263_k1⟩
def c_264_l0:Xu:=dZ 22 .lss 21 20 22 0 1 (l9 (xM 23 21) 4 23 (uZ [(1,10)] [⟨some 24,none,.faddr 1 (.t 3)⟩,⟨some 25,none,.load false 1 (.t 24)⟩,⟨some 26,none,.mov (.t 4)⟩,⟨some 27,none,.faddr 1 (.t 1)⟩,⟨some 28,none,.load false 1 (.t 27)⟩,⟨some 29,none,.mov (.t 4)⟩,⟨some 30,none,.iaddr 2 none (.t 28) (.t 29)⟩,⟨some 31,none,.faddr 1 (.t 30)⟩,⟨some 32,none,.load false 1 (.t 31)⟩,⟨some 33,none,.len (.t 32)⟩,⟨some 34,none,.mkslice .row 1 4 vV (.t 33) (.t 33)⟩,⟨some 35,none,.iaddr 1 none (.t 25) (.t 26)⟩,⟨none,none,.store 1 (.t 35) (.t 34)⟩] none)) 36 .add 21 21 36
def c_264_k1:Xu:=EP (bX 37 3) 37
def rR:AFn:=⟨1,iI,l6 TP (uZ [(3,5),(1,7),(3,7),(3,9),(7,9),(1,11),(3,11),(5,11),(7,11),(1,13),(3,13),(5,13),(7,13),(9,13),(11,13)] [⟨some 5,none,.faddr 1 (.t 1)⟩,⟨some 6,none,.load false 1 (.t 5)⟩,⟨some 7,none,.len (.t 6)⟩,⟨some 8,none,.mkslice .row 1 1 [.bool false] (.t 7) (.t 7)⟩,⟨some 9,none,.faddr 1 (.t 1)⟩,⟨some 10,none,.load false 1 (.t 9)⟩,⟨some 11,none,.len (.t 10)⟩,⟨some 12,none,.mkslice .row 1 24 nJ (.t 11) (.t 11)⟩,⟨some 13,none,.faddr 2 (.t 1)⟩,⟨some 14,none,.load false 1 (.t 13)⟩,⟨some 15,none,.len (.t 14)⟩,⟨some 16,none,.mkslice .row 1 4 vV (.t 15) (.t 15)⟩,⟨some 17,none,.build G0 [(0,1,(.t 8)),(1,1,(.t 12)),(2,1,(.t 16))]⟩,⟨some 3,none,.alloc G0⟩,⟨none,none,.store 4 (.t 3) (.t 17)⟩] (some [3])) (qG [fP 18,xL 19 18,xN 20 19,b7 21] c_264_l0 c_264_k1)⟩
def c_265_l0:Xu:=fO 22 .lss 21 20 22 0 1 [cL 23 19 21,aZ 24 23,uX 9 (.str []) gC,cO 9 24] 9 (dK [aZ 25 9,aI 26 iS 25,aR 27 .neq 26] 27 [cK 2]) 28 .add 21 21 28
def c_265_k1:Xu:=cV [aD 29,xN 30 29,xK 31 .gtr 30 512] 31 [cK 4] (dQ bO)
def I8:AFn:=⟨2,[.tmp 4],iJ [gO,bO] [dA 11,aI 12 tB 11,xM 10 12,bG 13 10,bI 14 10,xE 15 2 10,aS 13,b6 14,cC 15] (g0 (bM 16) 17 .neq 16 17 [cK 2]) (qG [i7 18,xL 19 18,xN 20 19,b7 21] c_265_l0 c_265_k1)⟩
def I9:AFn:=⟨1,[.tmp 2],gH (xC 2 .nilptr) [qJ,X4 4 1 1 (.c aB) 3,xO 5 (.build TS [(0,1,(.t 4)),(2,1,q8)]),gD 6 5,aV 2]⟩
def c_267_l0:Xu:=dZ 17 .lss 16 15 17 0 1 (v9 18 14 16 (xL 19 18) (xM 10 19) (i9 [aP 21 4,xL 22 21,xM 23 10,cL 24 22 23,aZ 25 24,aW 26,fD 27 mO [.t 25,.t 26],xM 20 27,bG 28 20,bI 29 20,xM 11 28,xM 12 29] [xM 30 12,aR 31 .neq 30] 31 (xM 32 12) (bP 32) (uZ [(4,8)] [⟨some 33,none,.faddr 0 (.t 6)⟩,⟨some 34,none,.load false 1 (.t 33)⟩,⟨some 35,none,.mov (.t 10)⟩,⟨some 36,none,.faddr 1 (.t 6)⟩,⟨some 37,none,.load false 1 (.t 36)⟩,⟨some 38,none,.mov (.t 10)⟩,⟨some 39,none,.mov (.t 11)⟩,⟨some 40,none,.iaddr 1 none (.t 34) (.t 35)⟩,⟨none,none,.store 1 (.t 40) q8⟩,⟨some 41,none,.iaddr 1 none (.t 37) (.t 38)⟩,⟨none,none,.store 1 (.t 41) (.t 39)⟩] none))) 42 .add 16 16 42
def c_267_k1:Xu:=dQ wS
def rS:AFn:=⟨4,[.tmp 8],eL [gD 4 0,gD 5 1,gD 6 2,wS] [aP 13 5,xL 14 13,xN 15 14,b7 16] c_267_l0 c_267_k1⟩
def c_268_l0:Xu:=fO 18 .lss 17 16 18 0 1 [dS 19 15 17,xA 20 3 19,d8 7 [gE,gE,cU],xS 3 7 20] 7 (dK [aF 21,aO 22 7,xL 23 22,xB 24 .xor 21 23,aP 25 7,xL 26 25,xB 27 .and 24 26,vA 28 .eql 27 gE] 28 [b9 29 7,xL 30 29,aN 30]) 31 .add 17 17 31
def c_268_k1:Xu:=c9 [xF 32 6 2,xL 33 32,aN 33]
def yO:AFn:=⟨2,[.tmp 4],iJ kU [b9 8 2,xL 9 8] (gZ 9 (jD [bX 10 3,eW 11 2,aZ 12 11,aL 13 mH 10 12,aS 13] [g7 14 2,xL 15 14,xN 16 15,b7 17] (w6 0 c_268_l0))) c_268_k1⟩
def yP:AFn:=⟨1,rD,i9 [xC 2 aB,gF] [aG 4,aI 5 pR 4,bF 6 5] 6 (xC 2 aB) (xI 3 1) (cV [aG 7,bQ 8 7,aP 9 8,xL 10 9,xK 11 .rem 10 8,aR 12 .neq 11] 12 [xC 2 aB,xI 3 10] (qE [aG 13,bQ 14 13,aO 15 14,xL 16 15,aG 17,bQ 18 17,aP 19 18,xL 20 19,xK 21 .quo 20 8,xO 22 (.slc 1 (.t 16) (some (.t 21)) none none),X4 23 1 1 (.c aB) 22,eR 23,gF]))⟩
def c_270_l0:Xu:=dZ 9 .lss 8 7 9 0 1 (v9 10 6 8 DN (aS 11) (xR [aW 12,aF 13,X3 14 .row 1 1 (.t 12) 13,fV 14])) 15 .add 8 8 15
def c_270_k1:Xu:=v5 16 16
def rT:AFn:=⟨1,[.tmp 2],jF vY [xC 3 aB] lQ c_270_l0 c_270_k1⟩
def c_271_l0:Xu:=dZ 9 .lss 8 7 9 0 1 (v9 10 6 8 DN (aS 11) (xR [aW 12,aF 13,X3 14 .row 1 4 (.t 12) 13,fV 14])) 15 .add 8 8 15
def c_271_k1:Xu:=v5 16 16
def rU:AFn:=⟨1,[.tmp 2],jF vY [xC 3 aB] lQ c_271_l0 c_271_k1⟩
def c_272_l0:Xu:=dZ 9 .lss 8 7 9 0 1 (v9 10 6 8 DN (aS 11) (xR [aW 12,aF 13,lC 14 1 1 12 13,fV 14])) 15 .add 8 8 15
def c_272_k1:Xu:=v5 16 16
def IA:AFn:=⟨1,[.tmp 2],jF vY [qC 3 1] lQ c_272_l0 c_272_k1⟩
def rV:AFn:=⟨2,G5,bJ [jG 4 (.str [])] (i9 [jG 5 (.str [])] FV 13 (aZ 14 5) (cO 4 14) TH)⟩
def rW:AFn:=⟨2,[.tmp 4],l5 [gO,xC 4 gC] [aD 5,xK 6 .eql 5 (-1)] 6 [b9 7 2,xL 8 7,aN 8] (c9 [i7 9,xL 10 9,aD 11,aL 12 BL 10 11,xO 13 (.fld false 1 1 (.t 12)),aN 13])⟩
def yQ:AFn:=⟨2,[.tmp 4],gH cF NK⟩
def dC:AFn:=⟨2,[.tmp 4],bJ w4 (i9 [xC 5 aB] FV 13 (aF 14) (aN 14) TI)⟩
def rX:AFn:=⟨2,[.tmp 4],bJ [cF] (i9 [eQ 5] FV 13 (aF 14) (aN 14) TI)⟩
def oJ:AFn:=⟨1,[.tmp 2],rG [gG,xC 2 .niliface] [qI 3,xL 4 3] 0 (l7 [bN 6 .eql 4,aS 6] 5 [xA 7 5 1,xO 8 (.build FY [(0,5,(.t 7))]),xO 9 (.mkiface 413 (.t 8)),eR 9] (l7 [xK 11 .eql 4 3,xM 10 11] 10 [xA 12 5 1,xO 13 (.build FY [(0,5,(.t 12))]),xO 14 (.mkiface 414 (.t 13)),eR 14] (L5 (xK 16 .eql 4 2) (xM 15 16) 15 [xA 17 5 1,xO 18 (.build FY [(0,5,(.t 17))]),xO 19 (.mkiface 415 (.t 18)),eR 19]))) (c9 [xO 20 (.build [] []),xO 21 (.mkiface 417 (.t 20)),eR 21])⟩
def yR:AFn:=⟨2,[.tmp 4],wA gO v7 (g6 4) (fU [bX 8 2,aZ 9 3,aL 10 kG 8 9,cC 10,bG 11 7,bI 12 7,aS 11,b6 12] [aV 13,bF 14 13] 14 (g6 4) (c9 [aF 15,dR 16,xL 17 16,bT 18 15 17,xL 19 18,aN 19]))⟩
def IB:AFn:=⟨2,[.tmp 3],eV [gO,eQ 3] [i7 4,bX 5 4,xL 6 1,aL 7 B5 5 6,bM 3]⟩
def c_281_l0:Xu:=fO 17 .lss 16 15 17 0 1 [xM 18 16,cL 19 14 16,aZ 20 19,uX 6 gE gE,aS 18,cO 6 20] 6 (w8 [aD 21,aF 22,bT 23 21 22,xL 24 23,aO 25 6,xL 26 25,xB 27 .xor 24 26,aP 28 6,xL 29 28,xB 30 .and 27 29,vA 31 .neq 30 gE] 31 [cF]) 32 .add 16 16 32
def c_281_k1:Xu:=qY 4
def yS:AFn:=⟨2,[.tmp 4],n8 [gO,cF] [aD 7,xN 8 7,iL 9,xL 10 9,xN 11 10,xB 12 .neq 8 11] 12 cF [iL 13,xL 14 13,xN 15 14,b7 16] c_281_l0 c_281_k1⟩
def c_282_l0:Xu:=fO 12 .lss 11 10 12 0 1 [xX 13 5 9 11,xA 14 5 13,d8 7 lP,xS 5 7 14] 7 (dK [aD 15,xA 16 5 7,DS 17 15 [.t 16]] 17 [xA 18 5 7,xS 5 4 18,w9 5]) 19 .add 11 11 19
def c_282_k1:Xu:=gH (d8 8 lP) [xA 20 5 8,xS 5 4 20,eQ 5]
def IC:AFn:=⟨2,[.cell 4 true 5,.tmp 5],eL [d8 4 lP,eQ 5] G3 c_282_l0 c_282_k1⟩
def rY:AFn:=⟨5,[.tmp 6],fU [uV 5,eQ 6] [xL 9 1,xA 10 5 5,DS 11 9 [.t 10],bF 12 11] 12 (eQ 6) (jE [xL 14 2,xO 15 (.mkfunc (.func tJ) [] [.t 1,.t 3,.t 4,.t 5]),fD 16 mI [.t 14,.t 15],xM 13 16,bG 17 13,bI 18 13,d8 7 lP,xS 5 7 17,bP 18] 7 (c9 [aX 19,bF 20 19,b6 20]))⟩
def ID:AFn:=⟨5,[.tmp 6],eV [uV 5,eQ 6] [xL 7 1,xA 8 5 5,DS 9 7 [.t 8],dG 10,wC 11 10 9 2,dB 12 10 3,wC 13 10 5 5,wC 14 10 5 4,l8 15 10 B6 [.t 11,.t 12,.t 13,.t 14],xV 16 10 15,b6 16]⟩
def rZ:AFn:=⟨4,[.tmp 8],l5 [uV 4,xJ 6 2,xJ 7 3,eQ 8] [aP 11 6,aP 12 11,xL 13 12,aP 14 7,aP 15 14,xL 16 15,xB 17 .neq 13 16] 17 [aP 18 6,aP 19 18,xL 20 19,aP 21 7,aP 22 21,xL 23 22,xB 24 .gtr 20 23,bP 24] (.seq (iK [i6 25 4,aD 26,aP 27 6,bX 28 27,eK 29 u6 25 26 28,i6 30 4,aD 31,aP 32 7,bX 33 32,eK 34 u6 30 31 33,fE 29,xM 10 34] (dK [dG 35,xM 36 10,xB 37 .neq 35 36] 37 [dG 38,xM 39 10,xB 40 .gtr 38 39,bP 40])) (c9 [aO 41 6,xL 42 41,aO 43 7,xL 44 43,xB 45 .lss 42 44,bP 45]))⟩
def IE:AFn:=⟨1,[.cell 2 true 5],jA (gD 1 0) (d8 2 lP) (bJ [fP 3,cA 4,xL 5 4,aI 6 FC 5,fP 7,aO 8 7,xS 1 8 6] (eV [fP 9,b9 10 9,aP 11 10,xL 12 11,aI 13 oY 12,fP 14,b9 15 14,aP 16 15,xS 1 16 13] [xA 17 5 1,xS 5 2 17]))⟩
def c_287_l0:Xu:=dZ 12 .lss 11 10 12 0 1 SR 28 .add 11 11 28
def c_287_k1:Xu:=v5 29 29
def IF:AFn:=⟨1,[.tmp 2],jF vY TB G3 c_287_l0 c_287_k1⟩
def IG:AFn:=⟨2,[],bJ [gD 3 1] (xD [aG 4,nT,bQ 6 5,aO 7 6,aO 8 7,i6 9 8,aG 10,bQ 11 10,xF 12 11 11,bX 13 12,dR 14,aZ 15 14,aG 16,xF 17 6 3,xL 18 17,aL 19 mP 16 18,EL 20 kC (.t 9) (.t 13) (.t 15) (.t 19),bQ 21 4,xF 22 11 21,dY 22 20])⟩
def IH:AFn:=⟨2,[],bJ [gD 3 1] (xD [aG 4,nT,bQ 6 5,aO 7 6,aO 8 7,i6 9 8,aG 10,bQ 11 10,xF 12 11 11,bX 13 12,xF 14 4 3,xL 15 14,eK 16 BM 9 13 15,bQ 17 4,xF 18 11 17,dY 18 16])⟩
def II:AFn:=⟨2,[],bJ [gD 3 1] (xD [aG 4,nT,bQ 6 5,aO 7 6,aO 8 7,i6 9 8,aG 10,bQ 11 10,xF 12 11 11,bX 13 12,xF 14 4 3,xL 15 14,eK 16 BN 9 13 15,bQ 17 4,xF 18 11 17,dY 18 16])⟩
def IJ:AFn:=⟨2,[],rI [gD 3 1] [nT,bQ 6 5,aO 7 6,aO 8 7,i6 9 8,aG 10,bQ 11 10,xF 12 15 11,xL 13 12,eW 14 3,xL 15 14,aG 16,g7 17 3,xL 18 17,aL 19 mP 16 18,EL 20 BO (.t 9) (.t 13) (.t 15) (.t 19),aN 20] (xD [aG 21,aG 22,bQ 23 22,aO 24 23,aO 25 24,i6 26 25,aG 27,bQ 28 27,xF 29 11 28,bX 30 29,dR 31,aZ 32 31,cG 33,EL 34 kC (.t 26) (.t 30) (.t 32) (.t 33),bQ 35 21,xF 36 11 35,dY 36 34])⟩
def IK:AFn:=⟨2,[],bJ [gD 3 1] (xD [aG 4,nT,bQ 6 5,aO 7 6,aO 8 7,i6 9 8,aG 10,bQ 11 10,xF 12 15 11,xL 13 12,eW 14 3,xL 15 14,aG 16,g7 17 3,xL 18 17,aL 19 mP 16 18,aG 20,xF 21 6 3,xL 22 21,aL 23 mP 20 22,GE 24 u9 [.t 9,.t 13,.t 15,.t 19,.t 23],bQ 25 4,xF 26 15 25,xS 1 26 24])⟩
def oK:AFn:=⟨2,cZ,i9 [v7,bO,cY] [aG 7,xN 8 7,xK 9 .gtr 8 24] 9 bO (eA 12) (bJ [xA 11 10 3,aG 12,ydd 13 uA 11 (.t 12) dL,xM 10 13,bG 14 10,bI 15 10,xE 16 2 10,aN 14,b6 15,aS 16] (iE 0 [aF 18,aR 19 .neq 18,xM 17 19] 17 [aF 20,bO,aS 20] (dK [aV 22,aG 23,xN 24 23,xB 25 .lss 22 24,xM 21 25] 21 [bO,eA 4]) (c9 [cG 26,aN 26,cY])))⟩
def eC:AFn:=⟨1,NV,l6 [jG 2 gE] (uZ [(3,10),(7,10),(9,10)] [⟨some 9,none,.mov (.t 0)⟩,⟨some 10,none,.nilchk (.t 9)⟩,⟨some 11,none,.faddr 15 (.t 10)⟩,⟨some 12,none,.load false 1 (.t 11)⟩,⟨some 13,none,.mov (.t 0)⟩,⟨some 14,none,.nilchk (.t 13)⟩,⟨some 15,none,.faddr 16 (.t 14)⟩,⟨some 16,none,.load false 1 (.t 15)⟩,⟨some 17,none,.iaddr 3 none (.t 12) (.t 16)⟩,⟨some 18,none,.load true 3 (.t 17)⟩,⟨some 3,none,.alloc NM⟩,⟨none,none,.store 3 (.t 3) (.t 18)⟩] (some [3])) (rG [aG 19,bQ 20 19,xF 21 16 20,xL 22 21,bN 23 .add 22,bQ 24 19,xF 25 16 24,xS 1 25 23] [cA 26,xL 27 26,aI 28 pS 27] 0 (l7 [aR 30 .eql 28,xM 29 30] 29 [aG 31,xA 32 3 3,aL 33 BP 31 32,cO 2 33] (NZ (bN 35 .eql 28) 34 35 34 (.seq (uZ [(0,2)] [⟨some 36,none,.load true 3 (.t 3)⟩,⟨some 37,none,.mov (.t 0)⟩,⟨some 38,none,.tcall fJ [.t 37]⟩,⟨some 39,none,.pcall BQ [.t 36,.t 38]⟩,⟨none,none,.store 2 (.t 2) (.t 39)⟩] none) .ret) (l9 (xK 41 .eql 28 2) 40 41 (gZ 40 (jE [aG 42,fD 43 fJ [.t 42],jG 4 gE,cO 4 43] 4 (jE [aG 44,fD 45 fJ [.t 44],jG 5 gE,cO 5 45] 5 (c9 [cA 46,xL 47 46,aZ 48 4,aZ 49 5,eK 50 BR 47 48 49,cO 2 50]))))))) (jE [aG 51,fD 52 fJ [.t 51],jG 6 gE,cO 6 52] 6 (jE [aG 53,fD 54 fJ [.t 53],jG 7 gE,cO 7 54] 7 (jE [aG 55,fD 56 fJ [.t 55],jG 8 gE,cO 8 56] 8 (cV [aO 57 6,xL 58 57,vA 59 .eql 58 (L4 1)] 59 [aZ 60 7,cO 2 60] (jC (aZ 61 8) (cO 2 61)))))))⟩
def c_295_l0:Xu:=fO 20 .lss 19 18 20 0 1 [cL 21 17 19,aZ 22 21,uX 8 (.str []) gC,cO 8 22] 8 (dK [aZ 23 8,aI 24 iS 23,aR 25 .neq 24] 25 [cF]) 26 .add 19 19 26
def c_295_k1:Xu:=c9 [dA 27,bX 28 3,aL 29 BS 27 28,aR 30 .eql 29,aN 30]
def IL:AFn:=⟨2,[.tmp 4],iJ G8 [dA 10,aI 11 tC 10,fE 11,bG 12 9,bI 13 9,aS 12,b6 13] (g0 (aV 14) 15 .neq 14 15 [cF]) (qG [i7 16,xL 17 16,xN 18 17,b7 19] c_295_l0 c_295_k1)⟩
def IM:AFn:=⟨0,[.tmp 0],gH (xC 0 .nilptr) [xO 1 (.build TS [(2,1,q8)]),gD 2 1,bS 0]⟩
def yT:AFn:=⟨4,[],bJ [qI 5,xL 6 5,aG 7,bT 8 6 7,xL 9 8] (gZ 9 (xD [i7 10,xL 11 10,aG 12,cL 13 11 12,aZ 14 13,fP 15,xL 16 15,aG 17,bT 18 16 17,xL 19 18,xL 20 3,fD 21 tT [.t 14,.t 19,.t 20]]))⟩
def c_298_l0:Xu:=fO 47 .lss 46 45 47 0 1 [xM 48 46,cL 49 44 46,aZ 50 49,jG 13 (.str []),xM 12 48,cO 13 50] 13 (iK [bS 51,aD 52,xM 53 12,bT 54 52 53,xL 55 54,aP 56 13,xL 57 56,fD 58 kK [.t 51,.t 55,.t 57],xM 14 58] (g0 (xM 59 14) 60 .neq 59 60 [xM 61 14,b6 61])) 62 .add 46 46 62
def c_298_k1:Xu:=dQ dE
def s5:AFn:=⟨3,[.tmp 6],iJ [gD 3 0,dE] [aZ 15 3,aI 16 iS 15,cC 16] (g0 (bM 17) 18 .neq 17 18 [bM 19,b6 19]) (fC [bS 21,fD 22 mK [.t 21],xM 20 22,bG 23 20,bI 24 20,bP 23,fE 24] (L5 (dG 25) (bN 26 .eql 25) 26 [dW 1]) (cV [aD 27,xN 28 27,dR 29,xL 30 29,xN 31 30,xB 32 .neq 28 31] 32 [dW 2] (fC [aD 34,aZ 35 3,aI 36 mN 35,aL 37 BT 34 36,xM 33 37,bG 38 33,bI 39 33,xM 10 38,xM 11 39] (g0 (xM 40 11) 41 .neq 40 41 [xM 42 11,b6 42]) (qG [dR 43,xL 44 43,xN 45 44,b7 46] c_298_l0 c_298_k1))))⟩
def yU:AFn:=⟨1,rD,i9 [xC 2 aB,gF] [aG 4,xO 5 (.eqn false (.t 4) (.c .nilptr)),aF 6,nR 7 6,eU 8 6 (NW 7),bB 9 6 2 8,aK 10 6 9,rH 11 6 10,xW 12 6 11] 12 (xC 2 aB) (xI 3 1) (v6 [aG 13,bQ 14 13,aP 15 14,xL 16 15,xK 17 .rem 16 8,aR 18 .neq 17] 18 [xC 2 aB,xI 3 10] [aG 19,bQ 20 19,aO 21 20,xL 22 21,X4 23 1 1 (.c aB) 22,eR 23,gF])⟩
def gR:AFn:=⟨2,cZ,bJ [gO,v7,bO,eQ 5] SQ⟩
def s6:AFn:=⟨3,[.tmp 6],jA (wD 4) dE (fU [aG 10,xA 11 10 4,aL 12 mD 10 11,fE 12,bG 13 9,bI 14 9,cC 13,bP 14] [aX 15,aR 16 .eql 15,xM 17 16,dP 18 17 7,dP 19 17 2,nL 20 17 .neq 18 19,xV 21 17 20] 21 (dW 10) (jC (aX 22) (b6 22)))⟩
def eD:AFn:=⟨2,[.tmp 4],wA gO v7 bO SP⟩
def c_303_l0:Xu:=gN [aX 19,g7 20 6,xL 21 20,xN 22 21,xB 23 .lss 19 22] 23 0 1 (jE [g7 26 6,xL 27 26,aX 28,dS 29 27 28,xA 30 3 29,d8 9 [gE,gE,cU],xS 3 9 30] 9 (cV [aO 31 9,xL 32 31,bM 33,aL 34 oU 32 33,bF 35 34,xM 36 35,dM 37 36 9,aK 38 36 37,cQ 39 36 7,qD 40 36 oU [.t 38,.t 39],rH 41 36 40,xW 42 36 41] 42 [aX 43,aN 43,eA 9] (cV [aO 44 9,xL 45 44,aP 46 9,xL 47 46,xB 48 .and 45 47,aO 49 9,xL 50 49,xB 51 .neq 48 50] 51 [aX 52,aN 52,eA 5] (dK [dA 53,aD 54,b9 55 9,xL 56 55,eK 57 tW 53 54 56,bF 58 57] 58 [aX 59,aN 59,eA 14])))) (aX 24) 25 .add 24 (bP 25)
def c_303_k1:Xu:=jC kV cY
def IO:AFn:=⟨2,cZ,l6 qB (xQ [xF 10 6 2,xL 11 10,aD 12,xX 13 7 11 12,xA 14 7 13,d8 6 FZ,xS 7 6 14] [6]) (eL [dA 15,eW 16 6,aZ 17 16,aL 18 sN 15 17,cC 18] [wS] c_303_l0 c_303_k1)⟩
def oL:AFn:=⟨3,[.tmp 6],eV vZ [bS 7,xK 8 .eql 7 (-1),aX 9,cQ 10 9 2,cE 11 9 .eql 10 (-2),xW 12 9 11,xM 13 12,cQ 14 13 2,kW 15 13,cT 16 13 .gtr 14 15,cQ 17 13 16,dP 18 17 2,d9 19 17 6 3,dB 20 17 19,wU 21 17 20,nL 22 17 .lss 18 21,eU 23 13 (.pick (.t 17) (.t 22) (.c qX)),xW 24 13 23,b6 24]⟩
def c_305_l0:Xu:=lE [aF 6,aD 7,xB 8 .lss 6 7] 8 0 1 [aG 11,aF 12,xX 13 5 11 12,xA 14 5 13,aI 15 BU 14,xM 16 15,qL 17 16,dP 18 16 5,fM 19 16 (DQ 5 17 18),d9 20 16 1 19,dB 21 16 20,qL 22 16,dP 23 16 1,fM 24 16 (DQ 5 22 23),d9 25 16 1 24,dB 26 16 25,nL 27 16 .eql 21 26,xV 28 16 27] 28 [w9 4] (aF 9) 10 .add 9 (aS 10)
def c_305_k1:Xu:=dQ cF
def IP:AFn:=⟨2,[.tmp 4],eL [cF] [cY] c_305_l0 c_305_k1⟩
def c_306_l0:Xu:=gN [aV 7,aD 8,xB 9 .leq 7 8,dG 10,dP 11 10 1,l8 12 10 mL [.t 11],xV 13 10 12] 13 0 1 (dK [aV 16,aD 17,aL 18 BV 16 17,aG 19,xB 20 .eql 18 19] 20 [aV 21,aN 21,w9 5]) (aV 14) 15 .add 14 (b6 15)
def c_306_k1:Xu:=jC bO (eQ 5)
def yV:AFn:=⟨2,cZ,eL G9 [dE] c_306_l0 c_306_k1⟩
def yW:AFn:=⟨1,[.tmp 2],fU [g6 2] [qJ,aI 4 mL 3,bF 5 4] 5 (g6 2) (c9 [wT,aI 7 mM 6,PP 8 .sub 7 (TZ .u64 1),xO 9 (uY .u32 8),eR 9])⟩
def s7:AFn:=⟨1,[.tmp 2],gH lD [qJ,bN 4 .geq 3,aS 4,qL 6 5,hS 7 5 .leq 6 (dD 32),xV 8 5 7,aX 2]⟩
def c_309_l0:Xu:=gN [aS 4,wT,xB 7 .lss 5 6] 7 0 1 (xR [aW 10,xO 11 (DT .mul (TZ .u64 2) 10),fV 11]) (bP 4) 9 .add 8 (aN 9)
def c_309_k1:Xu:=v5 12 12
def IQ:AFn:=⟨1,[.tmp 2],jF [xC 2 (.int .u64 0)] [xC 3 (.int .u64 1)] [bO] c_309_l0 c_309_k1⟩
def c_310_l0:Xu:=dZ 9 .lss 8 7 9 0 1 (v9 10 6 8 DN (aS 11) (xR [aW 12,aF 13,xB 14 .add 12 13,fV 14])) 15 .add 8 8 15
def c_310_k1:Xu:=v5 16 16
def IR:AFn:=⟨1,[.tmp 2],jF [dF] [gF] lQ c_310_l0 c_310_k1⟩
def c_311_l0:Xu:=fO 10 .lss 9 8 10 0 1 [cL 11 7 9,aZ 12 11,jG 5 (.str []),cO 5 12] 5 (xR [aW 13,aP 14 5,xL 15 14,xO 16 (.bslice .imm 1 (List.replicate 1 kT) [(0,(.t 15))]),lC 17 1 8 13 16,fV 17]) 18 .add 9 9 18
def c_311_k1:Xu:=v5 19 19
def IU:AFn:=⟨1,[.tmp 2],jA gG (xC 2 aB) (eL [qC 3 1] [fP 6,xL 7 6,xN 8 7,b7 9] c_311_l0 c_311_k1)⟩
def IV:AFn:=⟨2,[.tmp 4],gH cF [nT,aD 6,aL 7 BW 5 6,aR 8 .geq 7,aN 8]⟩
def c_313_l0:Xu:=fO 25 .lss 24 23 25 1 2 [xM 26 24,cL 27 22 24,aZ 28 27,jG 4 (.str []),fV 26,cO 4 28] 4 (.block 3 (l7 [aO 30 4,xL 31 30,aI 32 fY 31,bF 33 32,xM 29 33] 29 [fQ 6] (qH [aP 35 4,xL 36 35,bN 37 .lss 36,xM 38 37,dM 39 38 4,aK 40 38 39,cE 41 38 .gtr 40 32,xW 42 38 41,xM 34 42] 34 [fQ 10] [fP 44,xL 45 44,aW 46,xO 47 (.slc 2 (.t 45) none (some (.t 46)) none),xO 48 (.mkfunc (.func mQ) [] [.t 4]),aL 49 BZ 47 48,xM 43 49] 43 [fQ 7]))) 50 .add 24 24 50
def c_313_k1:Xu:=dQ dF
def oM:AFn:=⟨1,[.tmp 2],jA gG dF (iE 0 [qI 6,xL 7 6,aI 8 fY 7,bF 9 8,aS 9] 5 [fQ 6] (dK [fP 11,xL 12 11,xN 13 12,xK 14 .gtr 13 4,xM 15 14,bB 16 15 2 1,aK 17 15 16,cJ 18 15 17,cE 19 15 .gtr 18 12,xW 20 15 19,xM 10 20] 10 [fQ 12]) (nQ [fP 21,xL 22 21,xN 23 22,b7 24] 1 c_313_l0 c_313_k1))⟩
def b8:AFn:=⟨2,[.tmp 4],l6 kU (xQ [iL 11,aO 12 11,i6 13 12,d8 5 [.str [],.Xt 2 [],.Xt 2 [],.Xt 3 [],.Xt 3 [],.Xt 6 [],.Xt 7 [],.Xt 5 [],.Xt 1 []],xS 9 5 13] [5]) (bJ [i6 15 5,dR 16,aZ 17 16,aL 18 uB 15 17,xM 14 18,bG 19 14,bI 20 14,b6 19,cC 20] (rG [eW 21 3,xL 22 21,aR 23 .geq 22,xM 24 23,d9 25 24 3 3,dB 26 24 25,d9 27 24 3 5,dB 28 24 27,wU 29 24 28,nL 30 24 .lss 26 29,xV 31 24 30,bP 31] [cA 32,xL 33 32] 0 (NZ (bN 35 .eql 33) 34 35 34 (v6 [bM 36,bF 37 36] 37 [cK 8] [xA 38 10 2,xF 39 6 3,xL 40 39,aV 41,eK 42 pT 38 40 41,aN 42]) (fC [xK 44 .eql 33 2,xM 43 44] TK (DP 43 (cV [xF 46 4 3,xL 47 46,aR 48 .lss 47,xM 49 48,bB 50 49 4 3,aK 51 49 50,dM 52 49 5,aK 53 49 52,cJ 54 49 53,cT 55 49 .geq 51 54,xW 56 49 55] 56 [cK 8] (dQ bO)) (fC [xK 58 .eql 33 4,xM 57 58] (EO 57 (xR [xK 59 .eql 33 5,xM 57 59])) (gZ 57 (cV [aX 60,bF 61 60,xM 62 61,bB 63 62 0 3,aK 64 62 63,cE 65 62 .eql 64 4,cQ 66 62 65,dP 67 66 7,fM 68 66 (PO 67),eU 69 62 (.pick (.t 66) (.t 68) (.c qX)),xW 70 62 69] 70 [cK 8] (fC [g7 72 3,xL 73 72,iL 74,xA 75 10 74,aL 76 mJ 73 75,xM 71 76,bG 77 71,bI 78 71,fE 77,xM 10 78] (g0 (xM 79 10) 80 .neq 79 80 [xM 81 10,aN 81]) (fC [cA 82,xL 83 82,xK 84 .eql 83 5] (gZ 84 (qE [xA 85 10 2,xF 86 6 3,xL 87 86,eW 88 5,xL 89 88,eW 90 3,xL 91 90,dS 92 89 91,aP 93 92,xL 94 93,eK 95 pT 85 87 94,aN 95])) (cV [aV 96,eW 97 5,xL 98 97,eW 99 3,xL 100 99,dS 101 98 100,aP 102 101,xL 103 102,xB 104 .neq 96 103] 104 [cK 10] (dQ bO)))))))))) (dQ (cK 11))))⟩
def c_315_l0:Xu:=dZ 31 .lss 30 29 31 0 1 (v9 32 28 30 (xL 33 32) (bP 33) (dK [aX 34,aR 35 .lss 34,xM 36 35,cQ 37 36 8,dM 38 36 2,aK 39 36 38,cJ 40 36 39,cT 41 36 .geq 37 40,xW 42 36 41] 42 GC)) 43 .add 30 30 43
def c_315_l1:Xu:=fO 68 .lss 67 66 68 3 4 [xM 69 67,dS 70 65 67,xA 71 3 70,d8 10 [gE,gE,cU],fE 69,xS 3 10 71] 10 (bJ [dA 72,aD 73,xA 74 3 10,eK 75 C0 72 73 74,xM 11 75] (g0 (xM 76 11) 77 .neq 76 77 [dG 78,xM 79 11,aN 78,aS 79])) 80 .add 67 67 80
def c_315_k2:Xu:=cV [dA 81,aD 82,xF 83 6 6,xL 84 83,eK 85 uC 81 82 84,bF 86 85] 86 [kV,eA 14] vW
def c_315_k3:Xu:=iE 2 [b9 45 6,xL 46 45,xM 47 46,wC 48 47 9 2,d9 49 47 3 6,wC 50 47 2 49,l8 51 47 iR [.t 48,.t 50],hS 52 47 .eql 51 dL,xV 53 47 52,xM 44 53] 44 GC (dK [b9 55 6,xL 56 55,bF 57 56,xM 58 57,d9 59 58 5 6,dB 60 58 59,wU 61 58 60,hS 62 58 .gtr 61 dL,xV 63 58 62,xM 54 63] 54 [kV,eA 11]) (nQ [g7 64 6,xL 65 64,xN 66 65,b7 67] 3 c_315_l1 c_315_k2)
def s8:AFn:=⟨2,cZ,l6 qB (xQ [xF 12 6 2,xL 13 12,aD 14,xX 15 7 13 14,xA 16 7 15,d8 6 FZ,xS 7 6 16] [6]) (cV [aP 17 6,xL 18 17,xN 19 18,xK 20 .gtr 19 4,xM 21 20,bB 22 21 5 6,aK 23 21 22,cJ 24 21 23,cE 25 21 .gtr 24 8,xW 26 21 25] 26 DL (qG [aP 27 6,xL 28 27,xN 29 28,b7 30] c_315_l0 c_315_k3))⟩
def IW:AFn:=⟨1,[.tmp 2],bJ [dF] (jA (d8 3 [cU]) ⟨none,none,.store 1 (.t 3) (.c qA)⟩ (eV [aG 4,xO 5 (.mkfunc (.func uD) [] [.t 3]),fD 6 gV [.t 4,.t 5]] [xL 7 3,bM 2]))⟩
def c_317_l0:Xu:=fO 12 .lss 11 10 12 0 1 [xX 13 5 9 11,xA 14 5 13,d8 5 G1,xS 5 5 14] 5 (xD [aW 15,eW 16 5,xL 17 16,aI 18 pO 17,xF 19 4 5,xL 20 19,aI 21 pO 20,xO 22 (.minmax true [.t 15,.t 18,.t 21]),fV 22]) 23 .add 11 11 23
def c_317_k1:Xu:=c9 [aW 24,bN 25 .add 24,eR 25]
def yX:AFn:=⟨1,[.tmp 2],fU [dF] [wT,xN 7 6,aR 8 .eql 7] 8 dF (eL [gF] G3 c_317_l0 c_317_k1)⟩
def c_318_l0:Xu:=fO 10 .lss 9 8 10 0 1 [xX 11 5 7 9,xA 12 5 11,d8 6 G1,xS 5 6 12] 6 (dK [aD 13,xA 14 5 6,xO 15 (.tcallv (.t 13) [.t 14]),bF 16 15,xM 17 16,bB 18 17 3 6,aK 19 17 18,kW 20 17,eU 21 17 (.tcall gV [.t 19,.t 20]),rH 22 17 21,xW 23 17 22,xM 24 23,bB 25 24 4 6,aK 26 24 25,kW 27 24,eU 28 24 (.tcall gV [.t 26,.t 27]),rH 29 24 28,xW 30 24 29] 30 [cF]) 31 .add 9 9 31
def c_318_k1:Xu:=qY 4
def oN:AFn:=⟨2,[.tmp 4],eL [cF] [aG 7,xN 8 7,b7 9] c_318_l0 c_318_k1⟩
def jZ:AFn:=⟨5,[.tmp 6],iJ [uV 5,eQ 6] [lS 7,xA 8 5 5,xL 9 2,eK 10 BE 7 8 9,xS 1 3 10] (g0 (xL 11 3) 12 .neq 11 12 [eQ 6]) (fC [xA 13 5 5,aI 14 BF 13] (lB 14 [xL 15 2,aP 16 5,xL 17 16,xO 18 (.bslice .imm 1 (List.replicate 1 kT) [(0,(.t 17))]),lC 19 1 8 15 18,xS 1 2 19]) (eV [xL 20 4,bN 21 .add 20,xS 1 4 21] [w9 6]))⟩
def c_320_l0:Xu:=dZ 30 .lss 29 28 30 1 2 (v9 31 27 29 (xL 32 31) (bP 32) (dK [aX 33,aP 34 4,xL 35 34,xB 36 .eql 33 35] 36 [dW 7])) 37 .add 29 29 37
def c_320_k1:Xu:=dK [aO 38 4,xL 39 38,bN 40 .eql 39,xM 41 40,d9 42 41 3 4,dB 43 41 42,wU 44 41 43,d9 45 41 4 4,dB 46 41 45,wU 47 41 46,nL 48 41 .add 44 47,hS 49 41 .gtr 48 dL,xV 50 41 49] 50 [dW 5]
def c_320_k2:Xu:=dQ dE
def fI:AFn:=⟨3,[.tmp 6],rG [qZ,wD 4,dE] [aO 11 4,xL 12 11] 0 (fC [bN 14 .eql 12,xM 13 14] (EO 13 (xR [xK 15 .eql 12 3,xM 13 15])) (DP 13 (cV [aP 16 4,xL 17 16,aR 18 .lss 17,xM 19 18,dM 20 19 4,aK 21 19 20,bB 22 19 5 3,aK 23 19 22,cJ 24 19 23,cT 25 19 .geq 21 24,xW 26 19 25] 26 [dW 8] (nQ [bS 27,xN 28 27,b7 29] 1 c_320_l0 c_320_k1)) (iF 52 .eql 12 2 51 52 51 (i9 [b9 54 4,xL 55 54,i8 56,xO 57 (.build nH [(0,9,(.t 56))]),aL 58 mJ 55 57,xM 53 58,bG 59 53,bI 60 53,fE 59,xM 10 60] [xM 61 10,aR 62 .neq 61] 62 (xM 63 10) (b6 63) (L5 (dG 64) (bN 65 .neq 64) 65 [dW 10])) (dQ (dW 11))))) c_320_k2⟩
def yY:AFn:=⟨1,[.tmp 2],eV [gG,lD] SX⟩
def IX:AFn:=⟨2,[.tmp 4],gH cF [nT,aD 6,aL 7 C1 5 6,aR 8 .geq 7,aN 8]⟩
def IY:AFn:=⟨1,[.tmp 2],gH lD SS⟩
def c_329_l0:Xu:=EJ [aF 6,aG 7,xO 8 (.slen (.t 7)),xB 9 .lss 6 8,dG 10,dP 11 10 1,qL 12 10,dP 13 10 5,fM 14 10 (.idxs (.t 12) (.t 13)),fM 15 10 (yec 11 [.t 14]),xV 16 10 15] 16 0 (.block 1 (xR [aF 17,bN 18 .add 17,aS 18]))
def c_329_k1:Xu:=DR 19 19
def IZ:AFn:=⟨2,[.tmp 4],jD [bO] [cY] (rF 0 (.loop c_329_l0) c_329_k1)⟩
def J0:AFn:=⟨1,[.tmp 2],gH lD [qJ,aI 4 u5 3,aS 4,nR 6 5,qD 7 5 BI [.t 6],xW 8 5 7,aX 9,nR 10 9,WZ 11 9 .eql 10 (GF 95),xW 12 9 11,eR 12]⟩
def J1:AFn:=⟨1,[.tmp 2],gH lD T0⟩
def J2:AFn:=⟨2,[.tmp 4],fU [g6 4] [aD 5,xO 6 TF,aI 7 fZ 6,bF 8 7] 8 (g6 4) (c9 [aD 9,aI 10 bE 9,aD 11,aI 12 bE 11,aG 13,xO 14 (.minmax true [.t 13,.c qA]),aD 15,xO 16 (.minmax false [.t 14,.t 15]),xB 17 .shr 12 16,xB 18 .andNot 10 17,aN 18])⟩
def eE:AFn:=⟨2,cZ,rG DI [iL 10,xL 11 10] 0 (NZ (bN 13 .eql 11) 12 13 12 (l6 [b9 15 2,xL 16 15,aI 17 mR 16,xM 14 17,bG 18 14,bI 19 14,b6 18,cC 19] (w8 [bM 20,aR 21 .eql 20,xM 22 21,d9 23 22 1 2,dB 24 22 23,hS 25 22 .lss 24 dL,dP 26 22 25,dM 27 26 2,aK 28 26 27,cQ 29 26 6,qD 30 26 tX [.t 29],eU 31 26 (uY .i64 30),cT 32 26 .gtr 28 31,fM 33 22 TU,xV 34 22 33] 34 w5) TQ) (iF 38 .eql 11 2 37 38 37 (i9 [cA 40,i6 41 40,i7 42,xL 43 42,b9 44 2,xL 45 44,xO 46 (.build vU [(0,1,(.t 43)),(1,1,(.t 45))]),aL 47 pL 41 46,xM 39 47,bG 48 39,bI 49 39,bP 48,fE 49] [dG 50,bF 51 50] 51 bO (eA 8) (c9 [aX 52,aI 53 mR 52,bG 54 53,bI 55 53,aN 54,aS 55])) (l9 (xK 57 .eql 11 3) 56 57 (gZ 56 (v6 [i7 58,xL 59 58,aR 60 .lss 59,xM 61 60,dM 62 61 2,aK 63 61 62,bB 64 61 9 3,aK 65 61 64,cJ 66 61 65,cT 67 61 .geq 63 66,xW 68 61 67] 68 DM [xF 69 9 3,xL 70 69,i7 71,xL 72 71,cL 73 70 72,aP 74 73,xL 75 74,aI 76 mR 75,bG 77 76,bI 78 76,aN 77,aS 78]))))) (cV [i7 79,xL 80 79,aR 81 .lss 80,xM 82 81,dM 83 82 2,aK 84 82 83,bB 85 82 0 3,dM 86 82 85,aK 87 82 86,cJ 88 82 87,cT 89 82 .geq 84 88,xW 90 82 89] 90 DM (jC (cK 1) cY))⟩
def bR:AFn:=⟨2,cZ,rG qB [iL 6,xL 7 6] 0 (l7 [xK 9 .eql 7 5,bP 9] 8 [aD 10,xO 11 (uW 1 10 dL),xL 12 11,aN 12,cY] (fC [xK 14 .eql 7 6,xM 13 14] (EO 13 (xR [xK 15 .eql 7 7,xM 13 15])) (DP 13 (v6 [i7 16,xL 17 16,aR 18 .lss 17,xM 19 18,dM 20 19 2,aK 21 19 20,cE 22 19 .gtr 21 31,xW 23 19 22] 23 w5 [aD 24,xO 25 (uW 1 24 dL),xL 26 25,aN 26,cY]) (iF 28 .eql 7 8 27 28 27 (iE 1 [i7 30,xL 31 30,aR 32 .lss 31,xM 29 32] 29 w5 (w8 [b9 34 2,xL 35 34,bN 36 .lss 35,xM 37 36,bB 38 37 2 2,aK 39 37 38,cE 40 37 .gtr 39 32,xW 41 37 40,xM 42 41,dM 43 42 2,aK 44 42 43,kW 45 42,eU 46 42 (uW 1 45 dL),aK 47 42 46,bB 48 42 2 2,aK 49 42 48,cT 50 42 .sub 47 49,cT 51 42 .gtr 44 50,xW 52 42 51,xM 33 52] 33 vX) (c9 [b9 53 2,xL 54 53,aN 54,cY])) (iF 56 .eql 7 14 55 56 55 (qE [aD 57,xO 58 (uW 1 57 dL),xL 59 58,aD 60,xO 61 (uW 1 60 (dD 1)),xL 62 61,xB 63 .add 59 62,aI 64 mR 63,bG 65 64,bI 66 64,aN 65,aS 66]) (l9 (xK 68 .eql 7 17) 67 68 (gZ 67 (.seq (w8 [aD 69,xO 70 (uW 1 69 dL),xL 71 70,bN 72 .neq 71,xM 73 72,kW 74 73,eU 75 73 (uW 1 74 (dD 1)),aK 76 73 75,kW 77 73,eU 78 73 (uW 1 77 (dD 2)),aK 79 73 78,cT 80 73 .neq 76 79,xW 81 73 80] 81 vX) (c9 [aD 82,xO 83 (uW 1 82 (dD 1)),xL 84 83,aN 84,cY]))))))))) (rF 2 (iK [aD 86,xO 87 (uW 1 86 dL),xL 88 87,aD 89,xO 90 (uW 1 89 (dD 1)),xL 91 90,xB 92 .neq 88 91,xM 85 92] (NX 85 vX (dK [iL 94,xL 95 94,xK 96 .eql 95 15,xM 97 96,bB 98 97 0 2,aK 99 97 98,cE 100 97 .eql 99 16,xW 101 97 100,xM 93 101] 93 [cK 1,cY]))) (c9 [aD 102,xO 103 (uW 1 102 dL),xL 104 103,aN 104,cY]))⟩
def c_348_l0:Xu:=fO 35 .lss 34 33 35 0 1 [cL 36 32 34,aZ 37 36,jG 11 (.str []),cO 11 37] 11 (l5 [aD 39,aP 40 11,xL 41 40,fD 42 uF [.t 39,.t 41],xM 38 42,bG 43 38,bI 44 38,xM 12 43,xM 13 44] [xM 45 13,aR 46 .neq 45] 46 [xM 47 13,xC 4 aB,aS 47] (xR [dG 48,xM 49 12,xO 50 (.bslice .imm 1 (List.replicate 1 vV) [(0,(.t 49))]),lC 51 1 4 48 50,fE 51])) 52 .add 34 34 52
def c_348_k1:Xu:=c9 [dG 53,aN 53,cY]
def lX:AFn:=⟨2,cZ,iJ [gD 2 0,xC 4 aB,cY] [aZ 14 2,aI 15 iS 14,b6 15] (g0 (aV 16) 17 .neq 16 17 [aV 18,xC 4 aB,aS 18]) (fC [aD 20,fD 21 pI [.t 20],xM 19 21,bG 22 19,bI 23 19,cC 22,bP 23] (L5 (aX 24) (bN 25 .eql 24) 25 [xC 4 aB,eA 1]) (.seq (w8 [aD 26,aI 27 uE 26,aZ 28 2,aI 29 C2 28,xB 30 .lss 27 29] 30 [xC 4 aB,eA 3]) (eL [qC 9 1] [i7 31,xL 32 31,xN 33 32,b7 34] c_348_l0 c_348_k1)))⟩
def J3:AFn:=⟨1,[.tmp 2],gH lD [qJ,xO 4 (.eqn true (.t 3) (.c .nilptr)),aS 4,qL 6 5,fM 7 5 (NW 6),d9 8 5 2 7,dB 9 5 8,xV 10 5 9,eR 10]⟩
def s9:AFn:=⟨2,G5,bJ [uX 4 (.str []) gC] (i9 [uX 5 (.str []) gC] FV 13 (aZ 14 5) (cO 4 14) TH)⟩
def c_351_l0:Xu:=fO 26 .lss 25 24 26 0 1 [xM 27 25,dS 28 23 25,xA 29 3 28,d8 8 G7,cC 27,xS 3 8 29] 8 (wA (b9 30 8) (xL 31 30) (xK 32 .eql 31 2) (gZ 32 (cV [bM 33,iV 34,xL 35 34,xN 36 35,xB 37 .lss 33 36] 37 [iV 38,xL 39 38,bM 40,cL 41 39 40,aP 42 41,xL 43 42,aI 44 uG 43,b6 44] (dQ dE)))) 45 .add 25 25 45
def c_351_k1:Xu:=dQ dE
def sC:AFn:=⟨3,[.tmp 6],n8 DJ [aD 9,aR 10 .lss 9,xM 11 10,kW 12 11,bB 13 11 5 3,aK 14 11 13,cJ 15 11 14,cT 16 11 .geq 12 15,xW 17 11 16] 17 dE [g7 18 3,xL 19 18,aD 20,xX 21 6 19 20,aP 22 21,xL 23 22,xN 24 23,b7 25] c_351_l0 c_351_k1⟩
def J4:AFn:=⟨2,[.tmp 4],rI [g6 4] [aD 5,wT,bQ 7 6,aO 8 7,xA 9 10 8,aG 10,bQ 11 10,xF 12 11 11,bX 13 12,aG 14,bQ 15 14,xF 16 10 15,xL 17 16,EL 18 sQ (.t 5) (.t 9) (.t 13) (.t 17),aN 18] .ret⟩
def J5:AFn:=⟨3,[.cell 6 true 4],eV TO [i8 7,bX 8 4,bS 9,GE 10 mT [.t 7,.t 8,.t 9,.c X1,.c X1],dY 6 10]⟩
def J6:AFn:=⟨3,[.cell 6 true 4],eV TO [i8 7,bX 8 4,bS 9,GE 10 mT [.t 7,.t 8,.t 9,.c qX,.c qX],dY 6 10]⟩
def yZ:AFn:=⟨4,[.tmp 8],jA (uV 4) (g6 8) (fU [xC 9 (.func (.func uH) [] [])] [dG 10,i6 11 4,aD 12,xO 13 (.build SW [(0,9,(.t 11)),(9,1,(.t 12))]),bS 14,aW 15,DS 16 10 [.t 13,.t 14,.t 15],bF 17 16] 17 (g6 8) (c9 [aD 18,bS 19,bT 20 18 19,xL 21 20,aW 22,bT 23 21 22,xL 24 23,bP 24]))⟩
def sD:AFn:=⟨5,[.tmp 10],jA (uV 5) (xC 10 aB) (wA (aD 13) (fD 14 uI [.t 13]) (xM 11 14) (iJ [xC 12 (.func (.func uH) [] [])] [xM 15 12,i6 16 5,aD 17,xO 18 (.build SW [(0,9,(.t 16)),(9,1,(.t 17))]),bS 19,aW 20,DS 21 15 [.t 18,.t 19,.t 20],xM 22 21,d9 23 22 3 5,dB 24 22 23,dP 25 22 2,fM 26 22 (DQ 3 24 25),d9 27 22 1 26,dB 28 22 27,l8 29 22 bE [.t 28],hS 30 22 .gtr 29 (.c gE),xV 31 22 30] (gZ 31 (xD [xM 32 11,bS 33,bT 34 32 33,xL 35 34,aW 36,cG 37,eW 38 5,xL 39 38,bS 40,dS 41 39 40,aP 42 41,xL 43 42,aI 44 bE 43,xB 45 .and 37 44,bT 46 35 36,xS 1 46 45])) (jC (xM 47 11) (xM 10 47))))⟩
def c_357_l0:Xu:=dZ 45 .lss 44 43 45 1 2 (l9 (xM 46 44) 11 46 (bJ [xM 48 11,xA 49 10 3,aD 50,bM 51,eK 52 uA 49 50 51,xM 47 52,bG 53 47,bI 54 47,xE 55 2 47,xO 56 (X5 1 3 10 (.t 48)),xS 1 56 53,cC 54,bP 55] (g0 (aX 57) 58 .neq 57 58 [aX 59,dE,b7 7,bP 59]))) 60 .add 44 44 60
def c_357_k1:Xu:=iK [aD 62,bS 63,dS 64 62 63,xA 65 3 64,xA 66 3 10,aL 67 C3 65 66,xM 61 67,bG 68 61,bI 69 61,b6 68,bP 69] (c9 [aV 70,bM 71,aX 72,b6 70,cC 71,bP 72])
def iO:AFn:=⟨3,[.tmp 6,.tmp 7,.tmp 8],l5 [qZ,dE,b7 7,wS] [bS 12,aD 13,xN 14 13,xB 15 .geq 12 14] 15 [dE,b7 7,xI 8 3] (bJ [aD 16,bS 17,dS 18 16 17,aO 19 18,xL 20 19,aI 21 pS 20,fE 21] (iE 0 [dG 23,aR 24 .lss 23,xM 22 24] 22 [dE,b7 7,xI 8 11] (wA (dG 26) (aR 27 .eql 26) (xM 25 27) (gZ 25 (iK [xA 29 10 3,aD 30,bS 31,dS 32 30 31,xA 33 3 32,aL 34 uJ 29 33,xM 28 34,bG 35 28,bI 36 28,b6 35,bP 36] (c9 [aV 37,bS 38,bN 39 .add 38,aX 40,b6 37,cC 39,bP 40])))) (bJ [d8 10 G7] (EK [bS 41,bN 42 .add 41,cC 42] [dG 43,b7 44] 1 c_357_l0 c_357_k1))))⟩
def z7:AFn:=⟨1,[.tmp 2],rG [dF] [qJ] 0 (fC [bN 5 .eql 3,aF 4] (EO 4 (iF 6 .eql 3 2 4 6 4 .skip (iF 7 .eql 3 3 4 7 4 .skip (xR [xK 8 .eql 3 4,aN 8])))) (NX 4 [dF] (fC [xK 10 .eql 3 5,fE 10] (EO 9 (iF 11 .eql 3 6 9 11 9 .skip (iF 12 .eql 3 7 9 12 9 .skip (xR [xK 13 .eql 3 8,fE 13])))) (NX 9 [fQ 1] (fC [xK 15 .eql 3 9,xM 14 15] (EO 14 (iF 16 .eql 3 10 14 16 14 .skip (iF 17 .eql 3 11 14 17 14 .skip (iF 18 .eql 3 12 14 18 14 .skip (iF 19 .eql 3 13 14 19 14 .skip (iF 20 .eql 3 14 14 20 14 .skip (iF 21 .eql 3 15 14 21 14 .skip (xR [xK 22 .eql 3 16,xM 14 22])))))))) (NX 14 [fQ 2] (L5 (xK 24 .eql 3 17) (xM 23 24) 23 [fQ 3]))))))) (dQ (nK 2))⟩
def k9:AFn:=⟨2,G5,rI [v7,jG 4 gE] [aG 9,bQ 10 9,aO 11 10,xA 12 10 11,xA 13 3 3,aL 14 uJ 12 13,bP 14,bG 15 8,bI 16 8,aS 15,b6 16] (rG [g6 7] [cA 17,xL 18 17] 0 (NZ (bN 20 .eql 18) 19 20 19 (xR [dR 21,xL 22 21,xO 23 (uY .u32 22),cC 23]) (iF 25 .eql 18 2 24 25 24 (xD [aG 26,bQ 27 26,xF 28 10 27,bX 29 28,dR 30,xL 31 30,b9 32 3,xL 33 32,xO 34 (.build vU [(0,1,(.t 31)),(1,1,(.t 33))]),aL 35 mH 29 34,cC 35]) (iF 37 .eql 18 3 36 37 36 (iK [dR 38,xL 39 38,aG 40,bQ 41 40,xF 42 14 41,xL 43 42,xN 44 43,xB 45 .lss 39 44] (gZ 45 (xD [aG 46,bQ 47 46,xF 48 14 47,xL 49 48,dR 50,xL 51 50,bT 52 49 51,xL 53 52,cC 53]))) (l9 (xK 55 .eql 18 4) 54 55 (gZ 54 (iK [dR 56,xL 57 56,aG 58,bQ 59 58,xF 60 10 59,aO 61 60,xL 62 61,xN 63 62,xB 64 .lss 57 63,xM 65 64,qL 66 65,fM 67 65 (NW 66),d9 68 65 10 67,d9 69 65 0 68,dB 70 65 69,d9 71 65 1 3,dB 72 65 71,fM 73 65 (DQ 1 70 72),dB 74 65 73,xV 75 65 74] (lB 75 [xC 7 (L4 1)]))))))) (c9 [bM 76,aF 77,aI 78 bE 77,xB 79 .and 76 78,aF 80,xO 81 (.build iH [(0,1,(.t 79)),(1,1,(.t 80))]),cO 4 81]))⟩
def oO:AFn:=⟨2,G5,rG [gO,v7,jG 4 gE] [iL 5,xL 6 5] 0 (iF 8 .eql 6 5 7 8 7 (qE [cA 9,xL 10 9,dR 11,xL 12 11,aL 13 C4 10 12,dR 14,xL 15 14,xO 16 (.build iH [(0,1,(.t 13)),(1,1,(.t 15))]),cO 4 16]) (iF 18 .eql 6 6 17 18 17 (qE [cA 19,xL 20 19,i7 21,xL 22 21,dR 23,xL 24 23,eK 25 C5 20 22 24,dR 26,xL 27 26,xO 28 (.build iH [(0,1,(.t 25)),(1,1,(.t 27))]),cO 4 28]) (l9 (xK 30 .eql 6 7) 29 30 (gZ 29 (qE [cA 31,xL 32 31,i7 33,xL 34 33,dR 35,xL 36 35,eK 37 C6 32 34 36,dR 38,xL 39 38,xO 40 (.build iH [(0,1,(.t 37)),(1,1,(.t 39))]),cO 4 40]))))) (qE [cA 41,xL 42 41,i7 43,xL 44 43,b9 45 2,xL 46 45,eK 47 C7 42 44 46,b9 48 2,xL 49 48,xO 50 (.build iH [(0,1,(.t 47)),(1,1,(.t 49))]),cO 4 50])⟩
def gS:AFn:=⟨3,[.cell 6 true 2],rG [wD 4,xJ 5 2,jG 6 gE] [aG 9] 0 (iF 11 .eql 9 9 10 11 10 (qE [aO 12 4,xL 13 12,iV 14,xL 15 14,aP 16 4,xL 17 16,eK 18 C8 13 15 17,aP 19 4,xL 20 19,xO 21 (.build iH [(0,1,(.t 18)),(1,1,(.t 20))]),cO 6 21]) (iF 23 .eql 9 10 22 23 22 (qE [aO 24 4,xL 25 24,iV 26,xL 27 26,aP 28 4,xL 29 28,eK 30 C9 25 27 29,aP 31 4,xL 32 31,xO 33 (.build iH [(0,1,(.t 30)),(1,1,(.t 32))]),cO 6 33]) (l7 [xK 35 .eql 9 11,xM 34 35] 34 [aO 36 4,xL 37 36,iV 38,xL 39 38,xB 40 .and 37 39,aP 41 4,xL 42 41,xO 43 (.build iH [(0,1,(.t 40)),(1,1,(.t 42))]),cO 6 43] (l7 [xK 45 .eql 9 12,xM 44 45] 44 [aO 46 4,xL 47 46,iV 48,xL 49 48,xB 50 .or 47 49,aP 51 4,xL 52 51,xO 53 (.build iH [(0,1,(.t 50)),(1,1,(.t 52))]),cO 6 53] (l7 [xK 55 .eql 9 13,xM 54 55] 54 [aO 56 4,xL 57 56,iV 58,xL 59 58,xB 60 .xor 57 59,aP 61 4,xL 62 61,xO 63 (.build iH [(0,1,(.t 60)),(1,1,(.t 62))]),cO 6 63] (iF 65 .eql 9 14 64 65 64 (eV [aO 67 4,xL 68 67,aP 69 4,xL 70 69,iV 71,xL 72 71,aP 73 5,xL 74 73,EL 75 CA (.t 68) (.t 70) (.t 72) (.t 74),xM 66 75,bG 76 66,bI 77 66,cC 76,bP 77] [bM 78,aP 79 4,xL 80 79,aP 81 5,xL 82 81,xB 83 .add 80 82,xO 84 (.build iH [(0,1,(.t 78)),(1,1,(.t 83))]),cO 6 84]) (L5 (xK 86 .eql 9 15) (xM 85 86) 85 [aO 87 4,xL 88 87,iV 89,xL 90 89,xB 91 .eql 88 90,aI 92 uK 91,cO 6 92]))))))) (c9 [aO 93 4,xL 94 93,iV 95,xL 96 95,xB 97 .lss 94 96,aI 98 uK 97,cO 6 98])⟩
def c_362_l0:Xu:=dZ 22 .lss 21 20 22 0 1 (bJ [xM 23 21,bT 24 19 21,xL 25 24,aS 23,b6 25] (dK [dA 26,aF 27,aV 28,eK 29 uL 26 27 28,bF 30 29] 30 [cK 9])) 31 .add 21 21 31
def c_362_l1:Xu:=dZ 36 .lss 35 34 36 2 3 (bJ [xM 37 35,bT 38 33 35,xL 39 38,cC 37,bP 39] (dK [cA 40,xL 41 40,bM 42,bT 43 41 42,xL 44 43,bF 45 44,xM 46 45,dP 47 46 8,l8 48 46 CC [.t 47],fM 49 46 (PO 48),xV 50 46 49] 50 [cK 5])) 51 .add 35 35 51
def c_362_k2:Xu:=dQ bO
def c_362_k3:Xu:=nQ NN 2 c_362_l1 c_362_k2
def J7:AFn:=⟨2,[.tmp 4],fU kU [dA 9,bX 10 3,aL 11 CB 9 10,bF 12 11] 12 (cK 2) (cV [dA 13,b9 14 3,xL 15 14,Ue 16 uL 13 (dD (-1)) 15,bF 17 16] 17 [cK 9] (qG [dR 18,xL 19 18,xN 20 19,b7 21] c_362_l0 c_362_k3))⟩
def c_363_l0:Xu:=dZ 19 .lss 18 17 19 0 1 (jD [xM 20 18,bT 21 16 18,xL 22 21,bP 20,fE 22] [bM 23,aV 24,dG 25,aD 26,aX 27,bT 28 26 27,xL 29 28,fD 30 kK [.t 24,.t 25,.t 29],xO 31 (.bslice .imm 1 (List.replicate 2 kT) [(0,(.t 23)),(1,(.t 30))]),aI 32 CD 31,cC 32] (g0 (bM 33) 34 .neq 33 34 [bM 35,xC 4 aB,aS 35])) 36 .add 18 18 36
def c_363_k1:Xu:=c9 [aV 37,fD 38 mK [.t 37],bG 39 38,bI 40 38,aN 39,aS 40]
def z8:AFn:=⟨2,cZ,i9 [xC 4 aB,cY] [aG 10,xN 11 10,aD 12,xN 13 12,xB 14 .neq 11 13] 14 GB (eA 2) (l9 (fD 15 pK []) 6 15 (eL [b7 7] [aG 16,xN 17 16,b7 18] c_363_l0 c_363_k1))⟩
def c_364_l0:Xu:=dZ 33 .lss 32 31 33 1 2 (iJ [xM 34 32,cC 34] [aG 35,bQ 36 35,aP 37 36,xL 38 37,xK 39 .rem 38 8,aR 40 .eql 39] (lB 40 [aG 41,aG 42,bQ 43 42,aO 44 43,xL 45 44,xO 46 (.bslice .row 1 (List.replicate 1 [.int .u8 0]) [(0,(.c (.int .u8 0)))]),X3 47 .row 1 1 (.t 45) 46,bQ 48 41,aO 49 48,xS 1 49 47]) (rI [aD 50,bS 51,bN 52 .sub 51,bM 53,xB 54 .sub 52 53,xB 55 .shr 50 54,vA 56 .and 55 (L4 1),xO 57 (uY .u8 56),bP 57] [aG 58,bQ 59 58,aO 60 59,xL 61 60,aG 62,bQ 63 62,aP 64 63,xL 65 64,xK 66 .quo 65 8,bT 67 61 66,xL 68 67,aX 69,aG 70,bQ 71 70,aP 72 71,xL 73 72,xK 74 .rem 73 8,xO 75 (DT .sub (dD 7) 74),xB 76 .shl 69 75,xB 77 .or 68 76,bT 78 61 66,xS 1 78 77] (xR [aG 79,bQ 80 79,aP 81 80,xL 82 81,bN 83 .add 82,bQ 84 79,aP 85 84,xS 1 85 83]))) 86 .add 32 32 86
def c_364_k1:Xu:=dQ dE
def oP:AFn:=⟨3,[.tmp 6],bJ [dE] (iE 0 [aG 10,xO 11 (.eqn false (.t 10) (.c .nilptr)),xM 12 11,nR 13 12,eU 14 12 (NW 13),bB 15 12 2 14,aK 16 12 15,rH 17 12 16,xW 18 12 17,fE 18] 9 [dW 1] (qH [bS 20,bN 21 .lss 20,xM 22 21,cQ 23 22 2,cE 24 22 .gtr 23 32,xW 25 22 24,xM 19 25] 19 [dW 10] [aD 27,bS 28,aL 29 iT 27 28,bF 30 29,xM 26 30] 26 [dW 9]) (nQ [bS 31,b7 32] 1 c_364_l0 c_364_k1))⟩
def z9:AFn:=⟨1,[.tmp 2],eV [gG,lD] SX⟩
def J8:AFn:=⟨2,[.tmp 4],fU [g6 4] [aD 5,aI 6 mL 5,bF 7 6] 7 (g6 4) (eV [aG 8,xO 9 TY,aD 10,xO 11 (.minmax false [.t 9,.t 10]),xM 0 11] [aD 12,aI 13 mM 12,aD 14,aG 15,xB 16 .sub 14 15,aI 17 mM 16,xB 18 .sub 13 17,xO 19 (uY .u32 18),aN 19])⟩
def c_367_l0:Xu:=dZ 9 .lss 8 7 9 0 1 ST 18 .add 8 8 18
def c_367_k1:Xu:=dQ kV
def J9:AFn:=⟨2,[.tmp 4],eL [bO] lQ c_367_l0 c_367_k1⟩
def JA:AFn:=⟨2,[.tmp 4],gH cF [nT,aD 6,aL 7 CE 5 6,aR 8 .geq 7,aN 8]⟩
def JB:AFn:=⟨2,[.tmp 3],eV [gO,eQ 3] [iL 4,xL 5 4,qI 6,xL 7 6,xB 8 .eql 5 7,aX 3]⟩
def gT:AFn:=⟨2,cZ,bJ [gO,v7,bO,eQ 5] SQ⟩
def sE:AFn:=⟨3,[.tmp 6],jA qZ dE (fU [aD 10,cA 11,xA 12 10 11,aL 13 mJ 10 12,fE 13,bG 14 9,bI 15 9,cC 14,bP 15] [aX 16,aR 17 .eql 16,xM 18 17,dP 19 18 7,dP 20 18 2,nL 21 18 .neq 19 20,xV 22 18 21] 22 (dW 10) (jC (aX 23) (b6 23)))⟩
def lY:AFn:=⟨3,[.tmp 6],rI DJ [i8 8,xF 9 6 3,xL 10 9,aD 11,xX 12 7 10 11,eW 13 12,aZ 14 13,aL 15 iR 8 14,cC 15] (iE 0 [iV 17,xL 18 17,bM 19,aL 20 iT 18 19,bF 21 20,xM 22 21,dM 23 22 5,aK 24 22 23,cQ 25 22 7,qD 26 22 iT [.t 24,.t 25],rH 27 22 26,xW 28 22 27,xM 16 28] 16 [dW 9] (qH [iV 30,xL 31 30,aP 32 5,xL 33 32,xB 34 .andNot 31 33,vA 35 .neq 34 gE,xM 29 35] 29 [dW 5] [i8 37,aD 38,b9 39 5,xL 40 39,eK 41 uC 37 38 40,bF 42 41,xM 36 42] 36 [dW 14]) (dQ dE))⟩
def oQ:AFn:=⟨3,[.tmp 6],rG vZ [bS 7] 0 (rF 2 (.block 1 (.seq (fC [xK 9 .eql 7 (-1),bP 9] (gZ 8 (.exit 1)) (l9 (xK 11 .eql 7 (-2)) 10 11 (gZ 10 (.exit 2)))) (.exit 0))) (.seq (qY 6) (.exit 0))) (c9 [bS 12,aD 13,xB 14 .gtr 12 13,xM 15 14,dP 16 15 2,d9 17 15 6 3,dB 18 15 17,wU 19 15 18,nL 20 15 .lss 16 19,xV 21 15 20,b6 21])⟩
def JC:AFn:=⟨2,[.tmp 3],jA gO (eQ 3) (eV [xL 4 1,bN 5 .add 4,xS 1 1 5] [w9 3])⟩
def c_375_l0:Xu:=dZ 9 .lss 8 7 9 0 1 ST 18 .add 8 8 18
def c_375_k1:Xu:=dQ kV
def JD:AFn:=⟨2,[.tmp 4],eL [bO] lQ c_375_l0 c_375_k1⟩
def sF:AFn:=⟨1,rD,i9 [dF,gF] TC 9 dF (xI 3 10) (c9 [aG 10,eR 10,gF])⟩
def JE:AFn:=⟨1,[.tmp 2],fU [dF] [qJ,aI 4 pR 3,bF 5 4] 5 dF (qE [wT,bQ 7 6,aO 8 7,xL 9 8,xN 10 9,xO 11 (DT .mul (dD 8) 10),aG 12,bQ 13 12,aP 14 13,xL 15 14,xB 16 .sub 11 15,eR 16])⟩
def JF:AFn:=⟨1,[.tmp 2],fU [gG,dF] [aZ 3 1,aI 4 iS 3,aR 5 .neq 4] 5 dF (c9 [aZ 6 1,aI 7 mN 6,aI 8 pN 7,aX 2])⟩
def c_383_l0:Xu:=dZ 26 .lss 25 24 26 1 2 (iK [aG 27,bQ 28 27,aO 29 28,xL 30 29,aG 31,bQ 32 31,aP 33 32,xL 34 33,xK 35 .quo 34 8,bT 36 30 35,xL 37 36,aG 38,bQ 39 38,aP 40 39,xL 41 40,xK 42 .rem 41 8,xO 43 (DT .sub (dD 7) 42),xB 44 .shr 37 43,PP 45 .and 44 (GF 1),cC 45] (bJ [aV 46,PP 47 .shl 46 (TZ .u64 1),bM 48,xO 49 (uY .u32 48),xB 50 .or 47 49,b6 50] (xR [aG 51,bQ 52 51,aP 53 52,xL 54 53,bN 55 .add 54,bQ 56 51,aP 57 56,xS 1 57 55]))) 58 .add 25 25 58
def c_383_k1:Xu:=c9 [aV 59,aN 59,cY]
def JG:AFn:=⟨2,cZ,jA (g6 4) cY (iE 0 [aG 9,aI 10 pR 9,bF 11 10,bP 11] 8 [g6 4,eA 1] (qH [aD 13,bN 14 .lss 13,xM 15 14,kW 16 15,cE 17 15 .gtr 16 32,xW 18 15 17,xM 12 18] 12 [g6 4,eA 10] [aG 20,aI 21 uE 20,aD 22,xB 23 .lss 21 22,xM 19 23] 19 [g6 4,eA 3]) (EK [g6 6] [aD 24,b7 25] 1 c_383_l0 c_383_k1))⟩
def c_384_l0:Xu:=Uf (xK 6 .lss 5 32) 6 0 1 (l9 (aF 7) 4 7 (xR [aW 8,aG 9,cG 10,xB 11 .shr 9 10,vA 12 .and 11 (L4 1),xO 13 (uY .i64 12),xB 14 .add 8 13,fV 14])) 15 .add 5 5 15
def c_384_k1:Xu:=v5 16 16
def JH:AFn:=⟨1,[.tmp 2],jF [dF] [gF] [cY] c_384_l0 c_384_k1⟩
def iP:AFn:=⟨5,[.cell 10 true 4],l6 [uV 5,wD 6,n7 10 aB aB aB aB] (xQ [bX 12 6,fD 13 eG [.t 12],n7 11 aB aB aB aB,dY 11 13] [11]) (cV [aP 14 5,xL 15 14,bS 16,aL 17 CG 15 16,bF 18 17,xM 19 18,bB 20 19 0 11,aK 21 19 20,cQ 22 19 2,qD 23 19 CH [.t 21,.t 22],rH 24 19 23,xW 25 19 24,xM 26 25,cQ 27 26 4,cQ 28 26 27,d9 29 28 0 11,dB 30 28 29,dP 31 28 2,fM 32 28 (DQ 1 30 31),dB 33 28 32,dP 34 28 3,fM 35 28 (.eqs false false [.b] (.t 33) (.t 34)),eU 36 26 (.pick (.t 28) (.t 35) (.c qX)),xW 37 26 36] 37 [bX 38 11,dY 10 38] (bJ [aO 39 11,xL 40 39,bS 41,aW 42,bT 43 40 41,xS 1 43 42] (eV [aP 44 11,xL 45 44,bS 46,fD 47 mG [.t 45,.t 46],⟨none,none,.clear vV (.t 47)⟩] [bX 48 11,dY 10 48])))⟩
def lZ:AFn:=⟨3,[.tmp 6],fU vZ [aD 7,aR 8 .lss 7,aX 9,kW 10 9,bB 11 9 0 3,bB 12 9 3 11,aK 13 9 12,cJ 14 9 13,cT 15 9 .geq 10 14,xW 16 9 15,xM 17 16,kW 18 17,bB 19 17 9 3,aK 20 17 19,cJ 21 17 20,cT 22 17 .geq 18 21,xW 23 17 22] 23 (eQ 6) (c9 [bS 24,xO 25 (uY .i64 24),cA 26,eW 27 26,xL 28 27,aD 29,dS 30 28 29,b9 31 30,xL 32 31,xB 33 .lss 25 32,xM 34 33,dP 35 34 2,fM 36 34 (uY .i64 35),d9 37 34 9 3,dB 38 34 37,dP 39 34 1,fM 40 34 (DQ 1 38 39),dB 41 34 40,wU 42 34 41,nL 43 34 .lss 36 42,xV 44 34 43,b6 44])⟩
def c_387_l0:Xu:=dZ 12 .lss 11 10 12 0 1 SR 28 .add 11 11 28
def c_387_k1:Xu:=v5 29 29
def JI:AFn:=⟨1,[.tmp 2],jF vY TB G3 c_387_l0 c_387_k1⟩
def eF:AFn:=⟨2,cZ,rG DI [cA 10,xL 11 10] 0 (NZ (bN 13 .eql 11) 12 13 12 (l6 [b9 15 3,xL 16 15,aI 17 kL 16,xM 14 17,bG 18 14,bI 19 14,b6 18,cC 19] (w8 [bM 20,aR 21 .eql 20,xM 22 21,d9 23 22 1 3,dB 24 22 23,hS 25 22 .lss 24 dL,dP 26 22 25,qK 27 26,aK 28 26 27,cQ 29 26 6,qD 30 26 bE [.t 29],eU 31 26 (uY .i64 30),cT 32 26 .gtr 28 31,fM 33 22 TU,xV 34 22 33] 34 w5) TQ) (iF 38 .eql 11 2 37 38 37 (jE [xA 40 10 2,dR 41,xL 42 41,b9 43 3,xL 44 43,eK 45 CJ 40 42 44,xM 39 45,bG 46 39,bI 47 39,jG 8 (.str []),cO 8 46,fE 47] 8 (v6 [dG 48,bF 49 48] 49 DM [aP 50 8,xL 51 50,aI 52 kL 51,bG 53 52,bI 54 52,aN 53,aS 54])) (l9 (xK 56 .eql 11 3) 55 56 (gZ 55 (v6 [dR 57,xL 58 57,aR 59 .lss 58,xM 60 59,qK 61 60,aK 62 60 61,bB 63 60 9 2,aK 64 60 63,cJ 65 60 64,cT 66 60 .geq 62 65,xW 67 60 66] 67 DM [xF 68 9 2,xL 69 68,dR 70,xL 71 70,cL 72 69 71,aP 73 72,xL 74 73,aI 75 kL 74,bG 76 75,bI 77 75,aN 76,aS 77]))))) (cV [dR 78,xL 79 78,aR 80 .lss 79,xM 81 80,qK 82 81,aK 83 81 82,bB 84 81 0 2,dM 85 81 84,aK 86 81 85,cJ 87 81 86,cT 88 81 .geq 83 87,xW 89 81 88] 89 DM (jC (cK 1) cY))⟩
def bV:AFn:=⟨2,cZ,rG DI [iL 8,xL 9 8] 0 (fC [xK 11 .eql 9 6,xM 10 11] (EO 10 (xR [xK 12 .eql 9 7,xM 10 12])) (DP 10 (dK [i7 13,xL 14 13,aR 15 .lss 14,xM 16 15,dM 17 16 2,aK 18 16 17,cE 19 16 .gtr 18 31,xW 20 16 19] 20 w5) (iF 22 .eql 9 8 21 22 21 (cV [i7 23,xL 24 23,aR 25 .lss 24] 25 w5 (fC [b9 27 2,xL 28 27,aI 29 kL 28,xM 26 29,bG 30 26,bI 31 26,b6 30,cC 31] (dK [bM 32,aR 33 .neq 32,xM 34 33,dM 35 34 2,aK 36 34 35,eU 37 34 DK,aK 38 34 37,bB 39 34 2 2,aK 40 34 39,cT 41 34 .sub 38 40,cT 42 34 .gtr 36 41,xW 43 34 42] 43 vX) (c9 [b9 44 2,xL 45 44,aN 45,cY]))) (l7 [xK 47 .eql 9 14,xM 46 47] 46 [xO 48 DK,xL 49 48,xO 50 G4,xL 51 50,xB 52 .add 49 51,aI 53 kL 52,bG 54 53,bI 55 53,aN 54,aS 55] (l9 (xK 57 .eql 9 17) 56 57 (gZ 56 (v6 [xO 58 DK,xL 59 58,bN 60 .neq 59,xM 61 60,eU 62 61 G4,aK 63 61 62,eU 64 61 (X5 1 3 3 (dD 2)),aK 65 61 64,cT 66 61 .neq 63 65,xW 67 61 66] 67 vX [xO 68 G4,xL 69 68,aN 69,cY]))))))) (cV [iL 70,xL 71 70,aI 72 pS 71,xK 73 .eql 72 2,xM 74 73,fM 75 74 DK,dB 76 74 75,fM 77 74 G4,dB 78 74 77,nL 79 74 .neq 76 78,xV 80 74 79] 80 vX (v6 [iL 81,xL 82 81,xK 83 .eql 82 15,xM 84 83,bB 85 84 0 2,aK 86 84 85,cE 87 84 .eql 86 16,xW 88 84 87] 88 [cK 1,cY] [xO 89 DK,xL 90 89,aN 90,cY]))⟩
def JJ:AFn:=⟨2,[.tmp 4],gH (g6 4) [nT,xO 6 (.un .xor (.t 5)),aD 7,aI 8 bE 7,xB 9 .and 6 8,aN 9]⟩
def JK:AFn:=⟨3,[.tmp 6],rI [g6 6] [aG 7,aD 8,xO 9 TY,xB 10 .shl 7 9,bS 11,aI 12 bE 11,xB 13 .and 10 12,b6 13] .ret⟩
def JL:AFn:=⟨3,[.tmp 6],gH (g6 6) [aG 7,bP 2,aI 9 bE 8,xB 10 .and 7 9,aD 11,xO 12 (.minmax true [.t 11,.c qA]),xB 13 .shr 10 12,b6 13]⟩
def JM:AFn:=⟨3,[.tmp 6],fU [g6 6] [bS 7,xO 8 TG,aI 9 fZ 8,bF 10 9,xM 11 10,kW 12 11,cE 13 11 .lss 12 0,xW 14 11 13,xM 15 14,kW 16 15,cQ 17 15 2,eU 18 15 (DT .sub (dD 32) 17),cT 19 15 .gtr 16 18,xW 20 15 19] 20 (g6 6) (qE [aG 21,aD 22,xB 23 .shr 21 22,bS 24,aI 25 bE 24,xB 26 .and 23 25,b6 26])⟩
def JN:AFn:=⟨3,[.tmp 6],gH (g6 6) [aG 7,aD 8,xB 9 .add 7 8,bS 10,aI 11 bE 10,xB 12 .and 9 11,b6 12]⟩
def JO:AFn:=⟨3,[.tmp 6],gH (g6 6) [aG 7,aD 8,xB 9 .sub 7 8,bS 10,aI 11 bE 10,xB 12 .and 9 11,b6 12]⟩
def JP:AFn:=⟨4,[.tmp 8,.tmp 9],i9 [g6 8,eQ 9] [aD 10,aW 11,xO 12 (.bslice .imm 1 (List.replicate 2 kT) [(0,(.t 10)),(1,(.t 11))]),aI 13 fZ 12,bF 14 13,xM 15 14,kW 16 15,cQ 17 15 3,cT 18 15 .add 16 17,cE 19 15 .gtr 18 32,xW 20 15 19] 20 (g6 8) (eQ 9) (qE [aG 21,aD 22,aI 23 bE 22,xB 24 .and 21 23,aW 25,xB 26 .shl 24 25,bS 27,aW 28,aI 29 bE 28,xB 30 .and 27 29,xB 31 .or 26 30,bP 31,w9 9])⟩
def JQ:AFn:=⟨1,NV,i9 [jG 2 gE] [qJ] 3 (xO 4 (.build iH [(0,1,(.c (.int .u32 1))),(1,1,NU)])) (cO 2 4) (jC (xO 5 (.build iH [(0,1,(.c (.int .u32 0))),(1,1,NU)])) (cO 2 5))⟩
def c_398_l0:Xu:=dZ 36 .lss 35 34 36 0 1 (bJ [xM 37 35,bT 38 33 35,xL 39 38,aS 37,b6 39] (dK [aV 40,xN 41 40,i7 42,xL 43 42,aF 44,cL 45 43 44,aP 46 45,xL 47 46,xN 48 47,xB 49 .neq 41 48] 49 [cF])) 50 .add 35 35 50
def c_398_k1:Xu:=qY 4
def JR:AFn:=⟨2,[.tmp 4],n8 G8 [cA 7,xL 8 7,xN 9 8,i7 10,xL 11 10,xN 12 11,xB 13 .neq 9 12,xM 14 13,qK 15 14,aK 16 14 15,cJ 17 14 16,dM 18 14 2,aK 19 14 18,cJ 20 14 19,cT 21 14 .neq 17 20,xW 22 14 21,xM 23 22,bB 24 23 2 3,aK 25 23 24,cJ 26 23 25,bB 27 23 2 2,aK 28 23 27,cJ 29 23 28,cT 30 23 .neq 26 29,xW 31 23 30] 31 cF NN c_398_l0 c_398_k1⟩
def c_399_l0:Xu:=dZ 12 .lss 11 10 12 0 1 (bJ [xM 13 11,bT 14 9 11,xL 15 14,cC 13,bP 15] (dK [aX 16,i8 17,aD 18,bM 19,xO 20 (.build vU [(0,1,(.t 18)),(1,1,(.t 19))]),aL 21 iR 17 20,aI 22 bE 21,xB 23 .gtr 16 22] 23 [eQ 6])) 24 .add 11 11 24
def c_399_k1:Xu:=qY 6
def JS:AFn:=⟨3,[.tmp 6],eL vZ [bS 9,xN 10 9,b7 11] c_399_l0 c_399_k1⟩
def JT:AFn:=⟨1,[.tmp 2],gH lD [qJ,GD 4 CK 3 (.c (.func (.func mU) [] [])),bF 5 4,aF 2]⟩
def c_401_l0:Xu:=dZ 8 .lss 7 6 8 0 1 (v9 9 5 7 (xL 10 9) (aN 10) (g0 (cG 11) 12 .neq 11 12 [cG 13,eR 13])) 14 .add 7 7 14
def c_401_k1:Xu:=dQ dF
def JU:AFn:=⟨1,[.tmp 2],eL [dF] [nT,xN 6 5,b7 7] c_401_l0 c_401_k1⟩
def c_402_l0:Xu:=dZ 9 .lss 8 7 9 0 1 (l9 (aX 10) 5 10 (dK [aD 11,aG 12,aF 13,cL 14 12 13,aZ 15 14,DS 16 11 [.t 15]] 16 G6)) 18 .add 8 8 18
def c_402_k1:Xu:=dQ kV
def JV:AFn:=⟨2,[.tmp 4],eL [bO] lQ c_402_l0 c_402_k1⟩
def zA:AFn:=⟨2,[.tmp 4],gH cF NK⟩
def zB:AFn:=⟨2,[.tmp 4],gH cF NK⟩
def sG:AFn:=⟨1,rD,i9 [dF,gF] TC 9 dF (xI 3 10) (c9 [aG 10,eR 10,gF])⟩
def gU:AFn:=⟨3,[.cell 6 true 2,.tmp 7],wA qZ (jG 6 (.str [])) (eQ 7) (iJ [cA 9,b9 10 9,xL 11 10,bP 11] [aD 12,xK 13 .neq 12 (-1)] (gZ 13 (cV [aD 14,aR 15 .lss 14,xM 16 15,kW 17 16,bB 18 16 0 3,dM 19 16 18,aK 20 16 19,cJ 21 16 20,cT 22 16 .geq 17 21,xW 23 16 22] 23 [xO 24 (.build vT []),cO 6 24,eQ 7] (xR [cA 25,aP 26 25,xL 27 26,aD 28,cL 29 27 28,aP 30 29,xL 31 30,bP 31]))) (v6 [bS 32,aR 33 .lss 32,xM 34 33,cQ 35 34 2,cQ 36 34 8,cJ 37 34 36,cT 38 34 .geq 35 37,xW 39 34 38] 39 [xO 40 (.build vT []),cO 6 40,eQ 7] [aX 41,bS 42,cL 43 41 42,aZ 44 43,cO 6 44,w9 7]))⟩
def JW:AFn:=⟨2,[.tmp 4],gH cF [nT,aD 6,aL 7 CL 5 6,aR 8 .geq 7,aN 8]⟩
def JX:AFn:=⟨1,[.tmp 2],gH lD [qJ,vA 4 .neq 3 gE,cG 2]⟩
def c_410_l0:Xu:=dZ 9 .lss 8 7 9 0 1 (l9 (aX 10) 5 10 (dK [aD 11,aG 12,aF 13,bT 14 12 13,xL 15 14,DS 16 11 [.t 15]] 16 G6)) 18 .add 8 8 18
def c_410_k1:Xu:=dQ kV
def JY:AFn:=⟨2,[.tmp 4],eL [bO] lQ c_410_l0 c_410_k1⟩
def JZ:AFn:=⟨2,[.tmp 4],wA (gD 2 0) (gD 3 1) (xC 4 DO) (eV T9 [xC 4 DO])⟩
def zD:AFn:=⟨2,[.tmp 4],l5 [gD 2 0,gD 3 1,xC 4 DO] T9 10 [iL 11,eW 12 11,xL 13 12,aN 13] (c9 [iL 14,xF 15 4 14,xL 16 15,aN 16])⟩
def zE:AFn:=⟨2,[.tmp 4],l6 [gD 2 0,gD 3 1,xC 4 DO] (.seq (uZ [(1,5)] [⟨some 5,none,.faddr 1 (.t 3)⟩,⟨some 6,none,.load false 1 (.t 5)⟩,⟨some 7,none,.faddr 0 (.t 2)⟩,⟨some 8,none,.faddr 2 (.t 7)⟩,⟨some 9,none,.load false 1 (.t 8)⟩,⟨some 10,none,.append .app 3 24 (.c rE) (.t 9)⟩,⟨some 11,none,.pcallv (.t 6) [.t 10]⟩] none) (NY 11 [iL 12,eW 13 12,xL 14 13,aN 14])) (c9 [iL 15,xF 16 4 15,xL 17 16,aN 17])⟩
def tabL:List (Nat×AFn):=[(XC,K0),
  (LM,LB),
  (LN,PY),
  (LO,PZ),
  (LP,vD),
  (F7,yE),
  (AG,nA),
  (LQ,vE),
  (LR,Q0),
  (LS,LC),
  (LT,LD),
  (LU,LE),
  (LV,LF),
  (CN,F0),
  (F8,oR),
  (LW,vF),
  (LX,r7),
  (LY,r8),
  (LZ,Q1),
  (M0,LG),
  (M2,Q2),
  (M4,Q3),
  (M5,Q4),
  (M6,zF),
  (M7,LH),
  (M8,LI),
  (M9,LJ),
  (MC,F2),
  (F9,Q5),
  (FA,F4),
  (MD,LK),
  (FB,F5),
  (FD,Q6),
  (CQ,LL),
  (zG,wY),
  (zH,wZ),
  (zI,xH),
  (kC,nX),
  (sH,GM),
  (kD,nY),
  (mA,GN),
  (sI,jR),
  (fX,nZ),
  (bZ,GO),
  (zJ,o9),
  (zK,oA),
  (zL,jS),
  (zM,iM),
  (oS,fF),
  (zN,rJ),
  (zO,rK),
  (zP,xP),
  (zQ,rL),
  (sJ,GP),
  (sK,xT),
  (oT,oC),
  (oU,GQ),
  (zR,rM),
  (zS,jT),
  (zT,GR),
  (zU,xU),
  (zV,GS),
  (zW,oD),
  (oV,fG),
  (oW,GT),
  (zX,gP),
  (zY,xY),
  (sL,xZ),
  (mB,oE),
  (zZ,GU),
  (sN,eB),
  (mD,oF),
  (oZ,rN),
  (kF,GV),
  (A1,yA),
  (A4,GW),
  (bE,yB),
  (p5,jV),
  (eG,jW),
  (iR,rO),
  (kG,fH),
  (kH,rP),
  (sO,yC),
  (p6,yD),
  (sP,lT),
  (sQ,yF),
  (sR,GX),
  (A5,GY),
  (p7,yG),
  (sS,GZ),
  (A6,H5),
  (A7,H6),
  (sT,H7),
  (A8,aY),
  (A9,H8),
  (AA,H9),
  (AB,HA),
  (AC,yH),
  (p8,HB),
  (p9,HC),
  (mE,HD),
  (AD,eO),
  (sW,HE),
  (AE,gQ),
  (AF,yI),
  (sX,HG),
  (pA,HH),
  (pB,yJ),
  (bA,yK),
  (cP,HI),
  (sY,HJ),
  (sZ,HK),
  (pC,HL),
  (iS,oG),
  (kI,HM),
  (t6,HN),
  (pD,HO),
  (AJ,HQ),
  (t7,HT),
  (pE,HU),
  (AK,lU),
  (t8,HW),
  (pF,HX),
  (t9,oH),
  (tA,HY),
  (pG,HZ),
  (tB,rQ),
  (AM,jX),
  (tC,yL),
  (AN,I4),
  (fY,oI),
  (AP,I5),
  (AQ,I6),
  (tD,I7),
  (iT,yM),
  (AR,yN),
  (pH,iN),
  (AS,jY),
  (fZ,lW),
  (iU,rR),
  (AW,I8),
  (tE,I9),
  (tG,rS),
  (AY,yO),
  (pI,yP),
  (mF,rT),
  (kJ,rU),
  (tH,IA),
  (AZ,rV),
  (B1,rW),
  (tI,yQ),
  (mG,dC),
  (B2,rX),
  (B4,oJ),
  (mH,yR),
  (dO,IB),
  (B5,yS),
  (mI,IC),
  (pJ,rY),
  (tJ,ID),
  (B6,rZ),
  (tK,IE),
  (tL,IF),
  (tN,IG),
  (tO,IH),
  (tP,II),
  (tQ,IJ),
  (tR,IK),
  (mJ,oK),
  (fJ,eC),
  (B7,IL),
  (pK,IM),
  (tS,yT),
  (tT,s5),
  (mK,yU),
  (pL,gR),
  (pM,s6),
  (tU,eD),
  (tV,IO),
  (tW,oL),
  (B8,IP),
  (B9,yV),
  (tX,yW),
  (mL,s7),
  (mM,IQ),
  (pN,IR),
  (mN,IU),
  (tY,IV),
  (BA,oM),
  (BB,b8),
  (BC,s8),
  (BD,IW),
  (pO,yX),
  (gV,oN),
  (tZ,jZ),
  (BE,fI),
  (BF,yY),
  (BG,IX),
  (u5,IY),
  (BH,IZ),
  (pP,J0),
  (BI,J1),
  (BJ,J2),
  (BK,eE),
  (pQ,bR),
  (mO,lX),
  (pR,J3),
  (BL,s9),
  (u6,sC),
  (mP,J4),
  (BM,J5),
  (BN,J6),
  (BO,yZ),
  (u9,sD),
  (uA,iO),
  (pS,z7),
  (BP,k9),
  (BQ,oO),
  (BR,gS),
  (BS,J7),
  (BT,z8),
  (kK,oP),
  (BU,z9),
  (BV,J8),
  (BW,J9),
  (BZ,JA),
  (mQ,JB),
  (uB,gT),
  (pT,sE),
  (C0,lY),
  (uC,oQ),
  (uD,JC),
  (C1,JD),
  (mR,sF),
  (uE,JE),
  (C2,JF),
  (uF,JG),
  (uG,JH),
  (mT,iP),
  (uH,lZ),
  (uI,JI),
  (uJ,eF),
  (C3,bV),
  (C4,JJ),
  (C5,JK),
  (C6,JL),
  (C7,JM),
  (C8,JN),
  (C9,JO),
  (CA,JP),
  (uK,JQ),
  (CB,JR),
  (uL,JS),
  (CC,JT),
  (CD,JU),
  (CE,JV),
  (CG,zA),
  (CH,zB),
  (kL,sG),
  (CJ,gU),
  (CK,JW),
  (mU,JX),
  (CL,JY),
  (uM,JZ),
  (uN,zD),
  (CM,zE)]
def tabD:List (Nat×ADFn):=[(MA,dT)]
def tabC:List CloneD:=[⟨CP,1,8,.row⟩,⟨FC,2,8,.app⟩,⟨oY,1,4,.app⟩,⟨QK,2,24,.app⟩,⟨QL,3,32,.app⟩,⟨QZ,3,24,.app⟩,⟨R0,3,16,.app⟩,⟨R3,3,24,.app⟩]
def nilL:List (Nat×Nat):=[(f_6,14),(XF,3),(XF,4),(XF,6),(F7,10),(X9,8),(F8,6),(R7,3),(XG,4),(XJ,15),(XK,14),(CQ,3),(Q9,5),(oW,5),(QF,10),(QG,16),(p5,10),(sO,7),(mE,3),(sW,5),(sZ,5),(t6,5),(t7,5),(t8,5),(tA,5),(QJ,5),(QM,5),(QN,5),(QO,5),(QP,5),(QR,3),(QT,4),(QU,8),(pH,12),(QV,8),(tH,3),(mN,3),(QY,5),(R4,8),(mO,9),(eG,9),(eG,13),(eG,30)]
def thr:List Nat:=[QW,QX,XB,R8,XD,XE,CO,sH,kD,sI,QE,kH,tE,tG,pI,tN,tO,tP,tQ,tR,fJ,pK,tT,mK,gV,mO,kK,uF]
def thrAt:List (Nat×Nat):=[(XH,iQ),(R5,iQ),(p6,mI),(pJ,mI),(CO,CP),(XA,R7),(p5,iU),(QS,iQ),(kC,eG),(mT,eG),(kC,kG),(kG,mG),(mT,mG),(u9,uI)]
def thrV:List Nat:=[gV,kH,uM,uN,p7,sP]
def rowAt:List (Nat×Nat):=[(AU,27),(AU,29),(iQ,26),(iQ,34),(QX,112),(CP,7),(iQ,9),(iQ,28),(eG,32)]
def thrVAt:List (Nat×Nat):=[]
def rowF:List Nat:=[CO,MB,mF,kJ,kK]
def rowFB:List Nat:=[mF,kJ,kK]
def appAt:List (Nat×Nat):=[(MB,32),(CO,70)]
def immAt:List (Nat×Nat):=[(QQ,26)]
def slcHL:List Nat:=[]
def browAt:List (Nat×Nat):=[(AU,28),(iQ,27),(CO,39),(eG,31)]
def boxiAt:List (Nat×Nat):=[(R8,2),(QW,1),(MB,1)]
def takeAt:List (Nat×Nat):=[]
def boxiL:List (Nat×List Nat):=[(3,[1]),(4,[2]),(5,[1]),(6,[3]),(7,[1]),(8,[1]),(9,[2]),(10,[1]),(11,[2,3]),(13,[3,4,5]),(14,[3,4,5]),(15,[2,3]),(18,[3,4]),(19,[3]),(21,[1]),(22,[2,3]),(29,[5]),(31,[8,9]),(32,[2]),(34,[1]),(37,[3,4,5]),(38,[3,5]),(39,[4,5]),(45,[1]),(46,[2,3]),(47,[3,4,5]),(48,[1]),(49,[1]),(50,[1]),(51,[1]),(52,[1]),(53,[1]),(54,[1]),(55,[4]),(56,[3,5]),(57,[2]),(59,[2,3]),(67,[1]),(74,[3,5]),(78,[1]),(79,[3]),(81,[1]),(89,[2]),(90,[4,5,6]),(91,[2,3]),(92,[5,6]),(93,[4,5,7]),(98,[1]),(100,[5,9]),(101,[2]),(102,[2]),(103,[4,5,6]),(110,[1]),(112,[1]),(113,[2]),(114,[2]),(115,[1]),(116,[1]),(117,[1]),(118,[3,5]),(119,[3]),(120,[3]),(121,[2,3]),(123,[1]),(126,[2]),(130,[1]),(131,[1]),(132,[1]),(133,[1]),(134,[1]),(135,[1]),(137,[1]),(138,[1]),(139,[2]),(140,[2]),(141,[3]),(142,[2]),(143,[3]),(144,[2,3]),(146,[1]),(148,[2]),(151,[2]),(153,[2,3]),(154,[2,3]),(155,[2]),(157,[2,3]),(159,[3,5]),(160,[1]),(161,[3]),(162,[7,8]),(163,[4,5,7]),(164,[4,5]),(166,[2]),(167,[3,5]),(170,[2]),(172,[2,3]),(177,[3,5]),(179,[4,5,6]),(180,[5,6]),(182,[2,3]),(183,[2,3]),(186,[2]),(188,[3,4,5]),(189,[2]),(190,[2,3]),(191,[2,3]),(192,[2]),(196,[3]),(197,[2]),(198,[3]),(199,[2]),(200,[2]),(207,[1]),(208,[1]),(211,[1]),(214,[1]),(215,[1]),(217,[1]),(218,[2]),(220,[1]),(221,[1]),(222,[1]),(223,[1]),(236,[1]),(238,[2,3]),(239,[2,3]),(240,[2]),(243,[2]),(244,[1]),(246,[4,5]),(247,[2,3]),(248,[1]),(249,[2,3]),(250,[3]),(251,[5]),(253,[2,3]),(256,[2]),(257,[4]),(258,[3,5]),(259,[3,4]),(260,[3,4]),(261,[4]),(262,[5]),(265,[2]),(268,[2,3]),(274,[2]),(278,[1]),(279,[2,3]),(280,[2]),(281,[2]),(283,[5]),(284,[5]),(285,[4,6,7]),(293,[3]),(295,[2,3]),(300,[2,3]),(301,[4]),(302,[2,3]),(303,[2]),(304,[3]),(311,[1]),(313,[1]),(314,[2,3]),(315,[2]),(319,[5]),(320,[3,4]),(321,[1]),(333,[2]),(335,[2,3]),(336,[2]),(344,[2]),(345,[4,6,7]),(346,[3]),(347,[4]),(351,[3,5]),(353,[3,4]),(354,[3,4]),(355,[4]),(356,[5]),(357,[3]),(359,[3]),(360,[2,3]),(361,[4,5]),(362,[2,3]),(365,[1]),(369,[2]),(370,[2,3]),(371,[3]),(372,[3,5]),(373,[3]),(374,[2]),(376,[1]),(377,[1]),(380,[3,5]),(382,[1]),(385,[5,6]),(386,[3]),(388,[2,3]),(389,[2,3]),(398,[2,3]),(399,[3]),(407,[3])]
def keepL:List (Nat×List (Nat×List Nat)):=[(3,[(3,[3,4]),(4,[5,6])]),(4,[(3,[6]),(4,[8])]),(5,[(3,[3])]),(6,[(4,[9]),(5,[11]),(6,[13])]),(7,[(3,[3,4])]),(8,[(11,[7,8]),(12,[9,10])]),(9,[(3,[5]),(10,[13,14])]),(10,[(1,[3]),(2,[4]),(8,[11,12])]),(12,[(1,[1,2]),(2,[3,4]),(3,[5,6]),(4,[8])]),(13,[(1,[9])]),(14,[(1,[8])]),(18,[(6,[12]),(9,[14])]),(19,[(5,[10,11])]),(24,[(1,[1,2])]),(26,[(1,[4])]),(33,[(7,[3]),(8,[4])]),(35,[(6,[3]),(7,[4]),(8,[5]),(9,[6])]),(37,[(3,[8])]),(45,[(8,[8]),(9,[9]),(16,[11])]),(46,[(1,[5])]),(47,[(1,[9]),(4,[11])]),(58,[(1,[6])]),(63,[(2,[2])]),(64,[(2,[2]),(3,[3])]),(72,[(4,[5])]),(74,[(9,[12])]),(82,[(8,[8]),(15,[10])]),(85,[(2,[2])]),(89,[(1,[6])]),(90,[(1,[9])]),(91,[(15,[11])]),(93,[(1,[10,11]),(2,[12])]),(100,[(6,[13]),(15,[15])]),(102,[(1,[6])]),(103,[(1,[9])]),(105,[(2,[6])]),(110,[(11,[5])]),(113,[(3,[6])]),(114,[(3,[6])]),(128,[(4,[7])]),(131,[(4,[4])]),(132,[(5,[4]),(12,[6])]),(133,[(4,[4])]),(136,[(3,[5])]),(137,[(4,[5])]),(139,[(3,[6])]),(140,[(6,[7])]),(142,[(6,[7])]),(159,[(10,[11])]),(162,[(1,[11]),(20,[19])]),(163,[(1,[10])]),(164,[(4,[12]),(9,[15])]),(176,[(3,[5])]),(178,[(3,[10]),(4,[11])]),(179,[(5,[13]),(10,[15])]),(183,[(3,[5])]),(192,[(1,[6])]),(196,[(1,[7])]),(206,[(4,[7])]),(208,[(9,[4])]),(210,[(4,[7])]),(213,[(4,[7])]),(216,[(4,[7])]),(218,[(3,[6]),(7,[7]),(10,[9])]),(219,[(4,[7])]),(221,[(8,[7])]),(224,[(4,[7])]),(228,[(4,[7])]),(230,[(4,[7])]),(232,[(4,[7])]),(234,[(4,[7])]),(238,[(4,[9])]),(246,[(5,[13])]),(264,[(1,[3])]),(265,[(6,[9])]),(268,[(5,[7])]),(281,[(5,[6])]),(282,[(3,[7])]),(283,[(3,[7])]),(294,[(1,[3]),(9,[4]),(10,[5]),(12,[6]),(13,[7]),(14,[8])]),(295,[(6,[8])]),(298,[(14,[13])]),(303,[(1,[6]),(6,[9])]),(311,[(4,[5])]),(313,[(7,[4])]),(314,[(1,[5])]),(315,[(1,[6]),(16,[10])]),(317,[(6,[5])]),(318,[(3,[6])]),(323,[(4,[7])]),(333,[(10,[10])]),(346,[(1,[7])]),(348,[(12,[11])]),(351,[(5,[8])]),(385,[(1,[11])]),(388,[(8,[8])])]
def Nl:List (Nat×List Nat):=[(130,[1,2,3,4,5]),(131,[5,6,7]),(132,[1,6,7,8,13]),(133,[5,6,13,14,21,22]),(134,[2,4,6]),(168,[2]),(203,[1])]
def ann:Ann:=
  { pure:=fun fn f _=> !(iZ f thr)&& !(thrAt.any fun p=>p.1 == fn&&p.2 == f)
    purev:=fun fn d=> !(iZ fn thrV)&& !(match d with | some t=>thrVAt.any (fun q=>q.1 == fn&&q.2 == t) | none=>false),bmode:=fun fn d=>if iZ fn rowFB || (match d with | some t=>browAt.any (fun q=>q.1 == fn&&q.2 == t) | none=>false) then .row else .imm,smode:=fun fn d=>match d with | some t=>if immAt.any (fun q=>q.1 == fn&&q.2 == t) then .imm else .row | none=> .row,amode:=fun fn d=>match d with | some t=>if rowAt.any (fun q=>q.1 == fn&&q.2 == t) || (iZ fn rowF&& !(appAt.any fun q=>q.1 == fn&&q.2 == t)) then .row else .app | none=> .app
    nilapp:=fun fn d=>match d with | some t=>nilL.any (fun q=>q.1 == fn&&q.2 == t) | none=>false
    slch:=fun fn d=>(iZ fn slcHL&&(match d with | some t=>t == 13 || t == 31 | none=>false)) || (match d with | some t=>takeAt.any (fun q=>q.1 == fn&&q.2 == t) | none=>false)
    boxi:=fun fn d=>match d with | some t=>boxiAt.any (fun q=>q.1 == fn&&q.2 == t) || (match look fn boxiL with | some l=>iZ t l | none=>false) | none=>false
    keep:=fun fn id=>(look fn keepL).bind (look id)
    split:=fun fn id=>match look fn Nl with | some l=>iZ id l | none=>false }
def ktabL:List Nat:=[174,175,431,36,35,12]
def WP (b:FuncId->Option AFun) (P:Program) (A:Ann) (l:List Nat) (f:FuncId):Option AFun:=match b f with
  | some x=>some x
  | none=>if iZ f l then (cFn P A f).map .code else none
def Φ:FuncId->Option AFun:=WP (WY tabL tabD tabC) Go.Proofs.Tryz.prog ann ktabL
end
end Go.Av
