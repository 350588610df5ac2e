/-
  The compact form of the program's functions, printed by a program.
-/
import Derived.Test.YtjdbnnnakpacjaaGreatAvD
import Derived.Test.YtjdbnnnakpacjaaGreatRows
namespace Go.Av
noncomputable section
abbrev xM (d s:Nat):Xw:=⟨some d,none,.mov (.t s)⟩
abbrev xI (d:Nat) (n:Int):Xw:=⟨some d,none,.mov (.c (.int .i64 n))⟩
abbrev xC (d:Nat) (v:AV):Xw:=⟨some d,none,.mov (.c v)⟩
abbrev xF (d o s:Nat):Xw:=⟨some d,none,.faddr o (.t s)⟩
abbrev xL (d s:Nat):Xw:=⟨some d,none,.load false 1 (.t s)⟩
abbrev xA (d n s:Nat):Xw:=⟨some d,none,.load true n (.t s)⟩
abbrev xX (d z a i:Nat):Xw:=⟨some d,none,.iaddr z none (.t a) (.t i)⟩
abbrev xS (n p v:Nat):Xw:=⟨none,none,.store n (.t p) (.t v)⟩
abbrev xN (d s:Nat):Xw:=⟨some d,none,.len (.t s)⟩
abbrev xE (d i s:Nat):Xw:=⟨some d,none,.ext i (.t s)⟩
abbrev xB (d:Nat) (p:BinOp) (a b:Nat):Xw:=⟨some d,none,.bin p (.t a) (.t b)⟩
abbrev xK (d:Nat) (p:BinOp) (a:Nat) (n:Int):Xw:=⟨some d,none,.bin p (.t a) (.c (.int .i64 n))⟩
abbrev xW (d a b:Nat):Xw:=⟨some d,none,.pick (.t a) (.c (.bool true)) (.t b)⟩
abbrev xV (d a b:Nat):Xw:=⟨some d,none,.pick (.t a) (.t b) (.c (.bool false))⟩
abbrev xJ (d s:Nat):Xw:=⟨some d,none,.boxi (.t s)⟩
abbrev xO (d:Nat) (p:AOp):Xw:=⟨some d,none,p⟩
abbrev xG (d g:Nat) (b:Bool) (p:AOp):Xw:=⟨some d,some (g,b),p⟩
abbrev xR (l:List Xw):Xv:= .region false [] l none
abbrev xD (l:List Xw):Xv:= .region true [] l none
abbrev xQ (l:List Xw) (k:List Nat):Xv:= .region false [] l (some k)
abbrev bW (a:List Xw) (b:Xv):Xv:= .seq (xR a) b
abbrev zW (a:Nat) (b c:Xv):Xv:= .cond (.t a) b c
abbrev eM (a b:Nat) (c:AOp):Xw:=xG a b false c
abbrev dG (a:List Xw):Xv:=bW a .ret
abbrev eH (a:List Xw) (b c:Xv):Xv:= .seq (bW a b) c
abbrev a8 (a:Int):AV:= .int .i64 a
abbrev PU (a b:Nat) (c:List AX):Xw:=xO a (.pcall b c)
abbrev ME (a:Nat) (b:List Xw) (c:Xv):Xv:=zW a (dG b) c
abbrev MF (a:Nat) (b:List Xw):Xv:=ME a b .skip
abbrev yaj (a b:Nat):AOp:= .faddr a (.t b)
abbrev iQ (a:Nat) (b c:Xv):Xv:= .seq (.block a b) c
abbrev yal (a:Nat) (b:AX):AOp:= .load false a b
abbrev bY (a:Int):AX:= .c (a8 a)
abbrev gN (a b:Nat) (c:AOp):Xw:=xG a b true c
abbrev zX (a:Nat) (b:Xv):Xv:= .block a (.loop b)
abbrev jH (a b:List Xw) (c d:Xv):Xv:=bW a (eH b c d)
abbrev Yz (a:BinOp) (b:Nat) (c:AX):AOp:= .bin a (.t b) c
abbrev yar (a:Nat) (b:Xv) (c:Nat):Xv:=zW a b (.exit c)
abbrev yas (a b:Nat):AOp:=yal a (.t b)
abbrev cK (a:Nat) (b:List AV):Xw:=xO a (.alloc b)
abbrev yau (a:Nat) (b:Bool):Xw:=xC a (.bool b)
abbrev yav (a:Nat):AOp:= .mov (.t a)
abbrev yaw (a b:Nat):Xv:=yar a .skip b
abbrev yax (a b c d:Nat):Xw:=eM a b (yas c d)
abbrev bH (a b c d:Nat):Xw:=eM a b (yaj c d)
abbrev bF (a:Nat):Xw:=xI a 0
abbrev lV (a:List Xw) (b c:Xv):Xv:=bW a (.seq b c)
abbrev Z6 (a b:Nat) (c:BinOp) (d:Nat) (e:AX):Xw:=eM a b (Yz c d e)
abbrev sG (a:Nat):Xw:=yau a false
abbrev Z7 (a:Nat) (b:Xv) (c:List Xw):Xv:=iQ a b (xR c)
abbrev bK (a b c:Nat):Xw:=eM a b (yav c)
abbrev dY (a b:List Xw) (c:Nat) (d:List Xw) (e:Xv):Xv:=jH a b (MF c d) e
abbrev bM:AV:=a8 0
abbrev dL (a b:List Xw) (c:Xv):Xv:=bW a (bW b c)
abbrev ya8 (a:SM) (b c d:Nat) (e:AX):AOp:= .append a b c (.t d) e
abbrev ya9 (a:Nat):AOp:= .len (.t a)
abbrev yba (a b:Nat) (c d:AX):Xw:=PU a b [c,d]
abbrev Za (a b c:Nat) (d:AX):Xw:=yba a b (.t c) d
abbrev aW (a b c d:Nat):Xw:=Za a b c (.t d)
abbrev FD (a b:List Xw) (c:Nat) (d e:Xv):Xv:=jH a b (zX c d) e
abbrev aE (a:Nat):Xw:=xM a 0
abbrev GB (a:Nat):AOp:= .nilchk (.t a)
abbrev gS (a b:Nat) (c:List AX):Xw:=xO a (.tcall b c)
abbrev d9 (a b c d:Nat):Xw:=gN a b (yaj c d)
abbrev ybi (a:AX):AOp:= .un .not a
abbrev S0 (a:Nat):AOp:=ybi (.t a)
abbrev FE (a:List Xw) (b c:Nat) (d:Xv):Xv:=eH a (yaw b c) d
abbrev lW (a:List Xw) (b:Nat) (c:List Xw):Xv:=bW a (MF b c)
abbrev bV (a b:Nat) (c:BinOp) (d:Nat) (e:Int):Xw:=Z6 a b c d (bY e)
abbrev Zb (a:List Xw) (b c:Nat) (d:Xv):Xv:=lV a (yaw b c) d
abbrev ybo (a:Nat) (b:Option Nat) (c:Nat) (d:AX):AOp:= .iaddr a b (.t c) d
abbrev dA (a:List Xw) (b:Nat) (c:List Xw) (d:Xv):Xv:=eH a (MF b c) d
abbrev ybq (a b:Nat) (c:AX):Xw:=PU a b [c]
abbrev aH (a b c:Nat):Xw:=ybq a b (.t c)
abbrev aR (a b:Nat):Xw:=xF a 0 b
abbrev lX (a:List Xw) (b:Nat) (c:List Xw) (d:Xv):Xv:=bW a (ME b c d)
abbrev ybu (a:List Xw) (b c d:Nat) (e:Xv) (f:List Xw):Xv:=Zb a b c (Z7 d e f)
abbrev dZ (a b c:Nat):Xw:=gN a b (yav c)
abbrev PV (a b:Nat) (c:BinOp) (d:Nat) (e:AX):Xw:=gN a b (Yz c d e)
abbrev aS (a b:Nat):Xw:=xF a 1 b
abbrev cL (a b c:Nat):Xw:=eM a b (ya9 c)
abbrev aJ (a b c:Nat):Xw:=yax a b 1 c
abbrev yb0 (a:List Xw) (b c d:Nat) (e:Xv) (f:List Xw):Xv:=FE a b c (Z7 d e f)
abbrev aD (a:Nat):Xw:=xM a 1
abbrev Z8 (a:IntKind) (b:Nat):AOp:= .conv a (.t b)
abbrev iS (a:Nat) (b:Xv):Xv:=zW a b .skip
abbrev yb4 (a b c d:Nat):Xw:=gN a b (yas c d)
abbrev bN (a:Nat) (b:BinOp) (c:Nat):Xw:=xK a b c 1
abbrev kV (a:List Xw) (b:Xv):Xv:= .seq (xD a) b
abbrev cD (a b:Nat):Xw:=xO a (S0 b)
abbrev yb8 (a:SM) (b c d e:Nat):AOp:=ya8 a b c d (.t e)
abbrev aF (a:Nat):Xw:=xM a 5
abbrev MG (a:Nat) (b:SM) (c d e f:Nat):Xw:=xO a (yb8 b c d e f)
abbrev bO:Xw:=bF 4
abbrev mQ (a b c d e:Nat):Xw:=MG a .app b c d e
abbrev iT (a b:List Xw):Xv:=bW a (dG b)
abbrev kK (a:List Xw) (b:Nat) (c d:Xv):Xv:=eH a (zX b c) d
abbrev jA (a b:Xw):Xv:=dG [a,b]
abbrev aP (a:Nat) (b:BinOp) (c:Nat):Xw:=xK a b c 0
abbrev aM (a:Nat):Xw:=xM 4 a
abbrev tQ (a:List Xw) (b:List Nat) (c:Xv):Xv:= .seq (xQ a b) c
abbrev ycj (a:Nat):AOp:= .box (.t a)
abbrev II (a:Int):AV:= .int .u32 a
abbrev Zc (a:List Xw) (b c d:Nat) (e:Xv) (f g h:Xw):Xv:=yb0 a b c d e [f,g,h]
abbrev pC (a:List Xw) (b c d:Nat) (e:Xv) (f:Xw) (g:Nat) (h:BinOp) (i:Nat) (j:Xw):Xv:=Zc a b c d e f (bN g h i) j
abbrev PZ (a:Nat) (b:IntKind) (c:Nat):Xw:=xO a (Z8 b c)
abbrev aO (a:Nat):Xw:=xM 5 a
abbrev dU (a b:Nat) (c:BinOp) (d e:Nat):Xw:=Z6 a b c d (.t e)
abbrev mS (a:Nat):Xw:=xI a (-1)
abbrev eY (a b:Nat) (c:BinOp) (d:Nat) (e:Int):Xw:=PV a b c d (bY e)
abbrev aQ (a:Nat):Xw:=xM a 3
abbrev yct (a b:Nat) (c:AX):AOp:=ybo a none b c
abbrev FF (a b:Nat):Xw:=xO a (ycj b)
abbrev eI (a b:Nat):Xw:=xO a (GB b)
abbrev iU (a b:Xw) (c:Xv):Xv:=bW [a,b] c
abbrev FG (a:Nat):Xw:=xJ a 0
abbrev jX (a b c:Nat) (d:List AX):Xw:=gN a b (.pcall c d)
abbrev ycz (a:List Xw) (b c d:Nat) (e:Xv) (f g:Xw):Xv:=ybu a b c d e [f,g]
abbrev yc0 (a:List Xw) (b c d:Nat) (e:Xv) (f:Nat) (g:BinOp) (h:Nat) (i:Xw):Xv:=ycz a b c d e (bN f g h) i
abbrev fE (a:List Xw) (b c d:Nat) (e:Xv) (f:Nat) (g:BinOp) (h i j:Nat):Xv:=yc0 a b c d e f g h (xM i j)
abbrev jW (a b:Nat):Xw:=xA a 9 b
abbrev PX (a b:Nat) (c d e f:AX):Xw:=PU a b [c,d,e,f]
abbrev PY (a b:Nat) (c:AX) (d:Int) (e f:AX):Xw:=PX a b c (bY d) e f
abbrev aT (a:Nat):Xw:=xM a 6
abbrev lY (a b:Nat):Xw:=xO a (.nilapp b)
abbrev mP (a:Nat):Xw:=yau a true
abbrev cP (a b:Nat):Xw:=xF a b 1
abbrev zY (a:Xw) (b c:Nat) (d:Xv):Xv:=iU a (xM b c) d
abbrev mA (a b:List Xw) (c d:Xv):Xv:=FD a b 0 c d
abbrev d7:Xw:=bF 5
abbrev aX (a b:Nat):Xw:=xA a 2 b
abbrev cT:Xw:=bF 6
abbrev gT (a b c:Nat) (d:Int):Xw:=Za a b c (bY d)
abbrev GC (a b:Nat) (c:AX) (d:Int) (e:AX) (f:Int):Xw:=PY a b c d e (bY f)
abbrev jB (a:Nat) (b c d e:AV):Xw:=cK a [b,c,d,e]
abbrev aY (a:Nat):Xw:=xM a 4
abbrev bC (a:Nat):Xw:=xM a 8
abbrev gZ (a:List Xw) (b:Nat) (c d:List Xw) (e:Nat) (f:List Xw):Xv:=lX a b c (lW d e f)
abbrev dB (a:Nat):Xw:=aR a 3
abbrev jI (a:List Xw) (b:Nat) (c:List Xw):Xv:=kV a (MF b c)
abbrev bD (a:Nat):Xw:=xM 6 a
abbrev b9 (a b:Nat):Xw:=xE a 0 b
abbrev bA (a b:Nat):Xw:=xE a 1 b
abbrev i8 (a:Nat) (b:List Xw):Xv:=iS a (xR b)
abbrev ydq (a:Nat) (b:List AX):AOp:= .pcallv (.t a) b
abbrev cJ (a b c:Nat):Xw:=yb4 a b 1 c
abbrev dC (a b c:Nat):Xw:=bH a b 1 c
abbrev eN (a:Xw):Xv:=dG [a]
abbrev ydu (a:IntKind) (b:Int):AX:= .c (.int a b)
abbrev cV (a:Nat):Xw:=aS a 1
abbrev ydw (a b:Nat) (c d e:AX):Xw:=PU a b [c,d,e]
abbrev ydx (a b c:Nat) (d e:AX):Xw:=ydw a b (.t c) d e
abbrev Z9 (a b c d:Nat) (e:AX):Xw:=ydx a b c (.t d) e
abbrev gD (a b c d e:Nat):Xw:=Z9 a b c d (.t e)
abbrev gC (a:List Xw) (b c d:Nat) (e:List Xw) (f:List Nat) (g:Xv) (h:Nat) (i:BinOp) (j k l:Nat):Xv:=fE a b c d (tQ e f g) h i j k l
abbrev Q0 (a b c:Nat):AOp:=yct a b (.t c)
abbrev jY (a b c:List Xw) (d e:Xv):Xv:=bW a (mA b c d e)
abbrev oD (a:Nat) (b c:AV):Xw:=cK a [b,c]
abbrev Q1 (a:Xw) (b c d:Nat) (e f:Xv):Xv:=zY a b c (zW d e f)
abbrev lZ (a b:List Xw) (c:Nat) (d:List Xw):Xv:=dL a b (MF c d)
abbrev bP (a:Nat):Xw:=xM a 2
abbrev bR (a:Nat):Xw:=xM a 7
abbrev eA (a b:Nat):Xw:=xS 4 a b
abbrev eZ:Xw:=FG 1
abbrev zZ (a:Nat) (b:BinOp) (c:Nat) (d:AX):Xw:=xO a (Yz b c d)
abbrev bS (a:Nat):Xw:=xM a 9
abbrev sW (a:List (Nat×Nat)) (b:List Xw) (c:Option (List Nat)):Xv:= .region true a b c
abbrev eD:Xw:=bF 3
abbrev dE (a b:Nat):Xw:=xF a 2 b
abbrev bT (a b c:Nat):Xw:=xX a 1 b c
abbrev jZ:Xw:=FG 2
abbrev eE:Xw:=bF 2
abbrev yei (a:Nat) (b:AX):AOp:= .load true a b
abbrev fG:Xw:=sG 4
abbrev k9 (a b:List Xw) (c:Nat) (d e:List Xw) (f:Nat) (g h:Xv):Xv:=dY a b c d (kK e f g h)
abbrev yel (a:Xw) (b:Nat):Xv:=jA a (aM b)
abbrev dM (a:Nat):Xw:=xM 2 a
abbrev eX (a:Nat):Xw:=jW a 2
abbrev oE (a b c d e:Nat):Xw:=eM a b (Q0 c d e)
abbrev oZ (a b:Nat):Xv:=yel (aF a) b
abbrev cA (a b:Nat):Xw:=xS 2 a b
abbrev cM (a:Nat):Xw:=xM 7 a
abbrev mE (a b:List Xw) (c:Xv):Xv:=lV a (xD b) c
abbrev tT (a b:List Xw) (c:Nat) (d e:Xv):Xv:=jH a b (.block c d) e
abbrev gO (a:Int):Xw:=xI 5 a
abbrev cR (a:Nat):Xw:=xM 8 a
abbrev cU (a:Nat):Xw:=xM 3 a
abbrev wW (a b c:Nat) (d:List AX):Xw:=eM a b (.pcall c d)
abbrev p5 (a b c:Nat):Xw:=gN a b (ya9 c)
abbrev fH:Xw:=sG 2
abbrev fO (a:Nat):Xw:=aS a 3
abbrev eO (a b c d:Nat):Xw:=mQ a 1 b c d
abbrev cQ (a b:Nat):Xw:=xS 1 a b
abbrev dD (a:Int):Xw:=xI 4 a
abbrev Q2 (a b c:Nat) (d:Int) (e:AX) (f:Int):Xw:=GC a b (.t c) d e f
abbrev gE:AV:=II 0
abbrev WH:AV:= .bool false
abbrev oY:Xw:=mS 4
abbrev cW (a b:Nat):Xw:=xA a 4 b
abbrev tS (a:Nat):Xv:=eN (mP a)
abbrev ZA (a b:Nat) (c:Int):AOp:=yct a b (bY c)
abbrev yfb (a b:Nat) (c d:AX):Xw:=gS a b [c,d]
abbrev FH (a b c:Nat) (d:AX):Xw:=yfb a b (.t c) d
abbrev oF (a b c d:Nat):Xw:=FH a b c (.t d)
abbrev mF (a:Nat) (b:AV):Xw:=oD a b bM
abbrev kW (a:Nat):Xw:=eA 2 a
abbrev S4 (a b:Nat):AOp:=yei a (.t b)
abbrev pD (a b:Nat):Xw:=PZ a .i64 b
abbrev dI (a b c:Nat):Xw:=xX a 2 b c
abbrev tU (a:List Xw) (b:Nat) (c d:List Xw):Xv:=dA a b c (dG d)
abbrev pE (a b:List Xw) (c:Nat) (d e:List Xw):Xv:=dY a b c d (dG e)
abbrev yfl (a:Nat) (b:Xw):Xv:=jA (aQ a) b
abbrev tV (a b:Nat):Xv:=yfl a (dM b)
abbrev A2 (a:Nat):AOp:= .slen (.t a)
abbrev jC (a:AV):Xw:=xC 2 a
abbrev oG (a b:Nat) (c:BinOp) (d e:Nat):Xw:=PV a b c d (.t e)
abbrev zE (a b c:Nat):Xw:=eM a b (S0 c)
abbrev kN (a:Nat):Xw:=aR a 1
abbrev eJ (a:Nat):Xw:=xM 9 a
abbrev yft (a:List Xw) (b c:Nat) (d:Xv) (e:Xw) (f:Nat) (g:BinOp) (h:Nat) (i:Xw):Xv:=pC a b 0 c d e f g h i
abbrev dP (a:List Xw) (b:Nat) (c:Xv) (d:Xw) (e:Nat) (f:BinOp) (g:Nat) (h:Xw):Xv:=yft a b 1 c d e f g h
abbrev jK:Xw:=bF 7
abbrev wX (a b:Nat) (c:List AX):Xw:=xO a (ydq b c)
abbrev MH:AX:= .c .nilptr
abbrev iV (a:Nat):Xw:=jW a 1
abbrev pF:Xw:=aE 6
abbrev S3 (a:Nat):Xw:=FF a 0
abbrev mT (a b c:Xw) (d:Xv):Xv:=bW [a,b,c] d
abbrev sH (a:Nat) (b:List Xw) (c:Nat) (d:List Xw) (e f:Xv):Xv:=iQ a (lX b c d e) f
abbrev A1 (a:Nat) (b:Xv):Xv:=zW a .skip b
abbrev jJ (a:Nat):Xw:=jW a 3
abbrev sI (a b:Nat):Xw:=PZ a .u8 b
abbrev f9 (a:Int):Xw:=xI 6 a
abbrev zD (a:BinOp) (b:AX) (c:Nat):AOp:= .bin a b (.t c)
abbrev eP (a b:Nat):Xw:=xF a 3 b
abbrev kL (a:Nat):Xw:=cP a 3
abbrev MI (a b:AX):AOp:= .eqn false a b
abbrev pH (a b c:Nat) (d:Int) (e:Nat) (f:Int):Xw:=Q2 a b c d (.t e) f
abbrev kX (a:Nat):Xw:=cP a 2
abbrev mW (a b:Nat):Xw:=bK a b 0
abbrev sJ:Xw:=FG 3
abbrev FI (a:Xw) (b:Nat):Xv:=jA a (kW b)
abbrev FJ:Xw:=aE 8
abbrev zF (a b c d:Nat):Xw:=gN a b (S4 c d)
abbrev mX (a:Nat) (b:BinOp) (c:Nat) (d:Int) (e f g:Nat) (h i:Xv):Xv:=Q1 (xK a b c d) e f g h i
abbrev MJ (a:Int):AX:=ydu .u8 a
abbrev tW (a b c:Nat) (d:AV):Xw:=Za a b c (.c d)
abbrev tX (a:Nat) (b:BinOp) (c:Nat) (d:AV):Xw:=zZ a b c (.c d)
abbrev oH (a:Nat):Xw:=aS a 2
abbrev fY (a:Int):Xw:=xI 2 a
abbrev sX:Xw:=aE 3
abbrev jL (a b c:Nat):Xw:=d9 a b 1 c
abbrev p8:Xw:=sG 6
abbrev ZB (a b c:Nat) (d:AX):AOp:=ybo a (some b) c d
abbrev FK (a:Nat):Xw:=xJ a 1
abbrev FL:Xw:=FK 3
abbrev FM (a:Int):AX:=ydu .u64 a
abbrev oI (a:AV):Xw:=xC 4 a
abbrev fF (a b c:Nat):Xw:=xX a 3 b c
abbrev wZ:Xw:=bF 8
abbrev ZC (a b:Xw) (c:Nat) (d:List Xw):Xv:=lW [a,b] c d
abbrev pI (a:Xw) (b:Nat) (c:BinOp) (d e:Nat) (f:List Xw):Xv:=ZC a (aP b c d) e f
abbrev mU (a:Nat):Xw:=dE a 3
abbrev jD (a:List Xw) (b:Xw) (c d:Xv):Xv:=mA a [b] c d
abbrev mV (a:Nat):Xw:=aR a 5
abbrev wY (a b c:Nat) (d:Int):Xw:=xO a (ZA b c d)
abbrev mB (a:Xw) (b:List Xw):Xv:=iT [a] b
abbrev p7 (a b:Nat):Xw:=dZ a b 0
abbrev yg6 (a:List Xw) (b c:Xw) (d:Nat) (e:List Xw) (f:Xv):Xv:=dY a [b,c] d e f
abbrev mC (a:List Xw) (b:Xw) (c:Nat) (d:BinOp) (e f:Nat) (g:List Xw) (h:Xv):Xv:=yg6 a b (aP c d e) f g h
abbrev pG:Xw:=S3 1
abbrev S5:Xw:=oI .nilptr
abbrev GD (a:List Xw):Xv:=kV a .ret
abbrev oJ (a:Nat):Xw:=aR a 2
abbrev A3 (a:Xw):Xv:=jA bO a
abbrev FN (a b:Nat):Xw:=PZ a .u32 b
def Zd:Nat:=7
def SY:Nat:=8
def NG:Nat:=12
def SX:Nat:=13
def CD:Nat:=17
def NH:Nat:=18
def NI:Nat:=19
def GN:Nat:=20
def GO:Nat:=21
def GP:Nat:=22
def NJ:Nat:=23
def NK:Nat:=24
def NL:Nat:=25
def NM:Nat:=26
def NN:Nat:=28
def DX:Nat:=29
def GQ:Nat:=30
def GR:Nat:=31
def NO:Nat:=32
def yA:Nat:=38
def t9:Nat:=41
def EF:Nat:=42
def EG:Nat:=43
def ZD:Nat:=44
def GS:Nat:=45
def GT:Nat:=52
def GU:Nat:=53
def NP:Nat:=54
def NQ:Nat:=55
def GV:Nat:=57
def lJ:Nat:=58
def GW:Nat:=59
def GX:Nat:=60
def GY:Nat:=61
def NR:Nat:=62
def NS:Nat:=63
def GZ:Nat:=64
def EH:Nat:=65
def NT:Nat:=66
def NU:Nat:=67
def H6:Nat:=68
def NV:Nat:=69
def H7:Nat:=70
def H8:Nat:=71
def H9:Nat:=72
def NW:Nat:=73
def yB:Nat:=74
def NX:Nat:=75
def NY:Nat:=76
def yC:Nat:=77
def NZ:Nat:=78
def yD:Nat:=79
def HA:Nat:=80
def O6:Nat:=84
def tA:Nat:=85
def O7:Nat:=87
def yE:Nat:=88
def EI:Nat:=89
def yF:Nat:=90
def rZ:Nat:=91
def oL:Nat:=92
def EJ:Nat:=93
def HB:Nat:=94
def HC:Nat:=95
def O8:Nat:=96
def tB:Nat:=98
def O9:Nat:=99
def BM:Nat:=100
def BN:Nat:=101
def BO:Nat:=102
def BP:Nat:=103
def uX:Nat:=104
def nB:Nat:=105
def qF:Nat:=106
def BQ:Nat:=107
def uY:Nat:=108
def nC:Nat:=109
def uZ:Nat:=110
def nD:Nat:=111
def v5:Nat:=112
def nE:Nat:=113
def nG:Nat:=114
def nH:Nat:=115
def gJ:Nat:=116
def nI:Nat:=117
def BR:Nat:=118
def BS:Nat:=119
def BT:Nat:=120
def dJ:Nat:=122
def iF:Nat:=123
def v6:Nat:=124
def qG:Nat:=125
def qH:Nat:=126
def jR:Nat:=127
def qI:Nat:=128
def fB:Nat:=129
def nJ:Nat:=130
def BU:Nat:=131
def BW:Nat:=132
def BZ:Nat:=133
def C0:Nat:=134
def C1:Nat:=135
def C2:Nat:=136
def C3:Nat:=137
def qJ:Nat:=138
def C4:Nat:=139
def qK:Nat:=140
def v7:Nat:=141
def C5:Nat:=142
def C6:Nat:=143
def v8:Nat:=144
def dT:Nat:=145
def C7:Nat:=146
def C8:Nat:=147
def nK:Nat:=148
def v9:Nat:=149
def qL:Nat:=150
def vA:Nat:=151
def C9:Nat:=152
def CA:Nat:=153
def qM:Nat:=154
def qN:Nat:=155
def qO:Nat:=156
def CB:Nat:=157
def qP:Nat:=158
def vB:Nat:=159
def nL:Nat:=160
def lD:Nat:=161
def nM:Nat:=162
def vC:Nat:=163
def qQ:Nat:=164
def CC:Nat:=165
def bL:Nat:=166
def d8:Nat:=167
def vD:Nat:=168
def vE:Nat:=169
def qR:Nat:=170
def CE:Nat:=171
def lE:Nat:=172
def vF:Nat:=173
def qS:Nat:=174
def CF:Nat:=175
def vG:Nat:=176
def qU:Nat:=177
def CG:Nat:=178
def vI:Nat:=179
def qV:Nat:=180
def CH:Nat:=181
def vJ:Nat:=182
def qW:Nat:=183
def qX:Nat:=184
def CI:Nat:=185
def CK:Nat:=186
def CL:Nat:=187
def vK:Nat:=188
def nN:Nat:=189
def CM:Nat:=190
def CN:Nat:=191
def qY:Nat:=192
def lF:Nat:=193
def qZ:Nat:=194
def r9:Nat:=195
def gK:Nat:=196
def cN:Nat:=197
def CO:Nat:=198
def CP:Nat:=199
def CQ:Nat:=200
def CR:Nat:=201
def rA:Nat:=202
def CS:Nat:=203
def CT:Nat:=204
def CU:Nat:=205
def CV:Nat:=206
def CW:Nat:=207
def rB:Nat:=208
def rC:Nat:=209
def cG:Nat:=210
def rD:Nat:=211
def CX:Nat:=212
def CY:Nat:=213
def vL:Nat:=214
def lG:Nat:=215
def CZ:Nat:=216
def gL:Nat:=217
def vN:Nat:=218
def rE:Nat:=219
def vO:Nat:=220
def D0:Nat:=221
def D1:Nat:=222
def vP:Nat:=223
def D2:Nat:=224
def gM:Nat:=225
def vQ:Nat:=226
def vS:Nat:=227
def vT:Nat:=228
def D3:Nat:=229
def D4:Nat:=230
def D5:Nat:=231
def D6:Nat:=232
def D7:Nat:=233
def D8:Nat:=234
def rF:Nat:=235
def iG:Nat:=236
def vU:Nat:=237
def D9:Nat:=238
def DA:Nat:=239
def DB:Nat:=240
def vV:Nat:=241
def DE:Nat:=242
def DF:Nat:=243
def vW:Nat:=244
def DG:Nat:=245
def DH:Nat:=246
def DI:Nat:=247
def DJ:Nat:=248
def DK:Nat:=249
def rG:Nat:=250
def rH:Nat:=251
def nO:Nat:=252
def DL:Nat:=253
def DM:Nat:=254
def rI:Nat:=255
def DN:Nat:=256
def vX:Nat:=257
def rJ:Nat:=258
def vY:Nat:=259
def vZ:Nat:=260
def nP:Nat:=261
def w6:Nat:=262
def lH:Nat:=263
def nQ:Nat:=264
def DO:Nat:=265
def w7:Nat:=266
def DP:Nat:=267
def rK:Nat:=268
def DR:Nat:=269
def DS:Nat:=270
def DT:Nat:=271
def nR:Nat:=272
def w9:Nat:=273
def rL:Nat:=274
def rM:Nat:=275
def DU:Nat:=276
def wA:Nat:=277
def wB:Nat:=278
def DV:Nat:=279
def rO:Nat:=280
def rP:Nat:=281
def nS:Nat:=282
def wC:Nat:=283
def rQ:Nat:=284
def rR:Nat:=285
def wD:Nat:=286
def wE:Nat:=287
def wF:Nat:=288
def DW:Nat:=289
def wG:Nat:=290
def rS:Nat:=291
def wH:Nat:=292
def rU:Nat:=293
def DY:Nat:=294
def rV:Nat:=295
def nT:Nat:=296
def DZ:Nat:=297
def E0:Nat:=298
def E2:Nat:=299
def E3:Nat:=300
def wI:Nat:=301
def rW:Nat:=302
def rX:Nat:=303
def E4:Nat:=304
def wJ:Nat:=305
def E5:Nat:=306
def E6:Nat:=307
def wK:Nat:=308
def E7:Nat:=309
def wL:Nat:=310
def E8:Nat:=311
def E9:Nat:=312
def EA:Nat:=313
def EB:Nat:=314
def rY:Nat:=315
def nU:Nat:=316
def nV:Nat:=317
def EC:Nat:=318
def wM:Nat:=319
def lI:Nat:=320
def ED:Nat:=321
def nW:Nat:=322
def EE:Nat:=323
abbrev aC:AV:= .Xu 1 []
abbrev V0:Xv:=jH [dE 6 2,xL 7 6,aO 7] [dB 8,xL 9 8,aP 10 .geq 9] (iS 10 (dA [dB 11,xL 12 11,oH 13,xL 14 13,xN 15 14,xB 16 .geq 12 15] 16 [bO] (xR [oH 17,xL 18 17,dB 19,xL 20 19,dI 21 18 20,aS 22 21,xL 23 22,aO 23]))) (tU [dB 24,xL 25 24,xK 26 .lss 25 (-1),xM 27 26,dC 28 27 3,aJ 29 27 28,bV 30 27 .lss 29 0,xW 31 27 30,xM 32 31,dC 33 32 3,aJ 34 32 33,bK 35 32 5,cL 36 32 35,dU 37 32 .geq 34 36,xW 38 32 37,xM 39 38,bK 40 39 5,dC 41 39 3,aJ 42 39 41,oE 43 39 2 40 42,dC 44 39 43,aJ 45 39 44,bV 46 39 .lss 45 1,xW 47 39 46,xM 48 47,bK 49 48 5,dC 50 48 3,aJ 51 48 50,oE 52 48 2 49 51,dC 53 48 52,aJ 54 48 53,bV 55 48 .gtr 54 32,xW 56 48 55] 56 [bO] [aF 57,fO 58,xL 59 58,dI 60 57 59,aS 61 60,xL 62 61,aM 62])
abbrev yS:List AV:=[.str [],.Xu 2 [],.Xu 2 [],.Xu 3 [],.Xu 3 [],.Xu 6 [],.Xu 7 [],.Xu 5 [],.Xu 1 [],.Xu 1 [],.Xu 1 [],.Xu 2 [],.Xu 1 [],.Xu 1 [],bM]
abbrev tI:List AV:=[.int .i64 0,.int .i64 0,.int .i64 0,.int .i64 0]
abbrev PC:List AV:=[.str [],.Xu 2 [],.Xu 2 [],.Xu 3 [],.Xu 3 [],.Xu 6 [],.Xu 7 [],.Xu 5 [],.Xu 1 [],.Xu 1 [],.Xu 1 [],.Xu 2 [],.Xu 1 [],.Xu 1 [],.int .i64 0]
abbrev tJ:List AV:=[.str [],.Xu 2 [],.Xu 2 [],.Xu 3 [],.Xu 3 [],.Xu 6 [],.Xu 7 [],.Xu 5 [],.Xu 1 [],.Xu 2 []]
abbrev mL:List AV:=[.Xu 1 [],.Xu 1 [],.Xu 2 [],.Xu 1 []]
abbrev kJ:List (List AV):=List.replicate 1 [.int .i64 0]
abbrev tK:List AV:=[.int .i64 0,.Xu 2 [],.int .i64 0,.int .i64 0,.Xu 1 []]
abbrev tL:List AV:=[bM,bM,bM,.Xu 2 [],bM,bM,.Xu 1 [],bM,.Xu 1 []]
abbrev I8:List AV:=[.int .i64 0,.int .i64 0,.int .i64 0,.Xu 2 [],.int .i64 0,.int .i64 0,.Xu 1 [],.int .i64 0,.Xu 1 []]
abbrev dX:List ARes:=[.tmp 4,.tmp 5]
abbrev oV:List (List AV):=List.replicate 1 [.int .u8 0]
abbrev cO:AV:= .Xu 2 []
abbrev PD:AOp:= .bslice .imm 1 (List.replicate 1 [.str []]) [(0,(.t 17))]
abbrev V2:Xv:=gZ [aE 11,xO 12 (MI (.t 11) MH),xM 13 12,mW 14 13,eM 15 13 (GB 14),bH 16 13 14 15,aJ 17 13 16,zE 18 13 17,xW 19 13 18,xM 10 19] 10 [cT,xI 7 1] [aE 21,aD 22,oF 23 qP 21 22,cD 24 23,xM 20 24] 20 [cT,xI 7 8]
abbrev V3:List Xw:=[sX,zZ 4 .geq 3 (MJ 97),aO 4,p7 6 5,PV 7 5 .leq 6 (MJ 122),xV 8 5 7,bC 9,mW 10 9,Z6 11 9 .geq 10 (MJ 65),bK 12 9 11,p7 13 12,PV 14 12 .leq 13 (MJ 90),eM 15 9 (.pick (.t 12) (.t 14) (.c WH)),xW 16 9 15,dM 16]
abbrev EX:List AV:=[.str [],.Xu 3 [],.Xu 1 [],bM,.Xu 1 [],bM]
abbrev yT:List AV:=[.str [],.Xu 1 [],WH,bM,bM,.Xu 3 [],bM]
abbrev gR:List ARes:=[.cell 2 true 4]
abbrev tN:List AV:=[bM,.Xu 2 [],bM,bM,.Xu 1 []]
abbrev lR:List Xw:=[FJ,xN 9 8,bF 10]
abbrev V4:Xv:=bW [xM 19 17,bT 20 15 17,xL 21 20,cM 19,cR 21] (lZ [aD 22,bR 23,bT 24 22 23,xL 25 24,eJ 25] [bP 26,bC 27,bS 28,wX 29 26 [.t 27,.t 28],cD 30 29] 30 [p8])
abbrev PE:List AV:=[.str [],.Xu 2 [],.Xu 2 [],.Xu 3 [],.Xu 3 [],.Xu 6 [],.Xu 7 [],.Xu 5 [],.Xu 1 []]
abbrev yU:List AV:=[.str [],.int .i64 0]
abbrev lS:List Xw:=[xB 11 .lss 10 9]
abbrev I9:List Xw:=[aE 10,xN 11 10,aD 12,xN 13 12,xB 14 .neq 11 13]
abbrev EY:List AV:=[bM,bM,.Xu 3 [],.Xu 5 [],.Xu 5 []]
abbrev V5:Xv:=mE [xM 15 13,aO 15] [aE 16,aF 17,bT 18 16 17,xL 19 18,aD 20,aF 21,bT 22 20 21,xL 23 22,xB 24 .neq 19 23] (MF 24 [fG])
abbrev EZ:List AV:=[.str [],.Xu 2 [],.Xu 7 []]
abbrev lU:AV:= .int .i64 0
abbrev IA:List (List AV):=List.replicate 1 [.Xu 5 []]
abbrev yV:List AV:=[.int .i64 0,.Xu 1 []]
abbrev V6:List Xw:=[sX,xO 4 (MI (.t 3) MH),aO 4,mW 6 5,eM 7 5 (GB 6),bH 8 5 14 7,aJ 9 5 8,zE 10 5 9,xW 11 5 10]
abbrev F0:List Xw:=[eZ,jB 2 bM bM bM bM]
abbrev V7:Xv:=lZ [bC 10,aO 10] [aD 11,aE 12,aF 13,bT 14 12 13,xL 15 14,xB 16 .eql 11 15] 16 [aF 17,aM 17]
abbrev sB:AOp:= .build tI []
abbrev F1:AX:= .c (.int .i64 1)
abbrev V8:AOp:= .bslice .imm 1 (List.replicate 4 [.int .u8 0]) [(0,(.t 5)),(1,(.t 8)),(2,(.t 11)),(3,(.t 13))]
abbrev sC:List ARes:=[.tmp 2,.tmp 3]
abbrev V9:List Xw:=[aT 11,xF 12 5 2,xL 13 12,aD 14,xX 15 6 13 14,aS 16 15,xL 17 16,xN 18 17,xB 19 .lss 11 18]
abbrev tO:AX:= .c (.bool true)
abbrev IB:List Xw:=[aO 4,pF,xN 7 6,xB 8 .lss 5 7]
abbrev VA:List Xw:=[kN 3,xL 4 3,bN 5 .eql 4,aF 6,bH 7 6 0 1,aJ 8 6 7,bV 9 6 .eql 8 3,xW 10 6 9,dM 10]
abbrev yW:List Xw:=[S3 2,FF 3 1,fG]
abbrev VB:List Xw:=[aD 6,aP 7 .lss 6,bR 8,bK 9 8 1,mW 10 8,cL 11 8 10,dU 12 8 .geq 9 11,xW 13 8 12]
abbrev yX:List Xw:=[xB 18 .lss 17 16]
abbrev yY:List Xw:=[xB 14 .lss 13 12]
abbrev VC:Xv:=xR [aF 14,aD 15,xA 16 3 7,wX 17 15 [.t 16],xO 18 PD,eO 19 16 14 18,aO 19]
abbrev VD:Xv:=xR [aF 14,aD 15,aX 16 7,wX 17 15 [.t 16],xO 18 PD,eO 19 16 14 18,aO 19]
abbrev VE:List Xw:=[sX,zZ 4 .geq 3 (MJ 48),aO 4,p7 6 5,PV 7 5 .leq 6 (MJ 57),xV 8 5 7,bC 2]
abbrev sD:List Xw:=[jZ,FL,bO]
abbrev sE:List Xw:=[jZ,bO,d7]
abbrev PF:List AV:=[bM,bM,bM,bM,bM,.Xu 3 [],.Xu 3 []]
abbrev VF:List Xw:=[xF 12 5 2,xL 13 12,aD 14,xX 15 6 13 14,aS 16 15,xL 17 16,xN 18 17,bF 19]
abbrev mO:List Xw:=[jC aC]
abbrev F2:List Xw:=[kN 3,xL 4 3,aY 2]
abbrev yZ:AOp:= .build mL []
abbrev VG:AOp:= .build yU [(0,1,(.c (.str [111,117,116]))),(1,1,(.c (.int .i64 8)))]
abbrev VH:List (List AV):=List.replicate 1 [.int .i64 0,.int .i64 0,.Xu 3 [],.Xu 5 [],.Xu 5 []]
abbrev IC:List AV:=[.int .u32 0,.int .u32 0]
abbrev VI:Xv:=xR [xO 2 (.box (.t 0)),xC 4 aC,xI 5 0,xO 6 (.alloc [.int .i64 0])]
abbrev F3:List Xw:=[eZ,jC (.str [])]
abbrev F4:AOp:=ZB 1 3 3 (bY 0)
abbrev tP:AV:= .int .i64 4
abbrev ID:List Xw:=[aE 15,xN 16 15,bF 17]
abbrev VJ:AOp:= .build yU [(0,1,(.c (.str [105,110]))),(1,1,(.c (.int .i64 8)))]
abbrev VK:List Xw:=[sX,aP 4 .geq 3,aO 4,p7 6 5,eY 7 5 .leq 6 65535,xV 8 5 7,bC 2]
abbrev oW:List Xw:=[oI aC]
abbrev PG:List Xw:=[aF 6,aE 7,xN 8 7,xB 9 .lss 6 8]
abbrev sF:List Xw:=[oY,gO 8]
abbrev IE:List ARes:=[.tmp 2,.tmp 3,.tmp 4]
abbrev VL:AOp:= .build yU [(0,1,(.c (.str [100,114,111,112]))),(1,1,F1)]
abbrev F5:List Xw:=[jZ,FL,bO,d7]
abbrev VM:List Xw:=[aE 4,bN 5 .lss 4,aF 6,mW 7 6,bV 8 6 .gtr 7 32,xW 9 6 8]
abbrev F6:List Xw:=[pF,xN 7 6,wZ]
abbrev VN:List Xw:=[sJ,FK 4,jB 6 aC aC cO aC,xC 7 aC,wZ,bF 9]
abbrev VO:List Xw:=[fF 21 17 19,xA 22 3 21,cK 7 [bM,bM,bM],xS 3 7 22]
abbrev VP:List Xw:=[aR 24 6,xL 25 24,aH 26 gK 25,cD 27 26,xM 23 27]
abbrev F7:List Xw:=[xB 9 .lss 8 7]
abbrev VQ:List Xw:=[dI 12 8 10,aX 13 12,oD 7 (.str []) cO,cA 7 13]
abbrev IF:AOp:=ZB 1 3 3 (bY 1)
abbrev PH:Xw:=jB 2 aC aC cO aC
abbrev PI:AV:= .func (.func nH) [] []
abbrev z9:List Xw:=[bO,gO 10]
abbrev zA:AV:= .Xu 5 []
abbrev VS:List Xw:=[aE 15,aD 16,dI 17 15 16,aX 18 17,cA 4 18]
abbrev zB:List Xw:=[bO,gO 9]
abbrev zC:List Xw:=[bO,gO 8]
abbrev F8:AV:= .bool false
abbrev F9:List AV:=[.int .u32 0]
abbrev VT:List Xw:=[xX 12 6 8 10,xA 13 6 12,cK 7 EX,xS 6 7 13]
abbrev VU:List Xw:=[fF 12 8 10,xA 13 3 12,cK 7 EZ,xS 3 7 13]
abbrev PJ:Xw:=jB 2 bM bM bM bM
abbrev IG:List Xw:=[sJ,xJ 5 2,cT]
abbrev FA:List Xw:=[oY,gO 12]
abbrev VV:List Xw:=[aY 12,aE 13,xN 14 13,xB 15 .lss 12 14]
abbrev VW:List Xw:=[pF,xN 7 6,aD 8,xN 9 8,xB 10 .neq 7 9]
abbrev VX:List Xw:=[eX 8,aD 9,aW 10 w6 8 9,cD 11 10]
abbrev VY:Xv:=A1 43 (xR [xK 45 .eql 33 3,xM 43 45])
abbrev FB:List Xw:=[bO,sG 5]
abbrev V1:Xv:=jH [dE 7 2,xL 8 7,bC 6] [dB 9,xL 10 9,xK 11 .neq 10 (-1)] (iS 11 (dA [dB 12,xL 13 12,aP 14 .lss 13,xM 15 14,bH 16 15 0 3,aJ 17 15 16,dC 18 15 2,aJ 19 15 18,cL 20 15 19,dU 21 15 .geq 17 20,xW 22 15 21] 22 FB (xR [oH 23,xL 24 23,dB 25,xL 26 25,dI 27 24 26,aS 28 27,xL 29 28,bD 29]))) (tU [fO 30,xL 31 30,aP 32 .lss 31,xM 33 32,dC 34 33 3,aJ 35 33 34,bK 36 33 6,cL 37 33 36,dU 38 33 .geq 35 37,xW 39 33 38] 39 FB [aT 40,fO 41,xL 42 41,dI 43 40 42,aS 44 43,xL 45 44,aM 45,mP 5])
abbrev PL:List Xw:=[jC aC,eD,dD 3]
abbrev VZ:List Xw:=[eX 7,aD 8,aW 9 wK 7 8,cD 10 9]
abbrev W0:List ARes:=[.cell 6 true 4,.tmp 7,.tmp 8,.tmp 9]
abbrev W1:AOp:= .bslice .imm 1 IA [(0,(.c zA))]
abbrev W4:List Xw:=[cP 6 8,xL 7 6,xN 8 7,xK 9 .gtr 8 8]
abbrev PM:List AV:=[.Xu 4 [],.Xu 1 []]
abbrev W5:Xv:=dG [aT 13,aP 14 .eql 13,aM 14]
abbrev W6:AOp:= .bslice .imm 1 oV [(0,(.t 10))]
abbrev W7:AOp:= .bslice .imm 1 kJ [(0,(.t 34))]
abbrev W8:Xv:=dG [aT 35,bR 36,aM 35,aO 36]
abbrev PN:AX:= .c (.int .i64 5)
abbrev FC:Xw:=jC aC
abbrev PO:List Xw:=[xB 20 .lss 19 18]
abbrev PP:List Xw:=[xB 25 .lss 24 23]
abbrev W9:AOp:= .bslice .imm 1 kJ [(0,(.t 5))]
abbrev WA:AOp:= .bslice .imm 1 kJ [(0,F1)]
abbrev PQ:List AV:=[.str [],bM,bM]
abbrev WB:List Xw:=[aT 26,aQ 27,xB 28 .lss 26 27]
abbrev WC:List ARes:=[.tmp 4,.tmp 5,.cell 6 false 1]
abbrev PR:AOp:= .build PC []
abbrev PS:List Xw:=[xB 10 .lss 9 8]
abbrev PT:List ARes:=[.cell 2 true 2]
abbrev WD:List Xw:=[aQ 11,bN 12 .add 11,cU 12]
abbrev WE:List Xw:=[aQ 12,bN 13 .add 12,cU 13]
abbrev WF:List (List AV):=List.replicate 1 [.Xu 1 []]
abbrev WG:Xv:=jA (xA 11 7 1) (xS 7 2 11)
abbrev IH:List Xw:=[oY,gO 6]
def N7:AFn:=⟨2,[.tmp 4],dY [jZ,fG] [eX 11,tW 12 NH 11 aC,xM 13 12,bK 14 13 1,cL 15 13 14,bV 16 13 .gtr 15 3000,xW 17 13 16] 17 [PU 18 NI [],aM 18] (lV [eX 20,aD 21,oF 22 DX 20 21,xM 19 22,b9 23 19,bA 24 19,xE 25 2 19,aO 23,bD 24,cM 25] (xQ [eX 27,aD 28,aW 29 GQ 27 28,xM 26 29,b9 30 26,bA 31 26,xE 32 2 26,cK 8 yS,xS 15 8 30,eJ 31,xM 10 32] [8]) (tU [bR 33,xM 34 10,xB 35 .neq 33 34,xM 36 35,bK 37 36 6,bK 38 36 9,dU 39 36 .neq 37 38,xW 40 36 39,xM 41 40,bK 42 41 5,eM 43 41 (MI (.t 42) MH),bK 44 41 10,bV 45 41 .neq 44 0,eM 46 41 (.eqs true false [.b] (.t 43) (.t 45)),xW 47 41 46] 47 [fG] [aF 48,xO 49 (MI (.t 48) MH),xM 50 49,bK 51 50 5,eM 52 50 (S4 15 8),wW 53 50 NN [.t 51,.t 52],xW 54 50 53,xM 55 54,jX 56 55 NI [],xV 57 55 56,aM 57]))⟩
def GI:AFn:=⟨3,W0,bW VN (mC [jJ 12,cW 13 4,oF 14 t9 12 13,xM 11 14,b9 15 11,bA 16 11,xM 10 15,eJ 16] (bS 17) 18 .neq 17 18 [xO 19 yZ,bS 20,eA 6 19,xC 7 aC,mS 8,eJ 20] (pE [xM 22 10,bP 23,oF 24 EF 22 23,xM 21 24,b9 25 21,bA 26 21,xE 27 2 21,cM 25,cR 26,eJ 27] [bS 28,aP 29 .neq 28] 29 [xO 30 yZ,bC 31,bS 32,eA 6 30,xC 7 aC,cR 31,eJ 32] [xM 33 10,gS 34 EG [.t 33],bR 35,eA 6 34,cM 35,wZ,bF 9]))⟩
def MR:AFn:=⟨1,sC,jH [pG,jC .nilptr,eD] [iV 5,aH 6 GT 5,xO 7 (.fld false 0 1 (.t 6)),aM 7] (pI (aY 8) 9 .neq 8 9 [aY 10,jC .nilptr,cU 10]) (GD [iV 11,aH 12 GU 11,iV 13,aH 14 yA 13,xO 15 (.build [.bool false,.str [],.Xu 2 [],.Xu 2 [],.Xu 3 [],.Xu 3 [],.Xu 6 [],.Xu 7 [],.Xu 5 [],.Xu 1 [],.Xu 1 [],.Xu 1 [],.Xu 2 [],.Xu 1 [],.Xu 1 [],.int .i64 0] [(0,1,tO),(1,9,(.t 12)),(10,4,(.t 14))]),FF 16 15,dM 16,eD])⟩
def c_18_l0:Xv:=dP [aF 13,aD 14,xN 15 14,xB 16 .lss 13 15] 16 (lW [aD 19,aF 20,bT 21 19 20,xL 22 21,aH 23 NQ 22] 23 [mP 4]) (aF 17) 18 .add 17 (aO 18)
def c_18_k1:Xv:=eN fG
def GJ:AFn:=⟨2,[.tmp 4],k9 [jZ,fG] [eX 6,aH 7 NP 6,bR 8,bK 9 8 1,cL 10 8 9,bV 11 8 .gtr 10 12,xW 12 8 11] 12 [mP 4] [d7] 0 c_18_l0 c_18_k1⟩
def dR:ADFn:=⟨2,WC,.seq VI (.seq (.seq (xR [xL 8 2,xO 9 (.eqn false (.t 8) (.c (.nilptr))),xM 10 9,xG 11 10 false (.load false 1 (.t 2)),xG 12 10 false (.nilchk (.t 11)),xG 13 10 false (.faddr 0 (.t 12)),xG 14 10 false (.load false 1 (.t 13)),xG 15 10 false (.un .not (.t 14)),xW 16 10 15]) (.cond (.t 16) (.seq (xR [xC 4 aC,xI 5 0,⟨none,none,.store 1 (.t 6) F1⟩]) (.ret)) (.skip))) (.seq (xR [xL 17 2,xO 18 (.nilchk (.t 17)),xF 19 10 18,xA 20 4 19,xO 7 (.alloc mL),xS 4 7 20]) (.dfr [⟨some 21,none,.mkfunc (.func lJ) [] [.t 6,.t 7,.t 2]⟩] 21 (.seq (xD [xL 23 2,xL 24 2,xO 25 (.nilchk (.t 24)),xF 26 1 25,xA 27 9 26,xL 28 2,xO 29 (.nilchk (.t 28)),xF 30 10 29,xA 31 4 30,xM 32 1,xO 33 (.pcall NG [.t 27,.t 31,.t 32]),xM 22 33,xE 34 0 22,xE 35 1 22,xE 36 2 22,xE 37 3 22,xO 38 (.nilchk (.t 23)),xF 39 10 38,xS 4 39 34,xM 4 35,xM 5 36,xS 1 6 37]) (.seq (.seq (xR [xL 40 6,xK 41 .neq 40 0]) (.cond (.t 41) (.seq (xD [xM 42 5,xL 43 6,xC 4 aC,xM 5 42,xS 1 6 43]) (.ret)) (.skip))) (.seq (.region true [(0,8)] [⟨some 44,none,.load false 1 (.t 2)⟩,⟨some 45,none,.load false 1 (.t 2)⟩,⟨some 46,none,.nilchk (.t 45)⟩,⟨some 47,none,.faddr 14 (.t 46)⟩,⟨some 48,none,.load false 1 (.t 47)⟩,⟨some 49,none,.mov (.t 1)⟩,⟨some 50,none,.pcall NK [.t 49]⟩,⟨some 51,none,.pcall GW [.t 50]⟩,⟨some 52,none,.append .app 1 1 (.t 48) (.t 51)⟩,⟨some 53,none,.nilchk (.t 44)⟩,⟨some 54,none,.faddr 14 (.t 53)⟩,⟨none,none,.store 1 (.t 54) (.t 52)⟩] none) (.seq (xR [xL 55 2,xO 56 (.nilchk (.t 55)),xF 57 15 56,xL 58 57,xK 59 .add 58 1,xO 60 (.nilchk (.t 55)),xF 61 15 60,xS 1 61 59]) (.seq (xR [xM 62 4,xM 4 62,xI 5 0,⟨none,none,.store 1 (.t 6) (.c lU)⟩]) (.ret))))))))),lJ,3,none,.seq (xR [xL 3 0,xK 4 .neq 3 0]) (.cond (.t 4) (xR [xL 5 2,xA 6 4 1,xO 7 (.nilchk (.t 5)),xF 8 10 7,xS 4 8 6]) (.skip))⟩
def SB:AFn:=⟨1,[.tmp 2],yg6 mO (aE 4) (xO 5 (MI (.t 4) MH)) 5 mO (lV [pF,eI 7 6,xF 8 14 7,xL 9 8,xN 10 9,xO 11 (.mkslice .row 1 1 [.int .u8 0] (.t 10) (.t 10)),cU 11] (xQ [aQ 12,aE 13,eI 14 13,xF 15 14 14,xL 16 15,xO 17 (.copy 1 (.t 12) (.t 16))] [3]) (tV 18 18))⟩
def SC:AFn:=⟨1,[.tmp 2],pE [eE] [sX,xO 4 (MI (.t 3) MH)] 4 [eE] [aE 5,eI 6 5,xF 7 15 6,xL 8 7,bC 2]⟩
def B3:AFn:=⟨1,IE,dY [jC aC,eD,bO] [aE 7,xN 8 7,xK 9 .lss 8 8] 9 PL (dY [aE 10,aH 11 GX 10,PZ 12 .u64 11,aO 12] [aE 13,xN 14 13,PZ 15 .u64 14,zZ 16 .sub 15 (FM 8),aF 17,xB 18 .lss 16 17] 18 PL (lV [aF 19,pD 20 19,xO 21 (zD .add (bY 4) 20),bD 21] (jI [aE 22,aT 23,xO 24 (.slc 1 (.t 22) none (some (.t 23)) none),aH 25 GY 24,aE 26,aT 27,xO 28 (.slc 1 (.t 26) (some (.t 27)) none none),aH 29 GX 28,xB 30 .neq 25 29] 30 [jC aC,eD,dD 24]) (dG [aE 31,aT 32,xO 33 (.slc 1 (.t 31) (some (.c tP)) (some (.t 32)) none),aH 34 NR 33,aT 35,xK 36 .add 35 4,dM 34,cU 36,bO])))⟩
def c_24_l0:Xv:=fE [xB 16 .lss 15 14] 16 0 1 (dY [xX 17 9 13 15,jW 18 17,cK 5 tL,xS 9 5 18] [jW 19 5,aH 20 NS 19,cD 21 20] 21 mO (xR [aQ 22,jW 23 5,oF 24 GZ 22 23,cU 24])) 25 .add 15 15 25
def c_24_k1:Xv:=tV 26 26
def MS:AFn:=⟨1,[.tmp 2],dY mO [pF,xN 7 6,xK 8 .gtr 7 64] 8 mO (mA [aE 9,xN 10 9,sI 11 10,xO 12 (.bslice .imm 1 oV [(0,(.t 11))]),cU 12] [aE 13,xN 14 13,bF 15] c_24_l0 c_24_k1)⟩
def MT:AFn:=⟨1,[.cell 2 true 15,.tmp 3],lV [eZ,cK 2 yS,eD] (xQ [iV 5,aH 6 EH 5,jB 4 bM bM bM bM,eA 4 6] [4]) (eH [aR 7 4,xL 8 7,aP 9 .neq 8] (iS 9 (.seq (sW [(2,3)] [⟨some 10,none,.build PC []⟩,⟨some 11,none,.faddr 0 (.t 4)⟩,⟨some 12,none,.load false 1 (.t 11)⟩,⟨none,none,.store 15 (.t 2) (.t 10)⟩,⟨some 3,none,.mov (.t 12)⟩] none) .ret)) (GD [iV 13,iV 14,aH 15 NT 14,xO 16 (.build PC [(0,9,(.t 13)),(9,4,(.t 15))]),xS 15 2 16,eD]))⟩
def MU:AFn:=⟨2,[.cell 4 true 15,.tmp 5,.tmp 6,.tmp 7],lV [S3 2,cK 4 yS,xC 5 aC,cT,jK] (xQ [oJ 13,jW 14 13,xF 15 9 2,cW 16 15,aD 17,gD 18 NU 14 16 17,xM 12 18,b9 19 12,bA 20 12,xE 21 2 12,xE 22 3 12,jB 8 aC aC cO aC,eA 8 19,eJ 20,xM 10 21,xM 11 22] [8]) (dA [xM 23 11,aP 24 .neq 23] 24 [xA 25 15 2,xM 26 10,xM 27 11,xS 15 4 25,xC 5 aC,bD 26,cM 27] (mT (cW 28 8) (xF 29 9 2) (eA 29 28) (dL [xO 30 (.bslice .imm 1 [] []),xF 31 13 2,xL 32 31,eO 33 1 30 32,aD 34,aH 35 NV 34,aH 36 H6 35,eO 37 1 33 36,xF 38 13 2,cQ 38 37] [xF 39 14 2,xL 40 39,bN 41 .add 40,xF 42 14 2,cQ 42 41] (dG [xA 43 15 2,bS 44,xS 15 4 43,aO 44,cT,jK]))))⟩
def SD:AFn:=⟨2,[.tmp 4],lV [FL,fG] (sW [(1,4),(1,5),(9,11),(16,18)] [⟨some 5,none,.mov (.t 0)⟩,⟨some 6,none,.tcall GO [.t 5]⟩,⟨some 7,none,.b2s (.t 6)⟩,⟨some 8,none,.faddr 13 (.t 3)⟩,⟨some 9,none,.load false 1 (.t 8)⟩,⟨some 10,none,.b2s (.t 9)⟩,⟨some 11,none,.bin .eql (.t 7) (.t 10)⟩,⟨some 12,none,.mov (.t 11)⟩,⟨some 13,some (12,true),.mov (.t 0)⟩,⟨some 14,some (12,true),.tcall GP [.t 13]⟩,⟨some 15,some (12,true),.faddr 14 (.t 3)⟩,⟨some 16,some (12,true),.load false 1 (.t 15)⟩,⟨some 17,some (12,true),.bin .eql (.t 14) (.t 16)⟩,⟨some 18,none,.pick (.t 12) (.t 17) (.c F8)⟩,⟨some 19,none,.mov (.t 18)⟩,⟨some 20,some (19,true),.mov (.t 0)⟩,⟨some 21,some (19,true),.tcall GR [.t 20]⟩,⟨some 22,some (19,true),.faddr 9 (.t 3)⟩,⟨some 23,some (19,true),.load true 4 (.t 22)⟩,⟨some 24,some (19,true),.pcall NO [.t 21,.t 23]⟩,⟨some 25,none,.pick (.t 19) (.t 24) (.c F8)⟩,⟨some 4,none,.mov (.t 25)⟩] none) .ret⟩
def c_29_l0:Xv:=FE [aF 19,aD 20,xN 21 20,xB 22 .lss 19 21] 22 0 (.block 1 (jH [aD 24,aF 25,xO 26 (.slc 1 (.t 24) (some (.t 25)) none none),aH 27 NJ 26,xM 23 27,b9 28 23,bA 29 23,xE 30 2 23,cM 28,cR 29,eJ 30] [bS 31,aP 32 .neq 31] (iS 32 (.exit 0)) (eH [aY 33,bR 34,oF 35 H7 33 34,xM 10 35] (pI (xM 36 10) 37 .neq 36 37 [aF 38,xM 39 10,S5,aO 38,bD 39]) (xR [aF 40,bC 41,xB 42 .add 40 41,aO 42]))))
def c_29_k1:Xv:=dG [aY 43,aF 44,aM 43,aO 44,cT]
def MV:AFn:=⟨2,[.tmp 4,.tmp 5,.tmp 6],bW [S3 2,S5,d7,cT] (mC [eX 12,gS 13 CD [.t 12],xM 11 13,b9 14 11,bA 15 11,aM 14,bD 15] (aT 16) 17 .neq 16 17 [aT 18,S5,d7,bD 18] (iQ 0 (.loop c_29_l0) c_29_k1))⟩
def c_30_l0:Xv:=FE [bS 26,aD 27,xN 28 27,xB 29 .lss 26 28] 29 0 (.block 1 (mC [aD 31,bS 32,xO 33 (.slc 1 (.t 31) (some (.t 32)) none none),aH 34 H8 33,xM 30 34,b9 35 30,bA 36 30,xE 37 2 30,xM 10 35,xM 11 36,xM 12 37] (xM 38 12) 39 .neq 38 39 [xA 40 15 7,bS 41,xS 15 4 40,aO 41,cT] (mC [xM 43 10,aH 44 H9 43,xM 42 44,b9 45 42,bA 46 42,xM 13 45,xM 12 46] (xM 47 12) 48 .neq 47 48 [xO 49 PR,bS 50,xM 51 12,xS 15 4 49,aO 50,bD 51] (tQ [xA 53 15 7,xM 54 13,aW 55 NM 53 54,xM 52 55,b9 56 52,bA 57 52,xE 58 2 52,xE 59 3 52,cK 14 yS,xS 15 14 56,xM 15 57,xM 16 58,xM 12 59] [14] (dA [xM 60 12,aP 61 .neq 60] 61 [xO 62 PR,bS 63,xM 64 12,xS 15 4 62,aO 63,bD 64] (iU (xA 65 15 14) (xS 15 7 65) (xR [bS 66,xM 67 11,xB 68 .add 66 67,eJ 68])))))))
def c_30_k1:Xv:=dG [xA 69 15 7,bS 70,xS 15 4 69,aO 70,cT]
def MW:AFn:=⟨2,[.cell 4 true 15,.tmp 5,.tmp 6],bW [jZ,cK 4 yS,d7,cT] (mC [eX 18,aH 19 NL 18,xM 17 19,b9 20 17,bA 21 17,cK 7 yS,xS 15 7 20,cR 21] (bC 22) 23 .neq 22 23 [xO 24 PR,bC 25,xS 15 4 24,d7,bD 25] (bW [bF 9] (iQ 0 (.loop c_30_l0) c_30_k1)))⟩
def SE:AFn:=⟨1,gR,dY [jB 2 aC aC cO aC] [aE 5,xO 6 (MI (.t 5) MH),aT 7,mW 8 7,eM 9 7 (GB 8),bH 10 7 0 9,aJ 11 7 10,zE 12 7 11,xW 13 7 12] 13 [xO 14 yZ,kW 14] (kV [aE 16,eI 17 16,aS 18 17,jW 19 18,aE 20,eI 21 20,xF 22 10 21,cW 23 22,oF 24 t9 19 23,xM 15 24,b9 25 15,bA 26 15,cU 25,aM 26] (tU [aY 27,aP 28 .neq 27] 28 [xO 29 yZ,kW 29] [aQ 30,gS 31 EG [.t 30],kW 31]))⟩
def BJ:AFn:=⟨2,[.tmp 4],iT yW [oJ 5,xL 6 5,dB 7,xL 8 7,Z9 9 NW 6 8 (.c (.func (.func yB) [] [])),bS 10,jL 11 10 2,cJ 12 10 11,jL 13 10 3,cJ 14 10 13,jX 15 10 NX [.t 12,.t 14],xV 16 10 15,xM 17 16,d9 18 17 2 2,cJ 19 17 18,d9 20 17 2 3,cJ 21 17 20,jX 22 17 NY [.t 19,.t 21,.c (.func (.func yC) [] [])],xV 23 17 22,xM 24 23,d9 25 24 3 2,cJ 26 24 25,d9 27 24 3 3,cJ 28 24 27,jX 29 24 NZ [.t 26,.t 28,.c (.func (.func yD) [] [])],xV 30 24 29,aM 30]⟩
def c_38_l0:Xv:=gC [xB 13 .lss 12 11] 13 0 1 [xX 14 6 10 12,xA 15 6 14,cK 5 EX,xS 6 5 15] [5] (dL [dB 16,xL 17 16,xO 18 W1,MG 19 .row 1 24 17 18,dB 20,cQ 20 19] [fO 21,xL 22 21,xO 23 WA,MG 24 .row 1 8 22 23,fO 25,cQ 25 24] (xD [mU 26,xL 27 26,eP 28 5,aX 29 28,aH 30 tA 29,xO 31 (.bslice .imm 2 (List.replicate 1 yV) [(0,(.t 30))]),mQ 32 2 32 27 31,mU 33,cQ 33 32])) 34 .add 12 12 34
def c_38_k1:Xv:=FI (cW 35 3) 35
def SF:AFn:=⟨1,gR,iU eZ PH (mA [iV 6,aH 7 O6 6,xO 8 (.build mL [(3,1,(.t 7))]),jB 3 aC aC cO aC,eA 3 8] [cP 9 5,xL 10 9,xN 11 10,bF 12] c_38_l0 c_38_k1)⟩
def MX:AFn:=⟨2,dX,jH [jZ,FL,S5,d7] [eX 7,cW 8 3,aW 9 O7 7 8,bD 9] (pI (aT 10) 11 .neq 10 11 [aT 12,S5,aO 12]) (dG [eX 13,cW 14 3,oF 15 yE 13 14,aM 15,d7])⟩
def c_42_l0:Xv:=fE [xB 37 .lss 36 35] 37 0 1 (bW [xM 38 36,xX 39 9 34 36,jW 40 39,cK 11 tL,xM 10 38,xS 9 11 40] (mC [xL 42 2,jW 43 11,oF 44 GS 42 43,xM 41 44,b9 45 41,bA 46 41,xM 12 45,xM 13 46] (xM 47 13) 48 .neq 47 48 [xM 49 10,xM 50 13,oI aC,aO 49,cQ 6 50] (xR [bS 51,xM 52 12,xO 53 (.bslice .imm 1 kJ [(0,(.t 52))]),eO 54 8 51 53,eJ 54]))) 55 .add 36 36 55
def c_42_k1:Xv:=dG [bS 56,aM 56,d7,⟨none,none,.store 1 (.t 6) (.c lU)⟩]
def dS:ADFn:=⟨2,WC,.seq VI (.seq (xR [xL 14 2,xO 15 (.tcall EI [.t 14]),xO 7 (.alloc [.nilptr]),xS 1 7 15]) (.seq (.seq (xR [xL 16 2,xO 17 (.build yV []),xO 18 (.tcall yF [.t 16,.c (.int .i64 (-1)),.c lU,.t 17]),xK 19 .eql 18 1,xM 20 19,xG 21 20 false (.load false 1 (.t 7)),xG 22 20 false (.eqn false (.t 21) (.c (.nilptr))),xW 23 20 22]) (.cond (.t 23) (.seq (xR [xC 4 aC,xI 5 (-1),⟨none,none,.store 1 (.t 6) F1⟩]) (.ret)) (.skip))) (.seq (.seq (xR [xM 24 1,xN 25 24,xK 26 .gtr 25 64]) (.cond (.t 26) (.seq (xR [xC 4 aC,xI 5 (-1),⟨none,none,.store 1 (.t 6) (.c (.int .i64 12))⟩]) (.ret)) (.skip))) (.dfr [⟨some 27,none,.mkfunc (.func rZ) [] [.t 6,.t 7,.t 2]⟩] 27 (.seq (xR [xM 28 1,xN 29 28,xO 30 (.mkslice .row 9 120 I8 (.t 29) (.t 29)),xM 8 30]) (.seq (xR [xM 31 8,xM 32 1,xO 33 (.copy 9 (.t 31) (.t 32))]) (.seq (xR [xO 9 (.nilapp 1)]) (.seq (.seq (xR [xM 34 8,xN 35 34,xI 36 0]) (.block 0 (.loop c_42_l0))) c_42_k1)))))))),rZ,3,none,.seq (xR [xL 3 0,xK 4 .neq 3 0]) (.cond (.t 4) (xD [xL 5 2,xL 6 1,xO 7 (.nilchk (.t 6)),xA 8 15 7,xO 9 (.nilchk (.t 5)),xS 15 9 8]) (.skip))⟩
def SG:AFn:=⟨1,gR,pE [jB 2 aC aC cO aC] V6 11 [xO 12 yZ,kW 12] [aE 13,eI 14 13,aR 15 14,cW 16 15,gS 17 oL [.t 16],kW 17]⟩
def xU:AFn:=⟨2,dX,tT [FF 3 1,bO,d7] [dB 6,xL 7 6] 0 (lX [bN 9 .eql 7,bS 8] 8 [aE 10,fO 11,xL 12 11,eP 13 3,cW 14 13,gS 15 EJ [.t 10,.t 12,.t 14],b9 16 15,bA 17 15,aM 16,aO 17] (lX [xK 19 .eql 7 2,xM 18 19] 18 [aE 20,fO 21,xL 22 21,mU 23,xL 24 23,xF 25 7 3,aX 26 25,gS 27 yF [.t 20,.t 22,.t 24,.t 26],bO,aO 27] (gZ [xK 29 .eql 7 3,xM 28 29] 28 [aE 30,fO 31,xL 32 31,mU 33,xL 34 33,gS 35 HB [.t 30,.t 32,.t 34],bO,aO 35] [xK 37 .eql 7 4,xM 36 37] 36 [aE 38,fO 39,xL 40 39,xF 41 7 3,aX 42 41,gS 43 HC [.t 38,.t 40,.t 42],bO,aO 43]))) (A3 (gO 11))⟩
def eF:ADFn:=⟨1,gR,.seq (xR [xO 1 (.box (.t 0)),xO 2 (.alloc tI)]) (.dfr [⟨some 3,none,.mkfunc (.func tB) [] [.t 2]⟩] 3 (.seq (xR [xA 4 9 1,xO 5 (.pcall O9 [.t 4])]) (.seq (xR [xA 6 9 1,xO 7 (.pcall BM [.t 6])]) (.seq (xR [xA 8 9 1,xO 9 (.pcall BN [.t 8])]) (.seq (xR [xA 10 9 1,xO 11 (.pcall BO [.t 10])]) (.seq (xR [xA 12 9 1,xO 13 (.pcall BP [.t 12])]) (.seq (xR [xO 14 sB,xS 4 2 14]) (.ret)))))))),tB,1,(some (4,1)),.seq (.seq (xR [xM 5 1,xO 6 (.eqs false false [] (.t 5) (.c (.niliface)))]) (.cond (.t 6) (.ret) (.skip))) (.seq (.seq (xR [xM 8 1,xO 9 (.tassert 172 true (.agg tI) (.t 8)),xM 7 9,xE 10 0 7,xE 11 1 7,xO 2 (.alloc tI),xS 4 2 10,xM 3 11]) (.seq (xR [xM 12 3]) (.cond (.t 12) (.seq (xR [xF 13 0 2,xA 14 4 13,xS 4 0 14]) (.ret)) (.skip)))) (xR [xM 15 1,⟨none,none,.panic (.t 15)⟩]))⟩
def SH:AFn:=⟨1,[.cell 2 true 9],mE [eZ,cK 2 PE] [kN 3,xL 4 3,cV 5,xL 6 5,tW 7 uX 6 (.func (.func nB) [] []),kX 8,xL 9 8,aH 10 qF 9,kL 11,xL 12 11,aH 13 BQ 12,cP 14 4,xL 15 14,tW 16 uY 15 (.func (.func nC) [] []),cP 17 5,xL 18 17,tW 19 uZ 18 (.func (.func nD) [] []),cP 20 6,xL 21 20,tW 22 v5 21 (.func (.func nE) [] []),cP 23 7,xL 24 23,tW 25 nG 24 PI,cP 26 8,xL 27 26,aH 28 gJ 27,xO 29 (.build PE [(0,1,(.t 4)),(1,1,(.t 7)),(2,1,(.t 10)),(3,1,(.t 13)),(4,1,(.t 16)),(5,1,(.t 19)),(6,1,(.t 22)),(7,1,(.t 25)),(8,1,(.t 28))]),xS 9 2 29] .ret⟩
def c_54_l0:Xv:=dP [aQ 59,cV 60,xL 61 60,xN 62 61,xB 63 .lss 59 62] 63 (lW [cV 66,xL 67 66,aQ 68,dI 69 67 68,aX 70 69,aH 71 BR 70,cD 72 71] 72 [mP 2]) (aQ 64) 65 .add 64 (cU 65)
def c_54_l1:Xv:=pC [aY 73,cP 74 4,xL 75 74,xN 76 75,xB 77 .lss 73 76] 77 2 3 (lW [cP 80 4,xL 81 80,aY 82,fF 83 81 82,xA 84 3 83,aH 85 BS 84] 85 [mP 2]) (aY 78) 79 .add 78 (aM 79)
def c_54_l2:Xv:=pC [aF 86,cP 87 5,xL 88 87,xN 89 88,xB 90 .lss 86 89] 90 4 5 (lW [cP 93 5,xL 94 93,aF 95,xX 96 6 94 95,aS 97 96,xL 98 97,xN 99 98,xK 100 .gtr 99 10,xM 101 100,bH 102 101 5 1,aJ 103 101 102,bK 104 101 5,oE 105 101 6 103 104,bH 106 101 2 105,aJ 107 101 106,cL 108 101 107,bV 109 101 .gtr 108 24,xW 110 101 109,xM 111 110,bH 112 111 5 1,aJ 113 111 112,bK 114 111 5,oE 115 111 6 113 114,bH 116 111 3 115,dC 117 111 116,aJ 118 111 117,cL 119 111 118,bV 120 111 .gtr 119 8,xW 121 111 120,xM 122 121,bH 123 122 5 1,aJ 124 122 123,bK 125 122 5,oE 126 122 6 124 125,bH 127 122 0 126,aJ 128 122 127,eM 129 122 (A2 128),bV 130 122 .gtr 129 60,xW 131 122 130] 131 [mP 2]) (aF 91) 92 .add 91 (aO 92)
def c_54_l3:Xv:=pC [aT 132,cP 133 6,xL 134 133,xN 135 134,xB 136 .lss 132 135] 136 6 7 (lW [cP 139 6,xL 140 139,aT 141,xX 142 7 140 141,xA 143 7 142,aH 144 BT 143] 144 [mP 2]) (aT 137) 138 .add 137 (bD 138)
def c_54_k4:Xv:=eN fH
def c_54_k5:Xv:=kK [cT] 6 c_54_l3 c_54_k4
def c_54_k6:Xv:=kK [d7] 4 c_54_l2 c_54_k5
def c_54_k7:Xv:=kK [bO] 2 c_54_l1 c_54_k6
def jF:AFn:=⟨1,[.tmp 2],k9 [eZ,fH] [kN 7,xL 8 7,xO 9 (A2 8),xK 10 .gtr 9 60,xM 11 10,dC 12 11 1,aJ 13 11 12,cL 14 11 13,bV 15 11 .gtr 14 16,xW 16 11 15,xM 17 16,bH 18 17 2 1,aJ 19 17 18,cL 20 17 19,bV 21 17 .gtr 20 20,xW 22 17 21,xM 23 22,bH 24 23 3 1,aJ 25 23 24,cL 26 23 25,bV 27 23 .gtr 26 8,xW 28 23 27,xM 29 28,bH 30 29 4 1,aJ 31 29 30,cL 32 29 31,bV 33 29 .gtr 32 24,xW 34 29 33,xM 35 34,bH 36 35 5 1,aJ 37 35 36,cL 38 35 37,bV 39 35 .gtr 38 16,xW 40 35 39,xM 41 40,bH 42 41 6 1,aJ 43 41 42,cL 44 41 43,bV 45 41 .gtr 44 16,xW 46 41 45,xM 47 46,bH 48 47 8 1,aJ 49 47 48,cL 50 47 49,bV 51 47 .gtr 50 16,xW 52 47 51,xM 53 52,bH 54 53 7 1,aJ 55 53 54,wW 56 53 nI [.t 55,bY 10],bV 57 53 .gtr 56 60,xW 58 53 57] 58 [mP 2] [eD] 0 c_54_l0 c_54_k7⟩
def c_55_l0:Xv:=dP [aQ 7,FJ,xN 9 8,xB 10 .lss 7 9] 10 (lW [aE 13,aQ 14,xX 15 9 13 14,eP 16 15,aR 17 16,xL 18 17,xN 19 18,xK 20 .gtr 19 300,xM 21 20,mW 22 21,bK 23 21 3,oE 24 21 9 22 23,bH 25 21 3 24,bH 26 21 2 25,dC 27 21 26,aJ 28 21 27,cL 29 21 28,bV 30 21 .gtr 29 300,xW 31 21 30,xM 32 31,mW 33 32,bK 34 32 3,oE 35 32 9 33 34,bH 36 32 7 35,dC 37 32 36,aJ 38 32 37,cL 39 32 38,bV 40 32 .gtr 39 300,xW 41 32 40] 41 [mP 2]) (aQ 11) 12 .add 11 (cU 12)
def c_55_k1:Xv:=eN fH
def MY:AFn:=⟨1,[.tmp 2],k9 [fH] [aE 4,xN 5 4,xK 6 .gtr 5 80] 6 [mP 2] [eD] 0 c_55_l0 c_55_k1⟩
def c_57_l0:Xv:=dP [bR 18,aF 19,xB 20 .lss 18 19,xM 21 20,dZ 22 21 4,gN 23 21 (GB 22),jL 24 21 23,cJ 25 21 24,eY 26 21 .eql 25 0,xV 27 21 26] 27 (xR [aT 30,aY 31,gS 32 v6 [.t 31],xO 33 (.bslice .imm 9 (List.replicate 1 I8) [(0,(.t 32))]),mQ 34 9 120 30 33,bD 34]) (bR 28) 29 .add 28 (cM 29)
def c_57_k1:Xv:=jH [aY 35,aY 36,eI 37 36,aR 38 37,xL 39 38,xN 40 39,aP 41 .eql 40,gS 42 iF [.t 35,.t 41,bY 4]] [aY 43,eI 44 43,aS 45 44,xL 46 45,aP 47 .neq 46] (iS 47 (GD [aY 48,eI 49 48,aS 50 49,xL 51 50,jC (.Xu 9 []),cU 51])) (dG [aT 52,dM 52,eD])
def SI:AFn:=⟨1,sC,dL [jC (.Xu 9 []),eD] [FJ,xO 9 (.build [.Xu 1 [],.int .i64 0] [(0,1,(.t 8))]),FF 10 9,aM 10] (dL [aY 11,FH 12 dJ 11 (bY 1),pD 13 12,aO 13] [aY 14,aF 15,xK 16 .leq 15 64,gS 17 iF [.t 14,.t 16,bY 5]] (jD [lY 6 9] jK c_57_l0 c_57_k1))⟩
def SJ:AFn:=⟨1,[.tmp 2],dL mO [aE 4,xN 5 4,FN 6 5,gS 7 qG [.t 6],FJ,eO 9 1 7 8,bS 3] (dG [aQ 10,aQ 11,aH 12 GY 11,gS 13 qG [.t 12],eO 14 1 10 13,dM 14])⟩
def c_60_l0:Xv:=fE PS 10 0 1 (mT (bT 11 7 9) (xL 12 11) (aO 12) (xR [aQ 13,zZ 14 .shl 13 (FM 8),aF 15,FN 16 15,xB 17 .or 14 16,cU 17])) 18 .add 9 9 18
def c_60_k1:Xv:=tV 19 19
def SK:AFn:=⟨1,[.tmp 2],jY [jC gE] [xC 3 gE] [pF,xO 7 (.slc 1 (.t 6) none (some (.c tP)) none),xN 8 7,bF 9] c_60_l0 c_60_k1⟩
def SL:AFn:=⟨1,[.tmp 2],bW [jC gE] (dL [xO 4 (.build F9 [(0,1,(.c (.int .u32 2166136261)))]),xO 5 (.build [.int .u32 0,.int .i64 0] [(0,1,(.t 4))]),mF 3 gE,cA 3 5] [pF,oF 7 qH 3 6] (dG [dB 8,aR 9 8,xL 10 9,dM 10]))⟩
def xY:AFn:=⟨1,[.tmp 2],iU pG fH (tT [kX 4,xL 5 4,aP 6 .geq 5,aT 7,d9 8 7 2 1,cJ 9 7 8,eY 10 7 .leq 9 2147483647,xV 11 7 10,cU 11] [kN 12,xL 13 12] 0 (lX [bN 15 .eql 13,xM 14 15] 14 [cV 16,xL 17 16,aH 18 jR 17,xM 19 18,d9 20 19 3 1,jL 21 19 20,cJ 22 19 21,jX 23 19 jR [.t 22],xV 24 19 23,xM 25 24,d9 26 25 3 1,d9 27 25 0 26,cJ 28 25 27,p5 29 25 28,eY 30 25 .leq 29 255,xV 31 25 30,xM 32 31,d9 33 32 3 1,d9 34 32 2 33,zF 35 32 2 34,jX 36 32 qI [.t 35],xV 37 32 36,dM 37] (lX [xK 39 .eql 13 2,xM 38 39] 38 [cV 40,xL 41 40,aH 42 jR 41,xM 43 42,dZ 44 43 3,xV 45 43 44,xM 46 45,d9 47 46 7 1,zF 48 46 2 47,jX 49 46 qI [.t 48],xV 50 46 49,dM 50] (gZ [xK 52 .eql 13 3,xM 51 52] 51 [cV 53,xL 54 53,aH 55 jR 54,xM 56 55,dZ 57 56 3,xV 58 56 57,dM 58] [xK 60 .eql 13 4,xM 59 60] 59 [cV 61,xL 62 61,aH 63 jR 62,xM 64 63,d9 65 64 7 1,zF 66 64 2 65,jX 67 64 qI [.t 66],xV 68 64 67,dM 68]))) (eN fH))⟩
def c_64_l0:Xv:=fE [xB 39 .lss 38 37] 39 1 2 (dL [dI 40 36 38,aX 41 40,oD 6 gE gE,cA 6 41] [aE 42,aR 43 6,xL 44 43,pD 45 44,gS 46 fB [.t 42,.t 45,bY 4],xM 0 46] (xR [aE 47,aS 48 6,xL 49 48,pD 50 49,gS 51 fB [.t 47,.t 50,bY 4],xM 0 51])) 52 .add 38 38 52
def c_64_k1:Xv:=dG [aE 53,eP 54 3,dE 55 54,aX 56 55,oF 57 nJ 53 56,aM 57]
def c_64_k2:Xv:=dG [aE 73,xF 74 7 3,aX 75 74,oF 76 nJ 73 75,aM 76]
def kD:AFn:=⟨2,[.tmp 4],dL [FF 3 1,oI aC] [aE 7,dB 8,xL 9 8,sI 10 9,xO 11 W6,eO 12 1 7 11,xM 0 12] (tT [aE 13,fO 14,xL 15 14,gS 16 fB [.t 13,.t 15,bY 2],xM 0 16] [dB 17,xL 18 17] 0 (Q1 (bN 20 .eql 18) 19 20 19 (bW [aE 21,eP 22 3,aS 23 22,xL 24 23,gS 25 fB [.t 21,.t 24,bY 2],xM 0 25] (FD [aE 26,eP 27 3,aR 28 27,xL 29 28,xN 30 29,sI 31 30,xO 32 (.bslice .imm 1 oV [(0,(.t 31))]),eO 33 1 26 32,xM 0 33] [eP 34 3,aR 35 34,xL 36 35,xN 37 36,bF 38] 1 c_64_l0 c_64_k1)) (mX 59 .eql 18 2 58 59 58 (.seq (sW [(3,5)] [⟨some 60,none,.mov (.t 0)⟩,⟨some 61,none,.faddr 2 (.t 3)⟩,⟨some 62,none,.load false 1 (.t 61)⟩,⟨some 63,none,.tcall fB [.t 60,.t 62,.c tP]⟩,⟨some 64,none,.faddr 7 (.t 3)⟩,⟨some 65,none,.load true 2 (.t 64)⟩,⟨some 66,none,.tcall nJ [.t 63,.t 65]⟩,⟨some 4,none,.mov (.t 66)⟩] none) .ret) (ZC (xK 68 .eql 18 3) (xM 67 68) 67 [aE 69,mU 70,xL 71 70,gS 72 fB [.t 69,.t 71,bY 4],aM 72]))) c_64_k2)⟩
def oK:AFn:=⟨1,gR,iU eZ PJ (jH [iV 4,aH 5 BU 4,jB 3 bM bM bM bM,eA 3 5] [dB 6,xL 7 6,aP 8 .eql 7] (i8 8 [iV 9,aH 10 BW 9,eA 3 10]) (eH [dB 11,xL 12 11,aP 13 .eql 12] (i8 13 [iV 14,aH 15 BZ 14,eA 3 15]) (eH [dB 16,xL 17 16,aP 18 .eql 17] (i8 18 [iV 19,aH 20 C0 19,eA 3 20]) (eH [dB 21,xL 22 21,aP 23 .eql 22] (i8 23 [iV 24,aH 25 C1 24,eA 3 25]) (eH [dB 26,xL 27 26,aP 28 .eql 27] (i8 28 [iV 29,aH 30 C2 29,eA 3 30]) (eH [dB 31,xL 32 31,aP 33 .eql 32] (i8 33 [iV 34,aH 35 C3 34,eA 3 35]) (FI (cW 36 3) 36)))))))⟩
def c_66_l0:Xv:=dP [aY 8,cP 9 5,xL 10 9,xN 11 10,xB 12 .lss 8 11] 12 (dL [dB 15,xL 16 15,xO 17 W1,eO 18 24 16 17,dB 19,cQ 19 18] [fO 20,xL 21 20,xO 22 WA,eO 23 8 21 22,fO 24,cQ 24 23] (xD [mU 25,xL 26 25,cP 27 5,xL 28 27,aY 29,xX 30 6 28 29,eP 31 30,aX 32 31,xO 33 (.bslice .imm 2 (List.replicate 1 yV) [(0,(.t 32))]),mQ 34 2 32 26 33,mU 35,cQ 35 34])) (aY 13) 14 .add 13 (aM 14)
def c_66_k1:Xv:=FI (cW 36 3) 36
def SN:AFn:=⟨1,gR,iU eZ PH (jD [iV 5,aH 6 qJ 5,xO 7 (.build mL [(3,1,(.t 6))]),jB 3 aC aC cO aC,eA 3 7] bO c_66_l0 c_66_k1)⟩
def MZ:AFn:=⟨3,W0,lV VN (xQ [jJ 14,cW 15 4,bP 16,gD 17 C4 14 15 16,xM 13 17,b9 18 13,bA 19 13,xE 20 2 13,oD 10 (.Xu 4 []) aC,cA 10 18,xM 11 19,xM 12 20] [10]) (dA [xM 21 12,aP 22 .neq 21] 22 [xO 23 yZ,xM 24 11,xM 25 12,eA 6 23,xC 7 aC,cR 24,eJ 25] (.seq (sW [(7,8)] [⟨some 26,none,.faddr 0 (.t 10)⟩,⟨some 27,none,.load false 1 (.t 26)⟩,⟨some 28,none,.mov (.t 2)⟩,⟨some 29,none,.len (.t 28)⟩,⟨some 30,none,.iaddr 4 none (.t 27) (.t 29)⟩,⟨some 31,none,.load true 4 (.t 30)⟩,⟨some 32,none,.faddr 1 (.t 10)⟩,⟨some 33,none,.load false 1 (.t 32)⟩,⟨none,none,.store 4 (.t 6) (.t 31)⟩,⟨some 7,none,.mov (.t 33)⟩,⟨some 8,none,.mov (.c lU)⟩,⟨some 9,none,.mov (.c lU)⟩] none) .ret))⟩
def SO:AFn:=⟨1,[.tmp 2],dL mO [lY 3 1] (dL [aM 3,aE 5,xN 6 5,FN 7 6,aH 8 qK 7,eO 9 1 4 8,bS 3] [aQ 10,aE 11,eO 12 1 10 11,cU 12] (dG [aQ 13,aQ 14,aH 15 v7 14,aH 16 qK 15,eO 17 1 13 16,dM 17]))⟩
def c_69_l0:Xv:=dP VV 15 (dA [aE 18,aY 19,xX 20 9 18 19,jW 21 20,aH 22 C5 21,cD 23 22] 23 mO (xR [aQ 24,aE 25,aY 26,xX 27 9 25 26,jW 28 27,aH 29 C6 28,eO 30 1 24 29,cU 30])) (aY 16) 17 .add 16 (aM 17)
def c_69_k1:Xv:=tV 31 31
def N6:AFn:=⟨1,[.tmp 2],dY mO [aE 5,xN 6 5,xK 7 .gtr 6 64] 7 mO (jD [FJ,xN 9 8,sI 10 9,xO 11 W6,cU 11] bO c_69_l0 c_69_k1)⟩
def GK:AFn:=⟨2,[.tmp 4],bW [bO] (mC [aD 8,aH 9 GV 8,bS 7,b9 10 7,bA 11 7,aO 10,bD 11] (aT 12) 13 .neq 12 13 [aT 14,aM 14] (iT [aE 16,aF 17,oF 18 GN 16 17,xM 15 18,b9 19 15,bA 20 15,xE 21 2 15,bD 21] [aT 22,aM 22]))⟩
def BK:AFn:=⟨1,IE,dY [jC aC,eD,bO] [aE 7,xN 8 7,xK 9 .lss 8 8,bS 10,mW 11 10,cL 12 10 11,bV 13 10 .sub 12 8,mW 14 10,wW 15 10 v8 [.t 14],dU 16 10 .lss 13 15,xW 17 10 16] 17 PL (lV [aE 18,aH 19 v8 18,aO 19] (jI [aE 20,aF 21,xK 22 .add 21 4,xO 23 (.slc 1 (.t 20) none (some (.t 22)) none),aH 24 v7 23,aH 25 qK 24,xO 26 (.b2s (.t 25)),aE 27,aF 28,xK 29 .add 28 4,aF 30,xK 31 .add 30 8,xO 32 (.slc 1 (.t 27) (some (.t 29)) (some (.t 31)) none),xO 33 (.b2s (.t 32)),xB 34 .neq 26 33] 34 [jC aC,eD,dD 24]) (mB (lY 6 1) [aT 35,aE 36,aF 37,xK 38 .add 37 4,xO 39 (.slc 1 (.t 36) (some (.c tP)) (some (.t 38)) none),eO 40 1 35 39,aF 41,xK 42 .add 41 8,dM 40,cU 42,bO]))⟩
def c_72_l0:Xv:=dP [bR 19,aF 20,xB 21 .lss 19 20,xM 22 21,jL 23 22 4,cJ 24 22 23,eY 25 22 .eql 24 0,xV 26 22 25] 26 (dL [aX 30 4,aH 31 C7 30,xM 29 31,b9 32 29,bA 33 29,mF 8 aC,cK 9 tL,cA 8 32,xS 9 9 33] [aX 34 8,cA 4 34] (xR [aT 35,jW 36 9,xO 37 (.bslice .imm 9 (List.replicate 1 I8) [(0,(.t 36))]),mQ 38 9 120 35 37,bD 38])) (bR 27) 28 .add 27 (cM 28)
def c_72_k1:Xv:=eH [aS 39 4,xL 40 39,aP 41 .eql 40,xM 42 41,d9 43 42 0 4,cJ 44 42 43,p5 45 42 44,eY 46 42 .gtr 45 0,xV 47 42 46] (i8 47 [aS 48 4,⟨none,none,.store 1 (.t 48) (.c tP)⟩]) (eH [aS 49 4,xL 50 49,aP 51 .neq 50] (iS 51 (GD [aS 52 4,xL 53 52,jC (.Xu 9 []),cU 53])) (dG [aT 54,dM 54,eD]))
def N8:AFn:=⟨1,sC,iU (jC (.Xu 9 [])) eD (jH [aE 11,xO 12 (.build [.Xu 1 [],.int .i64 0] [(0,1,(.t 11))]),gT 13 dT 12 1,xM 10 13,b9 14 10,bA 15 10,mF 4 aC,cA 4 14,aO 15] [aF 16,xK 17 .gtr 16 64] (i8 17 [aS 18 4,⟨none,none,.store 1 (.t 18) PN⟩]) (jD [lY 6 9] jK c_72_l0 c_72_k1))⟩
def c_73_l0:Xv:=fE yX 18 0 1 V4 31 .add 17 17 31
def c_73_k1:Xv:=tS 6
def N9:AFn:=⟨3,[.tmp 6],k9 [p8] I9 14 [p8] ID 0 c_73_l0 c_73_k1⟩
def SP:AFn:=⟨2,[.tmp 4],mB fG [aE 5,aD 6,Z9 7 C8 5 6 (.c (.func (.func nK) [] [])),aM 7]⟩
def c_75_l0:Xv:=fE yY 14 0 1 V5 25 .add 13 13 25
def c_75_k1:Xv:=tS 4
def NA:AFn:=⟨2,[.tmp 4],k9 [fG] VW 10 [fG] [aE 11,xN 12 11,bF 13] 0 c_75_l0 c_75_k1⟩
def c_76_l0:Xv:=fE yX 18 0 1 (bW [xM 19 17,dI 20 15 17,aX 21 20,oD 8 bM aC,cM 19,cA 8 21] (lZ [aD 22,bR 23,dI 24 22 23,aX 25 24,oD 9 bM aC,cA 9 25] [bP 26,aX 27 8,aX 28 9,wX 29 26 [.t 27,.t 28],cD 30 29] 30 [p8])) 31 .add 17 17 31
def c_76_k1:Xv:=tS 6
def NB:AFn:=⟨3,[.tmp 6],k9 [p8] I9 14 [p8] ID 0 c_76_l0 c_76_k1⟩
def NC:AFn:=⟨2,[.tmp 4],iT yW [oJ 5,xL 6 5,dB 7,xL 8 7,xB 9 .eql 6 8,bS 10,jL 11 10 2,cJ 12 10 11,jL 13 10 3,cJ 14 10 13,jX 15 10 HA [.t 12,.t 14],xV 16 10 15,aM 16]⟩
def c_78_l0:Xv:=fE yX 18 0 1 V4 31 .add 17 17 31
def c_78_k1:Xv:=tS 6
def ND:AFn:=⟨3,[.tmp 6],k9 [p8] I9 14 [p8] ID 0 c_78_l0 c_78_k1⟩
def SQ:AFn:=⟨2,[.tmp 4],mB fG [aE 5,aD 6,aW 7 HA 5 6,aM 7]⟩
def c_80_l0:Xv:=fE yY 14 0 1 V5 25 .add 13 13 25
def c_80_k1:Xv:=tS 4
def NE:AFn:=⟨2,[.tmp 4],k9 [fG] VW 10 [fG] [aE 11,xN 12 11,bF 13] 0 c_80_l0 c_80_k1⟩
def c_84_l0:Xv:=gC yY 14 0 1 [xM 15 13,fF 16 11 13,xA 17 3 16,cK 5 PQ,aM 15,xS 3 5 17] [5] (iU (xA 18 3 5) (aH 19 v9 18) (i8 19 [aQ 20,aY 21,dE 22 5,xL 23 22,xO 24 (.mkslice .row 1 4 F9 (.t 23) (.t 23)),bT 25 20 21,cQ 25 24])) 26 .add 13 13 26
def c_84_k1:Xv:=tV 27 27
def SR:AFn:=⟨1,[.tmp 2],iU eZ FC (mA [kL 6,xL 7 6,xN 8 7,xO 9 (.mkslice .row 1 24 [.Xu 1 []] (.t 8) (.t 8)),bS 3] [kL 10,xL 11 10,xN 12 11,bF 13] c_84_l0 c_84_k1)⟩
def SS:AFn:=⟨1,PT,mE [eZ,oD 2 bM aC] [kN 3,xL 4 3,cV 5,xL 6 5,aH 7 qL 6,xO 8 (.build yV [(0,1,(.t 4)),(1,1,(.t 7))]),cA 2 8] .ret⟩
def c_87_l0:Xv:=fE [xB 40 .lss 39 38] 40 0 1 (mE [xM 41 39,cM 41] [eX 42,bR 43,dB 44,xL 45 44,bR 46,bT 47 45 46,xL 48 47,fO 49,xL 50 49,bR 51,bT 52 50 51,xL 53 52,mU 54,xL 55 54,bR 56,dI 57 55 56,aX 58 57,PU 59 C9 [.t 42,.t 43,.t 48,.t 53,.t 58],cR 59] (pI (bC 60) 61 .neq 60 61 [bC 62,aM 62])) 63 .add 39 39 63
def c_87_k1:Xv:=dG [eX 64,eP 65 3,xL 66 65,aW 67 CA 64 66,aM 67]
def xZ:AFn:=⟨2,[.tmp 4],lV sD (tQ [eX 9,aH 10 GT 9,jB 5 bM bM bM bM,eA 5 10] [5] (lW [mV 11,xL 12 11,aP 13 .neq 12] 13 [mV 14,xL 15 14,aM 15])) (k9 [xF 16 5 2,xL 17 16,xN 18 17,bD 18] [dB 19,xL 20 19,xN 21 20,aT 22,xB 23 .neq 21 22,xM 24 23,dC 25 24 3,aJ 26 24 25,cL 27 24 26,bK 28 24 6,dU 29 24 .neq 27 28,xW 30 24 29,xM 31 30,bH 32 31 2 3,aJ 33 31 32,cL 34 31 33,bK 35 31 6,dU 36 31 .neq 34 35,xW 37 31 36] 37 [dD 2] [aT 38,bF 39] 0 c_87_l0 c_87_k1)⟩
def c_88_l0:Xv:=fE [xB 30 .lss 29 28] 30 0 1 (zY (xM 31 29) 6 31 (xR [aF 32,aT 33,oF 34 qM 32 33])) 35 .add 29 29 35
def c_88_k1:Xv:=oZ 36 36
def ST:AFn:=⟨2,[.tmp 4],lV [jZ,FF 3 1,S5] (sW [(1,2)] [⟨some 7,none,.load true 4 (.t 3)⟩,⟨some 8,none,.tcall oL [.t 7]⟩,⟨some 9,none,.load true 9 (.t 2)⟩,⟨some 10,none,.pcall GU [.t 9]⟩,⟨some 11,none,.build [.Xu 1 [],.Xu 1 [],.Xu 2 [],.Xu 1 [],.str [],.Xu 2 [],.Xu 2 [],.Xu 3 [],.Xu 3 [],.Xu 6 [],.Xu 7 [],.Xu 5 [],.Xu 1 [],.Xu 1 [],.bool false] [(0,4,(.t 8)),(4,9,(.t 10)),(14,1,tO)]⟩,⟨some 12,none,.box (.t 11)⟩,⟨some 5,none,.mov (.t 12)⟩] none) (mA [aF 13,aF 14,eI 15 14,aR 16 15,aR 17 16,xL 18 17,xN 19 18,xO 20 (.mkslice .row 1 8 [.nilmap] (.t 19) (.t 19)),eI 21 13,xF 22 13 21,cQ 22 20] [aF 23,eI 24 23,aR 25 24,aR 26 25,xL 27 26,xN 28 27,bF 29] c_88_l0 c_88_k1)⟩
def SU:AFn:=⟨1,[.tmp 2],dY [jC .nilptr] V6 11 [jC .nilptr] (GD [aE 12,eI 13 12,xF 14 4 13,jW 15 14,aE 16,eI 17 16,aR 18 17,cW 19 18,oF 20 yE 15 19,dM 20])⟩
def BL:AFn:=⟨4,[.tmp 8],iU (FF 7 3) wZ (jH [aE 12,aD 13,bP 14,gS 15 qN [.t 12,.t 13,.t 14],xM 11 15,b9 16 11,bA 17 11,eJ 16,xM 10 17] [xM 18 10,aP 19 .eql 18] (iS 19 (xD [aE 20,eI 21 20,xF 22 4 21,jW 23 22,aD 24,aX 25 7,gD 26 qO 23 24 25,xM 10 26])) (eH [xM 27 10,aP 28 .eql 27] (iS 28 (xD [aE 29,eI 30 29,aR 31 30,aR 32 31,xL 33 32,aD 34,bT 35 33 34,xL 36 35,bS 37,aX 38 7,aH 39 tA 38,xX 40 5 36 37,aS 41 40,dE 42 41,cA 42 39])) (jA (xM 43 10) (cR 43))))⟩
def c_92_l0:Xv:=gC [xB 27 .lss 26 25] 27 2 3 [xX 28 5 24 26,xA 29 5 28,cK 8 tN,xS 5 8 29] [8] (xR [aT 30,xA 31 5 8,aH 32 CB 31,xO 33 (.bslice .imm 5 (List.replicate 1 tK) [(0,(.t 32))]),MG 34 .row 5 72 30 33,bD 34]) 35 .add 26 26 35
def c_92_k1:Xv:=xR [dB 36,xL 37 36,aT 38,xO 39 (.bslice .row 1 IA [(0,(.t 38))]),MG 40 .row 1 24 37 39,dB 41,cQ 41 40]
def c_92_k2:Xv:=xR [bN 42 .add 20,xM 20 42]
def c_92_l3:Xv:=Zb [xB 21 .lss 20 19] 21 0 (iQ 1 (mT (bT 22 18 20) (xL 23 22) (aO 23) (FD [xC 6 zA] [aF 24,xN 25 24,bF 26] 2 c_92_l0 c_92_k1)) c_92_k2)
def c_92_l4:Xv:=gC [xB 47 .lss 46 45] 47 4 5 [dI 48 44 46,aX 49 48,oD 10 bM aC,cA 10 49] [10] (xD [mU 50,xL 51 50,aX 52 10,aH 53 tA 52,xO 54 (.bslice .imm 2 (List.replicate 1 yV) [(0,(.t 53))]),MG 55 .row 2 32 51 54,mU 56,cQ 56 55]) 57 .add 46 46 57
def c_92_l5:Xv:=fE [xB 62 .lss 61 60] 62 6 7 (mT (bT 63 59 61) (xL 64 63) (xM 12 64) (xD [eP 65 3,xL 66 65,xM 67 12,aH 68 qL 67,xO 69 (.bslice .imm 1 WF [(0,(.t 68))]),eO 70 24 66 69,eP 71 3,cQ 71 70])) 72 .add 61 61 72
def c_92_k6:Xv:=FI (cW 73 3) 73
def c_92_k7:Xv:=kK [kL 58,xL 59 58,xN 60 59,bF 61] 6 c_92_l5 c_92_k6
def c_92_k8:Xv:=kK [kX 43,xL 44 43,xN 45 44,bF 46] 4 c_92_l4 c_92_k7
def SW:AFn:=⟨1,gR,iU pG PH (mA [cV 13,xL 14 13,gS 15 gJ [.t 14],xO 16 (.build mL [(1,1,(.t 15))]),jB 3 aC aC cO aC,eA 3 16] [kN 17,xL 18 17,xN 19 18,bF 20] c_92_l3 c_92_k8)⟩
def t6:AFn:=⟨3,[.tmp 6,.tmp 7],mT (FF 5 2) cT jK (iQ 0 V2 (.seq (kV [aE 25,eI 26 25,xF 27 4 26,jW 28 27,aD 29,cW 30 5,gD 31 vB 28 29 30,cR 31] (pI (bC 32) 33 .neq 32 33 [bC 34,cT,cM 34])) (dA [aE 35,eI 36 35,aR 37 36,aR 38 37,xL 39 38,aD 40,bT 41 39 40,xL 42 41,xO 43 (.mkfunc (.func lD) [] [.t 5]),aW 44 nL 42 43] 44 [cT,xI 7 7] (lV [aE 45,eI 46 45,aR 47 46,aS 48 47,xL 49 48,aD 50,bT 51 49 50,xL 52 51,eJ 52] (jI [aE 53,eI 54 53,aR 55 54,aR 56 55,xL 57 56,aD 58,bT 59 57 58,xL 60 59,xN 61 60,aE 62,eI 63 62,xF 64 4 63,xF 65 5 64,xL 66 65,aD 67,xX 68 6 66 67,xF 69 5 68,xL 70 69,xB 71 .geq 61 70,xM 72 71,bK 73 72 9,bV 74 72 .geq 73 1073741824,xW 75 72 74] 75 [cT,xI 7 13]) (kV [aE 76,eI 77 76,xF 78 13 77,xL 79 78,aD 80,bT 81 79 80,xL 82 81,bS 83,aE 84,eI 85 84,aR 86 85,aR 87 86,xL 88 87,aD 89,bT 90 88 89,xL 91 90,xN 92 91,⟨none,none,.update .i (.t 82) (.t 83) (.t 92)⟩] (.seq (sW [(4,19)] [⟨some 93,none,.mov (.t 0)⟩,⟨some 94,none,.nilchk (.t 93)⟩,⟨some 95,none,.faddr 0 (.t 94)⟩,⟨some 96,none,.faddr 0 (.t 95)⟩,⟨some 97,none,.load false 1 (.t 96)⟩,⟨some 98,none,.mov (.t 1)⟩,⟨some 99,none,.mov (.t 0)⟩,⟨some 100,none,.nilchk (.t 99)⟩,⟨some 101,none,.faddr 0 (.t 100)⟩,⟨some 102,none,.faddr 0 (.t 101)⟩,⟨some 103,none,.load false 1 (.t 102)⟩,⟨some 104,none,.mov (.t 1)⟩,⟨some 105,none,.iaddr 1 none (.t 103) (.t 104)⟩,⟨some 106,none,.load false 1 (.t 105)⟩,⟨some 107,none,.mov (.t 9)⟩,⟨some 108,none,.load true 4 (.t 5)⟩,⟨some 109,none,.pcall vC [.t 108]⟩,⟨some 110,none,.build tK [(0,1,(.t 107)),(1,4,(.t 109))]⟩,⟨some 111,none,.bslice .imm 5 (List.replicate 1 tK) [(0,(.t 110))]⟩,⟨some 112,none,.append .row 5 72 (.t 106) (.t 111)⟩,⟨some 113,none,.iaddr 1 none (.t 97) (.t 98)⟩,⟨none,none,.store 1 (.t 113) (.t 112)⟩] none) (iT [aE 114,eI 115 114,aR 116 115,aS 117 116,xL 118 117,aD 119,bT 120 118 119,xL 121 120,bN 122 .add 121,bT 123 118 119,cQ 123 122] [bS 124,bD 124,jK])))))))⟩
def NF:AFn:=⟨3,[.tmp 6],bW [cT] (jH [aE 10,aD 11,bP 12,gS 13 qN [.t 10,.t 11,.t 12],eJ 13,b9 14 9,bA 15 9,cM 14,cR 15] [bC 16,aP 17 .eql 16] (iS 17 (.seq (sW [(4,17)] [⟨some 18,none,.mov (.t 0)⟩,⟨some 19,none,.nilchk (.t 18)⟩,⟨some 20,none,.faddr 0 (.t 19)⟩,⟨some 21,none,.faddr 0 (.t 20)⟩,⟨some 22,none,.load false 1 (.t 21)⟩,⟨some 23,none,.mov (.t 1)⟩,⟨some 24,none,.mov (.t 0)⟩,⟨some 25,none,.nilchk (.t 24)⟩,⟨some 26,none,.faddr 0 (.t 25)⟩,⟨some 27,none,.faddr 0 (.t 26)⟩,⟨some 28,none,.load false 1 (.t 27)⟩,⟨some 29,none,.mov (.t 1)⟩,⟨some 30,none,.iaddr 1 none (.t 28) (.t 29)⟩,⟨some 31,none,.load false 1 (.t 30)⟩,⟨some 32,none,.mov (.t 7)⟩,⟨some 33,none,.mov (.t 7)⟩,⟨some 34,none,.bin .add (.t 33) F1⟩,⟨some 35,none,.tcall qQ [.t 31,.t 32,.t 34]⟩,⟨some 36,none,.iaddr 1 none (.t 22) (.t 23)⟩,⟨none,none,.store 1 (.t 36) (.t 35)⟩] none) (xR [aE 37,aD 38,oF 39 qM 37 38]))) (jA (bC 40) (bD 40)))⟩
def GL:AFn:=⟨3,[.tmp 6],iU (FF 5 2) cT (iQ 0 (gZ [aE 9,xO 10 (MI (.t 9) MH),xM 11 10,mW 12 11,eM 13 11 (GB 12),bH 14 11 14 13,aJ 15 11 14,zE 16 11 15,xW 17 11 16,cR 17] 8 [f9 1] [aE 19,aD 20,oF 21 qP 19 20,cD 22 21,xM 18 22] 18 [f9 8]) (kV [aE 23,eI 24 23,xF 25 4 24,jW 26 25,aD 27,aX 28 5,gD 29 qO 26 27 28,cM 29] (eH [bR 30,aP 31 .eql 30] (iS 31 (xD [aE 32,eI 33 32,aR 34 33,dE 35 34,xL 36 35,aD 37,aX 38 5,aH 39 tA 38,dI 40 36 37,cA 40 39])) (jA (bR 41) (bD 41)))))⟩
def GM:AFn:=⟨2,[.tmp 4],iT yW [cW 5 2,cW 6 3,aW 7 nM 5 6,bR 8,d9 9 8 2 2,d9 10 8 0 9,cJ 11 8 10,d9 12 8 2 3,d9 13 8 0 12,cJ 14 8 13,oG 15 8 .eql 11 14,xV 16 8 15,xM 17 16,d9 18 17 2 2,jL 19 17 18,cJ 20 17 19,d9 21 17 2 3,jL 22 17 21,cJ 23 17 22,jX 24 17 CC [.t 20,.t 23],xV 25 17 24,aM 25]⟩
def t7:AFn:=⟨1,[],bW [eZ] (dL [kN 2,xL 3 2,aH 4 vD 3,gT 5 d8 4 6,Q2 6 bL 5 0 (bY 0) 0] [cV 7,xL 8 7,xN 9 8,xK 10 .gtr 9 8,gT 11 d8 10 12,Q2 12 bL 11 0 (bY 1) 0] (dL [kL 13,xL 14 13,xN 15 14,xK 16 .gtr 15 4,gT 17 d8 16 12,Q2 18 bL 17 0 (bY 3) 0] [cP 19 4,xL 20 19,xN 21 20,xK 22 .gtr 21 16,gT 23 d8 22 12,Q2 24 bL 23 0 (bY 4) 0] (xR [cP 25 5,xL 26 25,xN 27 26,xK 28 .gtr 27 12,gT 29 d8 28 12,Q2 30 bL 29 0 (bY 5) 0])))⟩
def c_100_l0:Xv:=gC [xB 12 .lss 11 10] 12 0 1 [xM 13 11,dI 14 9 11,aX 15 14,oD 4 (.str []) cO,cU 13,cA 4 15] [4] (dL [aX 16 4,aH 17 CE 16,aQ 18,pH 19 bL 17 1 18 0] [aR 20 4,xL 21 20,tX 22 .eql 21 (.str [109,101,116,97]),gT 23 d8 22 6,aQ 24,pH 25 bL 23 1 24 0] (xR [bP 26,aQ 27,aW 28 lE 26 27,gT 29 d8 28 7,aQ 30,pH 31 bL 29 1 30 0])) 32 .add 11 11 32
def IQ:AFn:=⟨1,[],bW [eZ] (dL [cV 5,xL 6 5,tW 7 vE 6 (.func (.func qR) [] []),bR 2] [cV 8,xL 9 8,xN 10 9,bF 11] (zX 0 c_100_l0))⟩
def c_101_l0:Xv:=gC PO 20 0 1 [xM 21 19,dI 22 17 19,aX 23 22,mF 4 (.str []),cU 21,cA 4 23] [4] (dL [aR 24 4,xL 25 24,aH 26 vD 25,gT 27 d8 26 6,aQ 28,pH 29 bL 27 2 28 0] [aS 30 4,xL 31 30,aH 32 CF 31,gT 33 d8 32 10,aQ 34,pH 35 bL 33 2 34 0] (xR [bP 36,aQ 37,aW 38 lE 36 37,gT 39 d8 38 7,aQ 40,pH 41 bL 39 2 40 0])) 42 .add 19 19 42
def c_101_l1:Xv:=gC [xK 48 .lss 47 3] 48 2 3 [xM 49 47,xO 50 (.idxa true 3 2 (.t 46) (.t 47)),mF 6 (.str []),aO 49,cA 6 50] [6] (kV [aF 51,kX 52,xL 53 52,xN 54 53,xB 55 .geq 51 54,xM 56 55,bH 57 56 2 1,aJ 58 56 57,bK 59 56 5,oE 60 56 2 58 59,eM 61 56 (S4 2 60),eM 62 56 (S4 2 6),eM 63 56 (.eqs true true [.s,.i] (.t 61) (.t 62)),xW 64 56 63,gT 65 d8 64 5,aF 66] (xR [pH 67 bL 65 2 66 0])) 68 .add 47 47 68
def c_101_k2:Xv:=bW [xO 43 VJ,xO 44 VG,xO 45 VL,xO 46 (.build [.str [],.int .i64 0,.str [],.int .i64 0,.str [],.int .i64 0] [(0,2,(.t 43)),(2,2,(.t 44)),(4,2,(.t 45))]),bF 47] (zX 2 c_101_l1)
def A7:AFn:=⟨1,[],dL [eZ] [kX 7,xL 8 7,xN 9 8,xK 10 .gtr 9 12,gT 11 d8 10 12,Q2 12 bL 11 2 (bY 0) 0] (mA [kX 13,xL 14 13,tW 15 vF 14 (.func (.func qS) [] []),dM 15] [kX 16,xL 17 16,xN 18 17,bF 19] c_101_l0 c_101_k2)⟩
def c_102_l0:Xv:=gC yX 18 0 1 [xM 19 17,fF 20 15 17,xA 21 3 20,cK 4 PQ,cU 19,xS 3 4 21] [4] (bW [xA 22 3 4,aH 23 CG 22,aQ 24,pH 25 bL 23 3 24 0] (xR [bP 26,aQ 27,aW 28 lE 26 27,gT 29 d8 28 7,aQ 30,pH 31 bL 29 3 30 0])) 32 .add 17 17 32
def c_102_l1:Xv:=fE [xB 40 .lss 39 38] 40 2 3 (iU (xM 41 39) (aO 41) (dL [iV 43,aF 44,aW 45 CH 43 44,xM 42 45,b9 46 42,bA 47 42,bD 46,cM 47] [bR 48,aF 49,aT 50,PY 51 bL (.t 48) 4 (.t 49) (.t 50)] (xR [bP 52,aF 53,aW 54 lE 52 53,gT 55 d8 54 7,aF 56,pH 57 bL 55 4 56 0]))) 58 .add 39 39 58
def c_102_l2:Xv:=fE [xB 66 .lss 65 64] 66 4 5 (zY (xM 67 65) 8 67 (dL [iV 69,bC 70,aW 71 qX 69 70,xM 68 71,b9 72 68,bA 73 68,eJ 72,xM 10 73] [xM 74 10,bC 75,bS 76,PY 77 bL (.t 74) 5 (.t 75) (.t 76)] (xR [bP 78,bC 79,aW 80 lE 78 79,gT 81 d8 80 7,bC 82,pH 83 bL 81 5 82 0]))) 84 .add 65 65 84
def c_102_k3:Xv:=dL [cP 59 5,xL 60 59,tW 61 vJ 60 (.func (.func qW) [] []),dM 61] [cP 62 5,xL 63 62,xN 64 63,bF 65] (zX 4 c_102_l2)
def c_102_k4:Xv:=FD [cP 33 4,xL 34 33,tW 35 vI 34 (.func (.func qV) [] []),dM 35] [cP 36 4,xL 37 36,xN 38 37,bF 39] 2 c_102_l1 c_102_k3
def IR:AFn:=⟨1,[],jY [eZ] [kL 11,xL 12 11,tW 13 vG 12 (.func (.func qU) [] []),dM 13] [kL 14,xL 15 14,xN 16 15,bF 17] c_102_l0 c_102_k4⟩
def pL:AFn:=⟨1,[],dL [eZ] [iV 7,aH 8 CI 7,bC 6,b9 9 6,bA 10 6,xE 11 2 6,bS 2,cU 10,aM 11] (dL [aY 12,bP 13,aQ 14,PY 15 bL (.t 12) 6 (.t 13) (.t 14)] [iV 17,aH 18 CK 17,xM 16 18,b9 19 16,bA 20 16,aO 19,aM 20] (dL [aY 21,aF 22,pH 23 bL 21 7 22 0] [iV 25,aH 26 CL 25,xM 24 26,b9 27 24,bA 28 24,aO 27,aM 28] (xR [aY 29,aF 30,pH 31 bL 29 8 30 0])))⟩
def c_104_l0:Xv:=gC lS 11 0 1 VQ [7] (xR [aF 14,aD 15,aX 16 7,wX 17 15 [.t 16],xO 18 (.bslice .imm 2 (List.replicate 1 [.str [],.Xu 2 []]) [(0,(.t 17))]),mQ 19 2 40 14 18,aO 19]) 20 .add 10 10 20
def c_104_k1:Xv:=oZ 21 21
def IU:AFn:=⟨2,[.tmp 4],jY [oI cO] [lY 5 2] lR c_104_l0 c_104_k1⟩
def IV:AFn:=⟨1,PT,dL [pG,oD 2 (.str []) cO] [cV 3,xL 4 3,aH 5 qF 4,cV 6,cQ 6 5] (jA (aX 7 1) (cA 2 7))⟩
def c_108_l0:Xv:=gC lS 11 0 1 VU [7] (xR [aF 14,aD 15,xA 16 3 7,wX 17 15 [.t 16],xO 18 (.bslice .imm 3 (List.replicate 1 EZ) [(0,(.t 17))]),mQ 19 3 64 14 18,aO 19]) 20 .add 10 10 20
def c_108_k1:Xv:=oZ 21 21
def IW:AFn:=⟨2,[.tmp 4],jY [oI (.Xu 3 [])] [lY 5 3] lR c_108_l0 c_108_k1⟩
def IX:AFn:=⟨1,[.cell 2 true 3],mE [pG,cK 2 EZ] [cV 3,xL 4 3,aH 5 qF 4,kX 6,xL 7 6,tW 8 vK 7 (.func (.func nN) [] []),cV 9,cQ 9 5,kX 10,cQ 10 8] (jA (xA 11 3 1) (xS 3 2 11))⟩
def c_110_l0:Xv:=gC lS 11 0 1 VT [7] (xR [aF 14,aD 15,xA 16 6 7,wX 17 15 [.t 16],xO 18 (.bslice .imm 6 (List.replicate 1 [.str [],.Xu 3 [],.Xu 1 [],.int .i64 0,.Xu 1 [],.int .i64 0]) [(0,(.t 17))]),mQ 19 6 104 14 18,aO 19]) 20 .add 10 10 20
def c_110_k1:Xv:=oZ 21 21
def IY:AFn:=⟨2,[.tmp 4],jY [oI (.Xu 6 [])] [lY 5 6] lR c_110_l0 c_110_k1⟩
def IZ:AFn:=⟨1,[.cell 2 true 6],mE [pG,cK 2 EX] [cV 3,xL 4 3,aH 5 CM 4,kX 6,xL 7 6,aH 8 gJ 7,kL 9,aS 10 9,xL 11 10,aH 12 qL 11,cV 13,cQ 13 5,kX 14,cQ 14 8,kL 15,aS 16 15,cQ 16 12] (jA (xA 17 6 1) (xS 6 2 17))⟩
def c_112_l0:Xv:=gC lS 11 0 1 [xX 12 7 8 10,xA 13 7 12,cK 7 yT,xS 7 7 13] [7] (xR [aF 14,aD 15,xA 16 7 7,wX 17 15 [.t 16],xO 18 (.bslice .imm 7 (List.replicate 1 [.str [],.Xu 1 [],.bool false,.int .i64 0,.int .i64 0,.Xu 3 [],.int .i64 0]) [(0,(.t 17))]),mQ 19 7 96 14 18,aO 19]) 20 .add 10 10 20
def c_112_k1:Xv:=oZ 21 21
def J0:AFn:=⟨2,[.tmp 4],jY [oI (.Xu 7 [])] [lY 5 7] lR c_112_l0 c_112_k1⟩
def J1:AFn:=⟨1,[.cell 2 true 7],mE [pG,cK 2 yT] [cV 3,xL 4 3,aH 5 gJ 4,cP 6 5,xL 7 6,aH 8 CN 7,cV 9,cQ 9 5,cP 10 5,cQ 10 8] WG⟩
def c_114_l0:Xv:=gC lS 11 0 1 [xX 12 5 8 10,xA 13 5 12,cK 7 EY,xS 5 7 13] [7] (xR [aF 14,aD 15,xA 16 5 7,wX 17 15 [.t 16],xO 18 (.bslice .imm 5 VH [(0,(.t 17))]),mQ 19 5 88 14 18,aO 19]) 20 .add 10 10 20
def c_114_k1:Xv:=oZ 21 21
def J2:AFn:=⟨2,[.tmp 4],jY [oI zA] [lY 5 5] lR c_114_l0 c_114_k1⟩
def J3:AFn:=⟨1,[.cell 2 true 5],mE [pG,cK 2 EY] [kX 3,xL 4 3,aH 5 qY 4,kL 6,xL 7 6,tW 8 nG 7 PI,cP 9 4,xL 10 9,tW 11 nG 10 PI,kX 12,cQ 12 5,kL 13,cQ 13 8,cP 14 4,cQ 14 11] (jA (xA 15 5 1) (xS 5 2 15))⟩
def c_117_l0:Xv:=dP [aT 9,aE 10,xN 11 10,xB 12 .lss 9 11,xM 13 12,dZ 14 13 5,eY 15 13 .lss 14 100,xV 16 13 15] 16 (dA [aD 19,aP 20 .eql 19,xM 21 20,mW 22 21,bK 23 21 6,oE 24 21 5 22 23,bH 25 21 2 24,aJ 26 21 25,cL 27 21 26,bV 28 21 .gtr 27 40,xW 29 21 28] 29 [dD 100] (xD [aF 30,aE 31,aT 32,xX 33 5 31 32,eP 34 33,xL 35 34,aD 36,bN 37 .sub 36,aW 38 nI 35 37,xB 39 .add 30 38,aE 40,aT 41,xX 42 5 40 41,xF 43 4 42,xL 44 43,aD 45,bN 46 .sub 45,aW 47 nI 44 46,xB 48 .add 39 47,aO 48])) (aT 17) 18 .add 17 (bD 18)
def c_117_k1:Xv:=oZ 49 49
def A8:AFn:=⟨2,[.tmp 4],jY [bO] [aE 7,xN 8 7,aO 8] [cT] c_117_l0 c_117_k1⟩
def c_118_l0:Xv:=dP [aQ 14,cV 15,xL 16 15,xN 17 16,xB 18 .lss 14 17] 18 (lW [cV 21,xL 22 21,aQ 23,dI 24 22 23,aR 25 24,xL 26 25,xO 27 (A2 26),xK 28 .gtr 27 30] 28 [fH]) (aQ 19) 20 .add 19 (cU 20)
def c_118_k1:Xv:=tS 2
def uA:AFn:=⟨1,[.tmp 2],k9 [eZ,fH] [kN 4,xL 5 4,xO 6 (A2 5),xK 7 .gtr 6 30,bR 8,dC 9 8 1,aJ 10 8 9,cL 11 8 10,bV 12 8 .gtr 11 20,xW 13 8 12] 13 [fH] [eD] 0 c_118_l0 c_118_k1⟩
def c_119_l0:Xv:=dP [aQ 20,kX 21,xL 22 21,xN 23 22,xB 24 .lss 20 23] 24 (lW [kX 27,xL 28 27,aQ 29,xX 30 7 28 29,xF 31 5 30,xL 32 31,xN 33 32,xK 34 .gtr 33 40,xM 35 34,bH 36 35 2 1,aJ 37 35 36,bK 38 35 3,oE 39 35 7 37 38,bH 40 35 6 39,aJ 41 35 40,cL 42 35 41,bV 43 35 .gtr 42 40,xW 44 35 43] 44 [mP 2]) (aQ 25) 26 .add 25 (cU 26)
def c_119_k1:Xv:=eN fH
def pM:AFn:=⟨1,[.tmp 2],k9 [eZ,fH] [cV 4,xL 5 4,xN 6 5,xK 7 .gtr 6 8,bR 8,bH 9 8 2 1,aJ 10 8 9,cL 11 8 10,bV 12 8 .gtr 11 16,xW 13 8 12,xM 14 13,bH 15 14 0 1,aJ 16 14 15,eM 17 14 (A2 16),bV 18 14 .gtr 17 60,xW 19 14 18] 19 [mP 2] [eD] 0 c_119_l0 c_119_k1⟩
def pN:AFn:=⟨1,[.tmp 2],iT [eZ,fH] [cV 3,xL 4 3,xN 5 4,xK 6 .gtr 5 8,aT 7,bH 8 7 5 1,aJ 9 7 8,cL 10 7 9,bV 11 7 .gtr 10 12,xW 12 7 11,xM 13 12,bH 14 13 0 1,aJ 15 13 14,eM 16 13 (A2 15),bV 17 13 .gtr 16 60,xW 18 13 17,dM 18]⟩
def c_122_l0:Xv:=fE [xB 38 .lss 37 36] 38 0 1 (mT (bT 39 35 37) (xL 40 39) (cM 40) (xR [aF 41,zZ 42 .shl 41 (FM 8),bR 43,FN 44 43,xB 45 .or 42 44,aO 45])) 46 .add 37 37 46
def c_122_k1:Xv:=iT [aE 47,aE 48,eI 49 48,aR 50 49,xL 51 50,aD 52,xO 53 (.slc 1 (.t 51) (some (.t 52)) none none),eI 54 47,aR 55 54,cQ 55 53] [aF 56,aM 56]
def gG:AFn:=⟨2,[.tmp 4],jH [oI gE] [FJ,eI 9 8,aS 10 9,xL 11 10,aP 12 .eql 11,xM 13 12,p7 14 13,gN 15 13 (GB 14),d9 16 13 0 15,cJ 17 13 16,p5 18 13 17,dZ 19 13 1,oG 20 13 .lss 18 19,xV 21 13 20] (i8 21 [aE 22,eI 23 22,aS 24 23,⟨none,none,.store 1 (.t 24) (.c (.int .i64 3))⟩]) (dA [aE 25,eI 26 25,aS 27 26,xL 28 27,aP 29 .neq 28] 29 [oI gE] (mA [xC 5 gE] [aE 30,eI 31 30,aR 32 31,xL 33 32,aD 34,xO 35 (.slc 1 (.t 33) none (some (.t 34)) none),xN 36 35,bF 37] c_122_l0 c_122_k1))⟩
def A9:AFn:=⟨3,[],bW [pF,eI 7 6,aS 8 7,xL 9 8,aP 10 .eql 9,xM 11 10,dZ 12 11 1,gN 13 11 (S0 12),xV 14 11 13] (i8 14 [aE 15,bP 16,eI 17 15,aS 18 17,cQ 18 16])⟩
def c_124_l0:Xv:=Zc [aY 35,tX 36 .gtr 35 gE,xM 37 36,p7 38 37,gN 39 37 (GB 38),jL 40 37 39,cJ 41 37 40,eY 42 37 .eql 41 0,xV 43 37 42] 43 1 2 (mT (aE 46) (FH 47 dJ 46 (bY 4)) (aO 47) (sW [(2,5)] [⟨some 48,none,.faddr 3 (.t 3)⟩,⟨some 49,none,.faddr 0 (.t 48)⟩,⟨some 50,none,.load false 1 (.t 49)⟩,⟨some 51,none,.mov (.t 5)⟩,⟨some 52,none,.mov (.t 0)⟩,⟨some 53,none,.tcall dJ [.t 52,.c tP]⟩,⟨some 54,none,.build IC [(0,1,(.t 51)),(1,1,(.t 53))]⟩,⟨some 55,none,.bslice .imm 2 (List.replicate 1 IC) [(0,(.t 54))]⟩,⟨some 56,none,.append .app 2 8 (.t 50) (.t 55)⟩,⟨some 57,none,.faddr 3 (.t 3)⟩,⟨some 58,none,.faddr 0 (.t 57)⟩,⟨none,none,.store 1 (.t 58) (.t 56)⟩] none)) (aY 44) (tX 45 .sub 44 (II 1)) (aM 45)
def c_124_k1:Xv:=xR [aE 59,gS 60 lF [.t 59],eP 61 3,dE 62 61,cA 62 60]
def c_124_k2:Xv:=jA (jJ 81) (xS 9 2 81)
def kZ:AFn:=⟨1,[.cell 2 true 9],bW [cK 2 tL] (dL [pF,FH 7 dJ 6 (bY 1),pD 8 7,xO 9 (.build I8 [(0,1,(.t 8))]),cK 3 tL,xS 9 3 9] [aE 10,dB 11,xL 12 11,bN 13 .geq 12,xM 14 13,d9 15 14 0 3,cJ 16 14 15,eY 17 14 .leq 16 4,xV 18 14 17,gS 19 iF [.t 10,.t 18,bY 5]] (tT [aE 20,FH 21 dJ 20 (bY 2),pD 22 21,fO 23,cQ 23 22] [dB 24,xL 25 24] 0 (Q1 (bN 27 .eql 25) 26 27 26 (FD [aE 28,FH 29 dJ 28 (bY 2),pD 30 29,eP 31 3,aS 32 31,cQ 32 30] [aE 33,FH 34 dJ 33 (bY 1),aM 34] 1 c_124_l0 c_124_k1) (mX 64 .eql 25 2 63 64 63 (bW [aE 65,gS 66 qZ [.t 65],mU 67,cQ 67 66] (xR [aE 68,gS 69 lF [.t 68],xF 70 7 3,cA 70 69])) (mX 72 .eql 25 3 71 72 71 (xR [aE 73,gS 74 qZ [.t 73],mU 75,cQ 75 74]) (zY (xK 77 .eql 25 4) 76 77 (i8 76 [aE 78,gS 79 lF [.t 78],xF 80 7 3,cA 80 79]))))) c_124_k2))⟩
def J4:AFn:=⟨1,[.tmp 2],mB FC [sX,zZ 4 .shr 3 (FM 24),sI 5 4,pF,zZ 7 .shr 6 (FM 16),sI 8 7,aE 9,zZ 10 .shr 9 (FM 8),sI 11 10,aE 12,sI 13 12,xO 14 V8,dM 14]⟩
def c_126_l0:Xv:=fE yY 14 0 1 (mT (bT 15 11 13) (xL 16 15) (bD 16) (xR [aY 17,aT 18,xO 19 (.tcallv (.t 17) [.t 18])])) 20 .add 13 13 20
def c_126_k1:Xv:=xR [aE 21,eI 22 21,aS 23 22,xL 24 23,aD 25,xN 26 25,xB 27 .add 24 26,eI 28 21,aS 29 28,cQ 29 27]
def J5:AFn:=⟨2,[],mA [aE 7,eI 8 7,aR 9 8,xO 10 (.mkfunc (.func r9) [.t 9] []),aM 10] [aD 11,xN 12 11,bF 13] c_126_l0 c_126_k1⟩
def J6:AFn:=⟨1,[.tmp 2],mB fH VK⟩
def AA:AFn:=⟨1,[.tmp 2],iT [pG,fH] [kN 3,xL 4 3,aH 5 jR 4,aF 6,jL 7 6 1,cJ 8 6 7,p5 9 6 8,eY 10 6 .leq 9 255,xV 11 6 10,dM 11]⟩
def c_129_l0:Xv:=dP [bR 10,aP 11 .geq 10] 11 (xR [aE 14,aD 15,bR 16,xO 17 (zD .mul (bY 8) 16),xB 18 .shr 15 17,sI 19 18,xO 20 (.bslice .imm 1 oV [(0,(.t 19))]),eO 21 1 14 20,xM 0 21]) (bR 12) 13 .sub 12 (cM 13)
def c_129_k1:Xv:=jA (aE 22) (bD 22)
def AB:AFn:=⟨3,[.tmp 6],mA [xC 6 aC] [bP 8,bN 9 .sub 8,bS 7] c_129_l0 c_129_k1⟩
def c_130_l0:Xv:=fE [xB 22 .lss 21 20] 22 0 1 (mT (bT 23 19 21) (xL 24 23) (bD 24) (xR [aE 25,aT 26,pD 27 26,gS 28 fB [.t 25,.t 27,bY 4],xM 0 28])) 29 .add 21 21 29
def c_130_k1:Xv:=yel (aE 30) 30
def J7:AFn:=⟨2,[.tmp 4],dL [FF 3 1,oI aC] [aE 7,dB 8,xL 9 8,gS 10 fB [.t 7,.t 9,bY 2],xM 0 10] (mA [aE 11,fO 12,xL 13 12,xN 14 13,sI 15 14,xO 16 (.bslice .imm 1 oV [(0,(.t 15))]),eO 17 1 11 16,xM 0 17] [fO 18,xL 19 18,xN 20 19,bF 21] c_130_l0 c_130_k1)⟩
def l7:AFn:=⟨1,gR,iU eZ PJ (sH 0 [kN 4,xL 5 4,aH 6 gK 5,cD 7 6,bR 3] 3 [GC 8 cN (bY 6) 0 (bY 0) 0,kW 8] (lX [cV 10,xL 11 10,xN 12 11,xK 13 .gtr 12 8,eJ 13] 9 [GC 14 cN (bY 12) 0 (bY 1) 0,kW 14] (lX [kL 16,xL 17 16,xN 18 17,xK 19 .gtr 18 4,xM 15 19] 15 [GC 20 cN (bY 12) 0 (bY 3) 0,kW 20] (gZ [cP 22 4,xL 23 22,xN 24 23,xK 25 .gtr 24 16,xM 21 25] 21 [GC 26 cN (bY 12) 0 (bY 4) 0,kW 26] [cP 28 5,xL 29 28,xN 30 29,xK 31 .gtr 30 12,xM 27 31] 27 [GC 32 cN (bY 12) 0 (bY 5) 0,kW 32]))) (FI (xO 33 sB) 33))⟩
def c_132_l0:Xv:=pC [aF 30,aQ 31,xB 32 .lss 30 31,xM 33 32,dZ 34 33 4,eY 35 33 .eql 34 0,xV 36 33 35] 36 2 3 (kV [cV 39,xL 40 39,aF 41,dI 42 40 41,aR 43 42,xL 44 43,cV 45,xL 46 45,aQ 47,dI 48 46 47,aR 49 48,xL 50 49,xB 51 .eql 44 50] (i8 51 [dD 7])) (aF 37) 38 .add 37 (aO 38)
def c_132_k1:Xv:=pI (aY 52) 53 .neq 52 53 [aY 54,aQ 55,pH 56 cN 54 1 55 0,kW 56]
def c_132_k2:Xv:=xR WD
def c_132_l3:Xv:=FE [aQ 6,cV 7,xL 8 7,xN 9 8,xB 10 .lss 6 9] 10 0 (iQ 1 (jH [cV 13,xL 14 13,aQ 15,dI 16 14 15,aX 17 16,aH 18 CO 17,aM 18] [aY 19,aP 20 .eql 19,xM 21 20,jL 22 21 1,cJ 23 21 22,dZ 24 21 3,gN 25 21 (Q0 2 23 24),d9 26 21 0 25,cJ 27 21 26,PV 28 21 .eql 27 (.c (.str [109,101,116,97])),xV 29 21 28] (i8 29 [dD 6]) (kK [d7] 2 c_132_l0 c_132_k1)) c_132_k2)
def c_132_k4:Xv:=FI (xO 57 sB) 57
def J8:AFn:=⟨1,gR,jD F0 eD c_132_l3 c_132_k4⟩
def c_133_l0:Xv:=dP [aQ 12,kX 13,xL 14 13,xN 15 14,xB 16 .lss 12 15] 16 (lZ [kX 19,xL 20 19,aQ 21,aW 22 CP 20 21,aM 22] [aY 23,aP 24 .neq 23] 24 [aY 25,aQ 26,pH 27 cN 25 2 26 0,kW 27]) (aQ 17) 18 .add 17 (cU 18)
def c_133_l1:Xv:=pC [aT 32,aF 33,xN 34 33,xB 35 .lss 32 34] 35 2 3 (jI [aT 38,kX 39,xL 40 39,xN 41 40,xB 42 .geq 38 41,xM 43 42,bH 44 43 2 1,aJ 45 43 44,bK 46 43 6,oE 47 43 2 45 46,eM 48 43 (S4 2 47),bK 49 43 5,bK 50 43 6,oE 51 43 2 49 50,eM 52 43 (S4 2 51),eM 53 43 (.eqs true true [.s,.i] (.t 48) (.t 52)),xW 54 43 53] 54 [aT 55,GC 56 cN (bY 5) 2 (.t 55) 0,kW 56]) (aT 36) 37 .add 36 (bD 37)
def c_133_k2:Xv:=FI (xO 57 sB) 57
def c_133_k3:Xv:=FD [xO 28 VJ,xO 29 VG,xO 30 VL,xO 31 (.bslice .imm 2 (List.replicate 3 yU) [(0,(.t 28)),(1,(.t 29)),(2,(.t 30))]),aO 31] [cT] 2 c_133_l1 c_133_k2
def AC:AFn:=⟨1,gR,k9 F0 [kX 7,xL 8 7,xN 9 8,xK 10 .gtr 9 12] 10 [GC 11 cN (bY 12) 2 (bY 0) 0,kW 11] [eD] 0 c_133_l0 c_133_k3⟩
def c_134_l0:Xv:=pC [aF 19,aQ 20,xB 21 .lss 19 20,xM 22 21,dZ 23 22 4,eY 24 22 .eql 23 0,xV 25 22 24] 25 2 3 (kV [kL 28,xL 29 28,aF 30,fF 31 29 30,aR 32 31,xL 33 32,kL 34,xL 35 34,aQ 36,fF 37 35 36,aR 38 37,xL 39 38,xB 40 .eql 33 39] (i8 40 [dD 7])) (aF 26) 27 .add 26 (aO 27)
def c_134_k1:Xv:=pI (aY 41) 42 .neq 41 42 [aY 43,aQ 44,pH 45 cN 43 3 44 0,kW 45]
def c_134_k2:Xv:=xR WD
def c_134_l3:Xv:=FE [aQ 6,kL 7,xL 8 7,xN 9 8,xB 10 .lss 6 9] 10 0 (iQ 1 (FD [kL 13,xL 14 13,aQ 15,fF 16 14 15,xA 17 3 16,aH 18 CQ 17,aM 18] [d7] 2 c_134_l0 c_134_k1) c_134_k2)
def c_134_k4:Xv:=FI (xO 46 sB) 46
def J9:AFn:=⟨1,gR,jD F0 eD c_134_l3 c_134_k4⟩
def c_135_l0:Xv:=pC WB 28 2 3 (jI [cP 31 4,xL 32 31,aT 33,fF 34 32 33,aR 35 34,xL 36 35,cP 37 4,xL 38 37,aQ 39,fF 40 38 39,aR 41 40,xL 42 41,xB 43 .eql 36 42] 43 [aQ 44,GC 45 cN (bY 7) 4 (.t 44) 0,kW 45]) (aT 29) 30 .add 29 (bD 30)
def c_135_k1:Xv:=xR WE
def c_135_l2:Xv:=FE [aQ 7,cP 8 4,xL 9 8,xN 10 9,xB 11 .lss 7 10] 11 0 (iQ 1 (mC [iV 15,aQ 16,aW 17 CR 15 16,xM 14 17,b9 18 14,bA 19 14,aM 18,aO 19] (aF 20) 21 .neq 20 21 [aF 22,aQ 23,aY 24,PY 25 cN (.t 22) 4 (.t 23) (.t 24),kW 25] (bW [cT] (zX 2 c_135_l0))) c_135_k1)
def c_135_k3:Xv:=FI (xO 46 sB) 46
def JA:AFn:=⟨1,gR,jD F0 eD c_135_l2 c_135_k3⟩
def c_136_l0:Xv:=pC WB 28 2 3 (jI [cP 31 5,xL 32 31,aT 33,xX 34 6 32 33,aR 35 34,xL 36 35,cP 37 5,xL 38 37,aQ 39,xX 40 6 38 39,aR 41 40,xL 42 41,xB 43 .eql 36 42] 43 [aQ 44,GC 45 cN (bY 7) 5 (.t 44) 0,kW 45]) (aT 29) 30 .add 29 (bD 30)
def c_136_k1:Xv:=xR WE
def c_136_l2:Xv:=FE [aQ 7,cP 8 5,xL 9 8,xN 10 9,xB 11 .lss 7 10] 11 0 (iQ 1 (mC [iV 15,aQ 16,aW 17 rA 15 16,xM 14 17,b9 18 14,bA 19 14,aM 18,aO 19] (aF 20) 21 .neq 20 21 [aF 22,aQ 23,aY 24,PY 25 cN (.t 22) 5 (.t 23) (.t 24),kW 25] (bW [cT] (zX 2 c_136_l0))) c_136_k1)
def c_136_k3:Xv:=FI (xO 46 sB) 46
def JB:AFn:=⟨1,gR,jD F0 eD c_136_l2 c_136_k3⟩
def pO:AFn:=⟨1,gR,iU eZ PJ (mC [iV 7,aH 8 CS 7,bC 6,b9 9 6,bA 10 6,xE 11 2 6,bS 3,aM 10,aO 11] (aF 12) 13 .neq 12 13 [aF 14,aQ 15,aY 16,PY 17 cN (.t 14) 6 (.t 15) (.t 16),kW 17] (mC [iV 19,aH 20 CT 19,xM 18 20,b9 21 18,bA 22 18,cU 21,aO 22] (aF 23) 24 .neq 23 24 [aF 25,aQ 26,pH 27 cN 25 7 26 0,kW 27] (mC [iV 29,aH 30 CU 29,xM 28 30,b9 31 28,bA 32 28,cU 31,aO 32] (aF 33) 34 .neq 33 34 [aF 35,aQ 36,pH 37 cN 35 8 36 0,kW 37] (FI (xO 38 sB) 38))))⟩
def c_138_l0:Xv:=dP [aY 6,kL 7,xL 8 7,xN 9 8,xB 10 .lss 6 9] 10 (jH [kL 13,xL 14 13,aY 15,fF 16 14 15,dE 17 16,xL 18 17,aO 18] [aF 19,bN 20 .lss 19,xM 21 20,bK 22 21 5,bV 23 21 .gtr 22 64,xW 24 21 23] (i8 24 [d7]) (xR [aQ 25,aF 26,xO 27 (.mkslice .imm 1 4 F9 (.t 26) (.t 26)),xO 28 (.bslice .imm 1 WF [(0,(.t 27))]),eO 29 24 25 28,cU 29])) (aY 11) 12 .add 11 (aM 12)
def c_138_k1:Xv:=tV 30 30
def JC:AFn:=⟨1,[.tmp 2],iU eZ FC (jD [lY 3 1] bO c_138_l0 c_138_k1)⟩
def c_139_l0:Xv:=dP [xM 32 11,bP 33,xN 34 33,xB 35 .lss 32 34] 35 (.seq (sW [(0,15),(2,15),(5,15),(9,15),(10,15)] [⟨some 39,none,.load true 9 (.t 3)⟩,⟨some 40,none,.faddr 0 (.t 10)⟩,⟨some 41,none,.load false 1 (.t 40)⟩,⟨some 42,none,.mov (.t 11)⟩,⟨some 43,none,.iaddr 4 none (.t 41) (.t 42)⟩,⟨some 44,none,.load true 4 (.t 43)⟩,⟨some 45,none,.mov (.t 2)⟩,⟨some 46,none,.mov (.t 11)⟩,⟨some 47,none,.iaddr 9 none (.t 45) (.t 46)⟩,⟨some 48,none,.load true 9 (.t 47)⟩,⟨some 49,none,.pcall CW [.t 39,.t 44,.t 48]⟩,⟨some 38,none,.mov (.t 49)⟩,⟨some 50,none,.ext 0 (.t 38)⟩,⟨some 51,none,.ext 1 (.t 38)⟩,⟨some 52,none,.ext 2 (.t 38)⟩,⟨some 12,none,.alloc mL⟩,⟨none,none,.store 4 (.t 12) (.t 50)⟩,⟨some 13,none,.mov (.t 51)⟩,⟨some 14,none,.mov (.t 52)⟩] (some [12])) (dA [xM 53 14,aP 54 .neq 53] 54 [xO 55 (.build PM []),xM 56 11,xM 57 14,cA 6 55,cM 56,cR 57] (bW [aR 58 10,xL 59 58,cW 60 12,xO 61 (.bslice .imm 4 (List.replicate 1 mL) [(0,(.t 60))]),mQ 62 4 96 59 61,aR 63 10,cQ 63 62] (xR [aS 64 10,xL 65 64,xM 66 13,xO 67 (.bslice .imm 1 kJ [(0,(.t 66))]),eO 68 8 65 67,aS 69 10,cQ 69 68])))) (xM 36 11) 37 .add 36 (xM 11 37)
def c_139_k1:Xv:=dG [aX 70 10,cA 6 70,jK,wZ]
def uB:AFn:=⟨3,[.cell 6 true 2,.tmp 7,.tmp 8],bW [sJ,FK 4,oD 6 (.Xu 4 []) aC,jK,wZ] (jH [jJ 15,cW 16 4,aW 17 CV 15 16,eJ 17] [bS 18,aP 19 .eql 18,xM 20 19,dZ 21 20 2,p5 22 20 21,eY 23 20 .gtr 22 64,xV 24 20 23] (i8 24 [xI 9 12]) (dA [bS 25,aP 26 .neq 25] 26 [xO 27 (.build PM []),bS 28,cA 6 27,mS 7,cR 28] (jD [cW 29 4,xO 30 (.bslice .imm 4 (List.replicate 1 mL) [(0,(.t 29))]),xO 31 (.build PM [(0,1,(.t 30))]),oD 10 (.Xu 4 []) aC,cA 10 31] (bF 11) c_139_l0 c_139_k1)))⟩
def JD:AFn:=⟨1,[.tmp 2],mB FC [sX,tX 4 .quo 3 (II 16777216),sI 5 4,pF,tX 7 .quo 6 (II 65536),sI 8 7,aE 9,tX 10 .quo 9 (II 256),sI 11 10,aE 12,sI 13 12,xO 14 V8,dM 14]⟩
def c_141_l0:Xv:=dP IB 8 (xR [aQ 11,aE 12,aY 13,bT 14 12 13,xL 15 14,PZ 16 .u64 15,xB 17 .xor 11 16,zZ 18 .mul 17 (FM 16777619),zZ 19 .rem 18 (FM 4294967296),cU 19]) (aY 9) 10 .add 9 (aM 10)
def c_141_k1:Xv:=dG [aQ 20,FN 21 20,dM 21]
def JE:AFn:=⟨1,[.tmp 2],jY [jC gE] [xC 3 (.int .u64 2166136261)] [bO] c_141_l0 c_141_k1⟩
def l8:AFn:=⟨1,[.tmp 2],dY [pG,fH] [cV 4,xL 5 4,aH 6 rB 5,cD 7 6] 7 [fH] (tT [kX 8,xL 9 8,aP 10 .geq 9,xM 11 10,d9 12 11 2 1,cJ 13 11 12,eY 14 11 .leq 13 2147483647,xV 15 11 14,cU 15] [kN 16,xL 17 16] 0 (lX [bN 19 .eql 17,xM 18 19] 18 [kL 20,aS 21 20,xL 22 21,aH 23 rB 22,xM 24 23,d9 25 24 3 1,d9 26 24 0 25,cJ 27 24 26,p5 28 24 27,eY 29 24 .leq 28 255,xV 30 24 29,xM 31 30,d9 32 31 3 1,d9 33 31 2 32,zF 34 31 2 33,jX 35 31 rC [.t 34],xV 36 31 35,dM 36] (lX [xK 38 .eql 17 2,xM 37 38] 37 [aQ 39,xM 40 39,d9 41 40 7 1,zF 42 40 2 41,jX 43 40 rC [.t 42],xV 44 40 43,dM 44] (gZ [xK 46 .eql 17 3,xM 45 46] 45 [aQ 47,dM 47] [xK 49 .eql 17 4,xM 48 49] 48 [cP 50 7,aX 51 50,aH 52 rC 51,dM 52]))) (eN fH))⟩
def c_143_l0:Xv:=dP [aY 30,kL 31,aR 32 31,xL 33 32,xN 34 33,xB 35 .lss 30 34] 35 (bW [aQ 38,kL 39,aR 40 39,xL 41 40,aY 42,dI 43 41 42,aR 44 43,xL 45 44,pD 46 45,gT 47 cG 46 4,eO 48 1 38 47,cU 48] (xR [aQ 49,kL 50,aR 51 50,xL 52 51,aY 53,dI 54 52 53,aS 55 54,xL 56 55,pD 57 56,gT 58 cG 57 4,eO 59 1 49 58,cU 59])) (aY 36) 37 .add 36 (aM 37)
def c_143_k1:Xv:=dG [aQ 60,kL 61,dE 62 61,aX 63 62,aH 64 rD 63,eO 65 1 60 64,dM 65]
def c_143_k2:Xv:=eH [kN 66,xL 67 66,xK 68 .neq 67 4] (i8 68 [aQ 69,kX 70,xL 71 70,gT 72 cG 71 4,eO 73 1 69 72,cU 73]) (eH [kN 74,xL 75 74,xK 76 .neq 75 3] (i8 76 [aQ 77,cP 78 7,aX 79 78,aH 80 rD 79,eO 81 1 77 80,cU 81]) (tV 82 82))
def pP:AFn:=⟨1,[.tmp 2],mE [pG,jC aC] [kN 5,xL 6 5,sI 7 6,xO 8 (.bslice .imm 1 oV [(0,(.t 7))]),cV 9,xL 10 9,gT 11 cG 10 2,eO 12 1 8 11,cU 12] (eH [kN 13,xL 14 13,bN 15 .eql 14] (iS 15 (jY [aQ 16,kL 17,aS 18 17,xL 19 18,gT 20 cG 19 2,eO 21 1 16 20,cU 21] [aQ 22,kL 23,aR 24 23,xL 25 24,xN 26 25,sI 27 26,xO 28 (.bslice .imm 1 oV [(0,(.t 27))]),eO 29 1 22 28,cU 29] [bO] c_143_l0 c_143_k1)) c_143_k2)⟩
def JF:AFn:=⟨1,[.tmp 2],mE [eE] [sX,wY 4 1 3 0,xL 5 4,pD 6 5,xO 7 (zD .mul (bY 16777216) 6),FJ,wY 9 1 8 1,xL 10 9,pD 11 10,xO 12 (zD .mul (bY 65536) 11),xB 13 .add 7 12,aE 14,wY 15 1 14 2,xL 16 15,pD 17 16,xO 18 (zD .mul (bY 256) 17),xB 19 .add 13 18,aE 20,wY 21 1 20 3,xL 22 21,pD 23 22,xB 24 .add 19 23,dM 24] .ret⟩
def c_145_l0:Xv:=dP [bR 23,aD 24,xB 25 .lss 23 24] 25 (xR [aT 28,xO 29 (zD .mul (bY 256) 28),oJ 30,xL 31 30,bR 32,bT 33 31 32,xL 34 33,pD 35 34,xB 36 .add 29 35,bD 36]) (bR 26) 27 .add 26 (cM 27)
def c_145_k1:Xv:=iT [oJ 37,xL 38 37,aD 39,xO 40 (.slc 1 (.t 38) (some (.t 39)) none none),oJ 41,cQ 41 40] [aX 42 2,aT 43,cA 4 42,aO 43]
def gH:AFn:=⟨2,[.cell 4 true 2,.tmp 5],jH [S3 2,mF 4 aC,d7] [oH 8,xL 9 8,aP 10 .eql 9,xM 11 10,d9 12 11 0 2,cJ 13 11 12,p5 14 11 13,dZ 15 11 1,oG 16 11 .lss 14 15,xV 17 11 16] (i8 17 [oH 18,⟨none,none,.store 1 (.t 18) (.c (.int .i64 3))⟩]) (dA [oH 19,xL 20 19,aP 21 .neq 20] 21 [aX 22 2,cA 4 22,d7] (jD [cT] jK c_145_l0 c_145_k1))⟩
def gI:AFn:=⟨1,[.cell 2 true 2,.cell 3 true 9],dL [pG,mF 2 aC,cK 3 tL] [cK 4 tL] (jH [aX 6 1,gT 7 dT 6 1,aO 7,b9 8 5,bA 9 5,cA 1 8,aR 10 4,cQ 10 9] [cV 11,xL 12 11,aP 13 .eql 12,xM 14 13,d9 15 14 0 4,cJ 16 14 15,eY 17 14 .lss 16 1,dZ 18 14 17,bH 19 18 0 4,aJ 20 18 19,bV 21 18 .gtr 20 4,gN 22 14 (.pick (.t 18) tO (.t 21)),xV 23 14 22] (i8 23 [cV 24,⟨none,none,.store 1 (.t 24) PN⟩]) (jH [aX 26 1,gT 27 dT 26 2,xM 25 27,b9 28 25,bA 29 25,cA 1 28,aS 30 4,cQ 30 29] [cV 31,xL 32 31,aP 33 .neq 32] (iS 33 (.seq (sW [(1,2)] [⟨some 34,none,.load true 2 (.t 1)⟩,⟨some 35,none,.load true 9 (.t 4)⟩,⟨none,none,.store 2 (.t 2) (.t 34)⟩,⟨none,none,.store 9 (.t 3) (.t 35)⟩] none) .ret)) (eH [aR 36 4,xL 37 36,bN 38 .eql 37] (iS 38 (lV [aX 40 1,aH 41 CX 40,xM 39 41,b9 42 39,bA 43 39,cA 1 42,eP 44 4,eA 44 43] (sW [(1,2)] [⟨some 45,none,.load true 2 (.t 1)⟩,⟨some 46,none,.load true 9 (.t 4)⟩,⟨none,none,.store 2 (.t 2) (.t 45)⟩,⟨none,none,.store 9 (.t 3) (.t 46)⟩] none) .ret)) (eH [aR 47 4,xL 48 47,xK 49 .neq 48 4] (i8 49 [aX 51 1,aH 52 CY 51,xM 50 52,b9 53 50,bA 54 50,cA 1 53,dE 55 4,cQ 55 54]) (eH [aR 56 4,xL 57 56,xK 58 .neq 57 3,xM 59 58,jL 60 59 1,cJ 61 59 60,eY 62 59 .eql 61 0,xV 63 59 62] (i8 63 [aX 65 1,aH 66 vL 65,xM 64 66,b9 67 64,bA 68 64,cA 1 67,xF 69 7 4,cA 69 68]) (.seq (sW [(1,2)] [⟨some 70,none,.load true 2 (.t 1)⟩,⟨some 71,none,.load true 9 (.t 4)⟩,⟨none,none,.store 2 (.t 2) (.t 70)⟩,⟨none,none,.store 9 (.t 3) (.t 71)⟩] none) .ret))))))⟩
def c_147_l0:Xv:=fE yX 18 0 1 (bW [xM 19 17,xX 20 5 15 17,xA 21 5 20,cK 8 tN,cM 19,xS 5 8 21] (lZ [aD 22,bR 23,xX 24 5 22 23,xA 25 5 24,cK 9 tN,xS 5 9 25] [bP 26,xA 27 5 8,xA 28 5 9,wX 29 26 [.t 27,.t 28],cD 30 29] 30 [p8])) 31 .add 17 17 31
def c_147_k1:Xv:=tS 6
def AD:AFn:=⟨3,[.tmp 6],k9 [p8] I9 14 [p8] ID 0 c_147_l0 c_147_k1⟩
def AE:AFn:=⟨2,[.tmp 4],iT yW [oJ 5,xL 6 5,dB 7,xL 8 7,xB 9 .eql 6 8,bS 10,jL 11 10 2,zF 12 10 4 11,jL 13 10 3,zF 14 10 4 13,jX 15 10 O8 [.t 12,.t 14],xV 16 10 15,aM 16]⟩
def JG:AFn:=⟨1,[.tmp 2],iT [eZ,fH] [kX 3,xL 4 3,bN 5 .geq 4,aF 6,d9 7 6 2 1,cJ 8 6 7,eY 9 6 .leq 8 64,xV 10 6 9,dM 10]⟩
def c_151_l0:Xv:=dP [aF 20,oJ 21,xL 22 21,xN 23 22,xB 24 .lss 20 23] 24 (jI [oJ 27,xL 28 27,aF 29,dI 30 28 29,aX 31 30,dB 32,xL 33 32,aF 34,dI 35 33 34,aX 36 35,xO 37 (.eqs true true [.i,.i] (.t 31) (.t 36))] 37 [fG]) (aF 25) 26 .add 25 (aO 26)
def c_151_k1:Xv:=tS 4
def uC:AFn:=⟨2,[.tmp 4],k9 yW [oJ 6,xL 7 6,xN 8 7,dB 9,xL 10 9,xN 11 10,xB 12 .neq 8 11,xM 13 12,dC 14 13 2,aJ 15 13 14,dC 16 13 3,aJ 17 13 16,dU 18 13 .neq 15 17,xW 19 13 18] 19 [fG] [d7] 0 c_151_l0 c_151_k1⟩
def c_152_l0:Xv:=gC [xB 29 .lss 28 27] 29 0 1 [xX 30 5 26 28,xA 31 5 30,cK 13 tN,xS 5 13 31] [13] (dA [aR 32 13,xL 33 32,xM 34 11,xB 35 .leq 33 34] 35 [xI 10 14] (xR [aR 36 13,xL 37 36,xM 11 37])) 38 .add 28 28 38
def c_152_l1:Xv:=gC [xB 53 .lss 52 51] 53 2 3 [xM 54 52,xX 55 5 50 52,xA 56 5 55,cK 15 tN,xM 14 54,xS 5 15 56] [15] (eH [jW 57 5,aD 58,aS 59 15,cW 60 59,gD 61 vB 57 58 60,xM 16 61] (pI (xM 62 16) 63 .neq 62 63 [xM 64 16,xM 10 64]) (lW [bP 65,xM 66 14,xO 67 (.slc 5 (.t 65) none (some (.t 66)) none),xO 68 (.mkfunc (.func lG) [] [.t 15]),aW 69 nL 67 68] 69 [xI 10 7])) 70 .add 52 52 70
def c_152_k2:Xv:=dG [jW 71 5,aD 72,aX 73 9,gD 74 qO 71 72 73,xM 10 74]
def c_152_k3:Xv:=dA [aQ 39,xM 40 11,xB 41 .leq 39 40,xM 42 41,bK 43 42 3,bV 44 42 .lss 43 1,xW 45 42 44,xM 46 45,bK 47 46 3,bV 48 46 .gtr 47 1073741824,xW 49 46 48] 49 [xI 10 14] (kK [bP 50,xN 51 50,bF 52] 2 c_152_l1 c_152_k2)
def AF:AFn:=⟨5,[.tmp 10],dY [FG 5,xJ 9 4,bF 10] [bP 17,xN 18 17,xF 19 5 5,xL 20 19,aD 21,xX 22 6 20 21,xF 23 5 22,xL 24 23,xB 25 .gtr 18 24] 25 [xI 10 12] (mA [bF 11] [bP 26,xN 27 26,bF 28] c_152_l0 c_152_k3)⟩
def c_153_l0:Xv:=fE yX 18 0 1 (lZ [xM 19 17,bT 20 15 17,xL 21 20,aO 19,bD 21] [aT 22,xN 23 22,eP 24 2,xL 25 24,aF 26,fF 27 25 26,dE 28 27,xL 29 28,xB 30 .neq 23 29] 30 [dD 2]) 31 .add 17 17 31
def c_153_l1:Xv:=fE [xB 35 .lss 34 33] 35 2 3 (mE [xM 36 34,bT 37 32 34,xL 38 37,cM 36,cR 38] [bC 39,xN 40 39,aP 41 .gtr 40,xM 42 41,dZ 43 42 8,jX 44 42 CZ [.t 43],d9 45 42 3 2,cJ 46 42 45,dZ 47 42 7,gN 48 42 (Q0 3 46 47),jL 49 42 48,cJ 50 42 49,jX 51 42 gL [.t 50],oG 52 42 .gtr 44 51,xV 53 42 52] (MF 53 [dD 9])) 54 .add 34 34 54
def c_153_k2:Xv:=eN bO
def c_153_k3:Xv:=kK [aD 32,xN 33 32,bF 34] 2 c_153_l1 c_153_k2
def AG:AFn:=⟨2,[.tmp 4],k9 [jZ,bO] [aD 9,xN 10 9,eP 11 2,xL 12 11,xN 13 12,xB 14 .neq 10 13] 14 [dD 2] [aD 15,xN 16 15,bF 17] 0 c_153_l0 c_153_k3⟩
def c_154_l0:Xv:=gC [xB 23 .lss 22 21] 23 0 1 [xM 24 22,xX 25 5 20 22,xA 26 5 25,cK 5 tN,aM 24,xS 5 5 26] [5] (xD [aE 27,eI 28 27,xF 29 13 28,xL 30 29,aD 31,bT 32 30 31,xL 33 32,mV 34,xL 35 34,aY 36,⟨none,none,.update .i (.t 33) (.t 35) (.t 36)⟩]) 37 .add 22 22 37
def JH:AFn:=⟨2,[],dL [pF,eI 7 6,xF 8 13 7,xL 9 8,aD 10,xO 11 .mkmap,bT 12 9 10,cQ 12 11] [aE 13,eI 14 13,aR 15 14,aR 16 15,xL 17 16,aD 18,bT 19 17 18,xL 20 19,xN 21 20,bF 22] (zX 0 c_154_l0)⟩
def uD:AFn:=⟨3,[.tmp 6,.tmp 7],iU cT jK (iQ 0 V2 (pE [aE 26,eI 27 26,xF 28 13 27,xL 29 28,aD 30,bT 31 29 30,xL 32 31,bP 33,xO 34 (.lookup .i lU true (.t 32) (.t 33)),xM 25 34,b9 35 25,bA 36 25,cR 35,eJ 36] [bS 37,cD 38 37] 38 [cT,xI 7 8] [bC 39,bD 39,jK]))⟩
def AJ:AFn:=⟨3,[.tmp 6],pE IG [jJ 7,aD 8,mV 9,xL 10 9,gD 11 vN 7 8 10,cD 12 11] 12 [f9 8] [jJ 13,aX 14 5,aW 15 rE 13 14,bD 15]⟩
def JI:AFn:=⟨1,[.cell 2 true 5],mE [eZ,cK 2 tN] [kN 3,xL 4 3,cV 5,cW 6 5,aH 7 vC 6,xO 8 (.build tK [(0,1,(.t 4)),(1,4,(.t 7))]),xS 5 2 8] .ret⟩
def AK:AFn:=⟨2,[.tmp 4],mB fG [aD 5,aP 6 .geq 5,aT 7,dZ 8 7 1,p7 9 7,gN 10 7 (GB 9),d9 11 7 0 10,d9 12 7 0 11,cJ 13 7 12,p5 14 7 13,oG 15 7 .lss 8 14,xV 16 7 15,aM 16]⟩
def c_159_l0:Xv:=gC [xB 42 .lss 41 40] 42 0 1 [xM 43 41,dI 44 39 41,aX 45 44,oD 12 gE gE,xM 11 43,cA 12 45] [12] (kV [aX 46 12,bS 47,xM 48 11,fF 49 47 48,dE 50 49,xL 51 50,xM 52 10,xM 53 11,bT 54 52 53,xL 55 54,gD 56 D0 46 51 55,xM 13 56] (pI (xM 57 13) 58 .neq 57 58 [xM 59 13,bD 59])) 60 .add 41 41 60
def c_159_k1:Xv:=sH 2 [aS 62 5,xL 63 62,aP 64 .lss 63,xM 65 64,dC 66 65 5,aJ 67 65 66,bV 68 65 .gtr 67 255,xW 69 65 68,xM 61 69] 61 [f9 9] (gZ [aS 71 5,xL 72 71,aP 73 .neq 72,xM 74 73,zF 75 74 9 3,dZ 76 74 1,jX 77 74 D1 [.t 75,.t 76],eY 78 74 .neq 77 3,xV 79 74 78,xM 70 79] 70 [f9 11] [jJ 81,aD 82,dE 83 5,aR 84 83,xL 85 84,gD 86 vN 81 82 85,cD 87 86,xM 80 87] 80 [f9 8]) (dG [jJ 88,dE 89 5,aX 90 89,aW 91 rE 88 90,bD 91])
def uE:AFn:=⟨3,[.tmp 6],jH IG [jJ 15,aD 16,aW 17 qX 15 16,xM 14 17,b9 18 14,bA 19 14,cM 18,cR 19] (pI (bC 20) 21 .neq 20 21 [bC 22,bD 22]) (kV [xF 23 5 3,xL 24 23,aD 25,xX 26 6 24 25,aS 27 26,xL 28 27,jJ 29,aD 30,aW 31 vO 29 30,eJ 28,xM 10 31] (dA [mV 32,xL 33 32,xN 34 33,bS 35,xN 36 35,xB 37 .neq 34 36] 37 [f9 2] (kK [mV 38,xL 39 38,xN 40 39,bF 41] 0 c_159_l0 c_159_k1)))⟩
def AL:AFn:=⟨2,[.tmp 4],mB fG [aE 5,aD 6,aW 7 vP 5 6,aP 8 .geq 7,aM 8]⟩
def JJ:AFn:=⟨2,[.tmp 3],iT [S3 2,sG 3] [oH 4,cW 5 4,cW 6 1,aW 7 nM 5 6,bR 3]⟩
def c_162_l0:Xv:=fE PP 25 0 1 (mE [xM 26 24,dI 27 22 24,aX 28 27,oD 6 gE gE,aO 26,cA 6 28] [aX 29 6,dB 30,xL 31 30,aF 32,dI 33 31 32,aX 34 33,xO 35 (.eqs true true [.i,.i] (.t 29) (.t 34))] (MF 35 [fG])) 36 .add 24 24 36
def c_162_k1:Xv:=tS 4
def uF:AFn:=⟨2,[.tmp 4],k9 yW [oH 7,xL 8 7,fO 9,xL 10 9,xB 11 .neq 8 10,xM 12 11,bH 13 12 0 2,aJ 14 12 13,cL 15 12 14,bH 16 12 0 3,aJ 17 12 16,cL 18 12 17,dU 19 12 .neq 15 18,xW 20 12 19] 20 [fG] [oJ 21,xL 22 21,xN 23 22,bF 24] 0 c_162_l0 c_162_k1⟩
def JK:AFn:=⟨1,gR,mE [eZ,jB 2 cO bM bM aC] [kN 3,xL 4 3,aH 5 D2 4,cV 6,xL 7 6,kX 8,aX 9 8,aH 10 tA 9,xO 11 (.build [.Xu 2 [],.int .i64 0,.int .i64 0,.Xu 1 []] [(0,1,(.t 5)),(1,1,(.t 7)),(2,2,(.t 10))]),kW 11] .ret⟩
def AM:AFn:=⟨3,[.tmp 6],bW [xC 6 zA] (dY [FJ,aD 9,bP 10,aE 11,xN 12 11,xO 13 (.slcH 5 (.t 8) (some (.t 9)) (some (.t 10)) (some (.t 12)))] [aD 14,bP 15,xB 16 .eql 14 15] 16 [aE 17,bD 17] (mE [aE 18,xN 19 18,cM 19] [aE 20,aD 21,xO 22 (.slc 5 (.t 20) none (some (.t 21)) none),aE 23,bP 24,xO 25 (.slc 5 (.t 23) (some (.t 24)) none none),mQ 26 5 72 22 25,xM 0 26] (iT [aE 27,aE 28,xN 29 28,bR 30,xO 31 (.slcH 5 (.t 27) (some (.t 29)) (some (.t 30)) none),⟨none,none,.clear tK (.t 31)⟩] [aE 32,bD 32])))⟩
def c_165_l0:Xv:=fE [xB 15 .lss 14 13] 15 0 1 (lZ [xM 16 14,bT 17 12 14,xL 18 17,aO 16,bD 18] [aT 19,aD 20,aF 21,bT 22 20 21,xL 23 22,xB 24 .neq 19 23] 24 [fG]) 25 .add 14 14 25
def c_165_k1:Xv:=tS 4
def AN:AFn:=⟨2,[.tmp 4],k9 [fG] [aE 7,xN 8 7,aD 9,xN 10 9,xB 11 .neq 8 10] 11 [fG] [aE 12,xN 13 12,bF 14] 0 c_165_l0 c_165_k1⟩
def AP:AFn:=⟨4,[],iU FJ (aP 9 .neq 8) (i8 9 [aE 10,aD 11,bP 12,aQ 13,xO 14 (.build tI [(0,1,(.t 10)),(1,1,(.t 11)),(2,1,(.t 12)),(3,1,(.t 13))]),xO 15 (.build tI [(0,4,(.t 14))]),xO 16 (.mkiface 172 (.t 15)),⟨none,none,.panic (.t 16)⟩])⟩
def JL:AFn:=⟨2,[.tmp 4],dY [bO] [aE 5] 5 [aD 6,aM 6] (eN bO)⟩
def JM:AFn:=⟨1,[.tmp 2],mB fH [sX,aH 4 gM 3,cD 5 4,aF 2]⟩
def c_169_l0:Xv:=gC lS 11 0 1 VQ [7] VD 20 .add 10 10 20
def c_169_k1:Xv:=oZ 21 21
def JN:AFn:=⟨2,[.tmp 4],jY oW [lY 5 1] lR c_169_l0 c_169_k1⟩
def JO:AFn:=⟨1,[.tmp 2],iT F3 F2⟩
def c_171_l0:Xv:=fE [xB 48 .lss 47 46] 48 3 4 (bW [dI 49 45 47,aX 50 49,mF 6 (.str []),cA 6 50] (lZ [aS 51 4,xL 52 51,aS 53 6,cQ 53 52] [aX 54 6,aX 55 4,xO 56 (.eqs false true [.s,.i] (.t 54) (.t 55))] 56 [fY 7])) 57 .add 47 47 57
def c_171_k1:Xv:=xR [bN 58 .add 25,xM 25 58]
def c_171_l2:Xv:=Zb [xB 26 .lss 25 24] 26 1 (iQ 2 (tQ [xM 27 25,dI 28 23 25,aX 29 28,mF 4 (.str []),cU 27,cA 4 29] [4] (dA [aR 30 4,xL 31 30,aH 32 gM 31,cD 33 32] 33 [fY 6] (dA [aS 34 4,xL 35 34,bN 36 .lss 35,xM 37 36,dC 38 37 4,aJ 39 37 38,bV 40 37 .gtr 39 32,xW 41 37 40] 41 [fY 10] (bW [cV 42,xL 43 42,aQ 44,xO 45 (.slc 2 (.t 43) none (some (.t 44)) none),xN 46 45,bF 47] (zX 3 c_171_l0))))) c_171_k1)
def c_171_k3:Xv:=dA [aX 59 1,aH 60 vS 59,aH 61 vQ 60,xK 62 .rem 61 8,aP 63 .neq 62] 63 [fY 10] (eN eE)
def pQ:AFn:=⟨1,[.tmp 2],iU eZ eE (sH 0 [kN 8,xL 9 8,aH 10 gM 9,cD 11 10,cM 11] 7 [fY 6] (gZ [cV 13,xL 14 13,xN 15 14,aP 16 .eql 15,xM 12 16] 12 [fY 8] [cV 18,xL 19 18,xN 20 19,xK 21 .gtr 20 12,xM 17 21] 17 [fY 12]) (kK [cV 22,xL 23 22,xN 24 23,bF 25] 1 c_171_l2 c_171_k3))⟩
def JP:AFn:=⟨2,[.tmp 4],mE [fG] [aE 5,aD 6,xO 7 (.slc 1 (.t 5) none (some (.t 6)) none),FJ,aD 9,bT 10 8 9,xL 11 10,aW 12 vT 7 11,aM 12] .ret⟩
def c_173_l0:Xv:=gC lS 11 0 1 [dI 12 8 10,aX 13 12,mF 7 (.str []),cA 7 13] [7] VD 20 .add 10 10 20
def c_173_k1:Xv:=oZ 21 21
def JQ:AFn:=⟨2,[.tmp 4],jY oW [lY 5 1] lR c_173_l0 c_173_k1⟩
def JR:AFn:=⟨1,[.tmp 2],iT F3 F2⟩
def JS:AFn:=⟨1,[.tmp 2],mB fH [sX,bN 4 .lss 3,aO 4,mW 6 5,bV 7 5 .gtr 6 32,xW 8 5 7,bC 2]⟩
def c_176_l0:Xv:=gC lS 11 0 1 [fF 12 8 10,xA 13 3 12,cK 7 PQ,xS 3 7 13] [7] VC 20 .add 10 10 20
def c_176_k1:Xv:=oZ 21 21
def JT:AFn:=⟨2,[.tmp 4],jY oW [lY 5 1] lR c_176_l0 c_176_k1⟩
def JU:AFn:=⟨1,[.tmp 2],iT F3 F2⟩
def mY:AFn:=⟨1,[.tmp 2],iU eZ eE (sH 0 [kN 4,xL 5 4,aH 6 gM 5,cD 7 6,bR 3] 3 [fY 6] (gZ [cV 9,xL 10 9,aH 11 gL 10,tX 12 .eql 11 gE,cR 12] 8 [fY 10] [xA 14 3 1,aH 15 v9 14,cD 16 15,xM 13 16] 13 [fY 9]) (eN eE))⟩
def c_179_l0:Xv:=gC lS 11 0 1 VU [7] VC 20 .add 10 10 20
def c_179_k1:Xv:=oZ 21 21
def JV:AFn:=⟨2,[.tmp 4],jY oW [lY 5 1] lR c_179_l0 c_179_k1⟩
def JW:AFn:=⟨1,[.tmp 2],iT F3 F2⟩
def c_181_l0:Xv:=gC [xB 38 .lss 37 36] 38 0 1 [xM 39 37,xX 40 7 35 37,xA 41 7 40,cK 9 PF,cR 39,xS 7 9 41] [9] (lZ [xA 42 10 7,xA 43 7 9,aW 44 D4 42 43,aO 44] [aF 45,aP 46 .neq 45] 46 [bC 47,aF 48,aM 47,aO 48]) 49 .add 37 37 49
def c_181_k1:Xv:=A3 d7
def pR:AFn:=⟨2,dX,dY sE [aD 10,aP 11 .lss 10,xM 12 11,bK 13 12 1,bH 14 12 4 2,aJ 15 12 14,cL 16 12 15,dU 17 12 .geq 13 16,xW 18 12 17] 18 sF (tQ [xF 19 4 2,xL 20 19,aD 21,fF 22 20 21,xA 23 3 22,cK 6 EZ,xS 3 6 23] [6] (eH [xA 24 3 6,aH 25 D3 24,aO 25] (pI (aF 26) 27 .neq 26 27 [aF 28,oY,aO 28]) (tQ [eX 29,aS 30 6,xL 31 30,xO 32 (.build tJ [(0,9,(.t 29)),(9,1,(.t 31))]),xO 33 (.build tJ [(0,10,(.t 32))]),cK 7 tJ,xS 10 7 33] [7] (kK [dE 34 6,xL 35 34,xN 36 35,bF 37] 0 c_181_l0 c_181_k1))))⟩
def c_182_l0:Xv:=gC lS 11 0 1 VT [7] (xR [aF 14,aD 15,xA 16 6 7,wX 17 15 [.t 16],xO 18 PD,eO 19 16 14 18,aO 19]) 20 .add 10 10 20
def c_182_k1:Xv:=oZ 21 21
def JX:AFn:=⟨2,[.tmp 4],jY oW [lY 5 1] lR c_182_l0 c_182_k1⟩
def JY:AFn:=⟨1,[.tmp 2],iT F3 F2⟩
def fP:AFn:=⟨2,dX,dY sE [aD 7,aP 8 .lss 7,bC 9,bK 10 9 1,bH 11 9 5 2,aJ 12 9 11,cL 13 9 12,dU 14 9 .geq 10 13,xW 15 9 14] 15 sF (tQ [xF 16 5 2,xL 17 16,aD 18,xX 19 6 17 18,xA 20 6 19,cK 6 EX,xS 6 6 20] [6] (sH 0 [aR 22 6,xL 23 22,aH 24 gM 23,cD 25 24,xM 21 25] 21 IH (gZ [aS 27 6,xL 28 27,xN 29 28,xK 30 .gtr 29 6,xM 31 30,bH 32 31 2 6,aJ 33 31 32,cL 34 31 33,bV 35 31 .gtr 34 16,xW 36 31 35,xM 26 36] 26 FA [xF 38 5 6,xL 39 38,bN 40 .lss 39,xM 41 40,bH 42 41 5 6,aJ 43 41 42,bV 44 41 .gtr 43 256,xW 45 41 44,xM 37 45] 37 [oY,gO 9]) (eH [eX 47,xA 48 6 6,aW 49 D5 47 48,xM 46 49,b9 50 46,bA 51 46,aM 50,aO 51] (pI (aF 52) 53 .neq 52 53 [aY 54,aF 55,aM 54,aO 55]) (eH [eX 56,xA 57 6 6,aW 58 D6 56 57,aO 58] (pI (aF 59) 60 .neq 59 60 [aF 61,dD (-3),aO 61]) (A3 d7)))))⟩
def c_185_l0:Xv:=gC PP 25 1 2 [xM 26 24,xX 27 7 22 24,xA 28 7 27,cK 7 yT,bD 26,xS 7 7 28] [7] (iQ 3 (gZ [aR 30 7,xL 31 30,aH 32 gM 31,cD 33 32,xM 29 33] 29 [aT 34,dM 34,mS 3,dD 6] [aF 36,aR 37 7,xL 38 37,xO 39 (.lookup .s F8 false (.t 36) (.t 38)),xM 35 39] 35 [aT 40,dM 40,mS 3,dD 7]) (bW [aF 41,aR 42 7,xL 43 42,⟨none,none,.update .s (.t 41) (.t 43) tO⟩] (lZ [iV 45,aT 46,aW 47 D7 45 46,xM 44 47,b9 48 44,bA 49 44,cR 48,eJ 49] [bS 50,aP 51 .neq 50] 51 [aT 52,bC 53,bS 54,dM 52,cU 53,aM 54]))) 55 .add 24 24 55
def c_185_k1:Xv:=dG [eE,eD,bO]
def uG:AFn:=⟨1,IE,bW [eZ,eE,eD,bO] (iQ 0 (gZ [cP 11 6,xL 12 11,xN 13 12,aP 14 .eql 13,xM 10 14] 10 [mS 2,mS 3,dD 8] [cP 16 6,xL 17 16,xN 18 17,xK 19 .gtr 18 12,xM 15 19] 15 [mS 2,mS 3,dD 12]) (FD [xO 20 .mkmap,aO 20] [cP 21 6,xL 22 21,xN 23 22,bF 24] 1 c_185_l0 c_185_k1))⟩
def l9:AFn:=⟨1,[.tmp 2,.cell 3 false 1],dY [eZ,eE,cK 3 [bM]] [cP 6 7,xL 7 6,aH 8 D8 7,xK 9 .gtr 8 24] 9 [mS 2,⟨none,none,.store 1 (.t 3) (.c (.int .i64 12))⟩] (dA [cP 10 7,xL 11 10,aH 12 rF 11,xK 13 .gtr 12 6] 13 [mS 2,⟨none,none,.store 1 (.t 3) (.c (.int .i64 14))⟩] (dL [cK 4 [bM],⟨none,none,.store 1 (.t 4) (.c lU)⟩] [cK 5 [.Xu 1 []]] (jH [cP 14 7,xL 15 14,xO 16 (.mkfunc (.func vU) [] [.t 1,.t 5,.t 3,.t 4]),oF 17 iG 15 16] [xL 18 3,aP 19 .neq 18] (iS 19 (GD [xL 20 4,xL 21 3,dM 20,cQ 3 21])) (jA eE ⟨none,none,.store 1 (.t 3) (.c lU)⟩))))⟩
def c_187_l0:Xv:=fE yY 14 0 1 (bW [xM 15 13,bT 16 11 13,xL 17 16,aM 15,aO 17] (.block 2 (gZ [aF 19,aP 20 .lss 19,xM 21 20,bK 22 21 5,dC 23 21 1,aJ 24 21 23,cL 25 21 24,dU 26 21 .geq 22 25,xW 27 21 26,xM 18 27] 18 [aY 28,dM 28,xI 3 8] [cP 30 8,xL 31 30,aY 32,xO 33 (.slc 1 (.t 31) none (some (.t 32)) none),aF 34,aW 35 DB 33 34,xM 29 35] 29 [aY 36,dM 36,xI 3 7]))) 37 .add 13 13 37
def c_187_k1:Xv:=jA eE eD
def AR:AFn:=⟨1,sC,k9 [eZ,eE,eD] W4 9 [mS 2,xI 3 12] [cP 10 8,xL 11 10,xN 12 11,bF 13] 0 c_187_l0 c_187_k1⟩
def c_188_l0:Xv:=gC lS 11 0 1 [xX 12 7 8 10,xA 13 7 12,cK 7 PF,xS 7 7 13] [7] (xR [aF 14,aD 15,xA 16 7 7,wX 17 15 [.t 16],xO 18 (.bslice .imm 7 (List.replicate 1 [.int .i64 0,.int .i64 0,.int .i64 0,.int .i64 0,.int .i64 0,.Xu 3 [],.Xu 3 []]) [(0,(.t 17))]),mQ 19 7 88 14 18,aO 19]) 20 .add 10 10 20
def c_188_k1:Xv:=oZ 21 21
def JZ:AFn:=⟨2,[.tmp 4],jY [oI (.Xu 7 [])] [lY 5 7] lR c_188_l0 c_188_k1⟩
def K0:AFn:=⟨1,[.cell 2 true 7],mE [pG,cK 2 PF] [cP 3 5,xL 4 3,aH 5 qY 4,cP 6 6,xL 7 6,aH 8 qY 7,cP 9 5,cQ 9 5,cP 10 6,cQ 10 8] WG⟩
def c_193_l0:Xv:=Zc [aY 11,tX 12 .gtr 11 gE,xM 13 12,p7 14 13,gN 15 13 (GB 14),jL 16 13 15,cJ 17 13 16,eY 18 13 .eql 17 0,xV 19 13 18] 19 0 1 (sW [(1,3)] [⟨some 22,none,.faddr 1 (.t 3)⟩,⟨some 23,none,.load false 1 (.t 22)⟩,⟨some 24,none,.mov (.t 0)⟩,⟨some 25,none,.tcall dJ [.t 24,.c tP]⟩,⟨some 26,none,.bslice .imm 1 (List.replicate 1 F9) [(0,(.t 25))]⟩,⟨some 27,none,.append .app 1 4 (.t 23) (.t 26)⟩,⟨some 28,none,.faddr 1 (.t 3)⟩,⟨none,none,.store 1 (.t 28) (.t 27)⟩] none) (aY 20) (tX 21 .sub 20 (II 1)) (aM 21)
def c_193_k1:Xv:=jA (aX 29 3) (cA 2 29)
def K1:AFn:=⟨1,PT,jY [oD 2 bM aC] [aE 5,FH 6 dJ 5 (bY 2),pD 7 6,xO 8 (.build yV [(0,1,(.t 7))]),oD 3 bM aC,cA 3 8] [aE 9,FH 10 dJ 9 (bY 1),aM 10] c_193_l0 c_193_k1⟩
def K2:AFn:=⟨1,[.tmp 2],bW [eE] (dL [aE 4,FH 5 dJ 4 (bY 4),aF 3] [pF,aQ 7,tX 8 .leq 7 (II 2147483647),gS 9 iF [.t 6,.t 8,bY 5]] (dG [aQ 10,pD 11 10,dM 11]))⟩
def K3:AFn:=⟨2,[],xR [aE 4,aE 5,eI 6 5,aR 7 6,xL 8 7,aD 9,FN 10 9,xB 11 .xor 8 10,tX 12 .mul 11 (II 16777619),eI 13 4,aR 14 13,cQ 14 12]⟩
def c_196_l0:Xv:=dP [aQ 17,aE 18,xO 19 (A2 18),xB 20 .lss 17 19] 20 (lW [aE 23,aQ 24,xO 25 (.idxs (.t 23) (.t 24)),aH 26 vV 25,cD 27 26,xM 28 27,p7 29 28,dZ 30 28 3,gN 31 28 (.idxs (.t 29) (.t 30)),jX 32 28 DE [.t 31],gN 33 28 (S0 32),xV 34 28 33,xM 35 34,p7 36 35,dZ 37 35 3,gN 38 35 (.idxs (.t 36) (.t 37)),PV 39 35 .neq 38 (MJ 95),xV 40 35 39] 40 [fH]) (aQ 21) 22 .add 21 (cU 22)
def c_196_k1:Xv:=tS 2
def pS:AFn:=⟨1,[.tmp 2],k9 [fH] [aE 4,tX 5 .eql 4 (.str []),aF 6,mW 7 6,eM 8 6 (A2 7),bV 9 6 .gtr 8 16,xW 10 6 9,xM 11 10,mW 12 11,eM 13 11 (.idxs (.t 12) (bY 0)),wW 14 11 vV [.t 13],zE 15 11 14,xW 16 11 15] 16 [fH] [eD] 0 c_196_l0 c_196_k1⟩
def K4:AFn:=⟨4,[.cell 8 true 4],mB (jB 8 bM bM bM bM) [aE 9,aD 10,bP 11,aQ 12,xO 13 (.build tI [(0,1,(.t 9)),(1,1,(.t 10)),(2,1,(.t 11)),(3,1,(.t 12))]),eA 8 13]⟩
def c_198_l0:Xv:=pC [aY 23,cV 24,xL 25 24,xN 26 25,xB 27 .lss 23 26] 27 1 2 (tQ [cV 30,xL 31 30,aY 32,dI 33 31 32,aX 34 33,mF 5 (.str []),cA 5 34] [5] (bW [aX 36 1,mV 37,xL 38 37,aW 39 DF 36 38,xM 35 39,b9 40 35,bA 41 35,bD 40,cM 41] (Z7 3 (lX [mV 43,xL 44 43,aH 45 gK 44,cD 46 45,xM 42 46] 42 [fY 6] (gZ [aS 48 5,xL 49 48,bN 50 .lss 49,xM 51 50,dC 52 51 5,aJ 53 51 52,bV 54 51 .gtr 53 32,xW 55 51 54,xM 47 55] 47 [fY 10] [aT 57,aY 58,xB 59 .lss 57 58,xM 56 59] 56 [fY 7])) [aQ 60,aS 61 5,xL 62 61,xB 63 .add 60 62,cU 63]))) (aY 28) 29 .add 28 (aM 29)
def c_198_k1:Xv:=dA [aQ 64,xK 65 .rem 64 8,aP 66 .neq 65] 66 [fY 10] (eN eE)
def pU:AFn:=⟨1,[.tmp 2],iU eZ eE (sH 0 [kN 9,xL 10 9,aH 11 gK 10,cD 12 11,cR 12] 8 [fY 6] (gZ [cV 14,xL 15 14,xN 16 15,aP 17 .eql 16,xM 13 17] 13 [fY 8] [cV 19,xL 20 19,xN 21 20,xK 22 .gtr 21 12,xM 18 22] 18 [fY 12]) (FD [eD] [bO] 1 c_198_l0 c_198_k1))⟩
def c_199_l0:Xv:=dP [aF 27,aD 28,xB 29 .lss 27 28] 29 (jI [aE 32,aF 33,dI 34 32 33,aR 35 34,xL 36 35,aE 37,aD 38,dI 39 37 38,aR 40 39,xL 41 40,xB 42 .eql 36 41] 42 [dD 7]) (aF 30) 31 .add 30 (aO 31)
def c_199_k1:Xv:=eN bO
def pV:AFn:=⟨2,[.tmp 4],dY [bO] [pF,aD 7,dI 8 6 7,aR 9 8,xL 10 9,aH 11 gK 10,cD 12 11] 12 [dD 6] (dA [aE 13,aD 14,dI 15 13 14,aS 16 15,xL 17 16,bN 18 .lss 17,xM 19 18,mW 20 19,bK 21 19 1,oE 22 19 2 20 21,dC 23 19 22,aJ 24 19 23,bV 25 19 .gtr 24 32,xW 26 19 25] 26 [dD 10] (kK [d7] 0 c_199_l0 c_199_k1))⟩
def lA:AFn:=⟨1,[.tmp 2],dY [eZ,eE] [kN 3,xL 4 3,aH 5 gK 4,cD 6 5] 6 [fY 6] (dA [cV 7,xL 8 7,bN 9 .lss 8,bS 10,dC 11 10 1,aJ 12 10 11,bV 13 10 .gtr 12 32,xW 14 10 13] 14 [fY 10] (dA [kX 15,xL 16 15,bN 17 .lss 16,xM 18 17,bH 19 18 2 1,aJ 20 18 19,bV 21 18 .gtr 20 64,xW 22 18 21] 22 [fY 9] (eN eE)))⟩
def c_201_l0:Xv:=pC [bR 47,dE 48 6,xL 49 48,xN 50 49,xB 51 .lss 47 50] 51 1 2 (kV [eX 54,dE 55 6,xL 56 55,bR 57,xX 58 7 56 57,xA 59 7 58,eX 60,aD 61,aW 62 DH 60 61,gD 63 DG 54 59 62,cR 63] (pI (bC 64) 65 .neq 64 65 [bR 66,bC 67,aM 66,aO 67])) (bR 52) 53 .add 52 (cM 53)
def c_201_k1:Xv:=A3 d7
def jN:AFn:=⟨2,dX,dY sE [aD 9,aP 10 .lss 9,xM 11 10,bK 12 11 1,bH 13 11 4 2,aJ 14 11 13,cL 15 11 14,dU 16 11 .geq 12 15,xW 17 11 16] 17 sF (tQ [xF 18 4 2,xL 19 18,aD 20,fF 21 19 20,xA 22 3 21,cK 6 EZ,xS 3 6 22] [6] (sH 0 VP 23 IH (gZ [aS 29 6,xL 30 29,xN 31 30,xK 32 .gtr 31 4,xM 33 32,bH 34 33 2 6,aJ 35 33 34,cL 36 33 35,bV 37 33 .gtr 36 12,xW 38 33 37,xM 28 38] 28 FA [aS 40 6,xL 41 40,aH 42 vW 41,aP 43 .neq 42,xM 39 43] 39 [aS 44 6,xL 45 44,aH 46 vW 45,oY,aO 46]) (kK [jK] 1 c_201_l0 c_201_k1)))⟩
def fQ:AFn:=⟨2,dX,dY sE [aD 9,aP 10 .lss 9,xM 11 10,bK 12 11 1,bH 13 11 5 2,aJ 14 11 13,cL 15 11 14,dU 16 11 .geq 12 15,xW 17 11 16] 17 sF (tQ [xF 18 5 2,xL 19 18,aD 20,xX 21 6 19 20,xA 22 6 21,cK 6 EX,xS 6 6 22] [6] (sH 0 VP 23 IH (gZ [aS 29 6,xL 30 29,xN 31 30,xK 32 .gtr 31 6,xM 33 32,bH 34 33 2 6,aJ 35 33 34,cL 36 33 35,bV 37 33 .gtr 36 16,xW 38 33 37,xM 28 38] 28 FA [xF 40 5 6,xL 41 40,bN 42 .lss 41,xM 43 42,bH 44 43 5 6,aJ 45 43 44,bV 46 43 .gtr 45 256,xW 47 43 46,xM 39 47] 39 [oY,gO 9]) (mC [eX 49,xA 50 6 6,aW 51 DI 49 50,xM 48 51,b9 52 48,bA 53 48,cM 52,cR 53] (bC 54) 55 .neq 54 55 [bR 56,bC 57,aM 56,aO 57] (mC [eX 58,xA 59 6 6,aW 60 DJ 58 59,cR 60] (bC 61) 62 .neq 61 62 [bC 63,dD (-3),aO 63] (A3 d7)))))⟩
def c_203_l0:Xv:=dP [aF 16,cP 17 6,xL 18 17,xN 19 18,xB 20 .lss 16 19] 20 (lZ [iV 24,aF 25,aW 26 DK 24 25,xM 23 26,b9 27 23,bA 28 23,bD 27,cM 28] [bR 29,aP 30 .neq 29] 30 [aF 31,aT 32,bR 33,dM 31,cU 32,aM 33]) (aF 21) 22 .add 21 (aO 22)
def c_203_k1:Xv:=dG [eE,eD,bO]
def uH:AFn:=⟨1,IE,dY [eZ,eE,eD,bO] [cP 8 6,xL 9 8,xN 10 9,aP 11 .eql 10] 11 [mS 2,mS 3,dD 8] (dA [cP 12 6,xL 13 12,xN 14 13,xK 15 .gtr 14 12] 15 [mS 2,mS 3,dD 12] (kK [d7] 0 c_203_l0 c_203_k1))⟩
def c_204_l0:Xv:=pC [aF 20,aY 21,xN 22 21,xB 23 .lss 20 22] 23 1 2 (lZ [iV 26,aY 27,aF 28,gD 29 DL 26 27 28,bD 29] [aT 30,aP 31 .neq 30] 31 [aF 32,aT 33,dM 32,cU 33]) (aF 24) 25 .add 24 (aO 25)
def c_204_k1:Xv:=jA eE eD
def uI:AFn:=⟨1,sC,mT eZ eE eD (iQ 0 (gZ [cP 8 7,xL 9 8,aH 10 rG 9,xK 11 .gtr 10 24,cM 11] 7 [mS 2,xI 3 12] [cP 13 7,xL 14 13,aH 15 rH 14,xK 16 .gtr 15 6,xM 12 16] 12 [mS 2,xI 3 14]) (FD [cP 17 7,xL 18 17,aH 19 nO 18,aM 19] [d7] 1 c_204_l0 c_204_k1))⟩
def c_205_l0:Xv:=pC [aF 35,aY 36,xB 37 .lss 35 36] 37 2 3 (jI [cP 40 8,xL 41 40,aF 42,bT 43 41 42,xL 44 43,cP 45 8,xL 46 45,aY 47,bT 48 46 47,xL 49 48,xB 50 .eql 44 49] 50 [aY 51,dM 51,xI 3 7]) (aF 38) 39 .add 38 (aO 39)
def c_205_k1:Xv:=xR [aY 15,bN 16 .add 15,aM 16]
def c_205_l2:Xv:=FE [aY 10,cP 11 8,xL 12 11,xN 13 12,xB 14 .lss 10 13] 14 0 (iQ 1 (.seq (jI [cP 17 8,xL 18 17,aY 19,bT 20 18 19,xL 21 20,aP 22 .lss 21,xM 23 22,bH 24 23 8 1,aJ 25 23 24,bK 26 23 4,oE 27 23 1 25 26,aJ 28 23 27,dC 29 23 1,aJ 30 23 29,cL 31 23 30,dU 32 23 .geq 28 31,xW 33 23 32] 33 [aY 34,dM 34,xI 3 8]) (bW [d7] (zX 2 c_205_l0))) c_205_k1)
def c_205_k3:Xv:=jA eE eD
def AS:AFn:=⟨1,sC,k9 [eZ,eE,eD] W4 9 [mS 2,xI 3 12] [bO] 0 c_205_l2 c_205_k3⟩
def c_206_l0:Xv:=pC [aT 39,aF 40,xB 41 .lss 39 40] 41 1 2 (kV [eX 44,aT 45,dB 46,xL 47 46,aT 48,bT 49 47 48,xL 50 49,fO 51,xL 52 51,aT 53,bT 54 52 53,xL 55 54,PX 56 DM (.t 44) (.t 45) (.t 50) (.t 55),cM 56] (dA [bR 57,aP 58 .neq 57] 58 [bR 59,aM 59] (kV [eX 60,aT 61,mU 62,xL 63 62,aT 64,dI 65 63 64,aX 66 65,gD 67 rI 60 61 66,cM 67] (pI (bR 68) 69 .neq 68 69 [bR 70,aM 70])))) (aT 42) 43 .add 42 (bD 43)
def c_206_k1:Xv:=dG [eX 71,eP 72 3,xL 73 72,aW 74 DN 71 73,aM 74]
def mZ:AFn:=⟨2,[.tmp 4],dL sD [xF 8 5 2,xL 9 8,xN 10 9,aO 10] (iQ 0 (gZ [eX 12,aH 13 EH 12,xO 14 (.fld false 0 1 (.t 13)),aP 15 .neq 14,xM 11 15] 11 [eX 16,aH 17 EH 16,xO 18 (.fld false 0 1 (.t 17)),aM 18] [dB 20,xL 21 20,xN 22 21,aF 23,xB 24 .neq 22 23,xM 25 24,dC 26 25 3,aJ 27 25 26,cL 28 25 27,bK 29 25 5,dU 30 25 .neq 28 29,xW 31 25 30,xM 32 31,bH 33 32 2 3,aJ 34 32 33,cL 35 32 34,bK 36 32 5,dU 37 32 .neq 35 36,xW 38 32 37,xM 19 38] 19 [dD 2]) (kK [cT] 1 c_206_l0 c_206_k1))⟩
def n7:AFn:=⟨3,[.cell 6 true 4,.tmp 7,.tmp 8],tT [sJ,FK 4,xJ 5 2,jB 6 aC aC cO aC,jK,wZ] [mV 15,xL 16 15] 0 (lX [bN 18 .eql 16,xM 17 18] 17 [jJ 19,cW 20 4,aS 21 5,xL 22 21,eP 23 5,cW 24 23,PX 25 vX (.t 19) (.t 20) (.t 22) (.t 24),b9 26 25,bA 27 25,xE 28 2 25,eA 6 26,cM 27,cR 28] (mX 30 .eql 16 2 29 30 29 (tQ [jJ 32,cW 33 4,aS 34 5,xL 35 34,dE 36 5,xL 37 36,xF 38 7 5,aX 39 38,PU 40 rJ [.t 32,.t 33,.t 35,.t 37,.t 39],xM 31 40,b9 41 31,bA 42 31,jB 9 aC aC cO aC,eA 9 41,xM 10 42] [9] (dG [cW 43 9,xM 44 10,eA 6 43,jK,cR 44])) (mX 46 .eql 16 3 45 46 45 (tQ [jJ 48,cW 49 4,aS 50 5,xL 51 50,dE 52 5,xL 53 52,PX 54 vY (.t 48) (.t 49) (.t 51) (.t 53),xM 47 54,b9 55 47,bA 56 47,jB 11 aC aC cO aC,eA 11 55,xM 12 56] [11] (dG [cW 57 11,xM 58 12,eA 6 57,jK,cR 58])) (zY (xK 60 .eql 16 4) 59 60 (iS 59 (tQ [jJ 62,cW 63 4,aS 64 5,xL 65 64,xF 66 7 5,aX 67 66,PX 68 vZ (.t 62) (.t 63) (.t 65) (.t 67),xM 61 68,b9 69 61,bA 70 61,jB 13 aC aC cO aC,eA 13 69,xM 14 70] [13] (dG [cW 71 13,xM 72 14,eA 6 71,jK,cR 72]))))))) (dG [cW 73 4,eA 6 73,jK,xI 8 11])⟩
def K5:AFn:=⟨1,[.tmp 2],mB fH VK⟩
def AU:AFn:=⟨1,[.tmp 2],iT [pG,fH] [kN 3,xL 4 3,aH 5 rB 4,aF 6,jL 7 6 1,cJ 8 6 7,p5 9 6 8,eY 10 6 .leq 9 255,xV 11 6 10,dM 11]⟩
def uJ:AFn:=⟨2,[.tmp 4],pE oW [aD 5,aP 6 .eql 5] 6 oW [aE 7,xK 8 .quo 7 256,aD 9,bN 10 .sub 9,oF 11 cG 8 10,aE 12,xK 13 .rem 12 256,sI 14 13,xO 15 (.bslice .imm 1 oV [(0,(.t 14))]),eO 16 1 11 15,aM 16]⟩
def c_211_l0:Xv:=dP [aY 14,cV 15,xL 16 15,xN 17 16,xB 18 .lss 14 17] 18 (xR [aQ 21,cV 22,xL 23 22,aY 24,bT 25 23 24,xL 26 25,pD 27 26,FH 28 cG 27 (bY 4),eO 29 1 21 28,cU 29]) (aY 19) 20 .add 19 (aM 20)
def c_211_k1:Xv:=tV 30 30
def K6:AFn:=⟨1,[.tmp 2],lV [pG,jC aC] (sW [(2,4)] [⟨some 5,none,.faddr 0 (.t 1)⟩,⟨some 6,none,.load false 1 (.t 5)⟩,⟨some 7,none,.tcall cG [.t 6,.c (.int .i64 2)]⟩,⟨some 8,none,.faddr 1 (.t 1)⟩,⟨some 9,none,.load false 1 (.t 8)⟩,⟨some 10,none,.len (.t 9)⟩,⟨some 11,none,.conv .u8 (.t 10)⟩,⟨some 12,none,.bslice .imm 1 oV [(0,(.t 11))]⟩,⟨some 13,none,.append .app 1 1 (.t 7) (.t 12)⟩,⟨some 3,none,.mov (.t 13)⟩] none) (kK [bO] 0 c_211_l0 c_211_k1)⟩
def c_212_l0:Xv:=dP [aT 21,aF 22,xB 23 .lss 21 22,xM 24 23,jL 25 24 1,cJ 26 24 25,eY 27 24 .eql 26 0,xV 28 24 27] 28 (bW [aX 32 1,gT 33 dT 32 4,xM 31 33,b9 34 31,bA 35 31,mF 7 aC,cA 7 34,cR 35] (dL [aX 37 7,gT 38 dT 37 4,xM 36 38,b9 39 36,bA 40 36,cA 7 39,eJ 40] [aX 41 7,cA 1 41] (xR [aR 42 4,xL 43 42,bC 44,FN 45 44,bS 46,FN 47 46,xO 48 (.build IC [(0,1,(.t 45)),(1,1,(.t 47))]),xO 49 (.bslice .imm 2 (List.replicate 1 IC) [(0,(.t 48))]),mQ 50 2 8 43 49,aR 51 4,cQ 51 50]))) (aT 29) 30 .add 29 (bD 30)
def c_212_k1:Xv:=lV [aX 53 1,aH 54 vL 53,xM 52 54,b9 55 52,bA 56 52,cA 1 55,dE 57 4,cA 57 56] (sW [(1,2)] [⟨some 58,none,.load true 2 (.t 1)⟩,⟨some 59,none,.load true 4 (.t 4)⟩,⟨none,none,.store 2 (.t 2) (.t 58)⟩,⟨none,none,.store 4 (.t 3) (.t 59)⟩] none) .ret
def K7:AFn:=⟨1,[.cell 2 true 2,.cell 3 true 4],mT pG (mF 2 aC) (jB 3 cO bM bM aC) (dL [jB 4 cO bM bM aC] [aX 11 1,gT 12 dT 11 2,xM 10 12,b9 13 10,bA 14 10,cA 1 13,aS 15 4,cQ 15 14] (jD [aX 17 1,gT 18 dT 17 1,xM 16 18,b9 19 16,bA 20 16,cA 1 19,aO 20] cT c_212_l0 c_212_k1))⟩
def AW:AFn:=⟨1,[.cell 2 true 2,.tmp 3],mT pG (mF 2 aC) eD (jH [aX 6 1,gT 7 dT 6 4,aO 7,b9 8 5,bA 9 5,cA 1 8,aM 9] [aY 10,xK 11 .gtr 10 2147483647] (i8 11 [cV 12,⟨none,none,.store 1 (.t 12) PN⟩]) (dG [aX 13 1,aY 14,cA 2 13,cU 14]))⟩
def c_214_l0:Xv:=dP [aT 20,aF 21,xB 22 .lss 20 21,xM 23 22,jL 24 23 1,cJ 25 23 24,eY 26 23 .eql 25 0,xV 27 23 26] 27 (dL [aX 31 1,gT 32 dT 31 4,xM 30 32,b9 33 30,bA 34 30,mF 7 aC,cA 7 33,cR 34] [aX 35 7,cA 1 35] (xR [aS 36 4,xL 37 36,bC 38,FN 39 38,xO 40 (.bslice .imm 1 (List.replicate 1 F9) [(0,(.t 39))]),eO 41 4 37 40,aS 42 4,cQ 42 41])) (aT 28) 29 .add 28 (bD 29)
def c_214_k1:Xv:= .seq (sW [(1,2)] [⟨some 43,none,.load true 2 (.t 1)⟩,⟨some 44,none,.load true 2 (.t 4)⟩,⟨none,none,.store 2 (.t 2) (.t 43)⟩,⟨none,none,.store 2 (.t 3) (.t 44)⟩] none) .ret
def K8:AFn:=⟨1,[.cell 2 true 2,.cell 3 true 2],mT pG (mF 2 aC) (oD 3 bM aC) (dL [oD 4 bM aC] [aX 10 1,gT 11 dT 10 2,eJ 11,b9 12 9,bA 13 9,cA 1 12,aR 14 4,cQ 14 13] (jD [aX 16 1,gT 17 dT 16 1,xM 15 17,b9 18 15,bA 19 15,cA 1 18,aO 19] cT c_214_l0 c_214_k1))⟩
def K9:AFn:=⟨2,[.tmp 3],iT [jZ,sG 3] [oH 4,cW 5 4,cV 6,cW 7 6,aW 8 nM 5 7,bC 3]⟩
def c_216_l0:Xv:=dP VV 15 (xR [aQ 18,aE 19,aY 20,bT 21 19 20,xL 22 21,xO 23 (.minmax true [.t 18,.t 22]),cU 23]) (aY 16) 17 .add 16 (aM 17)
def c_216_k1:Xv:=tV 24 24
def KA:AFn:=⟨1,[.tmp 2],jH [jC gE] [aE 5,xN 6 5,bN 7 .lss 6] (i8 7 [xO 8 (.mkiface 9 (.c (.str [115,108,105,99,101,115,46,77,97,120,58,32,101,109,112,116,121,32,108,105,115,116]))),⟨none,none,.panic (.t 8)⟩]) (jD [aE 9,wY 10 1 9 0,xL 11 10,cU 11] (dD 1) c_216_l0 c_216_k1)⟩
def AY:AFn:=⟨1,[.tmp 2],pE [jC gE] [sX,xO 4 (.bslice .imm 1 kJ [(0,(.t 3))]),aH 5 nP 4,cD 6 5] 6 [jC gE] [aE 7,xO 8 (zD .sub (bY 32) 7),xO 9 (zD .shr (.c (II 4294967295)) 8),bS 2]⟩
def c_218_l0:Xv:=fE [xB 21 .lss 20 19] 21 0 1 (lZ [bT 22 18 20,xL 23 22,cR 23] [bC 24,bP 25,xB 26 .eql 24 25] 26 [mP 6]) 27 .add 20 20 27
def c_218_k1:Xv:=eN p8
def AZ:AFn:=⟨3,[.tmp 6],k9 [sJ,p8] [jJ 9,aD 10,aW 11 w6 9 10,cD 12 11] 12 [p8] [xF 13 5 3,xL 14 13,aD 15,xX 16 6 14 15,dE 17 16,xL 18 17,xN 19 18,bF 20] 0 c_218_l0 c_218_k1⟩
def c_219_l0:Xv:=fE [xB 36 .lss 35 34] 36 0 1 (lZ [xM 37 35,bT 38 33 35,xL 39 38,bD 37,cM 39] [bR 40,aF 41,aT 42,dI 43 41 42,aS 44 43,xL 45 44,aW 46 lH 40 45,cD 47 46] 47 [dD 9]) 48 .add 35 35 48
def c_219_k1:Xv:=eN bO
def pW:AFn:=⟨2,[.tmp 4],dY sD [dB 8,xL 9 8,aP 10 .lss 9,xM 11 10,bH 12 11 0 3,aJ 13 11 12,bH 14 11 4 2,aJ 15 11 14,cL 16 11 15,dU 17 11 .geq 13 16,xW 18 11 17] 18 [dD 8] (k9 [xF 19 4 2,xL 20 19,dB 21,xL 22 21,fF 23 20 22,aS 24 23,xL 25 24,aO 25] [fO 26,xL 27 26,xN 28 27,aF 29,xN 30 29,xB 31 .neq 28 30] 31 [dD 2] [fO 32,xL 33 32,xN 34 33,bF 35] 0 c_219_l0 c_219_k1)⟩
def c_220_l0:Xv:=gC PO 20 0 1 VO [7] (xR [aF 23,eX 24,aR 25 7,aX 26 25,aW 27 nQ 24 26,xO 28 (.bslice .imm 1 kJ [(0,(.t 27))]),eO 29 8 23 28,aO 29]) 30 .add 19 19 30
def c_220_k1:Xv:=oZ 31 31
def KB:AFn:=⟨2,[.tmp 4],dY [jZ,oI aC] VX 11 oW (mA [lY 5 1] VF c_220_l0 c_220_k1)⟩
def iA:AFn:=⟨3,[.tmp 6],iU sJ cT (sH 0 [dB 10,xL 11 10,bP 12,aW 13 lH 11 12,cD 14 13,xM 15 14,dC 16 15 3,aJ 17 15 16,bK 18 15 2,wW 19 15 lH [.t 17,.t 18],zE 20 15 19,xW 21 15 20,eJ 21] 9 [f9 9] (lX [dB 23,xL 24 23,fO 25,xL 26 25,xB 27 .andNot 24 26,tX 28 .neq 27 gE,xM 22 28] 22 [f9 5] (jI [aD 30,bN 31 .eql 30,xM 32 31,jL 33 32 3,cJ 34 32 33,dZ 35 32 2,jX 36 32 gL [.t 35],oG 37 32 .neq 34 36,xV 38 32 37,xM 29 38] 29 [f9 11])) (eH [aD 39,xK 40 .eql 39 2] (iS 40 (lZ [fO 42,xL 43 42,bP 44,aW 45 DO 43 44,xM 41 45,b9 46 41,bA 47 41,cM 46,cR 47] [bC 48,cD 49 48] 49 [f9 11])) (eN cT)))⟩
def c_222_l0:Xv:=gC PO 20 0 1 VO [7] (.block 2 (lX [dE 24 7,xL 25 24,xK 26 .eql 25 3,xM 23 26] 23 [dD 3] (bW [dE 28 7,xL 29 28,xK 30 .eql 29 2,xM 27 30] (i8 27 [gO 2])))) 31 .add 19 19 31
def c_222_k1:Xv:=oZ 32 32
def B1:AFn:=⟨2,[.tmp 4],dY [jZ,bO] VX 11 [bO] (mA [gO 1] VF c_222_l0 c_222_k1)⟩
def c_223_l0:Xv:=fE F7 9 0 1 (lZ [bC 10,aO 10] [aD 11,aE 12,aF 13,xX 14 5 12 13,xA 15 5 14,wX 16 11 [.t 15]] 16 [aF 17,aM 17]) 18 .add 8 8 18
def c_223_k1:Xv:=eN oY
def B2:AFn:=⟨2,[.tmp 4],mA [bO] F6 c_223_l0 c_223_k1⟩
def pX:AFn:=⟨1,[.tmp 2],pE [fH] [sX,xO 4 (A2 3),aP 5 .eql 4,aF 6,mW 7 6,eM 8 6 (A2 7),bV 9 6 .gtr 8 16,xW 10 6 9,xM 11 10,mW 12 11,eM 13 11 (.idxs (.t 12) (bY 0)),wW 14 11 w7 [.t 13],zE 15 11 14,xW 16 11 15] 16 [fH] [aE 17,tW 18 DP 17 (.func (.func rK) [] []),aE 19,xO 20 (A2 19),xB 21 .eql 18 20,dM 21]⟩
def c_226_l0:Xv:=fE F7 9 0 1 (mT (bT 10 6 8) (xL 11 10) (aO 11) (xR [aQ 12,aF 13,xB 14 .add 12 13,cU 14])) 15 .add 8 8 15
def c_226_k1:Xv:=tV 16 16
def KC:AFn:=⟨1,[.tmp 2],jY [eE] [eD] F6 c_226_l0 c_226_k1⟩
def c_227_l0:Xv:=gC PS 10 0 1 [dI 11 7 9,aX 12 11,mF 5 (.str []),cA 5 12] [5] (xR [aQ 13,aS 14 5,xL 15 14,xO 16 (.bslice .imm 1 kJ [(0,(.t 15))]),eO 17 8 13 16,cU 17]) 18 .add 9 9 18
def c_227_k1:Xv:=tV 19 19
def KD:AFn:=⟨1,[.tmp 2],iU eZ FC (mA [lY 3 1] [cV 6,xL 7 6,xN 8 7,bF 9] c_227_l0 c_227_k1)⟩
def KE:AFn:=⟨2,[.tmp 4],mB fG [aE 5,aD 6,aW 7 DS 5 6,aP 8 .geq 7,aM 8]⟩
def c_229_l0:Xv:=gC PP 25 1 2 [xM 26 24,dI 27 22 24,aX 28 27,mF 4 (.str []),cU 26,cA 4 28] [4] (.block 3 (lX [aR 30 4,xL 31 30,aH 32 gM 31,cD 33 32,xM 29 33] 29 [fY 6] (gZ [aS 35 4,xL 36 35,bN 37 .lss 36,xM 38 37,dC 39 38 4,aJ 40 38 39,bV 41 38 .gtr 40 32,xW 42 38 41,xM 34 42] 34 [fY 10] [cV 44,xL 45 44,aQ 46,xO 47 (.slc 2 (.t 45) none (some (.t 46)) none),xO 48 (.mkfunc (.func nR) [] [.t 4]),aW 49 DT 47 48,xM 43 49] 43 [fY 7]))) 50 .add 24 24 50
def c_229_k1:Xv:=eN eE
def pY:AFn:=⟨1,[.tmp 2],iU eZ eE (iQ 0 (gZ [kN 6,xL 7 6,aH 8 gM 7,cD 9 8,aO 9] 5 [fY 6] [cV 11,xL 12 11,xN 13 12,xK 14 .gtr 13 4,xM 15 14,bH 16 15 2 1,aJ 17 15 16,cL 18 15 17,bV 19 15 .gtr 18 12,xW 20 15 19,xM 10 20] 10 [fY 12]) (kK [cV 21,xL 22 21,xN 23 22,bF 24] 1 c_229_l0 c_229_k1))⟩
def bI:AFn:=⟨2,[.tmp 4],lV sD (xQ [oJ 11,aR 12 11,jW 13 12,cK 5 PE,xS 9 5 13] [5]) (bW [jW 15 5,fO 16,aX 17 16,aW 18 w9 15 17,xM 14 18,b9 19 14,bA 20 14,bD 19,cM 20] (tT [eP 21 3,xL 22 21,aP 23 .geq 22,xM 24 23,d9 25 24 3 3,cJ 26 24 25,d9 27 24 3 5,cJ 28 24 27,p5 29 24 28,oG 30 24 .lss 26 29,xV 31 24 30,cR 31] [dB 32,xL 33 32] 0 (Q1 (bN 35 .eql 33) 34 35 34 (tU [bR 36,cD 37 36] 37 [dD 8] [xA 38 10 2,xF 39 6 3,xL 40 39,aT 41,gD 42 rL 38 40 41,aM 42]) (eH [xK 44 .eql 33 2,xM 43 44] VY (zW 43 (dA [xF 46 4 3,xL 47 46,aP 48 .lss 47,xM 49 48,bH 50 49 4 3,aJ 51 49 50,dC 52 49 5,aJ 53 49 52,cL 54 49 53,dU 55 49 .geq 51 54,xW 56 49 55] 56 [dD 8] (eN bO)) (eH [xK 58 .eql 33 4,xM 57 58] (A1 57 (xR [xK 59 .eql 33 5,xM 57 59])) (iS 57 (dA [bC 60,cD 61 60,xM 62 61,bH 63 62 0 3,aJ 64 62 63,bV 65 62 .eql 64 4,bK 66 62 65,dZ 67 66 7,gN 68 66 (S0 67),eM 69 62 (.pick (.t 66) (.t 68) (.c WH)),xW 70 62 69] 70 [dD 8] (eH [xF 72 5 3,xL 73 72,oJ 74,xA 75 10 74,aW 76 rM 73 75,xM 71 76,b9 77 71,bA 78 71,eJ 77,xM 10 78] (pI (xM 79 10) 80 .neq 79 80 [xM 81 10,aM 81]) (eH [dB 82,xL 83 82,xK 84 .eql 83 5] (iS 84 (GD [xA 85 10 2,xF 86 6 3,xL 87 86,eP 88 5,xL 89 88,eP 90 3,xL 91 90,fF 92 89 91,aS 93 92,xL 94 93,gD 95 rL 85 87 94,aM 95])) (dA [aT 96,eP 97 5,xL 98 97,eP 99 3,xL 100 99,fF 101 98 100,aS 102 101,xL 103 102,xB 104 .neq 96 103] 104 [dD 10] (eN bO)))))))))) (eN (dD 11))))⟩
def c_231_l0:Xv:=gC [xB 15 .lss 14 13] 15 0 1 [xM 16 14,fF 17 12 14,xA 18 3 17,cK 9 [bM,bM,bM],cR 16,xS 3 9 18] [9] (mC [eX 19,aR 20 9,aX 21 20,aW 22 nQ 19 21,xM 10 22] (xM 23 10) 24 .eql 23 24 [bC 25,aM 25,gO 8] (eH [dE 26 9,xL 27 26] (.block 2 (mX 30 .eql 27 2 29 30 29 (xR [aT 31,bN 32 .add 31,bD 32]) (eH [bN 34 .eql 27,xM 33 34] (A1 33 (xR [xK 35 .eql 27 3,xM 33 35])) (A1 33 (dG [bC 28,aM 28,gO 11]))))) (xR [bR 36,xM 37 10,xB 38 .add 36 37,cM 38]))) 39 .add 14 14 39
def c_231_k1:Xv:=dA [aT 40,bN 41 .gtr 40] 41 [dD (-2),gO 7] (dA [bR 42,xK 43 .gtr 42 64] 43 [dD (-2),gO 10] (A3 d7))
def KF:AFn:=⟨2,dX,jY F5 [cT,jK] [fO 11,xL 12 11,xN 13 12,bF 14] c_231_l0 c_231_k1⟩
def c_232_l0:Xv:=fE [xB 13 .lss 12 11] 13 0 1 (dY [bT 14 10 12,xL 15 14,cM 15] [bR 16,aP 17 .lss 16,xM 18 17,bK 19 18 7,bH 20 18 4 2,aJ 21 18 20,cL 22 18 21,dU 23 18 .geq 19 22,xW 24 18 23] 24 [dD 8] (dA [aF 25,bR 26,xO 27 (.lookup .i F8 false (.t 25) (.t 26))] 27 [dD 7] (xR [aF 28,bR 29,⟨none,none,.update .i (.t 28) (.t 29) tO⟩]))) 30 .add 12 12 30
def c_232_k1:Xv:=tU [aF 31,eP 32 3,aR 33 32,xL 34 33,xO 35 (.lookup .i F8 false (.t 31) (.t 34)),cD 36 35] 36 [dD 8] [eX 37,eP 38 3,aX 39 38,aW 40 rE 37 39,aM 40]
def KG:AFn:=⟨2,[.tmp 4],jY sD [xO 8 .mkmap,aO 8] [mU 9,xL 10 9,xN 11 10,bF 12] c_232_l0 c_232_k1⟩
def c_233_l0:Xv:=fE [xB 31 .lss 30 29] 31 0 1 (lZ [bT 32 28 30,xL 33 32,cR 33] [bC 34,aP 35 .lss 34,xM 36 35,bK 37 36 8,dC 38 36 2,aJ 39 36 38,cL 40 36 39,dU 41 36 .geq 37 40,xW 42 36 41] 42 sF) 43 .add 30 30 43
def c_233_l1:Xv:=gC [xB 68 .lss 67 66] 68 3 4 [xM 69 67,fF 70 65 67,xA 71 3 70,cK 10 [gE,gE,bM],eJ 69,xS 3 10 71] [10] (lZ [eX 72,aD 73,xA 74 3 10,gD 75 DU 72 73 74,xM 11 75] [xM 76 11,aP 77 .neq 76] 77 [bS 78,xM 79 11,aM 78,aO 79]) 80 .add 67 67 80
def c_233_k2:Xv:=dA [eX 81,aD 82,xF 83 6 6,xL 84 83,gD 85 wA 81 82 84,cD 86 85] 86 [oY,gO 14] (A3 d7)
def c_233_k3:Xv:=iQ 2 (gZ [dE 45 6,xL 46 45,xM 47 46,zF 48 47 9 2,d9 49 47 3 6,zF 50 47 2 49,jX 51 47 nQ [.t 48,.t 50],eY 52 47 .eql 51 0,xV 53 47 52,xM 44 53] 44 sF [dE 55 6,xL 56 55,cD 57 56,xM 58 57,d9 59 58 5 6,cJ 60 58 59,p5 61 58 60,eY 62 58 .gtr 61 0,xV 63 58 62,xM 54 63] 54 [oY,gO 11]) (kK [xF 64 5 6,xL 65 64,xN 66 65,bF 67] 3 c_233_l1 c_233_k2)
def uK:AFn:=⟨2,dX,lV sE (xQ [xF 12 6 2,xL 13 12,aD 14,xX 15 7 13 14,xA 16 7 15,cK 6 yT,xS 7 6 16] [6]) (dA [aS 17 6,xL 18 17,xN 19 18,xK 20 .gtr 19 4,xM 21 20,bH 22 21 5 6,aJ 23 21 22,cL 24 21 23,bV 25 21 .gtr 24 8,xW 26 21 25] 26 FA (kK [aS 27 6,xL 28 27,xN 29 28,bF 30] 0 c_233_l0 c_233_k3))⟩
def KH:AFn:=⟨1,[.tmp 2],bW [eE] (dL [cK 3 [bM],⟨none,none,.store 1 (.t 3) (.c lU)⟩] [aE 4,xO 5 (.mkfunc (.func wB) [] [.t 3]),oF 6 iG 4 5] (jA (xL 7 3) (bR 2)))⟩
def c_235_l0:Xv:=gC [xB 12 .lss 11 10] 12 0 1 [xX 13 5 9 11,xA 14 5 13,cK 5 EY,xS 5 5 14] [5] (xD [aQ 15,eP 16 5,xL 17 16,aH 18 rF 17,xF 19 4 5,xL 20 19,aH 21 rF 20,xO 22 (.minmax true [.t 15,.t 18,.t 21]),cU 22]) 23 .add 11 11 23
def c_235_k1:Xv:=dG [aQ 24,bN 25 .add 24,dM 25]
def B4:AFn:=⟨1,[.tmp 2],dY [eE] [pF,xN 7 6,aP 8 .eql 7] 8 [eE] (mA [eD] [aE 9,xN 10 9,bF 11] c_235_l0 c_235_k1)⟩
def c_236_l0:Xv:=gC PS 10 0 1 [xX 11 5 7 9,xA 12 5 11,cK 6 EY,xS 5 6 12] [6] (lW [aD 13,xA 14 5 6,xO 15 (.tcallv (.t 13) [.t 14]),cD 16 15,xM 17 16,bH 18 17 3 6,aJ 19 17 18,bK 20 17 1,eM 21 17 (.tcall iG [.t 19,.t 20]),zE 22 17 21,xW 23 17 22,xM 24 23,bH 25 24 4 6,aJ 26 24 25,bK 27 24 1,eM 28 24 (.tcall iG [.t 26,.t 27]),zE 29 24 28,xW 30 24 29] 30 [fG]) 31 .add 9 9 31
def c_236_k1:Xv:=tS 4
def pZ:AFn:=⟨2,[.tmp 4],mA [fG] [aE 7,xN 8 7,bF 9] c_236_l0 c_236_k1⟩
def lB:AFn:=⟨5,[.tmp 6],jH [FG 5,p8] [iV 7,xA 8 5 5,xL 9 2,gD 10 D9 7 8 9,cQ 3 10] (pI (xL 11 3) 12 .neq 11 12 [p8]) (eH [xA 13 5 5,aH 14 DA 13] (i8 14 [xL 15 2,aS 16 5,xL 17 16,xO 18 (.bslice .imm 1 kJ [(0,(.t 17))]),eO 19 8 15 18,cQ 2 19]) (iT [xL 20 4,bN 21 .add 20,cQ 4 21] [mP 6]))⟩
def c_238_l0:Xv:=fE [xB 30 .lss 29 28] 30 1 2 (lZ [bT 31 27 29,xL 32 31,cR 32] [bC 33,aS 34 4,xL 35 34,xB 36 .eql 33 35] 36 [f9 7]) 37 .add 29 29 37
def c_238_k1:Xv:=lW [aR 38 4,xL 39 38,bN 40 .eql 39,xM 41 40,d9 42 41 3 4,cJ 43 41 42,p5 44 41 43,d9 45 41 4 4,cJ 46 41 45,p5 47 41 46,oG 48 41 .add 44 47,eY 49 41 .gtr 48 0,xV 50 41 49] 50 [f9 5]
def c_238_k2:Xv:=eN cT
def fR:AFn:=⟨3,[.tmp 6],tT [sJ,FK 4,cT] [aR 11 4,xL 12 11] 0 (eH [bN 14 .eql 12,xM 13 14] (A1 13 (xR [xK 15 .eql 12 3,xM 13 15])) (zW 13 (dA [aS 16 4,xL 17 16,aP 18 .lss 17,xM 19 18,dC 20 19 4,aJ 21 19 20,bH 22 19 5 3,aJ 23 19 22,cL 24 19 23,dU 25 19 .geq 21 24,xW 26 19 25] 26 [f9 8] (kK [bP 27,xN 28 27,bF 29] 1 c_238_l0 c_238_k1)) (mX 52 .eql 12 2 51 52 51 (mC [dE 54 4,xL 55 54,jJ 56,xO 57 (.build tJ [(0,9,(.t 56))]),aW 58 rM 55 57,xM 53 58,b9 59 53,bA 60 53,eJ 59,xM 10 60] (xM 61 10) 62 .neq 61 62 [xM 63 10,bD 63] (ZC (bS 64) (bN 65 .neq 64) 65 [f9 10])) (eN (f9 11))))) c_238_k2⟩
def B5:AFn:=⟨1,[.tmp 2],iT [eZ,fH] VA⟩
def KI:AFn:=⟨2,[.tmp 4],mB fG [aE 5,aD 6,aW 7 DV 5 6,aP 8 .geq 7,aM 8]⟩
def KJ:AFn:=⟨1,[.tmp 2],mB fH V3⟩
def KK:AFn:=⟨1,[.tmp 2],mB fH VE⟩
def c_243_l0:Xv:=dP [aT 7,oH 8,xL 9 8,xN 10 9,xB 11 .lss 7 10] 11 (lW [oH 14,xL 15 14,aT 16,dI 17 15 16,aR 18 17,xL 19 18,aD 20,xB 21 .eql 19 20] 21 [aT 22,aM 22,mP 5]) (aT 12) 13 .add 12 (bD 13)
def c_243_k1:Xv:=A3 (sG 5)
def KL:AFn:=⟨2,dX,jD [jZ,bO,sG 5] cT c_243_l0 c_243_k1⟩
def c_244_l0:Xv:=pC [aY 34,aQ 35,xB 36 .lss 34 35] 36 3 4 (jI [aE 39,aY 40,dI 41 39 40,aR 42 41,xL 43 42,aE 44,aQ 45,dI 46 44 45,aR 47 46,xL 48 47,xB 49 .eql 43 48] 49 [fY 7]) (aY 37) 38 .add 37 (aM 38)
def c_244_k1:Xv:=xR [aQ 9,bN 10 .add 9,cU 10]
def c_244_l2:Xv:=FE [aO 3,pF,xN 7 6,xB 8 .lss 5 7] 8 0 (iQ 1 (iQ 2 (gZ [aE 12,aQ 13,dI 14 12 13,aR 15 14,xL 16 15,aH 17 gK 16,cD 18 17,xM 11 18] 11 [fY 6] [aE 20,aQ 21,dI 22 20 21,aS 23 22,xL 24 23,bN 25 .lss 24,xM 26 25,mW 27 26,bK 28 26 3,oE 29 26 2 27 28,dC 30 26 29,aJ 31 26 30,bV 32 26 .gtr 31 32,xW 33 26 32,xM 19 33] 19 [fY 10]) (bW [bO] (zX 3 c_244_l0))) c_244_k1)
def c_244_k3:Xv:=eN eE
def KM:AFn:=⟨1,[.tmp 2],jD [eE] eD c_244_l2 c_244_k3⟩
def bB:AFn:=⟨3,[.tmp 6],dL [sJ,FK 4,xJ 5 2,cT] [jJ 15,aS 16 4,aX 17 16,aW 18 rO 15 17,xM 14 18,b9 19 14,bA 20 14,cM 19,cR 20] (tT [eP 21 4,xL 22 21,aP 23 .geq 22,xM 24 23,d9 25 24 3 4,cJ 26 24 25,d9 27 24 3 3,cJ 28 24 27,p5 29 24 28,oG 30 24 .lss 26 29,xV 31 24 30,eJ 31] [aR 32 4,xL 33 32] 0 (Q1 (bN 35 .eql 33) 34 35 34 (tU [bC 36,cD 37 36] 37 [f9 8] [xF 38 6 4,xL 39 38,xA 40 10 5,bR 41,gD 42 rP 39 40 41,bD 42]) (eH [xK 44 .eql 33 2,xM 43 44] VY (zW 43 (dA [xF 46 4 4,xL 47 46,aP 48 .lss 47,xM 49 48,bH 50 49 4 4,aJ 51 49 50,dC 52 49 3,aJ 53 49 52,cL 54 49 53,dU 55 49 .geq 51 54,xW 56 49 55] 56 [f9 8] (eN cT)) (mX 58 .eql 33 4 57 58 57 (dA [bC 59,cD 60 59,xM 61 60,bK 62 61 9,zE 63 61 62,xW 64 61 63] 64 [f9 8] (dY [xF 66 5 4,xL 67 66,xA 68 10 5,aW 69 nS 67 68,xM 65 69,b9 70 65,bA 71 65,xM 10 70,xM 11 71] [xM 72 11,aP 73 .eql 72,xM 74 73,dZ 75 74 7,d9 76 74 3 3,cJ 77 74 76,d9 78 74 3 4,cJ 79 74 78,gN 80 74 (Q0 3 77 79),jL 81 74 80,cJ 82 74 81,oG 83 74 .neq 75 82,xV 84 74 83] 84 [f9 10] (jA (xM 85 11) (bD 85)))) (zY (xK 87 .eql 33 5) 86 87 (iS 86 (dA [bS 88,cD 89 88] 89 [f9 8] (mC [xF 91 5 4,xL 92 91,xA 93 10 5,aW 94 nS 92 93,xM 90 94,b9 95 90,bA 96 90,xM 12 95,xM 13 96] (xM 97 13) 98 .neq 97 98 [xM 99 13,bD 99] (GD [xF 100 6 4,xL 101 100,xA 102 10 5,eP 103 3,xL 104 103,eP 105 4,xL 106 105,fF 107 104 106,aS 108 107,xL 109 108,gD 110 rP 101 102 109,bD 110]))))))))) (eN (f9 11)))⟩
def KN:AFn:=⟨2,[.cell 4 true 10],mE [jZ,cK 4 tJ] [eX 5,xF 6 4 2,xL 7 6,aD 8,fF 9 7 8,aS 10 9,xL 11 10,xO 12 (.build tJ [(0,9,(.t 5)),(9,1,(.t 11))]),xS 10 4 12] .ret⟩
def c_247_l0:Xv:=dP [bC 11,fO 12,xL 13 12,xN 14 13,xB 15 .lss 11 14] 15 (kV [eX 18,fO 19,xL 20 19,bC 21,fF 22 20 21,aR 23 22,aX 24 23,aW 25 wC 18 24,eJ 25] (bW [fO 26,xL 27 26,bC 28,fF 29 27 28,dE 30 29,xL 31 30,xM 10 31] (Z7 2 (lX [bS 33,aP 34 .eql 33,xM 32 34] 32 [bC 35,aM 35,gO 8] (lX [xM 37 10,bN 38 .neq 37,xM 39 38,dZ 40 39 10,eY 41 39 .neq 40 2,xV 42 39 41,xM 43 42,dZ 44 43 10,eY 45 43 .neq 44 3,xV 46 43 45,xM 36 46] 36 [bC 47,aM 47,gO 11] (mT (xM 49 10) (xK 50 .eql 49 2) (xM 48 50) (i8 48 [bR 51,bN 52 .add 51,cM 52])))) [aT 53,bS 54,xB 55 .add 53 54,bD 55]))) (bC 16) 17 .add 16 (cR 17)
def c_247_k1:Xv:=iQ 3 (gZ [bR 57,bN 58 .gtr 57,xM 56 58] 56 [dD (-2),gO 7] [aT 60,xK 61 .gtr 60 64,xM 59 61] 59 [dD (-2),gO 10]) (A3 d7)
def KO:AFn:=⟨2,dX,dL F5 [cT] (jD [jK] wZ c_247_l0 c_247_k1)⟩
def c_248_l0:Xv:=dP [aF 6,mU 7,xL 8 7,xN 9 8,xB 10 .lss 6 9] 10 (.block 2 (kV [mU 14,xL 15 14,aF 16,bT 17 15 16,xL 18 17,aP 19 .lss 18,xM 20 19,bH 21 20 2 3,aJ 22 20 21,bK 23 20 5,oE 24 20 1 22 23,aJ 25 20 24,bH 26 20 4 2,aJ 27 20 26,cL 28 20 27,dU 29 20 .geq 25 28,xW 30 20 29,xM 13 30] (ME 13 [dD 8] (jI [mU 32,xL 33 32,mU 34,xL 35 34,aF 36,bT 37 35 36,xL 38 37,aW 39 rQ 33 38,aF 40,xB 41 .lss 39 40,xM 31 41] 31 [dD 7])))) (aF 11) 12 .add 11 (aO 12)
def c_248_k1:Xv:=tU [mU 42,xL 43 42,eP 44 3,aR 45 44,xL 46 45,aW 47 rQ 43 46,aP 48 .lss 47] 48 [dD 8] [eX 49,eP 50 3,aX 51 50,aW 52 rR 49 51,aM 52]
def KP:AFn:=⟨2,[.tmp 4],jD sD d7 c_248_l0 c_248_k1⟩
def c_249_l0:Xv:=dP [bR 20,aD 21,xB 22 .lss 20 21] 22 (jI [xF 25 6 2,xL 26 25,bR 27,xX 28 7 26 27,aR 29 28,xL 30 29,aR 31 6,xL 32 31,xB 33 .eql 30 32] 33 [oY,gO 7]) (bR 23) 24 .add 23 (cM 24)
def c_249_l1:Xv:=pC [bC 44,aS 45 6,xL 46 45,xN 47 46,xB 48 .lss 44 47] 48 2 3 (jI [aS 51 6,xL 52 51,bC 53,bT 54 52 53,xL 55 54,aP 56 .lss 55,xM 57 56,dC 58 57 6,aJ 59 57 58,bK 60 57 8,oE 61 57 1 59 60,aJ 62 57 61,dC 63 57 2,aJ 64 57 63,cL 65 57 64,dU 66 57 .geq 62 65,xW 67 57 66] 67 sF) (bC 49) 50 .add 49 (cR 50)
def c_249_k2:Xv:=dA [dE 68 6,xL 69 68,xM 70 69,zF 71 70 9 2,d9 72 70 3 6,zF 73 70 2 72,jX 74 70 wD [.t 71,.t 73],eY 75 70 .eql 74 0,xV 76 70 75] 76 sF (dA [dE 77 6,xL 78 77,cD 79 78,xM 80 79,d9 81 80 5 6,cJ 82 80 81,p5 83 80 82,eY 84 80 .gtr 83 0,xV 85 80 84] 85 [oY,gO 11] (mC [eX 87,aD 88,aW 89 wE 87 88,xM 86 89,b9 90 86,bA 91 86,eJ 90,xM 10 91] (xM 92 10) 93 .neq 92 93 [bS 94,xM 95 10,aM 94,aO 95] (dA [eX 96,aD 97,xF 98 6 6,xL 99 98,gD 100 wF 96 97 99,cD 101 100] 101 [oY,gO 14] (A3 d7))))
def c_249_k3:Xv:=dA [aS 34 6,xL 35 34,xN 36 35,xK 37 .gtr 36 4,xM 38 37,bH 39 38 5 6,aJ 40 38 39,cL 41 38 40,bV 42 38 .gtr 41 8,xW 43 38 42] 43 FA (kK [wZ] 2 c_249_l1 c_249_k2)
def B6:AFn:=⟨2,dX,lV sE (xQ [xF 11 6 2,xL 12 11,aD 13,xX 14 7 12 13,xA 15 7 14,cK 6 yT,xS 7 6 15] [6]) (dA [aR 16 6,xL 17 16,aH 18 gK 17,cD 19 18] 19 IH (kK [jK] 0 c_249_l0 c_249_k3))⟩
def c_250_l0:Xv:=dP IB 8 (xD [aQ 11,aE 12,aY 13,xX 14 5 12 13,eP 15 14,xL 16 15,aH 17 rG 16,xO 18 (zD .add (bY 1) 17),aE 19,aY 20,xX 21 5 19 20,xF 22 4 21,xL 23 22,aH 24 rG 23,xB 25 .add 18 24,xB 26 .add 11 25,cU 26]) (aY 9) 10 .add 9 (aM 10)
def c_250_k1:Xv:=tV 27 27
def KR:AFn:=⟨1,[.tmp 2],jY [eE] [eD] [bO] c_250_l0 c_250_k1⟩
def c_251_l0:Xv:=dP IB 8 (xD [aQ 11,aE 12,aY 13,xX 14 5 12 13,eP 15 14,xL 16 15,aH 17 rH 16,xO 18 (zD .add (bY 1) 17),aE 19,aY 20,xX 21 5 19 20,xF 22 4 21,xL 23 22,aH 24 rH 23,xO 25 (zD .add (bY 1) 24),xO 26 (.minmax true [.t 11,.t 18,.t 25]),cU 26]) (aY 9) 10 .add 9 (aM 10)
def c_251_k1:Xv:=tV 27 27
def KS:AFn:=⟨1,[.tmp 2],jY [eE] [eD] [bO] c_251_l0 c_251_k1⟩
def c_252_l0:Xv:=dP IB 8 (dL [aQ 11,aE 12,aY 13,xX 14 5 12 13,xA 15 5 14,xO 16 (.bslice .imm 5 VH [(0,(.t 15))]),mQ 17 5 88 11 16,cU 17] [aQ 18,aE 19,aY 20,xX 21 5 19 20,eP 22 21,xL 23 22,aH 24 nO 23,mQ 25 5 88 18 24,cU 25] (xR [aQ 26,aE 27,aY 28,xX 29 5 27 28,xF 30 4 29,xL 31 30,aH 32 nO 31,mQ 33 5 88 26 32,cU 33])) (aY 9) 10 .add 9 (aM 10)
def c_252_k1:Xv:=tV 34 34
def KT:AFn:=⟨1,[.tmp 2],jY [jC zA] [lY 3 5] [bO] c_252_l0 c_252_k1⟩
def fA:AFn:=⟨3,[.tmp 6],lV [sJ,cT] (xQ [aD 10,bP 11,xX 12 5 10 11,xA 13 5 12,cK 7 EY,xS 5 7 13] [7]) (sH 0 [aR 15 7,xL 16 15,bN 17 .lss 16,xM 18 17,bH 19 18 0 7,aJ 20 18 19,bV 21 18 .gtr 20 3,xW 22 18 21,xM 14 22] 14 [f9 11] (bW [aR 24 7,xL 25 24,xK 26 .eql 25 2,xM 23 26] (zW 23 (jH [dE 28 7,xL 29 28,jJ 30,xO 31 (.build tJ [(0,9,(.t 30))]),aW 32 nS 29 31,xM 27 32,b9 33 27,bA 34 27,cR 33,eJ 34] [bS 35,aP 36 .eql 35,xM 37 36,dZ 38 37 8,eY 39 37 .neq 38 1,xV 40 37 39] (i8 40 [xI 9 10]) (jA (bS 41) (bD 41))) (lX [aS 43 7,xL 44 43,aP 45 .lss 44,xM 46 45,dC 47 46 7,aJ 48 46 47,bH 49 46 5 3,aJ 50 46 49,cL 51 46 50,dU 52 46 .geq 48 51,xW 53 46 52,xM 42 53] 42 [f9 8] (gZ [aD 55,bP 56,aW 57 DW 55 56,xM 54 57] 54 [f9 7] [aR 59 7,xL 60 59,bN 61 .eql 60,xM 62 61,d9 63 62 3 7,cJ 64 62 63,p5 65 62 64,d9 66 62 4 7,cJ 67 62 66,p5 68 62 67,oG 69 62 .add 65 68,eY 70 62 .gtr 69 0,xV 71 62 70,xM 58 71] 58 [f9 5])))) (eN cT))⟩
def c_254_l0:Xv:=dP [xM 22 10,bP 23,xN 24 23,xB 25 .lss 22 24] 25 (dA [bP 28,xM 29 10,xX 30 5 28 29,aR 31 30,xL 32 31,bS 33,xB 34 .leq 32 33] 34 [xI 8 14] (xR [bP 35,xM 36 10,xX 37 5 35 36,aR 38 37,xL 39 38,eJ 39])) (xM 26 10) 27 .add 26 (xM 10 27)
def c_254_l1:Xv:=pC [xM 47 11,bP 48,xN 49 48,xB 50 .lss 47 49] 50 2 3 (kV [jW 53 4,aD 54,bP 55,xM 56 11,xX 57 5 55 56,aS 58 57,cW 59 58,gD 60 wG 53 54 59,xM 12 60] (.block 4 (lX [xM 62 12,aP 63 .neq 62,xM 61 63] 61 [xM 64 12,cR 64] (jI [bP 66,xM 67 11,xO 68 (.slc 5 (.t 66) none (some (.t 67)) none),bP 69,xM 70 11,xX 71 5 69 70,aS 72 71,cW 73 72,aW 74 rS 68 73,xM 65 74] 65 [xI 8 7])))) (xM 51 11) 52 .add 51 (xM 11 52)
def c_254_k2:Xv:=eN wZ
def c_254_k3:Xv:=dA [aQ 40,bS 41,xB 42 .leq 40 41,xM 43 42,bK 44 43 3,bV 45 43 .gtr 44 1073741824,xW 46 43 45] 46 [xI 8 14] (kK [bF 11] 2 c_254_l1 c_254_k2)
def B7:AFn:=⟨4,[.tmp 8],dY [FG 4,wZ] [bP 13,xN 14 13,xF 15 5 4,xL 16 15,aD 17,xX 18 6 16 17,xF 19 5 18,xL 20 19,xB 21 .gtr 14 20] 21 [xI 8 12] (jD [bF 9] (bF 10) c_254_l0 c_254_k3)⟩
def B8:AFn:=⟨3,[.tmp 6],pE IG [jJ 7,aD 8,mV 9,xL 10 9,gD 11 wH 7 8 10,cD 12 11] 12 [f9 8] [jJ 13,aX 14 5,aW 15 rR 13 14,bD 15]⟩
def c_256_l0:Xv:=dP [aF 14,aD 15,xN 16 15,xB 17 .lss 14 16] 17 (jI [aD 20,aF 21,bT 22 20 21,xL 23 22,xN 24 23,eP 25 2,xL 26 25,aF 27,fF 28 26 27,dE 29 28,xL 30 29,xB 31 .neq 24 30] 31 [dD 2]) (aF 18) 19 .add 18 (aO 19)
def c_256_l1:Xv:=pC [bR 38,aD 39,aT 40,bT 41 39 40,xL 42 41,xN 43 42,xB 44 .lss 38 43] 44 4 5 (jI [aD 47,aT 48,bT 49 47 48,xL 50 49,bR 51,bT 52 50 51,xL 53 52,eP 54 2,xL 55 54,aT 56,fF 57 55 56,xA 58 3 57,aH 59 DY 58,aW 60 rU 53 59,cD 61 60] 61 [dD 9]) (bR 45) 46 .add 45 (cM 46)
def c_256_k2:Xv:=xR [aT 36,bN 37 .add 36,bD 37]
def c_256_l3:Xv:=FE [aT 32,aD 33,xN 34 33,xB 35 .lss 32 34] 35 2 (iQ 3 (bW [jK] (zX 4 c_256_l1)) c_256_k2)
def c_256_k4:Xv:=eN bO
def c_256_k5:Xv:=kK [cT] 2 c_256_l3 c_256_k4
def B9:AFn:=⟨2,[.tmp 4],k9 [jZ,bO] [aD 8,xN 9 8,eP 10 2,xL 11 10,xN 12 11,xB 13 .neq 9 12] 13 [dD 2] [d7] 0 c_256_l0 c_256_k5⟩
def jO:AFn:=⟨4,[.cell 8 true 4,.tmp 9,.tmp 10],dY [FG 4,FK 5,xJ 7 3,jB 8 aC aC cO aC,bF 9,bF 10] [bP 14,aP 15 .lss 14,xM 16 15,bK 17 16 2,bH 18 16 5 4,aJ 19 16 18,cL 20 16 19,dU 21 16 .geq 17 20,xW 22 16 21] 22 [cW 23 5,eA 8 23,bF 9,xI 10 8] (bW [jW 24 4,bP 25,cW 26 7,gD 27 wG 24 25 26,xM 11 27] (sH 0 [xM 29 11,aP 30 .neq 29,xM 28 30] 28 [cW 31 5,xM 32 11,eA 8 31,bF 9,xM 10 32] (kV [mV 34,xL 35 34,bP 36,bT 37 35 36,xL 38 37,cW 39 7,aW 40 rS 38 39,xM 33 40] (ME 33 [cW 41 5,eA 8 41,bF 9,xI 10 7] (jI [mV 43,xL 44 43,bP 45,bT 46 44 45,xL 47 46,xN 48 47,xF 49 5 4,xL 50 49,bP 51,xX 52 6 50 51,xF 53 5 52,xL 54 53,xB 55 .geq 48 54,xM 56 55,dC 57 56 5,aJ 58 56 57,bK 59 56 2,oE 60 56 1 58 59,aJ 61 56 60,bV 62 56 .geq 61 1073741824,xW 63 56 62,xM 42 63] 42 [cW 64 5,eA 8 64,bF 9,xI 10 13]))) (dL [aS 65 5,xL 66 65,bP 67,bT 68 66 67,xL 69 68,xM 12 69] [lY 13 5] (dL [xM 70 13,mV 71,xL 72 71,bP 73,bT 74 72 73,xL 75 74,mQ 76 5 72 70 75,xM 13 76] [xM 77 13,xM 78 12,cW 79 7,xO 80 (.build tK [(0,1,(.t 78)),(1,4,(.t 79))]),xO 81 (.bslice .imm 5 (List.replicate 1 tK) [(0,(.t 80))]),mQ 82 5 72 77 81,xM 13 82] (dG [cW 83 5,bP 84,xM 85 13,xM 86 12,bN 87 .add 86,PX 88 rV (.t 83) (.t 84) (.t 85) (.t 87),xM 89 12,eA 8 88,eJ 89,bF 10])))))⟩
def n9:AFn:=⟨5,[.cell 10 true 4,.tmp 11],dY [FG 5,FK 6,xJ 9 4,jB 10 aC aC cO aC,bF 11] [bP 14,aP 15 .lss 14,xM 16 15,bK 17 16 2,bH 18 16 5 5,aJ 19 16 18,cL 20 16 19,dU 21 16 .geq 17 20,xW 22 16 21,xM 23 22,bH 24 23 0 6,aJ 25 23 24,bK 26 23 2,oE 27 23 1 25 26,aJ 28 23 27,bK 29 23 3,wW 30 23 nT [.t 28,.t 29],bV 31 23 .lss 30 0,xW 32 23 31] 32 [cW 33 6,eA 10 33,xI 11 8] (mC [jW 34 5,bP 35,aX 36 9,gD 37 rI 34 35 36,xM 12 37] (xM 38 12) 39 .neq 38 39 [cW 40 6,xM 41 12,eA 10 40,xM 11 41] (bW [xC 13 zA] (mE [xM 42 13,aR 43 6,xL 44 43,bP 45,bT 46 44 45,xL 47 46,MG 48 .row 5 72 42 47,xM 13 48] [xM 49 13,xM 50 13,aQ 51,aW 52 nT 50 51,aX 53 9,xX 54 5 49 52,aS 55 54,dE 56 55,cA 56 53] (GD [cW 57 6,bP 58,xM 59 13,aS 60 6,xL 61 60,bP 62,bT 63 61 62,xL 64 63,xO 65 (.pcallk rV [.t 57,.t 58,.t 59,.t 64]),eA 10 65,bF 11]))))⟩
def q8:AFn:=⟨4,[.cell 8 true 4,.tmp 9],dY [FG 4,FK 5,jB 8 aC aC cO aC,bF 9] [bP 12,aP 13 .lss 12,xM 14 13,bK 15 14 2,bH 16 14 5 4,aJ 17 14 16,cL 18 14 17,dU 19 14 .geq 15 18,xW 20 14 19,xM 21 20,bH 22 21 0 5,aJ 23 21 22,bK 24 21 2,oE 25 21 1 23 24,aJ 26 21 25,bK 27 21 3,wW 28 21 nT [.t 26,.t 27],bV 29 21 .lss 28 0,xW 30 21 29] 30 [cW 31 5,eA 8 31,xI 9 8] (bW [mV 32,xL 33 32,bP 34,bT 35 33 34,xL 36 35,aQ 37,aW 38 nT 36 37,xM 10 38] (dL [lY 11 5] [xM 39 11,mV 40,xL 41 40,bP 42,bT 43 41 42,xL 44 43,xM 45 10,xO 46 (.slc 5 (.t 44) none (some (.t 45)) none),mQ 47 5 72 39 46,xM 11 47] (mE [xM 48 11,mV 49,xL 50 49,bP 51,bT 52 50 51,xL 53 52,xM 54 10,bN 55 .add 54,xO 56 (.slc 5 (.t 53) (some (.t 55)) none none),mQ 57 5 72 48 56,xM 11 57] [cW 58 5,bP 59,xM 60 11,aS 61 5,xL 62 61,bP 63,bT 64 62 63,xL 65 64,PX 66 rV (.t 58) (.t 59) (.t 60) (.t 65),eA 8 66,bF 9] .ret)))⟩
def q9:AFn:=⟨4,[.cell 8 true 4,.tmp 9],dY [FG 4,FK 5,xJ 7 3,jB 8 aC aC cO aC,bF 9] [bP 12,aP 13 .lss 12,xM 14 13,bK 15 14 2,bH 16 14 5 4,aJ 17 14 16,cL 18 14 17,dU 19 14 .geq 15 18,xW 20 14 19] 20 [cW 21 5,eA 8 21,xI 9 8] (mC [jW 22 4,bP 23,aX 24 7,gD 25 rI 22 23 24,xM 10 25] (xM 26 10) 27 .neq 26 27 [cW 28 5,xM 29 10,eA 8 28,eJ 29] (bW [mV 30,xL 31 30,aS 32 5,xL 33 32,eP 34 5,xL 35 34,xO 36 (.build mL [(0,1,(.t 31)),(1,1,(.t 33)),(3,1,(.t 35))]),jB 11 aC aC cO aC,eA 11 36] (dL [dE 37 11,xL 38 37,dE 39 5,xL 40 39,MG 41 .row 2 32 38 40,dE 42 11,cQ 42 41] [dE 43 11,xL 44 43,bP 45,aX 46 7,dI 47 44 45,cA 47 46] (dG [cW 48 11,eA 8 48,bF 9]))))⟩
def c_261_l0:Xv:=fE [xB 8 .lss 7 6] 8 0 1 (lZ [bT 9 5 7,xL 10 9,aM 10] [aY 11,bN 12 .lss 11,xM 13 12,bK 14 13 4,bV 15 13 .gtr 14 32,xW 16 13 15] 16 [fH]) 17 .add 7 7 17
def c_261_k1:Xv:=tS 2
def uL:AFn:=⟨1,[.tmp 2],mA [fH] [aE 5,xN 6 5,jK] c_261_l0 c_261_k1⟩
def KU:AFn:=⟨2,[.tmp 4],dL [jZ,fG] [eX 8,aD 9,aW 10 qX 8 9,cM 10,b9 11 7,bA 12 7,aO 11,bD 12] W5⟩
def BA:AFn:=⟨2,[.tmp 4],mB fG [aD 5,xO 6 W9,aH 7 nP 6,bR 8,p7 9 8,dZ 10 8 1,jX 11 8 gL [.t 10],oG 12 8 .leq 9 11,xV 13 8 12,aM 13]⟩
def uM:AFn:=⟨2,[.tmp 4],mE sD [eX 6,dB 7,xL 8 7,aW 9 E0 6 8,fO 10,xL 11 10,aW 12 DZ 9 11,xO 13 (.fld false 1 1 (.t 12)),aO 13] (dA [aF 14,aH 15 gL 14,tX 16 .eql 15 gE] 16 [bO] (oZ 17 17))⟩
def c_265_l0:Xv:=fE yY 14 0 1 (lZ [xM 15 13,bD 15] [aT 16,aD 17,aW 18 E2 16 17,aE 19,xB 20 .eql 18 19] 20 [aT 21,aM 21,mP 5]) 22 .add 13 13 22
def c_265_k1:Xv:=A3 (sG 5)
def BB:AFn:=⟨2,dX,k9 FB [aD 7,xO 8 (.bslice .imm 1 kJ [(0,(.t 7))]),aH 9 nP 8,cD 10 9] 10 FB [aD 11,bN 12 .add 11,bF 13] 0 c_265_l0 c_265_k1⟩
def KV:AFn:=⟨1,[.tmp 2],mB fH V3⟩
def c_267_l0:Xv:=FE [aF 6,aE 7,xO 8 (A2 7),xB 9 .lss 6 8,bS 10,dZ 11 10 1,p7 12 10,dZ 13 10 5,gN 14 10 (.idxs (.t 12) (.t 13)),gN 15 10 (ydq 11 [.t 14]),xV 16 10 15] 16 0 (.block 1 (xR [aF 17,bN 18 .add 17,aO 18]))
def c_267_k1:Xv:=oZ 19 19
def KW:AFn:=⟨2,[.tmp 4],dL [bO] [d7] (iQ 0 (.loop c_267_l0) c_267_k1)⟩
def KY:AFn:=⟨1,[.tmp 2],mB fH [sX,aH 4 w7 3,aO 4,mW 6 5,wW 7 5 DR [.t 6],xW 8 5 7,bC 9,mW 10 9,Z6 11 9 .eql 10 (MJ 95),xW 12 9 11,dM 12]⟩
def KZ:AFn:=⟨1,[.tmp 2],mB fH VE⟩
def c_270_l0:Xv:=fE F7 9 0 1 V7 18 .add 8 8 18
def c_270_k1:Xv:=eN oY
def L0:AFn:=⟨2,[.tmp 4],mA [bO] F6 c_270_l0 c_270_k1⟩
def L1:AFn:=⟨2,[.tmp 4],mB fG [aE 5,aD 6,aW 7 E3 5 6,aP 8 .geq 7,aM 8]⟩
def L3:AFn:=⟨2,[.tmp 3],iT [jZ,sG 3] [oJ 4,xL 5 4,kN 6,xL 7 6,xB 8 .eql 5 7,bC 3]⟩
def iB:AFn:=⟨2,dX,bW [jZ,FL,bO,sG 5] V1⟩
def uN:AFn:=⟨3,[.tmp 6],iU sJ cT (dY [aD 10,dB 11,xA 12 10 11,aW 13 rM 10 12,eJ 13,b9 14 9,bA 15 9,cM 14,cR 15] [bC 16,aP 17 .eql 16,xM 18 17,dZ 19 18 7,dZ 20 18 2,oG 21 18 .neq 19 20,xV 22 18 21] 22 [f9 10] (jA (bC 23) (bD 23)))⟩
def qA:AFn:=⟨2,dX,dY [FL,bO,d7] [aE 7,xN 8 7,xK 9 .gtr 8 24] 9 [bO,gO 12] (bW [xA 11 10 3,aE 12,Z9 13 wI 11 12 (bY 0),xM 10 13,b9 14 10,bA 15 10,xE 16 2 10,aM 14,bD 15,aO 16] (iQ 0 (gZ [aF 18,aP 19 .neq 18,xM 17 19] 17 [aF 20,bO,aO 20] [aT 22,aE 23,xN 24 23,xB 25 .lss 22 24,xM 21 25] 21 [bO,gO 4]) (dG [aY 26,aM 26,d7])))⟩
def nA:AFn:=⟨3,[.tmp 6],mE IG [jJ 8,xF 9 6 3,xL 10 9,aD 11,xX 12 7 10 11,eP 13 12,aX 14 13,aW 15 nQ 8 14,cM 15] (sH 0 [mV 17,xL 18 17,bR 19,aW 20 lH 18 19,cD 21 20,xM 22 21,dC 23 22 5,aJ 24 22 23,bK 25 22 7,wW 26 22 lH [.t 24,.t 25],zE 27 22 26,xW 28 22 27,xM 16 28] 16 [f9 9] (gZ [mV 30,xL 31 30,aS 32 5,xL 33 32,xB 34 .andNot 31 33,tX 35 .neq 34 gE,xM 29 35] 29 [f9 5] [jJ 37,aD 38,dE 39 5,xL 40 39,gD 41 wA 37 38 40,cD 42 41,xM 36 42] 36 [f9 14]) (eN cT))⟩
def qB:AFn:=⟨3,[.tmp 6],tT [sJ,p8] [bP 7] 0 (iQ 2 (.block 1 (.seq (eH [xK 9 .eql 7 (-1),bS 8] (iS 8 (.exit 1)) (zY (xK 11 .eql 7 (-2)) 10 11 (iS 10 (.exit 2)))) (.exit 0))) (.seq (tS 6) (.exit 0))) (dG [bP 12,aD 13,xB 14 .gtr 12 13,xM 15 14,dZ 16 15 2,d9 17 15 6 3,cJ 18 15 17,p5 19 15 18,oG 20 15 .lss 16 19,xV 21 15 20,bD 21])⟩
def L4:AFn:=⟨2,[.tmp 3],dL [jZ,sG 3] [xL 4 1,bN 5 .add 4,cQ 1 5] (tS 3)⟩
def c_279_l0:Xv:=fE F7 9 0 1 V7 18 .add 8 8 18
def c_279_k1:Xv:=eN oY
def L5:AFn:=⟨2,[.tmp 4],mA [bO] F6 c_279_l0 c_279_k1⟩
def iC:AFn:=⟨2,dX,bW [jZ,FL,bO,sG 5] V1⟩
def uO:AFn:=⟨3,[.tmp 6],iU (FK 4) cT (dY [aE 10,xA 11 10 4,aW 12 nS 10 11,eJ 12,b9 13 9,bA 14 9,cM 13,cR 14] [bC 15,aP 16 .eql 15,xM 17 16,dZ 18 17 7,dZ 19 17 2,oG 20 17 .neq 18 19,xV 21 17 20] 21 [f9 10] (jA (bC 22) (bD 22)))⟩
def qC:AFn:=⟨2,dX,dY [FL,bO,d7] [aE 9,xN 10 9,xK 11 .gtr 10 24] 11 [bO,gO 12] (bW [aE 13,xA 14 10 3,ydx 15 rW 13 (bY 0) (.t 14),xM 12 15,b9 16 12,bA 17 12,xE 18 2 12,bD 16,cM 17,cR 18] (iQ 0 (gZ [bC 20,aP 21 .neq 20,xM 19 21] 19 [bC 22,bO,aO 22] [bR 24,aE 25,xN 26 25,xB 27 .lss 24 26,xM 23 27] 23 [bO,gO 4]) (dG [aT 28,aM 28,d7])))⟩
def eQ:AFn:=⟨2,[.tmp 4],mT jZ FL bO V0⟩
def c_284_l0:Xv:=dP PG 9 (lW [aE 12,aF 13,bT 14 12 13,xL 15 14,aD 16,xB 17 .eql 15 16] 17 [aF 18,aM 18]) (aF 10) 11 .add 10 (aO 11)
def c_284_k1:Xv:=eN oY
def L6:AFn:=⟨2,[.tmp 4],jD [bO] d7 c_284_l0 c_284_k1⟩
def c_285_l0:Xv:=dP [aT 31,aF 32,xN 33 32,xB 34 .lss 31 33] 34 (jI [fO 37,xL 38 37,aT 39,bT 40 38 39,xL 41 40,aF 42,aT 43,dI 44 42 43,aS 45 44,xL 46 45,aW 47 rX 41 46,cD 48 47] 48 [dD 9]) (aT 35) 36 .add 35 (bD 36)
def c_285_k1:Xv:=eN bO
def qD:AFn:=⟨2,[.tmp 4],dY sD [dB 7,xL 8 7,aP 9 .lss 8,bS 10,bH 11 10 0 3,aJ 12 10 11,bH 13 10 4 2,aJ 14 10 13,cL 15 10 14,dU 16 10 .geq 12 15,xW 17 10 16] 17 [dD 8] (k9 [xF 18 4 2,xL 19 18,dB 20,xL 21 20,fF 22 19 21,aS 23 22,xL 24 23,aO 24] [fO 25,xL 26 25,xN 27 26,aF 28,xN 29 28,xB 30 .neq 27 29] 30 [dD 2] [cT] 0 c_285_l0 c_285_k1)⟩
def eR:AFn:=⟨2,[.tmp 4],mT jZ FL bO V0⟩
def c_287_l0:Xv:=dP [bC 19,xF 20 5 6,xL 21 20,xN 22 21,xB 23 .lss 19 22] 23 (tQ [xF 26 5 6,xL 27 26,bC 28,fF 29 27 28,xA 30 3 29,cK 9 [gE,gE,bM],xS 3 9 30] [9] (dA [aR 31 9,xL 32 31,bR 33,aW 34 rU 32 33,cD 35 34,xM 36 35,dC 37 36 9,aJ 38 36 37,bK 39 36 7,wW 40 36 rU [.t 38,.t 39],zE 41 36 40,xW 42 36 41] 42 [bC 43,aM 43,gO 9] (dA [aR 44 9,xL 45 44,aS 46 9,xL 47 46,xB 48 .and 45 47,aR 49 9,xL 50 49,xB 51 .neq 48 50] 51 [bC 52,aM 52,gO 5] (lW [eX 53,aD 54,dE 55 9,xL 56 55,gD 57 wF 53 54 56,cD 58 57] 58 [bC 59,aM 59,gO 14])))) (bC 24) 25 .add 24 (cR 25)
def c_287_k1:Xv:=jA oY d7
def L7:AFn:=⟨2,dX,lV sE (xQ [xF 10 6 2,xL 11 10,aD 12,xX 13 7 11 12,xA 14 7 13,cK 6 yT,xS 7 6 14] [6]) (jD [eX 15,eP 16 6,aX 17 16,aW 18 wD 15 17,cM 18] wZ c_287_l0 c_287_k1)⟩
def qE:AFn:=⟨3,[.tmp 6],iT [sJ,p8] [bP 7,xK 8 .eql 7 (-1),bC 9,bK 10 9 2,bV 11 9 .eql 10 (-2),xW 12 9 11,xM 13 12,bK 14 13 2,bK 15 13 1,dU 16 13 .gtr 14 15,bK 17 13 16,dZ 18 17 2,d9 19 17 6 3,cJ 20 17 19,p5 21 17 20,oG 22 17 .lss 18 21,eM 23 13 (.pick (.t 17) (.t 22) (.c WH)),xW 24 13 23,bD 24]⟩
def c_289_l0:Xv:=dP [aF 6,aD 7,xB 8 .lss 6 7] 8 (jI [aE 11,aF 12,xX 13 5 11 12,xA 14 5 13,aH 15 E4 14,xM 16 15,p7 17 16,dZ 18 16 5,gN 19 16 (Q0 5 17 18),jL 20 16 19,cJ 21 16 20,p7 22 16,dZ 23 16 1,gN 24 16 (Q0 5 22 23),jL 25 16 24,cJ 26 16 25,oG 27 16 .eql 21 26,xV 28 16 27] 28 [mP 4]) (aF 9) 10 .add 9 (aO 10)
def c_289_k1:Xv:=eN fG
def L8:AFn:=⟨2,[.tmp 4],jD [fG] d7 c_289_l0 c_289_k1⟩
def c_290_l0:Xv:=dP [xM 29 10,bS 30,xN 31 30,xB 32 .lss 29 31] 32 (kV [mV 35,xL 36 35,xM 37 10,dI 38 36 37,aX 39 38,bS 40,xM 41 10,bT 42 40 41,xL 43 42,xF 44 5 3,xL 45 44,aD 46,xX 47 6 45 46,aS 48 47,xL 49 48,xM 50 10,fF 51 49 50,dE 52 51,xL 53 52,gD 54 E5 39 43 53,cR 54] (pI (bC 55) 56 .neq 55 56 [bC 57,bD 57])) (xM 33 10) 34 .add 33 (xM 10 34)
def c_290_k1:Xv:=sH 2 [aS 59 5,xL 60 59,aP 61 .lss 60,xM 62 61,dC 63 62 5,aJ 64 62 63,bV 65 62 .gtr 64 255,xW 66 62 65,xM 58 66] 58 [f9 9] (gZ [aS 68 5,xL 69 68,aP 70 .gtr 69,xM 71 70,zF 72 71 9 3,dZ 73 71 1,jX 74 71 E6 [.t 72,.t 73],eY 75 71 .neq 74 3,xV 76 71 75,xM 67 76] 67 [f9 11] [jJ 78,aD 79,dE 80 5,aR 81 80,xL 82 81,gD 83 wH 78 79 82,cD 84 83,xM 77 84] 77 [f9 8]) (dG [jJ 85,dE 86 5,aX 87 86,aW 88 rR 85 87,bD 88])
def uP:AFn:=⟨3,[.tmp 6],mT sJ (xJ 5 2) cT (mC [jJ 12,aD 13,aW 14 rA 12 13,xM 11 14,b9 15 11,bA 16 11,cM 15,cR 16] (bC 17) 18 .neq 17 18 [bC 19,bD 19] (k9 [jJ 20,aD 21,aW 22 wJ 20 21,eJ 22] [mV 23,xL 24 23,xN 25 24,bS 26,xN 27 26,xB 28 .neq 25 27] 28 [f9 2] [bF 10] 0 c_290_l0 c_290_k1))⟩
def c_291_l0:Xv:=dP PG 9 (jI [aE 12,aF 13,xX 14 5 12 13,aS 15 14,cW 16 15,cW 17 3,aW 18 vA 16 17] 18 [mP 4]) (aF 10) 11 .add 10 (aO 11)
def c_291_k1:Xv:=eN fG
def L9:AFn:=⟨2,[.tmp 4],jD [FL,fG] d7 c_291_l0 c_291_k1⟩
def BC:AFn:=⟨3,[.tmp 6],iT [sJ,p8] [jJ 7,aD 8,aW 9 wK 7 8,bS 10,d9 11 10 5 3,cJ 12 10 11,dZ 13 10 1,gN 14 10 (Q0 6 12 13),d9 15 10 2 14,cJ 16 10 15,dZ 17 10 2,jX 18 10 rQ [.t 16,.t 17],eY 19 10 .geq 18 0,xV 20 10 19,bD 20]⟩
def c_293_l0:Xv:=dP [aT 7,aD 8,xB 9 .lss 7 8] 9 (xR [aF 12,xO 13 (zD .mul (FM 2) 12),aO 13]) (aT 10) 11 .add 10 (bD 11)
def c_293_k1:Xv:=dG [aE 14,PZ 15 .u64 14,aF 16,xB 17 .lss 15 16,aM 17]
def LA:AFn:=⟨2,[.tmp 4],jY [fG] [xC 5 (.int .u64 1)] [cT] c_293_l0 c_293_k1⟩
def uQ:AFn:=⟨1,[.tmp 2],pE [eZ,eE] [cV 3,xL 4 3,bN 5 .lss 4,aF 6,dC 7 6 1,aJ 8 6 7,bV 9 6 .gtr 8 32,xW 10 6 9] 10 [eE] [cV 11,xL 12 11,dM 12]⟩
def c_295_l0:Xv:=dP [xM 16 10,aR 17 4,xL 18 17,xN 19 18,xB 20 .lss 16 19] 20 (mT (xM 23 10) (aD 24) (xB 25 .eql 23 24) (zW 25 (bW [aR 26 9,xL 27 26,bP 28,xO 29 (.bslice .imm 1 IA [(0,(.t 28))]),eO 30 24 27 29,aR 31 9,cQ 31 30] (xR [aS 32 9,xL 33 32,aQ 34,xO 35 W7,eO 36 8 33 35,aS 37 9,cQ 37 36])) (kV [aR 38 9,xL 39 38,aR 40 4,xL 41 40,xM 42 10,bT 43 41 42,xL 44 43,xO 45 (.bslice .imm 1 IA [(0,(.t 44))]),eO 46 24 39 45,aR 47 9,cQ 47 46] (xD [aS 48 9,xL 49 48,aS 50 4,xL 51 50,xM 52 10,bT 53 51 52,xL 54 53,xO 55 (.bslice .imm 1 kJ [(0,(.t 54))]),eO 56 8 49 55,aS 57 9,cQ 57 56])))) (xM 21 10) 22 .add 21 (xM 10 22)
def c_295_k1:Xv:=jA (cW 58 9) (eA 8 58)
def LB:AFn:=⟨4,[.cell 8 true 4],iU (FG 4) (jB 8 aC aC cO aC) (jD [dE 11 4,xL 12 11,eP 13 4,xL 14 13,xO 15 (.build mL [(2,1,(.t 12)),(3,1,(.t 14))]),jB 9 aC aC cO aC,eA 9 15] (bF 10) c_295_l0 c_295_k1)⟩
def c_296_l0:Xv:=dP PG 9 (lW [aE 12,aF 13,xX 14 5 12 13,aR 15 14,xL 16 15,aD 17,xB 18 .eql 16 17] 18 [aF 19,aM 19]) (aF 10) 11 .add 10 (aO 11)
def c_296_k1:Xv:=eN oY
def LC:AFn:=⟨2,[.tmp 4],jD [bO] d7 c_296_l0 c_296_k1⟩
def uR:AFn:=⟨2,[.cell 4 true 2],bW [mF 4 (.str [])] (pE [mF 5 (.str [])] VB 13 [aX 14 5,cA 4 14] VS)⟩
def uS:AFn:=⟨2,[.tmp 4],pE [jZ,oI cO] [aD 5,xK 6 .eql 5 (-1)] 6 [dE 7 2,xL 8 7,aM 8] [oH 9,xL 10 9,aD 11,aW 12 E7 10 11,xO 13 (.fld false 1 1 (.t 12)),aM 13]⟩
def LD:AFn:=⟨2,[.tmp 4],pE [oI gE] [aD 5,xO 6 W9,aH 7 nP 6,cD 8 7] 8 [oI gE] [aD 9,aH 10 gL 9,aD 11,aH 12 gL 11,aE 13,xO 14 (.minmax true [.t 13,.c lU]),aD 15,xO 16 (.minmax false [.t 14,.t 15]),xB 17 .shr 12 16,xB 18 .andNot 10 17,aM 18]⟩
def c_300_l0:Xv:=fE F7 9 0 1 (lZ [bC 10,aO 10] [aD 11,aE 12,aF 13,dI 14 12 13,aX 15 14,wX 16 11 [.t 15]] 16 [aF 17,aM 17]) 18 .add 8 8 18
def c_300_k1:Xv:=eN oY
def LE:AFn:=⟨2,[.tmp 4],mA [bO] F6 c_300_l0 c_300_k1⟩
def c_301_l0:Xv:=fE [xB 45 .lss 44 43] 45 1 2 (zY (xM 46 44) 11 46 (lZ [xM 48 11,xA 49 10 3,aD 50,bR 51,gD 52 wI 49 50 51,xM 47 52,b9 53 47,bA 54 47,xE 55 2 47,xO 56 (ZB 1 3 10 (.t 48)),cQ 56 53,cM 54,cR 55] [bC 57,aP 58 .neq 57] 58 [bC 59,cT,jK,cR 59])) 60 .add 44 44 60
def c_301_k1:Xv:=kV [aD 62,bP 63,fF 64 62 63,xA 65 3 64,xA 66 3 10,aW 67 E9 65 66,xM 61 67,b9 68 61,bA 69 61,bD 68,cR 69] (dG [aT 70,bR 71,bC 72,bD 70,cM 71,cR 72])
def jP:AFn:=⟨3,[.tmp 6,.tmp 7,.tmp 8],dY [sJ,cT,jK,wZ] [bP 12,aD 13,xN 14 13,xB 15 .geq 12 14] 15 [cT,jK,xI 8 3] (bW [aD 16,bP 17,fF 18 16 17,aR 19 18,xL 20 19,aH 21 wL 20,eJ 21] (sH 0 [bS 23,aP 24 .lss 23,xM 22 24] 22 [cT,jK,xI 8 11] (mT (bS 26) (aP 27 .eql 26) (xM 25 27) (iS 25 (kV [xA 29 10 3,aD 30,bP 31,fF 32 30 31,xA 33 3 32,aW 34 E8 29 33,xM 28 34,b9 35 28,bA 36 28,bD 35,cR 36] (dG [aT 37,bP 38,bN 39 .add 38,bC 40,bD 37,cM 39,cR 40])))) (bW [cK 10 [bM,bM,bM]] (FD [bP 41,bN 42 .add 41,cM 42] [bS 43,bF 44] 1 c_301_l0 c_301_k1))))⟩
def c_302_l0:Xv:=dP [xM 51 14,bS 52,xB 53 .lss 51 52] 53 (mC [aE 57,xM 58 13,xA 59 10 5,gD 60 rW 57 58 59,xM 56 60,b9 61 56,bA 62 56,xE 63 2 56,xM 15 61,xM 16 62,xM 17 63] (xM 64 17) 65 .neq 64 65 [xM 66 16,xM 67 17,cT,cM 66,cR 67] (bW [xM 68 12,xM 69 15,xO 70 (.bslice .imm 1 kJ [(0,(.t 69))]),eO 71 8 68 70,xM 12 71] (xR [xM 72 16,xM 13 72]))) (xM 54 14) 55 .add 54 (xM 14 55)
def c_302_k1:Xv:=iT [aE 74,aD 75,fF 76 74 75,xA 77 3 76,xM 78 12,aW 79 rY 77 78,xM 73 79,b9 80 73,bA 81 73,xM 18 80,xM 19 81] [xM 82 18,xM 83 13,xM 84 19,bD 82,cM 83,cR 84]
def jQ:AFn:=⟨3,[.tmp 6,.tmp 7,.tmp 8],dY [xJ 5 2,cT,jK,wZ] [aD 20,aE 21,xN 22 21,xB 23 .geq 20 22] 23 [aD 24,cT,cM 24,xI 8 3] (mC [aE 25,aD 26,fF 27 25 26,aR 28 27,xL 29 28,aH 30 EA 29,eJ 30] (bS 31) 32 .lss 31 32 [aD 33,cT,cM 33,xI 8 11] (eH [bS 34,aP 35 .eql 34] (iS 35 (kV [aE 37,aD 38,fF 39 37 38,xA 40 3 39,xA 41 10 5,aW 42 EB 40 41,xM 36 42,b9 43 36,bA 44 36,xM 10 43,xM 11 44] (dG [xM 45 10,aD 46,bN 47 .add 46,xM 48 11,bD 45,cM 47,cR 48]))) (jY [lY 12 1] [aD 49,bN 50 .add 49,xM 13 50] [bF 14] c_302_l0 c_302_k1)))⟩
def BD:AFn:=⟨2,[.tmp 4],mB fG [aD 5,aH 6 nU 5,aT 7,p7 8 7,gN 9 7 (Z8 .u64 8),dZ 10 7 1,jX 11 7 nV [.t 10],oG 12 7 .lss 9 11,xV 13 7 12,aM 13]⟩
def BE:AFn:=⟨1,[.tmp 2],iT [eZ,fH] VA⟩
def c_305_l0:Xv:=dP V9 19 (xD [aF 22,eX 23,xF 24 5 2,xL 25 24,aD 26,xX 27 6 25 26,aS 28 27,xL 29 28,aT 30,fF 31 29 30,aR 32 31,aX 33 32,aW 34 wC 23 33,xO 35 W7,eO 36 8 22 35,aO 36]) (aT 20) 21 .add 20 (bD 21)
def c_305_k1:Xv:=oZ 37 37
def LF:AFn:=⟨2,[.tmp 4],dY [jZ,oI aC] VZ 10 oW (jD [lY 5 1] cT c_305_l0 c_305_k1)⟩
def iD:AFn:=⟨3,[.tmp 6],dL [sJ,cT] [fO 10,xL 11 10,aD 12,aW 13 EC 11 12,eJ 13,b9 14 9,bA 15 9,cM 14,cR 15] (sH 0 [dB 17,xL 18 17,aD 19,aW 20 rX 18 19,cD 21 20,xM 22 21,dC 23 22 3,aJ 24 22 23,bK 25 22 1,wW 26 22 rX [.t 24,.t 25],zE 27 22 26,xW 28 22 27,xM 16 28] 16 [f9 9] (lX [dB 30,xL 31 30,fO 32,xL 33 32,xB 34 .and 31 33,dB 35,xL 36 35,xB 37 .neq 34 36,xM 29 37] 29 [f9 5] (jI [bP 39,bN 40 .eql 39,xM 41 40,jL 42 41 3,cJ 43 41 42,dZ 44 41 1,jX 45 41 wM [.t 44],oG 46 41 .neq 43 45,xV 47 41 46,xM 48 47,bK 49 48 2,bV 50 48 .eql 49 2,bK 51 48 50,dZ 52 51 8,gN 53 51 (S0 52),eM 54 48 (.pick (.t 51) (.t 53) (.c WH)),xW 55 48 54,xM 38 55] 38 [f9 11])) (eN cT))⟩
def c_307_l0:Xv:=dP V9 19 (xR [aF 22,xF 23 5 2,xL 24 23,aD 25,xX 26 6 24 25,aS 27 26,xL 28 27,aT 29,fF 30 28 29,dE 31 30,xL 32 31,xO 33 (.minmax true [.t 22,.t 32]),aO 33]) (aT 20) 21 .add 20 (bD 21)
def c_307_k1:Xv:=oZ 34 34
def BF:AFn:=⟨2,[.tmp 4],dY [jZ,bO] VZ 10 [bO] (jD [gO 1] cT c_307_l0 c_307_k1)⟩
def LG:AFn:=⟨2,[.tmp 4],dL [jZ,fG] [eX 8,aD 9,aW 10 rA 8 9,cM 10,b9 11 7,bA 12 7,aO 11,bD 12] W5⟩
def uT:AFn:=⟨2,[.cell 4 true 2],bW [oD 4 (.str []) cO] (pE [oD 5 (.str []) cO] VB 13 [aX 14 5,cA 4 14] VS)⟩
def BG:AFn:=⟨1,[.tmp 2],tT [eE] [sX] 0 (eH [bN 5 .eql 3,aF 4] (A1 4 (iU (xK 6 .eql 3 2) (aM 6) (A1 4 (iU (xK 7 .eql 3 3) (aM 7) (A1 4 (xR [xK 8 .eql 3 4,aM 8])))))) (ME 4 [eE] (eH [xK 10 .eql 3 5,eJ 10] (A1 9 (mX 11 .eql 3 6 9 11 9 .skip (mX 12 .eql 3 7 9 12 9 .skip (xR [xK 13 .eql 3 8,eJ 13])))) (ME 9 [fY 1] (eH [xK 15 .eql 3 9,xM 14 15] (A1 14 (mX 16 .eql 3 10 14 16 14 .skip (mX 17 .eql 3 11 14 17 14 .skip (mX 18 .eql 3 12 14 18 14 .skip (mX 19 .eql 3 13 14 19 14 .skip (mX 20 .eql 3 14 14 20 14 .skip (mX 21 .eql 3 15 14 21 14 .skip (xR [xK 22 .eql 3 16,xM 14 22])))))))) (ME 14 [fY 2] (ZC (xK 24 .eql 3 17) (xM 23 24) 23 [fY 3]))))))) (eN (mS 2))⟩
def eS:AFn:=⟨2,dX,tT F5 [dB 10,xL 11 10] 0 (Q1 (bN 13 .eql 11) 12 13 12 (lV [mU 15,xL 16 15,aH 17 lI 16,xM 14 17,b9 18 14,bA 19 14,bD 18,cM 19] (jI [bR 20,aP 21 .eql 20,xM 22 21,jL 23 22 3,cJ 24 22 23,eY 25 22 .lss 24 0,dZ 26 22 25,dC 27 26 3,aJ 28 26 27,bK 29 26 6,wW 30 26 gL [.t 29],eM 31 26 (Z8 .i64 30),dU 32 26 .gtr 28 31,gN 33 22 (.pick (.t 26) tO (.t 32)),xV 34 22 33] 34 zB) W8) (mX 38 .eql 11 2 37 38 37 (tQ [xA 40 10 2,fO 41,xL 42 41,mU 43,xL 44 43,gD 45 ED 40 42 44,xM 39 45,b9 46 39,bA 47 39,mF 8 (.str []),cA 8 46,eJ 47] [8] (tU [bS 48,cD 49 48] 49 zC [aS 50 8,xL 51 50,aH 52 lI 51,b9 53 52,bA 54 52,aM 53,aO 54])) (zY (xK 56 .eql 11 3) 55 56 (iS 55 (tU [fO 57,xL 58 57,aP 59 .lss 58,xM 60 59,dC 61 60 3,aJ 62 60 61,bH 63 60 9 2,aJ 64 60 63,cL 65 60 64,dU 66 60 .geq 62 65,xW 67 60 66] 67 zC [xF 68 9 2,xL 69 68,fO 70,xL 71 70,dI 72 69 71,aS 73 72,xL 74 73,aH 75 lI 74,b9 76 75,bA 77 75,aM 76,aO 77]))))) (dA [fO 78,xL 79 78,aP 80 .lss 79,xM 81 80,dC 82 81 3,aJ 83 81 82,bH 84 81 0 2,dC 85 81 84,aJ 86 81 85,cL 87 81 86,dU 88 81 .geq 83 87,xW 89 81 88] 89 zC (jA (dD 1) d7))⟩
def cF:AFn:=⟨2,dX,tT F5 [oJ 8,xL 9 8] 0 (eH [xK 11 .eql 9 6,xM 10 11] (A1 10 (xR [xK 12 .eql 9 7,xM 10 12])) (zW 10 (lW [oH 13,xL 14 13,aP 15 .lss 14,xM 16 15,dC 17 16 2,aJ 18 16 17,bV 19 16 .gtr 18 31,xW 20 16 19] 20 zB) (mX 22 .eql 9 8 21 22 21 (dA [oH 23,xL 24 23,aP 25 .lss 24] 25 zB (eH [dE 27 2,xL 28 27,aH 29 lI 28,xM 26 29,b9 30 26,bA 31 26,bD 30,cM 31] (lW [bR 32,aP 33 .neq 32,xM 34 33,dC 35 34 2,aJ 36 34 35,eM 37 34 F4,aJ 38 34 37,bH 39 34 2 2,aJ 40 34 39,dU 41 34 .sub 38 40,dU 42 34 .gtr 36 41,xW 43 34 42] 43 z9) (dG [dE 44 2,xL 45 44,aM 45,d7]))) (lX [xK 47 .eql 9 14,xM 46 47] 46 [xO 48 F4,xL 49 48,xO 50 IF,xL 51 50,xB 52 .add 49 51,aH 53 lI 52,b9 54 53,bA 55 53,aM 54,aO 55] (zY (xK 57 .eql 9 17) 56 57 (iS 56 (tU [xO 58 F4,xL 59 58,bN 60 .neq 59,xM 61 60,eM 62 61 IF,aJ 63 61 62,eM 64 61 (ZB 1 3 3 (bY 2)),aJ 65 61 64,dU 66 61 .neq 63 65,xW 67 61 66] 67 z9 [xO 68 IF,xL 69 68,aM 69,d7]))))))) (dA [oJ 70,xL 71 70,aH 72 wL 71,xK 73 .eql 72 2,xM 74 73,gN 75 74 F4,cJ 76 74 75,gN 77 74 IF,cJ 78 74 77,oG 79 74 .neq 76 78,xV 80 74 79] 80 z9 (tU [oJ 81,xL 82 81,xK 83 .eql 82 15,xM 84 83,bH 85 84 0 2,aJ 86 84 85,bV 87 84 .eql 86 16,xW 88 84 87] 88 [dD 1,d7] [xO 89 F4,xL 90 89,aM 90,d7]))⟩
def lC:AFn:=⟨1,[.tmp 2],bW [eE] (sH 0 [aE 4,bN 5 .geq 4,aF 6,p7 7 6,eY 8 6 .leq 7 4,xV 9 6 8,bS 3] 3 [eE] (lX [aE 11,xK 12 .geq 11 5,xM 13 12,p7 14 13,eY 15 13 .leq 14 8,xV 16 13 15,xM 10 16] 10 [fY 1] (gZ [aE 18,xK 19 .geq 18 9,xM 20 19,p7 21 20,eY 22 20 .leq 21 16,xV 23 20 22,xM 17 23] 17 [fY 2] [aE 25,xK 26 .eql 25 17,xM 24 26] 24 [fY 3])) (eN (mS 2)))⟩
def eT:AFn:=⟨2,dX,tT F5 [oJ 10,xL 11 10] 0 (Q1 (bN 13 .eql 11) 12 13 12 (lV [dE 15 2,xL 16 15,aH 17 nW 16,xM 14 17,b9 18 14,bA 19 14,bD 18,cM 19] (jI [bR 20,aP 21 .eql 20,xM 22 21,jL 23 22 2,cJ 24 22 23,eY 25 22 .lss 24 0,dZ 26 22 25,dC 27 26 2,aJ 28 26 27,bK 29 26 6,wW 30 26 wM [.t 29],eM 31 26 (Z8 .i64 30),dU 32 26 .gtr 28 31,gN 33 22 (.pick (.t 26) tO (.t 32)),xV 34 22 33] 34 zB) W8) (mX 38 .eql 11 2 37 38 37 (pE [dB 40,jW 41 40,oH 42,xL 43 42,dE 44 2,xL 45 44,xO 46 (.build [.int .i64 0,.int .i64 0] [(0,1,(.t 43)),(1,1,(.t 45))]),aW 47 rO 41 46,xM 39 47,b9 48 39,bA 49 39,cR 48,eJ 49] [bS 50,cD 51 50] 51 zC [bC 52,aH 53 nW 52,b9 54 53,bA 55 53,aM 54,aO 55]) (zY (xK 57 .eql 11 3) 56 57 (iS 56 (tU [oH 58,xL 59 58,aP 60 .lss 59,xM 61 60,dC 62 61 2,aJ 63 61 62,bH 64 61 9 3,aJ 65 61 64,cL 66 61 65,dU 67 61 .geq 63 66,xW 68 61 67] 68 zC [xF 69 9 3,xL 70 69,oH 71,xL 72 71,dI 73 70 72,aS 74 73,xL 75 74,aH 76 nW 75,b9 77 76,bA 78 76,aM 77,aO 78]))))) (dA [oH 79,xL 80 79,aP 81 .lss 80,xM 82 81,dC 83 82 2,aJ 84 82 83,bH 85 82 0 3,dC 86 82 85,aJ 87 82 86,cL 88 82 87,dU 89 82 .geq 84 88,xW 90 82 89] 90 zC (jA (dD 1) d7))⟩
def bZ:AFn:=⟨2,dX,tT sE [oJ 6,xL 7 6] 0 (lX [xK 9 .eql 7 5,bS 8] 8 [aD 10,wY 11 1 10 0,xL 12 11,aM 12,d7] (eH [xK 14 .eql 7 6,xM 13 14] (A1 13 (xR [xK 15 .eql 7 7,xM 13 15])) (zW 13 (tU [oH 16,xL 17 16,aP 18 .lss 17,xM 19 18,dC 20 19 2,aJ 21 19 20,bV 22 19 .gtr 21 31,xW 23 19 22] 23 zB [aD 24,wY 25 1 24 0,xL 26 25,aM 26,d7]) (mX 28 .eql 7 8 27 28 27 (sH 1 [oH 30,xL 31 30,aP 32 .lss 31,xM 29 32] 29 zB (jI [dE 34 2,xL 35 34,bN 36 .lss 35,xM 37 36,bH 38 37 2 2,aJ 39 37 38,bV 40 37 .gtr 39 32,xW 41 37 40,xM 42 41,dC 43 42 2,aJ 44 42 43,bK 45 42 1,eM 46 42 (ZA 1 45 0),aJ 47 42 46,bH 48 42 2 2,aJ 49 42 48,dU 50 42 .sub 47 49,dU 51 42 .gtr 44 50,xW 52 42 51,xM 33 52] 33 z9) (dG [dE 53 2,xL 54 53,aM 54,d7])) (mX 56 .eql 7 14 55 56 55 (GD [aD 57,wY 58 1 57 0,xL 59 58,aD 60,wY 61 1 60 1,xL 62 61,xB 63 .add 59 62,aH 64 nW 63,b9 65 64,bA 66 64,aM 65,aO 66]) (zY (xK 68 .eql 7 17) 67 68 (iS 67 (.seq (jI [aD 69,wY 70 1 69 0,xL 71 70,bN 72 .neq 71,xM 73 72,bK 74 73 1,eM 75 73 (ZA 1 74 1),aJ 76 73 75,bK 77 73 1,eM 78 73 (ZA 1 77 2),aJ 79 73 78,dU 80 73 .neq 76 79,xW 81 73 80] 81 z9) (dG [aD 82,wY 83 1 82 1,xL 84 83,aM 84,d7]))))))))) (iQ 2 (kV [aD 86,wY 87 1 86 0,xL 88 87,aD 89,wY 90 1 89 1,xL 91 90,xB 92 .neq 88 91,xM 85 92] (ME 85 z9 (lW [oJ 94,xL 95 94,xK 96 .eql 95 15,xM 97 96,bH 98 97 0 2,aJ 99 97 98,bV 100 97 .eql 99 16,xW 101 97 100,xM 93 101] 93 [dD 1,d7]))) (dG [aD 102,wY 103 1 102 0,xL 104 103,aM 104,d7]))⟩
def uU:AFn:=⟨1,[.tmp 2],mB fH [sX,bN 4 .geq 3,aO 4,p7 6 5,eY 7 5 .leq 6 32,xV 8 5 7,bC 2]⟩
def c_317_l0:Xv:=dP [aO 4,pF,xB 7 .lss 5 6] 7 (xR [aQ 10,xO 11 (zD .mul (FM 2) 10),cU 11]) (aY 8) 9 .add 8 (aM 9)
def c_317_k1:Xv:=tV 12 12
def LH:AFn:=⟨1,[.tmp 2],jY [jC (.int .u64 0)] [xC 3 (.int .u64 1)] [bO] c_317_l0 c_317_k1⟩
def c_318_l0:Xv:=dP [aT 7,aD 8,xB 9 .leq 7 8,bS 10,dZ 11 10 1,jX 12 10 nU [.t 11],xV 13 10 12] 13 (lW [aT 16,aD 17,aW 18 EE 16 17,aE 19,xB 20 .eql 18 19] 20 [aT 21,aM 21,mP 5]) (aT 14) 15 .add 14 (bD 15)
def c_318_k1:Xv:=A3 (sG 5)
def BH:AFn:=⟨2,dX,jD FB cT c_318_l0 c_318_k1⟩
def BI:AFn:=⟨1,[.tmp 2],pE [jC gE] [sX,aH 4 nU 3,cD 5 4] 5 [jC gE] [pF,aH 7 nV 6,zZ 8 .sub 7 (FM 1),FN 9 8,bS 2]⟩
def uV:AFn:=⟨1,sC,pE [eE,eD] VM 9 [eE,xI 3 10] [aE 10,dM 10,eD]⟩
def iE:AFn:=⟨3,[.cell 6 true 2,.tmp 7],mT sJ (mF 6 (.str [])) (sG 7) (jH [dB 9,dE 10 9,xL 11 10,cR 11] [aD 12,xK 13 .neq 12 (-1)] (iS 13 (dA [aD 14,aP 15 .lss 14,xM 16 15,bK 17 16 1,bH 18 16 0 3,dC 19 16 18,aJ 20 16 19,cL 21 16 20,dU 22 16 .geq 17 21,xW 23 16 22] 23 [xO 24 (.build yU []),cA 6 24,sG 7] (xR [dB 25,aS 26 25,xL 27 26,aD 28,dI 29 27 28,aS 30 29,xL 31 30,cR 31]))) (tU [bP 32,aP 33 .lss 32,xM 34 33,bK 35 34 2,bK 36 34 8,cL 37 34 36,dU 38 34 .geq 35 37,xW 39 34 38] 39 [xO 40 (.build yU []),cA 6 40,sG 7] [bC 41,bP 42,dI 43 41 42,aX 44 43,cA 6 44,mP 7]))⟩
def uW:AFn:=⟨1,sC,pE [eE,eD] VM 9 [eE,xI 3 10] [aE 10,dM 10,eD]⟩
def LI:AFn:=⟨2,[.tmp 4],dY [oI gE] [aD 5,aH 6 nU 5,cD 7 6] 7 [oI gE] (iT [FJ,xO 9 (.minmax true [.t 8,.c lU]),aD 10,xO 11 (.minmax false [.t 9,.t 10]),xM 0 11] [aD 12,aH 13 nV 12,aD 14,aE 15,xB 16 .sub 14 15,aH 17 nV 16,xB 18 .sub 13 17,FN 19 18,aM 19])⟩
def tabL:List (Nat×AFn):=[(Zd,N7),
  (NG,GI),
  (CD,MR),
  (NH,GJ),
  (GO,SB),
  (GP,SC),
  (NJ,B3),
  (NK,MS),
  (NL,MT),
  (NM,MU),
  (NN,SD),
  (DX,MV),
  (GQ,MW),
  (GR,SE),
  (NO,BJ),
  (yA,SF),
  (t9,MX),
  (EG,SG),
  (GS,xU),
  (GU,SH),
  (NP,jF),
  (NQ,MY),
  (GV,SI),
  (GW,SJ),
  (GX,SK),
  (GY,SL),
  (NS,xY),
  (GZ,kD),
  (EH,oK),
  (NT,SN),
  (NU,MZ),
  (H6,SO),
  (NV,N6),
  (H7,GK),
  (H8,BK),
  (H9,N8),
  (NW,N9),
  (yB,SP),
  (NX,NA),
  (NY,NB),
  (yC,NC),
  (NZ,ND),
  (yD,SQ),
  (HA,NE),
  (O6,SR),
  (tA,SS),
  (O7,xZ),
  (yE,ST),
  (EI,SU),
  (yF,BL),
  (oL,SW),
  (EJ,t6),
  (HB,NF),
  (HC,GL),
  (O8,GM),
  (O9,t7),
  (BM,IQ),
  (BN,A7),
  (BO,IR),
  (BP,pL),
  (uX,IU),
  (nB,IV),
  (uY,IW),
  (nC,IX),
  (uZ,IY),
  (nD,IZ),
  (v5,J0),
  (nE,J1),
  (nG,J2),
  (nH,J3),
  (nI,A8),
  (BR,uA),
  (BS,pM),
  (BT,pN),
  (dJ,gG),
  (iF,A9),
  (v6,kZ),
  (qG,J4),
  (qH,J5),
  (jR,J6),
  (qI,AA),
  (fB,AB),
  (nJ,J7),
  (BU,l7),
  (BW,J8),
  (BZ,AC),
  (C0,J9),
  (C1,JA),
  (C2,JB),
  (C3,pO),
  (qJ,JC),
  (C4,uB),
  (qK,JD),
  (v7,JE),
  (C5,l8),
  (C6,pP),
  (v8,JF),
  (dT,gH),
  (C7,gI),
  (C8,AD),
  (nK,AE),
  (v9,JG),
  (vA,uC),
  (C9,AF),
  (CA,AG),
  (qM,JH),
  (qN,uD),
  (qO,AJ),
  (CB,JI),
  (qP,AK),
  (vB,uE),
  (nL,AL),
  (lD,JJ),
  (nM,uF),
  (vC,JK),
  (qQ,AM),
  (CC,AN),
  (bL,AP),
  (d8,JL),
  (vD,JM),
  (vE,JN),
  (qR,JO),
  (CE,pQ),
  (lE,JP),
  (vF,JQ),
  (qS,JR),
  (CF,JS),
  (vG,JT),
  (qU,JU),
  (CG,mY),
  (vI,JV),
  (qV,JW),
  (CH,pR),
  (vJ,JX),
  (qW,JY),
  (qX,fP),
  (CI,uG),
  (CK,l9),
  (CL,AR),
  (vK,JZ),
  (nN,K0),
  (lF,K1),
  (qZ,K2),
  (r9,K3),
  (gK,pS),
  (cN,K4),
  (CO,pU),
  (CP,pV),
  (CQ,lA),
  (CR,jN),
  (rA,fQ),
  (CS,uH),
  (CT,uI),
  (CU,AS),
  (CV,mZ),
  (CW,n7),
  (rB,K5),
  (rC,AU),
  (cG,uJ),
  (rD,K6),
  (CX,K7),
  (CY,AW),
  (vL,K8),
  (lG,K9),
  (CZ,KA),
  (gL,AY),
  (vN,AZ),
  (rE,pW),
  (vO,KB),
  (D0,iA),
  (D1,B1),
  (vP,B2),
  (gM,pX),
  (vQ,KC),
  (vS,KD),
  (vT,KE),
  (D3,pY),
  (D4,bI),
  (D5,KF),
  (D6,KG),
  (D7,uK),
  (D8,KH),
  (rF,B4),
  (iG,pZ),
  (vU,lB),
  (D9,fR),
  (DA,B5),
  (DB,KI),
  (vV,KJ),
  (DE,KK),
  (DF,KL),
  (vW,KM),
  (DG,bB),
  (DH,KN),
  (DI,KO),
  (DJ,KP),
  (DK,B6),
  (rG,KR),
  (rH,KS),
  (nO,KT),
  (DL,fA),
  (DM,B7),
  (rI,B8),
  (DN,B9),
  (vX,jO),
  (rJ,n9),
  (vY,q8),
  (vZ,q9),
  (nP,uL),
  (w6,KU),
  (lH,BA),
  (nQ,uM),
  (DO,BB),
  (w7,KV),
  (DP,KW),
  (rK,KY),
  (DR,KZ),
  (DS,L0),
  (DT,L1),
  (nR,L3),
  (w9,iB),
  (rL,uN),
  (rM,qA),
  (DU,nA),
  (wA,qB),
  (wB,L4),
  (DV,L5),
  (rO,iC),
  (rP,uO),
  (nS,qC),
  (wC,eQ),
  (rQ,L6),
  (rR,qD),
  (wD,eR),
  (wE,L7),
  (wF,qE),
  (DW,L8),
  (wG,uP),
  (rS,L9),
  (wH,BC),
  (rU,LA),
  (DY,uQ),
  (rV,LB),
  (nT,LC),
  (DZ,uR),
  (E0,uS),
  (E2,LD),
  (E3,LE),
  (wI,jP),
  (rW,jQ),
  (rX,BD),
  (E4,BE),
  (wJ,LF),
  (E5,iD),
  (E6,BF),
  (wK,LG),
  (E7,uT),
  (wL,BG),
  (E8,eS),
  (E9,cF),
  (EA,lC),
  (EB,eT),
  (rY,bZ),
  (nU,uU),
  (nV,LH),
  (EC,BH),
  (wM,BI),
  (lI,uV),
  (ED,iE),
  (nW,uW),
  (EE,LI)]
def tabD:List (Nat×ADFn):=[(GN,dR),
  (EF,dS),
  (GT,eF)]
def tabC:List CloneD:=[⟨NR,1,1,.app⟩,⟨qF,2,24,.app⟩,⟨BQ,3,32,.app⟩,⟨gJ,1,8,.row⟩,⟨qL,1,4,.app⟩,⟨CM,3,24,.app⟩,⟨CN,3,16,.app⟩,⟨qY,3,24,.app⟩,⟨D2,2,8,.app⟩]
def nilL:List (Nat×Nat):=[(SY,9),(SX,13),(SX,17),(EF,9),(GV,6),(H6,3),(H8,6),(H9,6),(uX,5),(uY,5),(uZ,5),(v5,5),(nG,5),(qJ,3),(vE,5),(vF,5),(vG,5),(vI,5),(vJ,5),(vK,5),(vO,5),(vS,3),(nO,3),(vX,13),(vY,11),(rW,12),(wJ,5)]
def thr:List Nat:=[CD,GN,GO,GP,DX,GR,t9,EF,EG,ZD,GS,lJ,GZ,H7,yE,EI,yF,oL,EJ,HB,HC,dJ,iF,v6,qH,fB,nJ,qM,qN,qP,lD,qQ,lF,qZ,r9,iG]
def thrAt:List (Nat×Nat):=[(cG,cG),(rD,cG),(GW,qG),(oL,gJ)]
def thrV:List Nat:=[qH,iG]
def rowAt:List (Nat×Nat):=[(SY,40),(SY,66),(EJ,112),(rJ,48),(vZ,41),(gJ,7)]
def thrVAt:List (Nat×Nat):=[]
def rowF:List Nat:=[oL,yA]
def rowFB:List Nat:=[]
def appAt:List (Nat×Nat):=[(yA,32),(oL,70)]
def immAt:List (Nat×Nat):=[(qJ,27)]
def slcHL:List Nat:=[qQ]
def browAt:List (Nat×Nat):=[(SY,39),(SY,65),(oL,39)]
def boxiAt:List (Nat×Nat):=[(yE,2),(t9,2),(t9,3),(yA,1)]
def takeAt:List (Nat×Nat):=[(rJ,65)]
def boxiL:List (Nat×List Nat):=[(3,[3,4]),(4,[3,4,5]),(5,[2]),(6,[2]),(7,[2]),(8,[3]),(9,[2,3]),(12,[3,4]),(13,[3,4]),(18,[2]),(25,[1]),(28,[3]),(30,[2]),(33,[1]),(53,[1]),(54,[1]),(65,[1]),(66,[1]),(67,[3,4]),(82,[1]),(84,[1]),(85,[1]),(87,[2,3]),(99,[1]),(100,[1]),(101,[1]),(102,[1]),(103,[1]),(118,[1]),(119,[1]),(120,[1]),(131,[1]),(132,[1]),(133,[1]),(134,[1]),(135,[1]),(136,[1]),(137,[1]),(138,[1]),(139,[3,4]),(149,[1]),(152,[5,9]),(153,[2]),(156,[3,5]),(157,[1]),(159,[3,5]),(163,[1]),(170,[1]),(171,[1]),(174,[1]),(177,[1]),(178,[1]),(180,[1]),(181,[2]),(183,[1]),(184,[2]),(185,[1]),(186,[1]),(187,[1]),(198,[1]),(200,[1]),(201,[2]),(202,[2]),(203,[1]),(204,[1]),(205,[1]),(206,[2,3]),(207,[3,4,5]),(215,[2]),(218,[3]),(219,[2,3]),(220,[2]),(221,[3]),(222,[2]),(227,[1]),(229,[1]),(230,[2,3]),(231,[2,3]),(232,[2,3]),(233,[2]),(237,[5]),(238,[3,4]),(239,[1]),(243,[2]),(245,[3,4,5]),(246,[2]),(247,[2,3]),(248,[2,3]),(249,[2]),(253,[3]),(254,[4]),(255,[3,5]),(256,[2]),(257,[4,5,7]),(258,[5,6,9]),(259,[4,5]),(260,[4,5,7]),(262,[2]),(264,[2,3]),(272,[2]),(273,[2,3]),(274,[3]),(275,[3]),(276,[3,5]),(277,[3]),(278,[2]),(280,[2,3]),(281,[4]),(282,[3]),(283,[2,3]),(285,[2,3]),(286,[2,3]),(287,[2]),(288,[3]),(290,[3,5]),(291,[3]),(292,[3]),(294,[1]),(295,[4]),(298,[2]),(301,[3]),(302,[5]),(304,[1]),(305,[2]),(306,[3]),(307,[2]),(308,[2]),(311,[2,3]),(312,[2,3]),(314,[2,3]),(315,[2]),(321,[3])]
def keepL:List (Nat×List (Nat×List Nat)):=[(3,[(3,[7]),(14,[15])]),(4,[(4,[9]),(7,[13]),(8,[17])]),(6,[(11,[13])]),(7,[(4,[8])]),(11,[(1,[1]),(2,[2]),(3,[3]),(4,[7])]),(13,[(1,[8]),(10,[15]),(20,[20]),(30,[25])]),(19,[(1,[1]),(5,[4])]),(21,[(4,[3])]),(25,[(1,[4])]),(26,[(1,[8])]),(30,[(12,[14])]),(33,[(21,[7])]),(37,[(1,[1])]),(38,[(4,[5])]),(44,[(5,[9])]),(67,[(1,[10])]),(84,[(4,[5])]),(87,[(1,[5])]),(92,[(8,[8]),(15,[10])]),(100,[(4,[4])]),(101,[(5,[4]),(12,[6])]),(102,[(4,[4])]),(104,[(4,[7])]),(108,[(4,[7])]),(110,[(4,[7])]),(112,[(4,[7])]),(114,[(4,[7])]),(139,[(10,[12])]),(152,[(6,[13]),(15,[15])]),(154,[(3,[5])]),(159,[(9,[12])]),(169,[(4,[7])]),(171,[(9,[4])]),(173,[(4,[7])]),(176,[(4,[7])]),(179,[(4,[7])]),(181,[(3,[6]),(7,[7]),(10,[9])]),(182,[(4,[7])]),(184,[(3,[6])]),(185,[(8,[7])]),(188,[(4,[7])]),(198,[(11,[5])]),(201,[(3,[6])]),(202,[(3,[6])]),(207,[(5,[9]),(8,[11]),(11,[13])]),(220,[(6,[7])]),(222,[(6,[7])]),(227,[(4,[5])]),(229,[(7,[4])]),(230,[(1,[5])]),(231,[(4,[9])]),(233,[(1,[6]),(16,[10])]),(235,[(6,[5])]),(236,[(3,[6])]),(249,[(1,[6])]),(253,[(1,[7])]),(287,[(1,[6]),(6,[9])]),(311,[(8,[8])])]
def Pe:List (Nat×List Nat):=[(99,[1,2,3,4,5]),(100,[5,6,7]),(101,[1,6,7,8,13]),(102,[5,6,13,14,21,22]),(103,[2,4,6]),(166,[1]),(216,[2])]
def ann:Ann:=
  { pure:=fun fn f _=> !(kH f thr)&& !(thrAt.any fun p=>p.1 == fn&&p.2 == f)
    purev:=fun fn d=> !(kH fn thrV)&& !(match d with | some t=>thrVAt.any (fun q=>q.1 == fn&&q.2 == t) | none=>false),bmode:=fun fn d=>if kH fn rowFB || (match d with | some t=>browAt.any (fun q=>q.1 == fn&&q.2 == t) | none=>false) then .row else .imm,smode:=fun fn d=>match d with | some t=>if immAt.any (fun q=>q.1 == fn&&q.2 == t) then .imm else .row | none=> .row,amode:=fun fn d=>match d with | some t=>if rowAt.any (fun q=>q.1 == fn&&q.2 == t) || (kH fn rowF&& !(appAt.any fun q=>q.1 == fn&&q.2 == t)) then .row else .app | none=> .app
    nilapp:=fun fn d=>match d with | some t=>nilL.any (fun q=>q.1 == fn&&q.2 == t) | none=>false
    slch:=fun fn d=>(kH fn slcHL&&(match d with | some t=>t == 13 || t == 31 | none=>false)) || (match d with | some t=>takeAt.any (fun q=>q.1 == fn&&q.2 == t) | none=>false)
    boxi:=fun fn d=>match d with | some t=>boxiAt.any (fun q=>q.1 == fn&&q.2 == t) || (match look fn boxiL with | some l=>kH t l | none=>false) | none=>false
    keep:=fun fn id=>(look fn keepL).bind (look id)
    split:=fun fn id=>match look fn Pe with | some l=>kH id l | none=>false }
def ktabL:List Nat:=[58,121,56,19,91]
def YW (b:FuncId->Option AFun) (P:Program) (A:Ann) (l:List Nat) (f:FuncId):Option AFun:=match b f with
  | some x=>some x
  | none=>if kH f l then (cFn P A f).map .code else none
def Φ:FuncId->Option AFun:=YW (Z2 tabL tabD tabC) Go.Proofs.Tryz.prog ann ktabL
end
end Go.Av
