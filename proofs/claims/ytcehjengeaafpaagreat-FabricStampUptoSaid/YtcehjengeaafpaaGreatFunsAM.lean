/-
  The functions, the next part.
-/
import Derived.Test.YtcehjengeaafpaaGreatFunsAMb
import Derived.Test.YtcehjengeaafpaaGreatFunsAMc
import Derived.Test.YtcehjengeaafpaaGreatFunsAMd
import Derived.Test.YtcehjengeaafpaaGreatFunsAMe
set_option linter.all false
namespace Go.Av
noncomputable section
def KC:ADFn:=⟨1,[.cell 2 true 4],.seq (xR [xO 1 (.box (.t 0)),xO 2 (.alloc [.int .i64 0,.int .i64 0,.int .i64 0,.int .i64 0])]) (.dfr [⟨some 3,none,.mkfunc (.func 129) [] [.t 2]⟩] 3 (.seq (xR [xA 4 9 1,xO 5 (.pcall 130 [.t 4])]) (.seq (xR [xA 6 9 1,xO 7 (.pcall 131 [.t 6])]) (.seq (xR [xA 8 9 1,xO 9 (.pcall 132 [.t 8])]) (.seq (xR [xA 10 9 1,xO 11 (.pcall 133 [.t 10])]) (.seq (xR [xA 12 9 1,xO 13 (.pcall 134 [.t 12])]) (.seq (xR [xO 14 (.build [.int .i64 0,.int .i64 0,.int .i64 0,.int .i64 0] []),xS 4 2 14]) (.ret)))))))),129,1,(some (4,1)),.seq (.seq (xR [xM 5 1,xO 6 (.eqs false false [] (.t 5) (.c (.niliface)))]) (.cond (.t 6) (.ret) (.skip))) (.seq (.seq (xR [xM 8 1,xO 9 (.tassert 225 true (.agg [.int .i64 0,.int .i64 0,.int .i64 0,.int .i64 0]) (.t 8)),xM 7 9,xE 10 0 7,xE 11 1 7,xO 2 (.alloc [.int .i64 0,.int .i64 0,.int .i64 0,.int .i64 0]),xS 4 2 10,xM 3 11]) (.seq (xR [xM 12 3]) (.cond (.t 12) (.seq (xR [xF 13 0 2,xA 14 4 13,xS 4 0 14]) (.ret)) (.skip)))) (xR [xM 15 1,⟨none,none,.panic (.t 15)⟩]))⟩
def tabL:List (Nat×AFn):=[(9,KD),(10,AQ),(13,E7),(18,rW),(22,qL),(23,E8),(26,AR),(27,oZ),(30,E9),(34,EA),(45,oC),(46,qM),(47,p5),(55,AS),(56,AU),(57,AW),(71,EB),(72,EC),(73,AY),(74,uJ),(75,AZ),(76,ED),(77,uK),(78,EE),(82,EF),(98,EG),(99,B1),(100,rL),(101,rM),(102,rN),(103,nK),(104,vB),(105,nL),(106,vC),(107,jO),(108,nM),(114,dA),(118,pB),(119,vD),(120,rO),(121,nO),(122,vE),(123,pC),(135,vF),(136,vG),(137,vI),(138,vJ),(139,dF),(140,vK),(141,fG),(142,rP),(143,rQ),(144,nP),(145,rR),(146,vL),(165,pD),(166,vM),(167,rS),(168,vN),(169,rT),(170,kA),(171,kB),(172,pE),(173,dI),(176,pG),(177,rU),(178,rV),(179,mE),(180,rX),(181,vO),(182,vP),(183,rY),(184,vQ),(185,vR),(190,vS),(191,vT),(197,vU),(198,fP),(199,rZ),(200,vV),(201,vW),(202,s5),(208,nS),(218,nU),(221,pH),(223,s6),(224,vX),(225,vY),(228,vZ),(229,w6),(230,w8),(231,w9),(232,wA),(233,wB),(234,wC),(235,wD),(236,wE),(237,nV),(238,wF),(239,wG),(240,wH),(241,s7),(242,s8),(263,mF),(264,pI),(265,wI),(266,wJ),(267,pJ),(268,s9),(269,sC),(270,pK),(271,pL),(272,wK),(273,pM),(274,pN),(275,sD),(276,bO),(277,pO),(278,nW),(279,sE),(280,wL),(281,sF),(282,wM),(283,pP),(284,wO),(285,pQ),(286,wP),(287,wQ),(288,wR),(289,wS),(290,wT),(291,wU),(292,wV),(293,nX),(294,cH),(295,wW),(296,wX),(297,sG),(298,pR),(299,sH),(302,cJ),(306,sI),(307,sJ),(308,pS),(309,wY),(310,wZ),(311,xH),(313,nY),(314,aI),(315,pT),(322,xP),(323,xT),(324,xU),(328,xY),(329,xZ),(330,yA),(331,yB),(332,yC),(348,mG),(349,yD),(350,pU),(351,pV),(352,yE),(353,yF),(354,yG),(355,sK),(356,pW),(357,iO),(358,sL),(359,l9),(360,nZ),(361,gJ),(362,yH),(363,sN),(364,o9),(366,yI),(368,yJ),(369,yK),(370,gM),(371,pX),(372,mH),(373,oA),(375,yL),(381,yM),(382,yN),(383,yO),(384,yP),(385,iP),(386,mI),(387,yQ),(388,cN),(389,aS),(390,yR),(391,yS),(392,yT),(393,yU),(394,yV),(395,yW),(396,yX),(397,yY),(398,yZ),(399,z5),(400,z6),(401,z7),(402,z8),(404,sO),(405,sP),(406,pY),(407,gS),(408,z9),(409,zA),(410,zB),(428,zD),(429,sQ),(430,sR)]
def tabD:List (Nat×ADFn):=[(70,KC)]
def tabC:List CloneD:=[⟨96,1,8,.row⟩,⟨97,2,8,.app⟩,⟨147,1,4,.app⟩,⟨226,2,24,.app⟩,⟨227,3,32,.app⟩,⟨325,3,24,.app⟩,⟨326,3,16,.app⟩,⟨327,3,24,.app⟩]
def ktabL:List Nat:=[222,319,316,374,317,174,175,321,320,431,318,58,124,32,31,83,28,29,59,25,61,63,125,126,81,69,79,80,66,67,62,68,127,65,64,128,60,24,217,134,131,130,132,133,211,207,205,216,210,206,213,219,214,209,203,220,204,212,110,186,153,255,161,300,251,335,336,379,112,113,187,189,301,188,115,303,304,192,117,116,193,194,195,305,365,196,21,52,109,54,111,49,50,51,53,48,33,84,148,86,88,149,87,150,85,215,312,367]
def JS (b:FuncId->Option AFun) (P:Program) (A:Ann) (l:List Nat) (f:FuncId):Option AFun:=match b f with
  | some x=>some x
  | none=>if iU f l then (cFn P A f).map .code else none
def Φ:FuncId->Option AFun:=JS (K8 tabL tabD tabC) Go.Proofs.Tryz.prog ann ktabL
end
end Go.Av
