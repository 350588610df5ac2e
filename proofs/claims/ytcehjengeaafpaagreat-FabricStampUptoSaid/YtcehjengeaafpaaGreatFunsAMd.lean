/-
  The functions, the next part.
-/
import Derived.Test.YtcehjengeaafpaaGreatFunsAMa
set_option linter.all false
namespace Go.Av
noncomputable section
set_option maxRecDepth 100000
set_option maxHeartbeats 4000000
def B':AFn:=zK 46
def YO:AFn:=zK 99
def FK:AFn:=zK 101
def YK:AFn:=zK 108
def A':AFn:=zK 119
def ZR:AFn:=zK 137
def ZT:AFn:=zK 140
def K':AFn:=zK 170
def YE:AFn:=zK 230
def YM:AFn:=zK 239
def Bv:AFn:=zK 264
def YZ:AFn:=zK 271
def ZA:AFn:=zK 272
def Z8:AFn:=zK 281
def YV:AFn:=zK 287
def YH:AFn:=zK 323
def YR:AFn:=zK 357
def ZG:AFn:=zK 401
def gW:Xu:=zP B' 303 []
def mR:Xu:=zP B' 63 []
def jF:Xu:=zP YO 75 []
def n7:Xu:=zP YO 15 []
def d9:Xu:=zP FK 75 []
def cA:Xu:=zP FK 151 []
def jN:Xu:=zP FK 31 []
def bI:Xu:=zP YK 75 []
def jQ:Xu:=zP YK 15 []
def dC:Xu:=zP A' 37 []
def jR:Xu:=zP A' 7 []
def dE:Xu:=zP ZR 75 []
def jV:Xu:=zP ZR 15 []
def fF:Xu:=zP ZT 151 []
def jW:Xu:=zP ZT 31 []
def bK:Xu:=zP K' 575 []
def bJ:Xu:=zP K' 255 []
def fV:Xu:=zP YE 75 []
def kO:Xu:=zP YE 15 []
def b9:Xu:=zP YM 75 []
def fY:Xu:=zP YM 15 []
def dQ:Xu:=zP Bv 75 []
def dP:Xu:=zP Bv 15 []
def cG:Xu:=zP YZ 75 []
def g9:Xu:=zP YZ 15 []
def gA:Xu:=zP ZA 75 []
def kT:Xu:=zP ZA 15 []
def dT:Xu:=zP Z8 75 []
def kU:Xu:=zP Z8 15 []
def gB:Xu:=zP YV 75 []
def kW:Xu:=zP YV 15 []
def gH:Xu:=zP YH 75 []
def l7:Xu:=zP YH 15 []
def bC:Xu:=zP YR 1215 []
def dZ:Xu:=zP YR 255 []
def eD:Xu:=zP ZG 37 []
def lO:Xu:=zP ZG 7 []
attribute [local irreducible] gW mR jF n7 d9 cA jN bI jQ dC jR dE jV fF jW bK bJ fV kO b9 fY dQ dP cG g9 gA kT dT kU gB kW gH l7 bC dZ eD lO
def fC:Xu:=zP FK 15 [(151,cA),(31,jN)]
attribute [local irreducible] fC
def KD:AFn:=zK 9
def AR:AFn:=zK 26
def E9:AFn:=zK 30
def qM:AFn:=zR B' [(303,gW),(63,mR)]
def AY:AFn:=zK 73
def jE:Xu:=mO [xB 25 .lss 24 23] (.seq (AF 25 .skip (.exit 0)) (.seq (.block 1 (mO [xM 26 24,xX 27 2 22 24,xA 28 2 27,xO 6 (.alloc [.int .u32 0,.int .u32 0]),xM 5 26,xS 2 6 28] (.seq (xD [xA 29 2 6,xF 30 0 3,xL 31 30,xM 32 5,xX 33 2 31 32,xA 34 2 33,xO 35 (.eqs true true [.i,.i] (.t 29) (.t 34))]) (tD 35 (oV [xC 4 C8]))))) (xR [xK 36 .add 24 1,xM 24 36])))
def pZ:Xu:=oV [xC 4 (.bool true)]
def uK:AFn:=⟨2,[.tmp 4],mO [xO 2 (.box (.t 0)),xO 3 (.box (.t 1)),xC 4 C8] (qX [xF 7 1 2,xL 8 7,xF 9 1 3,xL 10 9,xB 11 .neq 8 10,xM 12 11,p9 13 12 (.faddr 0 (.t 2)),p9 14 12 (.load false 1 (.t 13)),p9 15 12 (.len (.t 14)),p9 16 12 (.faddr 0 (.t 3)),p9 17 12 (.load false 1 (.t 16)),p9 18 12 (.len (.t 17)),p9 19 12 (.bin .neq (.t 15) (.t 18)),xW 20 12 19] (tD 20 (oV [xC 4 C8])) (qX [xF 21 0 2,xL 22 21,xN 23 22,xI 24 0] (.block 0 (.loop jE)) pZ))⟩
def B1:AFn:=zR YO [(75,jF),(15,n7)]
def rM:AFn:=zR FK [(75,d9),(15,fC)]
def nM:AFn:=zR YK [(75,bI),(15,jQ)]
def vD:AFn:=zR A' [(37,dC),(7,jR)]
def rO:AFn:=zK 120
def vI:AFn:=zR ZR [(75,dE),(15,jV)]
def vJ:AFn:=zK 138
def vK:AFn:=zR ZT [(151,fF),(31,jW)]
def fG:AFn:=zK 141
def fI:Xu:=qX [xM 20 5,xF 21 0 2,xL 22 21,xN 23 22,xB 24 .lss 20 23] (AF 24 .skip (.exit 0)) (.seq (.block 1 (.seq (xD [xF 27 0 2,xL 28 27,xM 29 5,xX 30 2 28 29,xA 31 2 30,xF 32 0 3,xL 33 32,xM 34 5,xX 35 2 33 34,xA 36 2 35,xO 37 (.eqs true true [.i,.i] (.t 31) (.t 36))]) (tD 37 (oV [xC 4 C8])))) (xR [xM 25 5,xK 26 .add 25 1,xM 5 26]))
def nQ:Xu:=oV [xC 4 (.bool true)]
def pD:AFn:=⟨2,[.tmp 4],mO [xO 2 (.box (.t 0)),xO 3 (.box (.t 1)),xC 4 C8] (qX [xF 6 0 2,xL 7 6,xN 8 7,xF 9 0 3,xL 10 9,xN 11 10,xB 12 .neq 8 11,xM 13 12,p9 14 13 (.faddr 1 (.t 2)),p9 15 13 (.load false 1 (.t 14)),p9 16 13 (.faddr 1 (.t 3)),p9 17 13 (.load false 1 (.t 16)),p9 18 13 (.bin .neq (.t 15) (.t 17)),xW 19 13 18] (tD 19 (oV [xC 4 C8])) (qX [xI 5 0] (.block 0 (.loop fI)) nQ))⟩
def rS:AFn:=zK 167
def k9:Xu:=qX [xM 12 4,xM 13 0,xN 14 13,xB 15 .lss 12 14] (AF 15 .skip (.exit 0)) (.seq (.block 1 (xR [xM 18 3,xM 19 0,xM 20 4,xX 21 1 19 20,xL 22 21,xO 23 (.minmax true [.t 18,.t 22]),xM 3 23])) (xR [xM 16 4,xK 17 .add 16 1,xM 4 17]))
def nR:Xu:=oV [xM 24 3,xM 2 24]
def vN:AFn:=⟨1,[.tmp 2],mO [xC 2 (.int .u32 0)] (qX [xM 5 0,xN 6 5,xK 7 .lss 6 1] (tD 7 (xR [xO 8 (.mkiface 9 (.c (.str [115,108,105,99,101,115,46,77,97,120,58,32,101,109,112,116,121,32,108,105,115,116]))),⟨none,none,.panic (.t 8)⟩])) (mO [xM 9 0,xO 10 (.iaddr 1 none (.t 9) (.c (.int .i64 0))),xL 11 10,xM 3 11] (qX [xI 4 1] (.block 0 (.loop k9)) nR)))⟩
def rT:AFn:=zK 169
def kA:AFn:=zR K' [(575,bK),(255,bJ)]
def vO:AFn:=zK 181
def vP:AFn:=zK 182
def vQ:AFn:=zK 184
def s5:AFn:=zK 202
def w8:AFn:=zR YE [(75,fV),(15,kO)]
def wB:AFn:=zK 233
def nV:AFn:=zK 237
def wG:AFn:=zR YM [(75,b9),(15,fY)]
def pI:AFn:=zR Bv [(75,dQ),(15,dP)]
def pL:AFn:=zR YZ [(75,cG),(15,g9)]
def wK:AFn:=zR ZA [(75,gA),(15,kT)]
def sD:AFn:=zK 275
def nW:AFn:=zK 278
def sF:AFn:=zR Z8 [(75,dT),(15,kU)]
def wO:AFn:=zK 284
def wP:AFn:=zK 286
def wQ:AFn:=zR YV [(75,gB),(15,kW)]
def wU:AFn:=zK 291
def cH:AFn:=zK 294
def cJ:AFn:=zK 302
def aI:AFn:=zK 314
def xT:AFn:=zR YH [(75,gH),(15,l7)]
def yE:AFn:=zK 352
def pW:AFn:=zK 356
def iO:AFn:=zR YR [(1215,bC),(255,dZ)]
def mH:AFn:=zK 372
def iP:AFn:=zK 385
def cN:AFn:=zK 388
def yS:AFn:=zK 391
def yW:AFn:=zK 395
def z7:AFn:=zR ZG [(37,eD),(7,lO)]
def sP:AFn:=zK 405
def gS:AFn:=zK 407
def z9:AFn:=zK 408
def zD:AFn:=zK 428
end
end Go.Av
