/-
  The functions, the next part.
-/
import Derived.Test.YtcehjengeaafpaaGreatFunsAMa
set_option linter.all false
namespace Go.Av
noncomputable section
set_option maxRecDepth 100000
set_option maxHeartbeats 4000000
def ZZ:AFn:=zK 22
def zE:AFn:=zK 45
def B9:AFn:=zK 57
def X':AFn:=zK 71
def YS:AFn:=zK 72
def tP:AFn:=zK 82
def ZY:AFn:=zK 118
def Y':AFn:=zK 142
def ZS:AFn:=zK 143
def Fe:AFn:=zK 176
def Z3:AFn:=zK 179
def ZQ:AFn:=zK 197
def U':AFn:=zK 199
def ZP:AFn:=zK 221
def YC:AFn:=zK 224
def YI:AFn:=zK 228
def YG:AFn:=zK 232
def Z9:AFn:=zK 270
def YP:AFn:=zK 375
def YN:AFn:=zK 383
def eJ:Xu:=zP ZZ 151 []
def mQ:Xu:=zP ZZ 31 []
def j9:Xu:=zP zE 77003 []
def iY:Xu:=zP zE 15563 []
def iZ:Xu:=zP zE 971 []
def gV:Xu:=zP zE 151 []
def eK:Xu:=zP zE 31 []
def gY:Xu:=zP B9 75 []
def gZ:Xu:=zP B9 9367 []
def mU:Xu:=zP B9 919 []
def mV:Xu:=zP B9 31 []
def jD:Xu:=zP X' 151 []
def mW:Xu:=zP X' 31 []
def hU:Xu:=zP YS 75 []
def mX:Xu:=zP YS 15 []
def bT:Xu:=zP tP 77003 []
def iA:Xu:=zP tP 15563 []
def iB:Xu:=zP tP 971 []
def bU:Xu:=zP tP 151 []
def eP:Xu:=zP tP 303 []
def mY:Xu:=zP tP 63 []
def dB:Xu:=zP ZY 607 []
def aO:Xu:=zP ZY 127 []
def cC:Xu:=zP Y' 151 []
def jX:Xu:=zP Y' 31 []
def dG:Xu:=zP ZS 75 []
def jY:Xu:=zP ZS 15 []
def b6:Xu:=zP Fe 19 []
def aV:Xu:=zP Z3 1215 []
def fK:Xu:=zP Z3 255 []
def fO:Xu:=zP ZQ 151 []
def kE:Xu:=zP ZQ 31 []
def fQ:Xu:=zP U' 151 []
def kF:Xu:=zP U' 31 []
def bM:Xu:=zP ZP 151 []
def kJ:Xu:=zP ZP 31 []
def fS:Xu:=zP YC 75 []
def kL:Xu:=zP YC 15 []
def fU:Xu:=zP YI 75 []
def kN:Xu:=zP YI 15 []
def fW:Xu:=zP YG 75 []
def kP:Xu:=zP YG 15 []
def cF:Xu:=zP Z9 75 []
def g7:Xu:=zP Z9 15 []
def eC:Xu:=zP YP 37 []
def lE:Xu:=zP YP 7 []
def gN:Xu:=zP YN 151 []
def lG:Xu:=zP YN 31 []
attribute [local irreducible] eJ mQ j9 iY iZ gV eK gY gZ mU mV jD mW hU mX bT iA iB bU eP mY dB aO cC jX dG jY b6 aV fK fO kE fQ kF bM kJ fS kL fU kN fW kP cF g7 eC lE gN lG
def gU:Xu:=zP zE 75 [(77003,j9),(15563,iY),(971,iZ)]
def eL:Xu:=zP zE 15 [(151,gV),(31,eK)]
def jC:Xu:=zP B9 151 [(9367,gZ),(919,mU)]
def eO:Xu:=zP tP 75 [(77003,bT),(15563,iA),(971,iB)]
def mZ:Xu:=zP tP 31 [(303,eP),(63,mY)]
attribute [local irreducible] gU eL jC eO mZ
def jA:Xu:=zP B9 15 [(151,jC),(31,mV)]
def n6:Xu:=zP tP 15 [(151,bU),(31,mZ)]
attribute [local irreducible] jA n6
def qL:AFn:=zR ZZ [(151,eJ),(31,mQ)]
def oC:AFn:=zR zE [(75,gU),(15,eL)]
def AW:AFn:=zR B9 [(75,gY),(15,jA)]
def EB:AFn:=zR X' [(151,jD),(31,mW)]
def EC:AFn:=zR YS [(75,hU),(15,mX)]
def ED:AFn:=zK 76
def EF:AFn:=zR tP [(75,eO),(15,n6)]
def vC:AFn:=zK 106
def pB:AFn:=zR ZY [(607,dB),(127,aO)]
def vF:AFn:=zK 135
def rP:AFn:=zR Y' [(151,cC),(31,jX)]
def rQ:AFn:=zR ZS [(75,dG),(15,jY)]
def pE:AFn:=zK 172
def pG:AFn:=zR Fe [(19,b6)]
def rV:AFn:=zK 178
def mE:AFn:=zR Z3 [(1215,aV),(255,fK)]
def rX:AFn:=zK 180
def vU:AFn:=zR ZQ [(151,fO),(31,kE)]
def rZ:AFn:=zR U' [(151,fQ),(31,kF)]
def vV:AFn:=zK 200
def pH:AFn:=zR ZP [(151,bM),(31,kJ)]
def vX:AFn:=zR YC [(75,fS),(15,kL)]
def vZ:AFn:=zR YI [(75,fU),(15,kN)]
def w6:AFn:=zK 229
def w9:AFn:=zK 231
def wA:AFn:=zR YG [(75,fW),(15,kP)]
def wD:AFn:=zK 235
def s7:AFn:=zK 241
def wJ:AFn:=zK 266
def pK:AFn:=zR Z9 [(75,cF),(15,g7)]
def pO:AFn:=zK 277
def wR:AFn:=zK 288
def wT:AFn:=zK 290
def sJ:AFn:=zK 307
def pS:AFn:=zK 308
def xP:AFn:=zK 322
def xU:AFn:=zK 324
def yA:AFn:=zK 330
def yB:AFn:=zK 331
def yC:AFn:=zK 332
def yD:AFn:=zK 349
def sK:AFn:=zK 355
def sL:AFn:=zK 358
def l9:AFn:=zK 359
def gJ:AFn:=zK 361
def yI:AFn:=zK 366
def yJ:AFn:=zK 368
def yK:AFn:=zK 369
def yL:AFn:=zR YP [(37,eC),(7,lE)]
def yN:AFn:=zK 382
def yO:AFn:=zR YN [(151,gN),(31,lG)]
def mI:AFn:=zK 386
def yX:AFn:=zK 396
end
end Go.Av
