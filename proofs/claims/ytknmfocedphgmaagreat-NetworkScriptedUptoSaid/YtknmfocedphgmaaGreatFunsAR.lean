/-
  The compact form of the program's functions, printed by a program.
-/
import Derived.Test.YtknmfocedphgmaaGreatAvD
import Derived.Test.YtknmfocedphgmaaGreatRows
set_option linter.unusedVariables false
set_option linter.unusedSimpArgs false
set_option linter.constructorNameAsVariable false
namespace Go.Av
noncomputable section
abbrev xM (d s:Nat):Xw:=⟨some d,none,.mov (.t s)⟩
abbrev xI (d:Nat) (n:Int):Xw:=⟨some d,none,.mov (.c (.int .i64 n))⟩
abbrev xC (d:Nat) (v:AV):Xw:=⟨some d,none,.mov (.c v)⟩
abbrev xF (d o s:Nat):Xw:=⟨some d,none,.faddr o (.t s)⟩
abbrev xL (d s:Nat):Xw:=⟨some d,none,.load false 1 (.t s)⟩
abbrev xA (d n s:Nat):Xw:=⟨some d,none,.load true n (.t s)⟩
abbrev xX (d z a i:Nat):Xw:=⟨some d,none,.iaddr z none (.t a) (.t i)⟩
abbrev xS (n p v:Nat):Xw:=⟨none,none,.store n (.t p) (.t v)⟩
abbrev xN (d s:Nat):Xw:=⟨some d,none,.len (.t s)⟩
abbrev xE (d i s:Nat):Xw:=⟨some d,none,.ext i (.t s)⟩
abbrev xB (d:Nat) (p:BinOp) (a b:Nat):Xw:=⟨some d,none,.bin p (.t a) (.t b)⟩
abbrev xK (d:Nat) (p:BinOp) (a:Nat) (n:Int):Xw:=⟨some d,none,.bin p (.t a) (.c (.int .i64 n))⟩
abbrev xW (d a b:Nat):Xw:=⟨some d,none,.pick (.t a) (.c (.bool true)) (.t b)⟩
abbrev xV (d a b:Nat):Xw:=⟨some d,none,.pick (.t a) (.t b) (.c (.bool false))⟩
abbrev xJ (d s:Nat):Xw:=⟨some d,none,.boxi (.t s)⟩
abbrev xO (d:Nat) (p:AOp):Xw:=⟨some d,none,p⟩
abbrev xG (d g:Nat) (b:Bool) (p:AOp):Xw:=⟨some d,some (g,b),p⟩
abbrev xR (l:List Xw):Xv:= .region false [] l none
abbrev xD (l:List Xw):Xv:= .region true [] l none
abbrev xQ (l:List Xw) (k:List Nat):Xv:= .region false [] l (some k)
abbrev yaa (a:List Xw) (b:Xv):Xv:= .seq (xR a) b
abbrev yab (a:Nat) (b c:Xv):Xv:= .cond (.t a) b c
abbrev yac (a b:Nat) (c:AOp):Xw:=xG a b false c
abbrev yad (a:List Xw):Xv:=yaa a .ret
abbrev yae (a:List Xw) (b c:Xv):Xv:= .seq (yaa a b) c
abbrev yaf (a:Int):AV:= .int .i64 a
abbrev yag (a:Nat) (b:List Xw) (c:Xv):Xv:=yab a (yad b) c
abbrev yah (a b:Nat) (c:List AX):Xw:=xO a (.pcall b c)
abbrev yai (a:Nat) (b:List Xw):Xv:=yag a b .skip
abbrev yaj (a:Nat) (b c:Xv):Xv:= .seq (.block a b) c
abbrev yak:AV:= .bool false
abbrev yal (a:Nat) (b:Xv):Xv:= .block a (.loop b)
abbrev yam (a b:Nat):AOp:= .faddr a (.t b)
abbrev yan (a:Bool) (b c:Nat):AOp:= .load a b (.t c)
abbrev yao (a:Nat) (b:List AV):Xw:=xO a (.alloc b)
abbrev yap (a b:List Xw) (c d:Xv):Xv:=yaa a (yae b c d)
abbrev yaq (a:Nat):AOp:= .mov (.t a)
abbrev yar (a:Nat) (b:Xv) (c:Nat):Xv:=yab a b (.exit c)
abbrev yas (a:BinOp) (b:Nat) (c:AX):AOp:= .bin a (.t b) c
abbrev yat (a b:Nat) (c:AOp):Xw:=xG a b true c
abbrev yau (a b:Nat):AOp:=yan false a b
abbrev yav:AV:=yaf 0
abbrev yaw (a b:Nat):Xv:=yar a .skip b
abbrev yax (a b c d:Nat):Xw:=yac a b (yam c d)
abbrev yay (a b c:Nat):Xw:=yac a b (yaq c)
abbrev yaz (a b c d:Nat):Xw:=yac a b (yau c d)
abbrev ya0 (a b:List Xw) (c:Nat) (d:List Xw) (e:Xv):Xv:=yap a b (yai c d) e
abbrev ya1 (a:Nat) (b:Xv) (c:List Xw):Xv:=yaj a b (xR c)
abbrev ya2 (a b:Nat) (c:BinOp) (d:Nat) (e:AX):Xw:=yac a b (yas c d e)
abbrev ya3 (a:List Xw) (b c:Xv):Xv:=yaa a (.seq b c)
abbrev ya4 (a:Nat):Xw:=xI a 0
abbrev ya5 (a:Nat):AOp:= .nilchk (.t a)
abbrev ya6 (a:Nat):Xw:=xC a yak
abbrev ya7 (a:AX):AOp:= .un .not a
abbrev ya8 (a:Nat):AOp:=ya7 (.t a)
abbrev ya9 (a b:Nat) (c:AX):Xw:=yac a b (.len c)
abbrev yba (a:List Xw) (b c:Nat) (d:Xv):Xv:=yae a (yaw b c) d
abbrev ybb (a:List Xw) (b:Nat) (c:List Xw):Xv:=yaa a (yai b c)
abbrev ybc (a:Nat) (b c:Xv) (d:List Xw):Xv:=ya1 a (.seq b c) d
abbrev ybd (a b:Nat) (c:List AX):Xw:=xO a (.tcall b c)
abbrev ybe (a:Nat):Xw:=xM a 1
abbrev ybf (a b:Nat) (c d:AX):Xw:=yah a b [c,d]
abbrev ybg (a b c:Nat) (d:AX):Xw:=ybf a b (.t c) d
abbrev ybh (a b c d:Nat):Xw:=ybg a b c (.t d)
abbrev ybi (a:List Xw) (b:Nat) (c d:Xv):Xv:=yae a (yal b c) d
abbrev ybj (a:Int):AX:= .c (yaf a)
abbrev ybk (a:List (Nat×Nat)) (b:List Xw) (c:Option (List Nat)):Xv:= .region true a b c
abbrev ybl (a b:Nat):Xw:=xO a (ya8 b)
abbrev ybm (a b:Nat):Xw:=xF a 0 b
abbrev ybn (a b c:Nat):Xw:=ya9 a b (.t c)
abbrev ybo:AV:= .bool true
abbrev ybp (a:List Xw) (b c:Nat) (d:Xv):Xv:=ya3 a (yaw b c) d
abbrev ybq (a:Nat):Xw:=xM a 0
abbrev ybr (a b:Nat):Xw:=xF a 1 b
abbrev ybs (a b:List Xw) (c:Nat) (d e:Xv):Xv:=yap a b (yal c d) e
abbrev ybt (a b c:Nat):Xw:=yat a b (yaq c)
abbrev ybu (a:Nat):Xw:=xM a 5
abbrev ybv (a b:Nat):Xw:=xO a (ya5 b)
abbrev ybw (a b c:Nat):Xw:=yaz a b 1 c
abbrev ybx (a b:List Xw):Xv:=yaa a (yad b)
abbrev yby (a:Nat) (b:BinOp) (c:Nat):Xw:=xK a b c 1
abbrev ybz (a:SM) (b c d:Nat) (e:AX):AOp:= .append a b c (.t d) e
abbrev yb0 (a:List Xw) (b:Nat) (c:List Xw) (d:Xv):Xv:=yaa a (yag b c d)
abbrev yb1 (a:Nat):Xw:=xM a 6
abbrev yb2 (a:Nat) (b c:AX):AOp:= .iaddr a none b c
abbrev yb3:Xw:=ya4 4
abbrev yb4 (a b:Nat) (c:BinOp) (d:Nat) (e:Int):Xw:=ya2 a b c d (ybj e)
abbrev yb5 (a:Nat):AOp:= .box (.t a)
abbrev yb6 (a b:Nat) (c:BinOp) (d e:Nat):Xw:=ya2 a b c d (.t e)
abbrev yb7 (a b c:Xv):Xv:= .seq a (.seq b c)
abbrev yb8:Xw:=ya6 4
abbrev yb9 (a:List Xw) (b c d:Nat) (e f:Xv) (g:List Xw):Xv:=yba a b c (ybc d e f g)
abbrev yca (a b:Nat) (c:BinOp) (d:Nat) (e:AX):Xw:=yat a b (yas c d e)
abbrev ycb (a:IntKind) (b:Int):AX:= .c (.int a b)
abbrev ycc (a:Nat):Xw:=xM a 8
abbrev ycd (a:List Xw) (b:Nat) (c:List Xw) (d:Xv):Xv:=yae a (yai b c) d
abbrev yce (a:Nat) (b c d e:AV):Xw:=yao a [b,c,d,e]
abbrev ycf (a b c d:Nat):Xw:=yat a b (yau c d)
abbrev ycg:Xw:=ya4 5
abbrev ych (a b:Nat):Xw:=xA a 2 b
abbrev yci (a b c d:Nat):Xw:=yat a b (yam c d)
abbrev ycj (a b:Nat):Xw:=xO a (yb5 b)
abbrev yck (a:Nat) (b:Xv):Xv:=yab a b .skip
abbrev ycl (a:Nat):Xw:=xJ a 0
abbrev ycm (a:Nat):Xw:=xM 4 a
abbrev ycn (a b:List Xw) (c:Xv):Xv:=yaa a (yaa b c)
abbrev yco (a:Nat) (b:BinOp) (c:Nat):Xw:=xK a b c 0
abbrev ycp:Xw:=ycl 2
abbrev ycq (a b:Nat):Xw:=xF a 2 b
abbrev ycr (a b:List Xw) (c:Nat) (d:Xw) (e:Xv):Xv:=ya0 a b c [d] e
abbrev ycs (a:List Xw) (b c d:Nat) (e:List Xw) (f:Xv) (g:List Xw):Xv:=yb9 a b c d (xD e) f g
abbrev yct (a:Nat):Xw:=xM 5 a
abbrev ycu (a b:Nat) (c:AX):Xw:=yah a b [c]
abbrev ycv (a b c:Nat):Xw:=ycu a b (.t c)
abbrev ycw (a:Nat):Xw:=xM a 7
abbrev ycx (a b c:Nat) (d:List AX):Xw:=yat a b (.pcall c d)
abbrev ycy (a b:Nat) (c:AX):AOp:=yb2 a (.t b) c
abbrev ycz (a:Nat):Xw:=xC a ybo
abbrev yc0 (a:SM) (b c d e:Nat):AOp:=ybz a b c d (.t e)
abbrev yc1 (a:Nat):Xw:=ybm a 3
abbrev yc2 (a:Int):AV:= .int .u32 a
abbrev yc3 (a:List Xw) (b c d:Nat) (e:List Xw) (f:Nat) (g h:List Xw):Xv:=ycs a b c d e (yai f g) h
abbrev yc4 (a b:Nat):Xw:=xA a 9 b
abbrev yc5 (a b:Xw):Xv:=yad [a,b]
abbrev yc6 (a:Nat) (b:SM) (c d e f:Nat):Xw:=xO a (yc0 b c d e f)
abbrev yc7 (a:Nat):Xw:=xM 6 a
abbrev yc8 (a:Nat) (b c d:AV):Xw:=yce a b yav c d
abbrev yc9 (a:Nat) (b c:AV):Xw:=yc8 a yav b c
abbrev yda:Xw:=ya4 6
abbrev ydb:Xw:=ya4 7
abbrev ydc (a:List Xw) (b:Xv):Xv:= .seq (xD a) b
abbrev ydd (a b c:Nat):Xw:=yax a b 1 c
abbrev yde (a b:Nat):Xw:=xS 4 a b
abbrev ydf (a:List Xw) (b c d:Nat) (e:Xv) (f:List Xw):Xv:=yba a b c (ya1 d e f)
abbrev ydg (a:Int):Xw:=xI 4 a
abbrev ydh (a:Xw):Xv:=yad [a]
abbrev ydi (a:Nat):Xv:=ydh (ycz a)
abbrev ydj (a:Nat):Xw:=xM a 2
abbrev ydk (a:Int):AX:=ycb .u8 a
abbrev ydl (a b c d e:Nat):Xw:=yc6 a .app b c d e
abbrev ydm (a:List Xw) (b:Nat):Xv:=xQ a [b]
abbrev ydn (a:List Xw) (b:Nat) (c:Xv):Xv:= .seq (ydm a b) c
abbrev ydo:AX:= .c yav
abbrev ydp (a:Xw) (b c:Nat) (d:Xv):Xv:=ybp [a] b c d
abbrev ydq (a:Nat) (b:BinOp) (c d e f:Nat) (g:Xv):Xv:=ydp (xB a b c d) e f g
abbrev ydr (a:Nat) (b:AV):Xw:=yc9 a yav b
abbrev yds (a:Nat):Xw:=ydr a yav
abbrev ydt (a:Nat):Xw:=ybr a 3
abbrev ydu (a:Nat) (b:List Xw) (c:Nat) (d:Xv) (e:List Xw):Xv:=ybc a (ydm b c) d e
abbrev ydv (a b:List Xw) (c:Nat) (d:Xw) (e:List Xw) (f:Nat) (g h:Xv):Xv:=ycr a b c d (ybi e f g h)
abbrev ydw (a b c:Nat):AOp:=ycy a b (.t c)
abbrev ydx (a:Nat):Xw:=yc4 a 2
abbrev ydy (a:Nat):Xw:=xM a 9
abbrev ydz (a:Nat):Xw:=xM 7 a
abbrev yd0 (a:Nat):Xw:=xC a .nilptr
abbrev yd1:AX:= .c .nilptr
abbrev yd2 (a b:Nat):AOp:=yan true a b
abbrev yd3 (a b:List Xw) (c:Nat) (d:Xw) (e:List Xw):Xv:=ycr a b c d (yad e)
abbrev yd4 (a b:List Xw) (c d:Xv):Xv:=ybs a b 0 c d
abbrev yd5:Xw:=ydg (-1)
abbrev yd6 (a b:Xw) (c:Xv):Xv:=yaa [a,b] c
abbrev yd7 (a:Nat) (b c:AV):Xw:=yao a [b,c]
abbrev yd8 (a:Nat) (b:AV):Xw:=yd7 a b yav
abbrev yd9 (a b:Nat):Xw:=xF a 3 b
abbrev yea (a b:Nat):Xw:=xA a 6 b
abbrev yeb (a b:Nat):Xw:=xF a 4 b
abbrev yec (a:Nat):Xw:=yd8 a yav
abbrev yed (a b:Nat):Xw:=xO a (.nilapp b)
abbrev yee (a:Nat):Xw:=xM 8 a
abbrev yef (a b c:Nat):Xw:=xX a 1 b c
abbrev yeg (a b:Nat):Xw:=xA a 3 b
abbrev yeh (a b:Nat):Xw:=xA a 4 b
abbrev yei (a b:Nat):Xw:=xE a 0 b
abbrev yej (a b:Nat):Xw:=xE a 1 b
abbrev yek (a b c:Nat) (d:List AX):Xw:=yac a b (.pcall c d)
def f_4:Nat:=4
def f_7:Nat:=7
def f_8:Nat:=8
def f_9:Nat:=9
def f_11:Nat:=11
def f_12:Nat:=12
def f_13:Nat:=13
def f_14:Nat:=14
def f_15:Nat:=15
def f_16:Nat:=16
def f_17:Nat:=17
def f_18:Nat:=18
def f_21:Nat:=21
def f_22:Nat:=22
def f_23:Nat:=23
def f_26:Nat:=26
def f_28:Nat:=28
def f_29:Nat:=29
def f_30:Nat:=30
def f_31:Nat:=31
def f_32:Nat:=32
def f_33:Nat:=33
def f_34:Nat:=34
def f_35:Nat:=35
def f_36:Nat:=36
def f_37:Nat:=37
def f_38:Nat:=38
def f_39:Nat:=39
def f_40:Nat:=40
def f_41:Nat:=41
def f_42:Nat:=42
def f_43:Nat:=43
def f_44:Nat:=44
def f_45:Nat:=45
def f_46:Nat:=46
def f_47:Nat:=47
def f_48:Nat:=48
def f_49:Nat:=49
def f_50:Nat:=50
def f_51:Nat:=51
def f_52:Nat:=52
def f_53:Nat:=53
def f_54:Nat:=54
def f_55:Nat:=55
def f_56:Nat:=56
def f_57:Nat:=57
def f_58:Nat:=58
def f_60:Nat:=60
def f_64:Nat:=64
def f_65:Nat:=65
def f_66:Nat:=66
def f_67:Nat:=67
def f_68:Nat:=68
def f_69:Nat:=69
def f_70:Nat:=70
def f_72:Nat:=72
def f_80:Nat:=80
def f_81:Nat:=81
def f_82:Nat:=82
def f_86:Nat:=86
def f_87:Nat:=87
def f_88:Nat:=88
def f_89:Nat:=89
def f_90:Nat:=90
def f_91:Nat:=91
def f_93:Nat:=93
def f_94:Nat:=94
def f_95:Nat:=95
def f_96:Nat:=96
def f_97:Nat:=97
def f_98:Nat:=98
def f_100:Nat:=100
def f_101:Nat:=101
def f_102:Nat:=102
def f_103:Nat:=103
def f_104:Nat:=104
def f_105:Nat:=105
def f_106:Nat:=106
def f_107:Nat:=107
def f_108:Nat:=108
def f_109:Nat:=109
def f_113:Nat:=113
def f_114:Nat:=114
def f_115:Nat:=115
def f_116:Nat:=116
def f_120:Nat:=120
def f_121:Nat:=121
def f_122:Nat:=122
def f_123:Nat:=123
def f_124:Nat:=124
def f_125:Nat:=125
def f_126:Nat:=126
def f_127:Nat:=127
def f_128:Nat:=128
def f_129:Nat:=129
def f_130:Nat:=130
def f_131:Nat:=131
def f_132:Nat:=132
def f_133:Nat:=133
def f_135:Nat:=135
def f_136:Nat:=136
def f_138:Nat:=138
def f_146:Nat:=146
def f_147:Nat:=147
def f_148:Nat:=148
def f_149:Nat:=149
def f_150:Nat:=150
def f_151:Nat:=151
def f_152:Nat:=152
def f_153:Nat:=153
def f_154:Nat:=154
def f_155:Nat:=155
def f_157:Nat:=157
def f_158:Nat:=158
def f_159:Nat:=159
def f_160:Nat:=160
def f_164:Nat:=164
def f_168:Nat:=168
def f_171:Nat:=171
def f_174:Nat:=174
def f_177:Nat:=177
def f_179:Nat:=179
def f_183:Nat:=183
def f_184:Nat:=184
def f_185:Nat:=185
def f_186:Nat:=186
def f_187:Nat:=187
def f_188:Nat:=188
def f_189:Nat:=189
def f_190:Nat:=190
def f_191:Nat:=191
def f_203:Nat:=203
def f_206:Nat:=206
def f_211:Nat:=211
def f_214:Nat:=214
def f_215:Nat:=215
def f_216:Nat:=216
def f_217:Nat:=217
def f_218:Nat:=218
def f_219:Nat:=219
def f_220:Nat:=220
def f_221:Nat:=221
def f_222:Nat:=222
def f_223:Nat:=223
def f_224:Nat:=224
def f_225:Nat:=225
def f_226:Nat:=226
def f_228:Nat:=228
def f_230:Nat:=230
def f_235:Nat:=235
def f_236:Nat:=236
def f_240:Nat:=240
def f_245:Nat:=245
def f_246:Nat:=246
def f_247:Nat:=247
def f_248:Nat:=248
def f_250:Nat:=250
def f_251:Nat:=251
def f_252:Nat:=252
def f_254:Nat:=254
def f_257:Nat:=257
def f_258:Nat:=258
def f_265:Nat:=265
def f_270:Nat:=270
def f_271:Nat:=271
def f_272:Nat:=272
def f_275:Nat:=275
def f_276:Nat:=276
def f_280:Nat:=280
def f_282:Nat:=282
def f_283:Nat:=283
def f_284:Nat:=284
def f_285:Nat:=285
def f_286:Nat:=286
def f_288:Nat:=288
def f_289:Nat:=289
def f_291:Nat:=291
def f_292:Nat:=292
def f_293:Nat:=293
def f_295:Nat:=295
def f_296:Nat:=296
def f_297:Nat:=297
def f_298:Nat:=298
def f_299:Nat:=299
def f_300:Nat:=300
def f_301:Nat:=301
def f_302:Nat:=302
def f_313:Nat:=313
def f_314:Nat:=314
def f_315:Nat:=315
def f_316:Nat:=316
def f_329:Nat:=329
def f_336:Nat:=336
def f_337:Nat:=337
def f_339:Nat:=339
def f_340:Nat:=340
def f_341:Nat:=341
def f_343:Nat:=343
def f_345:Nat:=345
def f_347:Nat:=347
def f_349:Nat:=349
def f_350:Nat:=350
def f_352:Nat:=352
def f_357:Nat:=357
def f_364:Nat:=364
def f_366:Nat:=366
def f_367:Nat:=367
def f_368:Nat:=368
def c_4_l0:Xv:=ydf [ycw 17,ydj 18,xN 19 18,xB 20 .lss 17 19] 20 0 1 (ybb [ydj 23,ycw 24,xX 25 6 23 24,ybm 26 25,xL 27 26,xK 28 .eql 27 2] 28 [yah 29 f_8 [],yc7 29]) [ycw 21,yby 22 .add 21,ydz 22]
def c_4_k1:Xv:=ya3 [yeg 31 3,ybe 32,ybd 33 f_9 [.t 31,.t 32,.c (.func (.func f_13) [] [])],xM 30 33,yei 34 30,yej 35 30,yee 34,xM 9 35] (ydm [yeg 37 3,ybe 38,ybh 39 f_11 37 38,xM 36 39,yei 40 36,yej 41 36,yao 10 [.Xu 1 [],.Xu 5 [],.Xu 2 [],.Xu 4 [],.Xu 9 [],.Xu 4 []],xS 6 10 40,xM 11 41] 10) (ycd [ydy 42,xM 43 11,xB 44 .neq 42 43,xM 45 44,yay 46 45 8,yac 47 45 (.eqn false (.t 46) yd1),yay 48 45 11,ya2 49 45 .neq 48 ydo,yac 50 45 (.eqs true false [.b] (.t 47) (.t 49)),xW 51 45 50] 51 [ya6 6] (yad [ycc 52,xO 53 (.eqn false (.t 52) yd1),xM 54 53,yay 55 54 8,yac 56 54 (yd2 6 10),yay 57 54 2,yac 58 54 (.tcall f_12 [.t 55,.t 56,.t 57,.c ybo]),xW 59 54 58,xM 60 59,ycx 61 60 f_8 [],xV 62 60 61,yc7 62]))
def c_4:AFn:=⟨3,[.tmp 6],ya0 [ycl 3,ya6 6] [yeg 12 3,ybe 13,ydj 14,yah 15 f_7 [.t 12,.t 13,.t 14]] 15 [yah 16 f_8 [],yc7 16] (ybi [ydb] 0 c_4_l0 c_4_k1)⟩
def c_7_l0:Xv:=ydf [ydy 43,ybe 44,ycc 45,xX 46 4 44 45,ybm 47 46,xL 48 47,xN 49 48,xB 50 .lss 43 49] 50 2 3 (xR [ycw 53,ybe 54,ycc 55,xX 56 4 54 55,ybm 57 56,xL 58 57,ydy 59,yef 60 58 59,xL 61 60,xN 62 61,xB 63 .add 53 62,ydz 63]) [ydy 51,yby 52 .add 51,xM 9 52]
def c_7_k1:Xv:=xR [ycc 41,yby 42 .add 41,yee 42]
def c_7_l2:Xv:=yba [ycc 37,ybe 38,xN 39 38,xB 40 .lss 37 39] 40 0 (yaj 1 (yaa [ya4 9] (yal 2 c_7_l0)) c_7_k1)
def c_7_l3:Xv:=ydf [xM 64 10,ydj 65,xN 66 65,xB 67 .lss 64 66] 67 4 5 (ybb [ydj 70,xM 71 10,xX 72 6 70 71,yd9 73 72,xL 74 73,xN 75 74,xK 76 .gtr 75 600,xM 77 76,yay 78 77 2,yay 79 77 10,yac 80 77 (ydw 6 78 79),yax 81 77 4 80,ydd 82 77 81,ybw 83 77 82,ybn 84 77 83,yb4 85 77 .gtr 84 70,xW 86 77 85] 86 [ycz 6]) [xM 68 10,yby 69 .add 68,xM 10 69]
def c_7_k4:Xv:=yad [ycw 87,xK 88 .gtr 87 100,yc7 88]
def c_7_k5:Xv:=ybi [ya4 10] 4 c_7_l3 c_7_k4
def c_7:AFn:=⟨3,[.tmp 6],ycr [ycl 3,ya6 6] [yc1 11,xL 12 11,xN 13 12,xK 14 .gtr 13 20,xM 15 14,ydd 16 15 3,ybw 17 15 16,ybn 18 15 17,yb4 19 15 .gtr 18 40,xW 20 15 19,xM 21 20,yax 22 21 2 3,ybw 23 21 22,ybn 24 21 23,yb4 25 21 .gtr 24 20,xW 26 21 25,xM 27 26,yay 28 27 1,ybn 29 27 28,yb4 30 27 .gtr 29 20,xW 31 27 30,xM 32 31,yay 33 32 2,ybn 34 32 33,yb4 35 32 .gtr 34 40,xW 36 32 35] 36 (ycz 6) (yd4 [ydb] [ya4 8] c_7_l2 c_7_k5)⟩
def c_9_l0:Xv:=ydq 32 .lss 31 30 32 0 (ydu 1 [xX 33 4 29 31,yeh 34 33,yce 11 (.Xu 1 []) (.Xu 1 []) (.Xu 2 []) (.Xu 1 []),yde 11 34] 11 (yaa [yc4 35 9,yeh 36 11,ybh 37 f_35 35 36,xM 12 37] (ybb [xM 38 12,yco 39 .neq 38] 39 [xM 40 12,yd0 6,ydz 40])) [yby 41 .add 31,xM 31 41])
def c_9_k1:Xv:=yad [yeg 42 3,ycv 43 f_36 42,ybe 44,ybd 45 f_37 [.t 44],xO 46 (.build [.Xu 1 [],.Xu 5 [],.Xu 2 [],.Xu 4 [],.Xu 9 [],.Xu 4 []] [(0,3,(.t 43)),(3,1,(.t 45))]),ydj 47,xO 48 (.build [.Xu 1 [],.Xu 5 [],.Xu 2 [],.Xu 4 [],.Xu 9 [],.Xu 4 [],.nilfunc] [(0,6,(.t 46)),(6,1,(.t 47))]),ycj 49 48,yc7 49,ydb]
def c_9:AFn:=⟨3,[.tmp 6,.tmp 7],yap [ycl 3,yd0 6,ydb] [yeg 13 3,ycv 14 f_33 13,yee 14] (ybb [ycc 15,yco 16 .neq 15] 16 [ycc 17,yd0 6,ydz 17]) (ycd [ydj 18,xO 19 (.eqs false false [] (.t 18) (.c (.nilfunc))),xM 20 19,yay 21 20 1,ybn 22 20 21,yax 23 20 0 3,ybw 24 20 23,ybn 25 20 24,yb6 26 20 .neq 22 25,xW 27 20 26] 27 [yd0 6,xI 7 2] (ydn [yah 28 f_34 [],yao 9 [.str [],.Xu 2 [],.Xu 2 [],.Xu 3 [],.Xu 3 [],.Xu 6 [],.Xu 7 [],.Xu 5 [],.Xu 1 []],xS 9 9 28] 9 (ybi [ybe 29,xN 30 29,ya4 31] 0 c_9_l0 c_9_k1)))⟩
def c_11_l0:Xv:=ycs [ycw 21,ybe 22,xN 23 22,xB 24 .lss 21 23] 24 0 1 [yah 27 f_26 [],ybe 28,ycw 29,xX 30 4 28 29,yeh 31 30,ybh 32 f_40 27 31,yc7 32] (ybb [yb1 33,yco 34 .neq 33] 34 [xO 35 (.build [.Xu 1 [],.Xu 5 [],.Xu 2 [],.Xu 4 [],.Xu 9 [],.Xu 4 []] []),yb1 36,xS 6 4 35,yct 36]) [ycw 25,yby 26 .add 25,ydz 26]
def c_11_k1:Xv:= .seq (ybk [(0,3)] [⟨some 37,none,.load true 3 (.t 2)⟩,⟨some 38,none,.bslice .imm 4 [] []⟩,⟨some 39,none,.mov (.t 1)⟩,⟨some 40,none,.append .app 4 96 (.t 38) (.t 39)⟩,⟨some 41,none,.build [.Xu 1 [],.Xu 5 [],.Xu 2 [],.Xu 4 [],.Xu 9 [],.Xu 4 []] [(0,3,(.t 37)),(3,1,(.t 40))]⟩,⟨none,none,.store 6 (.t 4) (.t 41)⟩,⟨some 5,none,.mov (.c (.int .i64 0))⟩] none) .ret
def c_11:AFn:=⟨2,[.cell 4 true 6,.tmp 5],yaa [ycp,yao 4 [.Xu 1 [],.Xu 5 [],.Xu 2 [],.Xu 4 [],.Xu 9 [],.Xu 4 []],ycg] (ya0 [yeg 8 2,ycv 9 f_39 8,yc7 9] [yb1 10,yco 11 .neq 10] 11 [xO 12 (.build [.Xu 1 [],.Xu 5 [],.Xu 2 [],.Xu 4 [],.Xu 9 [],.Xu 4 []] []),yb1 13,xS 6 4 12,yct 13] (ycd [ybe 14,xN 15 14,ybm 16 2,xL 17 16,xN 18 17,xB 19 .neq 15 18] 19 [xO 20 (.build [.Xu 1 [],.Xu 5 [],.Xu 2 [],.Xu 4 [],.Xu 9 [],.Xu 4 []] []),xS 6 4 20,xI 5 2] (ybi [ydb] 0 c_11_l0 c_11_k1)))⟩
def c_12_l0:Xv:=yb9 [ydy 18,ydj 19,xN 20 19,xB 21 .lss 18 20] 21 0 1 (ydm [ybq 25,ydj 26,ydy 27,xX 28 6 26 27,yea 29 28,ybd 30 f_14 [.t 25,.t 29],xM 24 30,yei 31 24,yej 32 24,xE 33 2 24,xE 34 3 24,yds 12,xM 10 31,xM 11 32,yde 12 33,xM 13 34] 12) (yb7 (ybk [(0,12),(4,12),(6,12),(0,13),(4,13),(6,13),(12,13)] [⟨some 36,none,.load true 6 (.t 5)⟩,⟨some 37,none,.mov (.t 2)⟩,⟨some 38,none,.mov (.t 9)⟩,⟨some 39,none,.iaddr 6 none (.t 37) (.t 38)⟩,⟨some 40,none,.load true 6 (.t 39)⟩,⟨some 41,none,.mov (.t 3)⟩,⟨some 42,none,.pcall f_21 [.t 36,.t 40,.t 41]⟩,⟨some 35,none,.mov (.t 42)⟩,⟨some 43,none,.ext 0 (.t 35)⟩,⟨some 44,none,.ext 1 (.t 35)⟩,⟨some 45,none,.ext 2 (.t 35)⟩,⟨some 46,none,.ext 3 (.t 35)⟩,⟨some 14,none,.alloc [.Xu 1 [],.Xu 5 [],.Xu 2 [],.Xu 4 [],.Xu 9 [],.Xu 4 []]⟩,⟨some 16,none,.alloc [.int .i64 0,.int .i64 0,.int .i64 0,.int .i64 0]⟩,⟨none,none,.store 6 (.t 14) (.t 43)⟩,⟨some 15,none,.mov (.t 44)⟩,⟨none,none,.store 4 (.t 16) (.t 45)⟩,⟨some 17,none,.mov (.t 46)⟩] (some [14,16])) (xD [xM 47 10,yea 48 14,xM 0 47,xS 6 5 48]) (ybb [ybq 49,xO 50 (.eqn false (.t 49) yd1),xM 51 50,yay 52 51 11,yay 53 51 15,yb6 54 51 .neq 52 53,xW 55 51 54,xM 56 55,yac 57 56 (yd2 4 12),yac 58 56 (yd2 4 16),yac 59 56 (.eqs true true [.i,.i,.i,.i] (.t 57) (.t 58)),xW 60 56 59,xM 61 60,yay 62 61 13,yay 63 61 17,yb6 64 61 .neq 62 63,xW 65 61 64] 65 [ya6 8])) [ydy 22,yby 23 .add 22,xM 9 23]
def c_12_k1:Xv:=yad [ybq 66,yea 67 5,ybh 68 f_23 66 67,yee 68]
def c_12:AFn:=⟨4,[.tmp 8],yd4 [ycj 5 1,ya6 8] [ya4 9] c_12_l0 c_12_k1⟩
def c_13:AFn:=⟨2,[.cell 4 true 4,.cell 5 true 4],yaa [ycj 2 0,xJ 3 1,yc8 4 yak (.Xu 1 []) (.Xu 3 []),yce 5 (.Xu 1 []) (.Xu 1 []) (.Xu 2 []) (.Xu 1 [])] (yap [xC 6 (yc2 1)] [yd9 7 2,xL 8 7,xN 9 8,yco 10 .gtr 9,xM 11 10,yci 12 11 3 2,ycf 13 11 1 12,yat 14 11 (ycy 1 13 ydo),ycf 15 11 1 14,yat 16 11 (.len (.t 15)),yca 17 11 .gtr 16 ydo,xV 18 11 17] (yck 18 (xD [yd9 19 2,xL 20 19,xO 21 (ycy 1 20 ydo),xL 22 21,xO 23 (ycy 1 22 ydo),xL 24 23,ydt 25,xL 26 25,xN 27 26,xO 28 (.conv .u32 (.t 27)),xB 29 .add 24 28,yc7 29])) (yap [yb1 30,xO 31 (.bslice .imm 1 (List.replicate 1 [.int .u32 0]) [(0,(.t 30))]),xO 32 (.bslice .imm 1 (List.replicate 1 [.Xu 1 []]) [(0,(.t 31))]),yd9 33 2,xS 1 33 32] [ydt 34,xL 35 34,xN 36 35,yco 37 .eql 36,xM 38 37,ydd 39 38 3,ybw 40 38 39,yac 41 38 (ycy 1 40 ydo),ybw 42 38 41,ya2 43 38 .rem 42 (ydk 5),ya2 44 38 .eql 43 (ydk 4),xW 45 38 44] (yck 45 (.seq (ybk [(2,3)] [⟨some 46,none,.bslice .imm 1 (List.replicate 1 [.int .u8 0]) [(0,(.c (.int .u8 1)))]⟩,⟨some 47,none,.build [.bool false,.int .i64 0,.Xu 1 [],.Xu 3 []] [(0,1,(.c (.bool true))),(1,1,(.c (.int .i64 1))),(2,1,(.t 46))]⟩,⟨some 48,none,.load true 4 (.t 2)⟩,⟨none,none,.store 4 (.t 4) (.t 47)⟩,⟨none,none,.store 4 (.t 5) (.t 48)⟩] none) .ret)) (.seq (ybk [(1,15),(3,15),(15,17),(17,18)] [⟨some 49,none,.faddr 1 (.t 3)⟩,⟨some 50,none,.load false 1 (.t 49)⟩,⟨some 51,none,.iaddr 1 none (.t 50) (.c (.int .i64 0))⟩,⟨some 52,none,.load false 1 (.t 51)⟩,⟨some 53,none,.bin .rem (.t 52) (.c (.int .u8 5))⟩,⟨some 54,none,.conv .i64 (.t 53)⟩,⟨some 55,none,.bin .sub (.t 54) (.c (.int .i64 1))⟩,⟨some 56,none,.mov (.t 6)⟩,⟨some 57,none,.bin .rem (.t 56) (.c (.int .u32 2))⟩,⟨some 58,none,.conv .i64 (.t 57)⟩,⟨some 59,none,.bin .add (.t 55) (.t 58)⟩,⟨some 60,none,.bslice .imm 1 [] []⟩,⟨some 61,none,.faddr 1 (.t 3)⟩,⟨some 62,none,.load false 1 (.t 61)⟩,⟨some 63,none,.slc 1 (.t 62) (some (.c (.int .i64 1))) none none⟩,⟨some 64,none,.append .app 1 1 (.t 60) (.t 63)⟩,⟨some 65,none,.build [.bool false,.int .i64 0,.Xu 1 [],.Xu 3 []] [(1,1,(.t 59)),(2,1,(.t 64))]⟩,⟨some 66,none,.load true 4 (.t 2)⟩,⟨none,none,.store 4 (.t 4) (.t 65)⟩,⟨none,none,.store 4 (.t 5) (.t 66)⟩] none) .ret)))⟩
def c_14:AFn:=⟨2,[.tmp 4,.tmp 5,.cell 6 true 4,.tmp 7],yap [xJ 3 1,yd0 4,ycg,yds 6,ydb] [yc1 12,xL 13 12] (.block 0 (yd6 (yco 15 .eql 13) (xM 14 15) (yab 14 (ybx [ybq 17,ydt 18,xL 19 18,yd9 20 3,xL 21 20,ybd 22 f_28 [.t 17,.t 19,.t 21],xM 16 22,yei 23 16,yej 24 16,yee 23,xM 9 24] [ybq 25,ycc 26,xO 27 (.build [.int .i64 0,.int .i64 0,.int .i64 0,.int .i64 0] []),ydy 28,ycm 25,yct 26,yde 6 27,ydz 28]) (yd6 (yby 30 .eql 13) (xM 29 30) (yab 29 (yb7 (ydm [ybq 32,ydt 33,xL 34 33,ybd 35 f_29 [.t 32,.t 34],xM 31 35,yei 36 31,yej 37 31,yds 10,yde 10 36,xM 11 37] 10) (xD [ybq 38,yeh 39 10,xM 40 11,ycm 38,ycg,yde 6 39,ydz 40]) .ret) (yb0 [xK 42 .eql 13 2,xM 41 42] 41 [ybq 43,xO 44 (.build [.int .i64 0,.int .i64 0,.int .i64 0,.int .i64 0] []),ybq 45,ydt 46,xL 47 46,ycq 48 3,xL 49 48,yeb 50 3,ych 51 50,ybd 52 f_41 [.t 45,.t 47,.t 49,.t 51],ycm 43,ycg,yde 6 44,ydz 52] (ybb [xK 54 .eql 13 3,xM 53 54] 53 [ybq 55,xO 56 (.build [.int .i64 0,.int .i64 0,.int .i64 0,.int .i64 0] []),ybq 57,ydt 58,xL 59 58,ycq 60 3,xL 61 60,yby 62 .eql 61,ybd 63 f_42 [.t 57,.t 59,.t 62],ycm 55,ycg,yde 6 56,ydz 63]))))))) (yad [ybq 64,ybd 65 f_22 [.t 64],xO 66 (.build [.int .i64 0,.int .i64 0,.int .i64 0,.int .i64 0] []),ycm 65,ycg,yde 6 66,ydb])⟩
def c_15:AFn:=⟨1,[.tmp 2],yd3 [xC 2 (.Xu 4 [])] [ybq 3,ybd 4 f_43 [.t 3],ybl 5 4] 5 (xC 2 (.Xu 4 [])) [ybq 6,ybv 7 6,ybm 8 7,xF 9 5 8,xL 10 9,ycv 11 f_44 10,xM 2 11]⟩
def c_16:AFn:=⟨2,[.tmp 4],yaa [xC 4 (.Xu 3 [])] (yd3 [ybq 6,ybe 7,ybd 8 f_45 [.t 6,.t 7],ycc 5] [ybu 9,xO 10 (.eqn false (.t 9) yd1)] 10 (xC 4 (.Xu 3 [])) [ybu 11,ybv 12 11,yd9 13 12,xL 14 13,ycv 15 f_46 14,ycm 15])⟩
def c_17:AFn:=⟨2,[.cell 4 true 4,.tmp 5],yd6 (yc9 4 (.Xu 3 []) (.Xu 2 [])) (ya6 5) (ya0 [ybq 8,ybe 9,ybd 10 f_45 [.t 8,.t 9],yc7 10] [yb1 11,xO 12 (.eqn false (.t 11) yd1),xM 13 12,yay 14 13 6,yac 15 13 (ya5 14),yax 16 13 4 15,ybw 17 13 16,yac 18 13 (ya8 17),xW 19 13 18] 19 [xO 20 (.build [.int .i64 0,.int .i64 0,.Xu 3 [],.Xu 2 []] []),yde 4 20,ya6 5] (yaa [yb1 21,ybv 22 21,xF 23 5 22,yeh 24 23,yc9 7 (.Xu 3 []) (.Xu 2 []),yde 7 24] (ybx [yb1 25,ybv 26 25,yd9 27 26,xL 28 27,ycv 29 f_46 28,ycq 30 7,xS 1 30 29] [yeh 31 7,yde 4 31,ycz 5])))⟩
def c_18:AFn:=⟨2,[.cell 4 true 2,.tmp 5,.tmp 6],yaa [yec 4,xC 5 (.Xu 1 []),ya6 6] (ya0 [ybq 8,ybe 9,ybd 10 f_45 [.t 8,.t 9],ydz 10] [ycw 11,xO 12 (.eqn false (.t 11) yd1),xM 13 12,yay 14 13 7,yac 15 13 (ya5 14),yax 16 13 4 15,ybw 17 13 16,xW 18 13 17] 18 [xO 19 (.build [.int .i64 0,.int .i64 0] []),xS 2 4 19,xC 5 (.Xu 1 []),ya6 6] (ydc [ycw 20,ybv 21 20,ybm 22 21,ych 23 22,ycw 24,ybv 25 24,ycq 26 25,xL 27 26,ycv 28 f_47 27,xS 2 4 23,yct 28,ycz 6] .ret))⟩
def c_21:AFn:=⟨3,[.cell 6 true 6,.tmp 7,.cell 8 true 4,.tmp 9],yap [ycl 3,xJ 4 1,yao 6 [.Xu 1 [],.Xu 5 [],.Xu 2 [],.Xu 4 [],.Xu 9 [],.Xu 4 []],ydb,yds 8,ya4 9] [ybm 26 4,xL 27 26] (.block 0 (yd6 (yco 29 .eql 27) (xM 28 29) (yab 28 (ydn [yea 31 3,ybr 32 4,xL 33 32,yd9 34 4,xL 35 34,yah 36 f_48 [.t 31,.t 33,.t 35],xM 30 36,yei 37 30,yej 38 30,xE 39 2 30,yao 10 [.Xu 1 [],.Xu 5 [],.Xu 2 [],.Xu 4 [],.Xu 9 [],.Xu 4 []],xS 6 10 37,xM 11 38,xM 12 39] 10 (yad [yea 40 10,xM 41 11,xO 42 (.build [.int .i64 0,.int .i64 0,.int .i64 0,.int .i64 0] []),xM 43 12,xS 6 6 40,ydz 41,yde 8 42,xM 9 43])) (yd6 (yby 45 .eql 27) (xM 44 45) (yab 44 (yap [yea 46 3,ybr 47 4,xL 48 47,ybh 49 f_49 46 48,xM 13 49] [ydj 50,ybl 51 50,xM 52 51,yay 53 52 13,ya2 54 52 .neq 53 ydo,xW 55 52 54] (yck 55 (yb7 (xQ [yea 57 3,ybr 58 4,xL 59 58,ybh 60 f_50 57 59,xM 56 60,yei 61 56,yej 62 56,xE 63 2 56,yao 14 [.Xu 1 [],.Xu 5 [],.Xu 2 [],.Xu 4 [],.Xu 9 [],.Xu 4 []],yds 15,xS 6 14 61,yde 15 62,xM 16 63] [14,15]) (ybk [(1,3)] [⟨some 64,none,.load true 6 (.t 14)⟩,⟨some 65,none,.load true 4 (.t 15)⟩,⟨some 66,none,.mov (.t 16)⟩,⟨none,none,.store 6 (.t 6) (.t 64)⟩,⟨some 7,none,.mov (.c (.int .i64 0))⟩,⟨none,none,.store 4 (.t 8) (.t 65)⟩,⟨some 9,none,.mov (.t 66)⟩] none) .ret)) (yb7 (ydm [yeb 67 3,xL 68 67,ybr 69 4,xL 70 69,xX 71 9 68 70,yc4 72 71,yao 17 [yav,yav,.Xu 1 [],.Xu 3 [],yak,yav,yav,.Xu 3 [],.Xu 2 []],xS 9 17 72] 17) (ybk [(1,17),(4,17),(6,17),(9,17),(11,17),(13,17),(1,18),(4,18),(6,18),(9,18),(11,18),(13,18),(17,18)] [⟨some 74,none,.faddr 3 (.t 3)⟩,⟨some 75,none,.load false 1 (.t 74)⟩,⟨some 76,none,.faddr 0 (.t 17)⟩,⟨some 77,none,.faddr 0 (.t 76)⟩,⟨some 78,none,.load false 1 (.t 77)⟩,⟨some 79,none,.iaddr 4 none (.t 75) (.t 78)⟩,⟨some 80,none,.load true 4 (.t 79)⟩,⟨some 81,none,.faddr 0 (.t 17)⟩,⟨some 82,none,.faddr 1 (.t 81)⟩,⟨some 83,none,.load false 1 (.t 82)⟩,⟨some 84,none,.faddr 2 (.t 17)⟩,⟨some 85,none,.load false 1 (.t 84)⟩,⟨some 86,none,.build [.int .i64 0,.Xu 1 []] [(0,1,(.t 83)),(1,1,(.t 85))]⟩,⟨some 87,none,.pcall f_13 [.t 80,.t 86]⟩,⟨some 73,none,.mov (.t 87)⟩,⟨some 88,none,.ext 0 (.t 73)⟩,⟨some 89,none,.ext 1 (.t 73)⟩,⟨some 18,none,.alloc [.bool false,.int .i64 0,.Xu 1 [],.Xu 3 []]⟩,⟨some 19,none,.alloc [.Xu 1 [],.Xu 1 [],.Xu 2 [],.Xu 1 []]⟩,⟨none,none,.store 4 (.t 18) (.t 88)⟩,⟨none,none,.store 4 (.t 19) (.t 89)⟩] (some [18,19])) (yb7 (xQ [yea 91 3,ybr 92 4,xL 93 92,yeh 94 18,yeh 95 19,yah 96 f_51 [.t 91,.t 93,.t 94,.t 95],xM 90 96,yei 97 90,yej 98 90,yao 20 [.Xu 1 [],.Xu 5 [],.Xu 2 [],.Xu 4 [],.Xu 9 [],.Xu 4 []],yds 21,xS 6 20 97,yde 21 98] [20,21]) (ybk [(1,2)] [⟨some 99,none,.load true 6 (.t 20)⟩,⟨some 100,none,.load true 4 (.t 21)⟩,⟨none,none,.store 6 (.t 6) (.t 99)⟩,⟨some 7,none,.mov (.c (.int .i64 0))⟩,⟨none,none,.store 4 (.t 8) (.t 100)⟩,⟨some 9,none,.mov (.c (.int .i64 0))⟩] none) .ret))) (yd6 (xK 102 .eql 27 2) (xM 101 102) (yab 101 (ydn [yea 104 3,ybr 105 4,xL 106 105,ycq 107 4,xL 108 107,yeb 109 4,ych 110 109,yah 111 f_52 [.t 104,.t 106,.t 108,.t 110],xM 103 111,yei 112 103,yej 113 103,yao 22 [.Xu 1 [],.Xu 5 [],.Xu 2 [],.Xu 4 [],.Xu 9 [],.Xu 4 []],xS 6 22 112,xM 23 113] 22 (yad [yea 114 22,xO 115 (.build [.int .i64 0,.int .i64 0,.int .i64 0,.int .i64 0] []),xM 116 23,xS 6 6 114,ydb,yde 8 115,xM 9 116])) (yd6 (xK 118 .eql 27 3) (xM 117 118) (yck 117 (ydn [yea 120 3,ybr 121 4,xL 122 121,ycq 123 4,xL 124 123,yby 125 .eql 124,yah 126 f_53 [.t 120,.t 122,.t 125],xM 119 126,yei 127 119,yej 128 119,yao 24 [.Xu 1 [],.Xu 5 [],.Xu 2 [],.Xu 4 [],.Xu 9 [],.Xu 4 []],xS 6 24 127,xM 25 128] 24 (yad [yea 129 24,xO 130 (.build [.int .i64 0,.int .i64 0,.int .i64 0,.int .i64 0] []),xM 131 25,xS 6 6 129,ydb,yde 8 130,xM 9 131]))))))))))) (yad [yea 132 3,xO 133 (.build [.int .i64 0,.int .i64 0,.int .i64 0,.int .i64 0] []),xS 6 6 132,ydb,yde 8 133,ya4 9])⟩
def c_22_l0:Xv:=ydq 41 .lss 40 39 41 0 (ya1 1 (ya3 [xX 42 9 38 40,yc4 43 42,yao 5 [yav,yav,.Xu 1 [],.Xu 3 [],yak,yav,yav,.Xu 3 [],.Xu 2 []],xS 9 5 43] (xD [ycq 44 5,xL 45 44,ycv 46 f_47 45,yd9 47 5,xL 48 47,ybd 49 f_46 [.t 48],ycq 50 5,xS 1 50 46,yd9 51 5,xS 1 51 49]) (ybk [(5,7)] [⟨some 52,none,.mov (.t 3)⟩,⟨some 53,none,.mov (.t 3)⟩,⟨some 54,none,.nilchk (.t 53)⟩,⟨some 55,none,.faddr 0 (.t 54)⟩,⟨some 56,none,.faddr 4 (.t 55)⟩,⟨some 57,none,.load false 1 (.t 56)⟩,⟨some 58,none,.load true 9 (.t 5)⟩,⟨some 59,none,.bslice .row 9 (List.replicate 1 [.int .i64 0,.int .i64 0,.Xu 1 [],.Xu 3 [],.bool false,.int .i64 0,.int .i64 0,.Xu 3 [],.Xu 2 []]) [(0,(.t 58))]⟩,⟨some 60,none,.append .row 9 136 (.t 57) (.t 59)⟩,⟨some 61,none,.nilchk (.t 52)⟩,⟨some 62,none,.faddr 0 (.t 61)⟩,⟨some 63,none,.faddr 4 (.t 62)⟩,⟨none,none,.store 1 (.t 63) (.t 60)⟩] none)) [yby 64 .add 40,xM 40 64])
def c_22_k1:Xv:=yc5 (xM 65 3) (xM 2 65)
def c_22:AFn:=⟨1,[.tmp 2],ycr [yd0 2] [ybq 6,ybd 7 f_43 [.t 6],ybl 8 7] 8 (yd0 2) (.seq (ybk [(11,16),(11,22),(17,22)] [⟨some 9,none,.mov (.t 0)⟩,⟨some 10,none,.nilchk (.t 9)⟩,⟨some 11,none,.faddr 0 (.t 10)⟩,⟨some 12,none,.faddr 0 (.t 11)⟩,⟨some 13,none,.load true 3 (.t 12)⟩,⟨some 14,none,.pcall f_36 [.t 13]⟩,⟨some 15,none,.mov (.t 0)⟩,⟨some 16,none,.nilchk (.t 15)⟩,⟨some 17,none,.faddr 0 (.t 16)⟩,⟨some 18,none,.faddr 3 (.t 17)⟩,⟨some 19,none,.load false 1 (.t 18)⟩,⟨some 20,none,.tcall f_37 [.t 19]⟩,⟨some 21,none,.mov (.t 0)⟩,⟨some 22,none,.nilchk (.t 21)⟩,⟨some 23,none,.faddr 0 (.t 22)⟩,⟨some 24,none,.faddr 5 (.t 23)⟩,⟨some 25,none,.load false 1 (.t 24)⟩,⟨some 26,none,.tcall f_44 [.t 25]⟩,⟨some 27,none,.build [.Xu 1 [],.Xu 5 [],.Xu 2 [],.Xu 4 [],.Xu 9 [],.Xu 4 []] [(0,3,(.t 14)),(3,1,(.t 20)),(5,1,(.t 26))]⟩,⟨some 28,none,.mov (.t 0)⟩,⟨some 29,none,.nilchk (.t 28)⟩,⟨some 30,none,.faddr 6 (.t 29)⟩,⟨some 31,none,.load false 1 (.t 30)⟩,⟨some 32,none,.build [.Xu 1 [],.Xu 5 [],.Xu 2 [],.Xu 4 [],.Xu 9 [],.Xu 4 [],.nilfunc] [(0,6,(.t 27)),(6,1,(.t 31))]⟩,⟨some 33,none,.box (.t 32)⟩,⟨some 3,none,.mov (.t 33)⟩] none) (ybi [ybq 34,ybv 35 34,ybm 36 35,yeb 37 36,xL 38 37,xN 39 38,ya4 40] 0 c_22_l0 c_22_k1))⟩
def c_23_l0:Xv:=yc3 [ycc 38,ybu 39,xN 40 39,xB 41 .lss 38 40] 41 0 1 [ybu 44,ycc 45,yef 46 44 45,xL 47 46,ycw 48,ycc 49,yef 50 48 49,xL 51 50,xB 52 .neq 47 51] 52 [yb8] [ycc 42,yby 43 .add 42,yee 43]
def c_23_l1:Xv:=yc3 [ydy 53,yb1 54,xN 55 54,xB 56 .lss 53 55] 56 2 3 [yb1 59,ydy 60,xX 61 4 59 60,yeh 62 61,yd9 63 3,xL 64 63,ydy 65,xX 66 4 64 65,yeh 67 66,ybh 68 f_56 62 67,ybl 69 68] 69 [yb8] [ydy 57,yby 58 .add 57,xM 9 58]
def c_23_l2:Xv:=ydf [xM 70 10,yeb 71 3,xL 72 71,xN 73 72,xB 74 .leq 70 73] 74 4 5 (ybb [ybq 77,yea 78 3,xM 79 10,yah 80 f_57 [.t 77,.t 78,.t 79],ybl 81 80] 81 [yb8]) [xM 75 10,yby 76 .add 75,xM 10 76]
def c_23_k3:Xv:=ydi 4
def c_23_k4:Xv:=ybi [xI 10 (-1)] 4 c_23_l2 c_23_k3
def c_23_k5:Xv:=ybi [ya4 9] 2 c_23_l1 c_23_k4
def c_23:AFn:=⟨2,[.tmp 4],ya3 [xJ 3 1,yb8] (ybk [(1,4),(3,4)] [⟨some 11,none,.mov (.t 0)⟩,⟨some 12,none,.tcall f_30 [.t 11]⟩,⟨some 13,none,.mov (.t 0)⟩,⟨some 14,none,.tcall f_32 [.t 13]⟩,⟨some 15,none,.load true 6 (.t 3)⟩,⟨some 16,none,.pcall f_54 [.t 15]⟩,⟨some 5,none,.mov (.t 12)⟩,⟨some 6,none,.mov (.t 14)⟩,⟨some 7,none,.mov (.t 16)⟩] none) (.seq (.seq (ybk [(1,3)] [⟨some 17,none,.mov (.t 0)⟩,⟨some 18,none,.tcall f_15 [.t 17]⟩,⟨some 19,none,.faddr 5 (.t 3)⟩,⟨some 20,none,.load false 1 (.t 19)⟩,⟨some 21,none,.pcall f_55 [.t 18,.t 20]⟩,⟨some 22,none,.un .not (.t 21)⟩,⟨some 23,none,.mov (.t 22)⟩,⟨some 24,some (23,false),.mov (.t 5)⟩,⟨some 25,some (23,false),.len (.t 24)⟩,⟨some 26,some (23,false),.mov (.t 7)⟩,⟨some 27,some (23,false),.len (.t 26)⟩,⟨some 28,some (23,false),.bin .neq (.t 25) (.t 27)⟩,⟨some 29,none,.pick (.t 23) (.c (.bool true)) (.t 28)⟩,⟨some 30,none,.mov (.t 29)⟩,⟨some 31,some (30,false),.mov (.t 6)⟩,⟨some 32,some (30,false),.len (.t 31)⟩,⟨some 33,some (30,false),.faddr 3 (.t 3)⟩,⟨some 34,some (30,false),.load false 1 (.t 33)⟩,⟨some 35,some (30,false),.len (.t 34)⟩,⟨some 36,some (30,false),.bin .neq (.t 32) (.t 35)⟩,⟨some 37,none,.pick (.t 30) (.c (.bool true)) (.t 36)⟩] none) (yai 37 [yb8])) (ybi [ya4 8] 0 c_23_l0 c_23_k5))⟩
def c_28:AFn:=⟨3,[.tmp 6,.tmp 7],yd6 yda ydb (yaj 0 (yb0 [ybq 10,ybd 11 f_43 [.t 10],ybl 12 11,xM 9 12] 9 [yda,xI 7 1] (yb0 [ybe 14,yco 15 .lss 14,xM 16 15,yay 17 16 1,yay 18 16 0,yac 19 16 (ya5 18),yax 20 16 0 19,yax 21 16 0 20,yax 22 16 2 21,ybw 23 16 22,ybn 24 16 23,yb6 25 16 .geq 17 24,xW 26 16 25,xM 13 26] 13 [yda,xI 7 8] (yb0 [ydj 28,xN 29 28,xK 30 .gtr 29 512,xM 27 30] 27 [yda,xI 7 4] (ybb [ybq 32,ybv 33 32,ybm 34 33,yeb 35 34,xL 36 35,xN 37 36,xK 38 .geq 37 4096,xM 31 38] 31 [yda,xI 7 12])))) (ya3 [ybq 39,ybv 40 39,ybm 41 40,yeb 42 41,xL 43 42,xN 44 43,yee 44] (ybk [(5,18)] [⟨some 45,none,.mov (.t 0)⟩,⟨some 46,none,.mov (.t 0)⟩,⟨some 47,none,.nilchk (.t 46)⟩,⟨some 48,none,.faddr 0 (.t 47)⟩,⟨some 49,none,.faddr 4 (.t 48)⟩,⟨some 50,none,.load false 1 (.t 49)⟩,⟨some 51,none,.mov (.t 0)⟩,⟨some 52,none,.nilchk (.t 51)⟩,⟨some 53,none,.faddr 0 (.t 52)⟩,⟨some 54,none,.faddr 0 (.t 53)⟩,⟨some 55,none,.faddr 2 (.t 54)⟩,⟨some 56,none,.load false 1 (.t 55)⟩,⟨some 57,none,.mov (.t 1)⟩,⟨some 58,none,.iaddr 2 none (.t 56) (.t 57)⟩,⟨some 59,none,.load true 2 (.t 58)⟩,⟨some 60,none,.mov (.t 2)⟩,⟨some 61,none,.pcall f_47 [.t 60]⟩,⟨some 62,none,.build [.int .i64 0,.int .i64 0,.Xu 1 [],.Xu 3 [],.bool false,.int .i64 0,.int .i64 0,.Xu 3 [],.Xu 2 []] [(0,2,(.t 59)),(2,1,(.t 61))]⟩,⟨some 63,none,.bslice .row 9 (List.replicate 1 [.int .i64 0,.int .i64 0,.Xu 1 [],.Xu 3 [],.bool false,.int .i64 0,.int .i64 0,.Xu 3 [],.Xu 2 []]) [(0,(.t 62))]⟩,⟨some 64,none,.append .row 9 136 (.t 50) (.t 63)⟩,⟨some 65,none,.nilchk (.t 45)⟩,⟨some 66,none,.faddr 0 (.t 65)⟩,⟨some 67,none,.faddr 4 (.t 66)⟩,⟨none,none,.store 1 (.t 67) (.t 64)⟩] none) (ybx [ybq 68,ybv 69 68,ybm 70 69,ycc 71,ybe 72,ybd 73 f_64 [.t 70,ybj 1,.t 71,.t 72,ydo]] [ycc 74,yc7 74,ydb])))⟩
def c_29:AFn:=⟨2,[.cell 4 true 4,.tmp 5],yd6 (yds 4) ycg (yaj 0 (yb0 [ybq 19,ybd 20 f_43 [.t 19],ybl 21 20,xM 18 21] 18 [xO 22 (.build [.int .i64 0,.int .i64 0,.int .i64 0,.int .i64 0] []),yde 4 22,xI 5 1] (yb0 [ybe 24,yco 25 .lss 24,xM 26 25,yay 27 26 1,yay 28 26 0,yac 29 26 (ya5 28),yax 30 26 0 29,yax 31 26 4 30,ybw 32 26 31,ybn 33 26 32,yb6 34 26 .geq 27 33,xW 35 26 34,xM 23 35] 23 [xO 36 (.build [.int .i64 0,.int .i64 0,.int .i64 0,.int .i64 0] []),yde 4 36,xI 5 8] (ybb [ybq 38,ybv 39 38,ybm 40 39,yeb 41 40,xL 42 41,ybe 43,xX 44 9 42 43,yeb 45 44,xL 46 45,xM 37 46] 37 [xO 47 (.build [.int .i64 0,.int .i64 0,.int .i64 0,.int .i64 0] []),yde 4 47,xI 5 25]))) (yb7 (xD [ybq 48,ybv 49 48,ybm 50 49,yeb 51 50,xL 52 51,ybe 53,xX 54 9 52 53,ybq 55,ybv 56 55,ybm 57 56,xO 58 (.mkfunc (.func f_64) [.t 57] []),yc7 54,ydz 58]) (xD [yb1 59,ybv 60 59,ybm 61 60,ybm 62 61,xL 63 62,yb1 64,ybv 65 64,ybm 66 65,ybr 67 66,xL 68 67,yee 63,xM 9 68]) (yb7 (ybk [(3,24),(8,24),(11,24),(12,24),(17,24),(18,24),(20,24),(3,25),(8,25),(11,25),(12,25),(17,25),(18,25),(20,25),(24,25)] [⟨some 70,none,.mov (.t 0)⟩,⟨some 71,none,.nilchk (.t 70)⟩,⟨some 72,none,.faddr 6 (.t 71)⟩,⟨some 73,none,.load false 1 (.t 72)⟩,⟨some 74,none,.mov (.t 0)⟩,⟨some 75,none,.nilchk (.t 74)⟩,⟨some 76,none,.faddr 0 (.t 75)⟩,⟨some 77,none,.faddr 3 (.t 76)⟩,⟨some 78,none,.load false 1 (.t 77)⟩,⟨some 79,none,.mov (.t 8)⟩,⟨some 80,none,.iaddr 4 none (.t 78) (.t 79)⟩,⟨some 81,none,.load true 4 (.t 80)⟩,⟨some 82,none,.pcall f_65 [.t 81]⟩,⟨some 83,none,.mov (.t 9)⟩,⟨some 84,none,.mov (.t 6)⟩,⟨some 85,none,.nilchk (.t 84)⟩,⟨some 86,none,.faddr 2 (.t 85)⟩,⟨some 87,none,.load false 1 (.t 86)⟩,⟨some 88,none,.pcall f_47 [.t 87]⟩,⟨some 89,none,.build [.int .i64 0,.Xu 1 []] [(0,1,(.t 83)),(1,1,(.t 88))]⟩,⟨some 90,none,.pcallv (.t 73) [.t 82,.t 89]⟩,⟨some 69,none,.mov (.t 90)⟩,⟨some 91,none,.ext 0 (.t 69)⟩,⟨some 92,none,.ext 1 (.t 69)⟩,⟨some 10,none,.alloc [.bool false,.int .i64 0,.Xu 1 [],.Xu 3 []]⟩,⟨some 11,none,.alloc [.Xu 1 [],.Xu 1 [],.Xu 2 [],.Xu 1 []]⟩,⟨none,none,.store 4 (.t 10) (.t 91)⟩,⟨none,none,.store 4 (.t 11) (.t 92)⟩] (some [10,11])) (xD [ybq 93,ybv 94 93,ybm 95 94,yd9 96 95,xL 97 96,ycc 98,yeh 99 11,ycv 100 f_65 99,xX 101 4 97 98,yde 101 100]) (yae [ybm 102 10,xL 103 102] (yck 103 (yaa [yb1 104,yb1 105,ybv 106 105,yd9 107 106,xL 108 107,ycc 109,ydy 110,xO 111 (.build [.int .i64 0,.int .i64 0,.int .i64 0] [(0,1,(.t 109)),(1,1,(.t 110)),(2,1,(.c (.int .i64 (-1))))]),xO 112 (.bslice .imm 3 (List.replicate 1 [.int .i64 0,.int .i64 0,.int .i64 0]) [(0,(.t 111))]),ydl 113 3 24 108 112,ybv 114 104,yd9 115 114,xS 1 115 113] (ybx [yb1 116,ycc 117,ybd 118 f_66 [.t 116,ybj 2,.t 117]] [ycw 119,ybe 120,ycc 121,xO 122 (.tcallv (.t 119) [ybj 2,.t 120,.t 121,ybj (-1)]),yde 4 122,ycg]))) (ydc [yb1 123,yb1 124,ybv 125 124,yd9 126 125,xL 127 126,ycc 128,ydy 129,ybr 130 10,xL 131 130,xO 132 (.build [.int .i64 0,.int .i64 0,.int .i64 0] [(0,1,(.t 128)),(1,1,(.t 129)),(2,1,(.t 131))]),xO 133 (.bslice .imm 3 (List.replicate 1 [.int .i64 0,.int .i64 0,.int .i64 0]) [(0,(.t 132))]),ydl 134 3 24 127 133,ybv 135 123,yd9 136 135,xS 1 136 134] (ya3 [yb1 137,ycq 138 10,xL 139 138,ycv 140 f_47 139,ybv 141 137,ycq 142 141,xS 1 142 140] (ydm [ycw 143,ybe 144,ycc 145,ybr 146 10,xL 147 146,xO 148 (.tcallv (.t 143) [ybj 2,.t 144,.t 145,.t 147]),yds 12,yde 12 148] 12) (ydn [ycc 149,ybr 150 10,xL 151 150,xO 152 (.build [.int .i64 0,.int .i64 0] [(0,1,(.t 149)),(1,1,(.t 151))]),yec 13,xS 2 13 152] 13 (yb7 (ydc [ybq 154,ybv 155 154,ybm 156 155,ybm 157 156,yeg 158 157,ych 159 13,ybh 160 f_67 158 159,xM 153 160,yei 161 153,yej 162 153,xM 14 161,xM 15 162] (yaa [xM 163 15] (yck 163 (ybx [yb1 164,xM 165 14,ybd 166 f_66 [.t 164,ybj 1,.t 165]] [ycw 167,ybe 168,xM 169 14,xO 170 (.tcallv (.t 167) [ybj 3,.t 168,.t 169,ydo]),yde 4 170,ycg])))) (ybk [(4,10),(5,10),(6,10)] [⟨some 172,none,.mov (.t 0)⟩,⟨some 173,none,.nilchk (.t 172)⟩,⟨some 174,none,.faddr 0 (.t 173)⟩,⟨some 175,none,.faddr 0 (.t 174)⟩,⟨some 176,none,.load true 3 (.t 175)⟩,⟨some 177,none,.load true 2 (.t 13)⟩,⟨some 178,none,.pcall f_68 [.t 176,.t 177]⟩,⟨some 171,none,.mov (.t 178)⟩,⟨some 179,none,.ext 0 (.t 171)⟩,⟨some 180,none,.ext 1 (.t 171)⟩,⟨some 16,none,.alloc [.int .i64 0,.int .i64 0]⟩,⟨none,none,.store 2 (.t 16) (.t 179)⟩,⟨some 17,none,.mov (.t 180)⟩] (some [16])) (yae [xM 181 17,yco 182 .neq 181] (yck 182 (ybx [yb1 183,ycc 184,ybd 185 f_66 [.t 183,ybj 3,.t 184]] [ycw 186,ybe 187,ycc 188,ybr 189 10,xL 190 189,xO 191 (.tcallv (.t 186) [ybj 4,.t 187,.t 188,.t 190]),yde 4 191,ycg])) (ybx [yb1 192,ych 193 16,ybv 194 192,ybm 195 194,xS 2 195 193] [yeh 196 12,yde 4 196,ycg]))))))))))⟩
def c_30_l0:Xv:=ydq 16 .lss 15 14 16 0 (ydu 1 [xM 17 15,xX 18 9 13 15,yc4 19 18,yao 5 [yav,yav,.Xu 1 [],.Xu 3 [],yak,yav,yav,.Xu 3 [],.Xu 2 []],ycm 17,xS 9 5 19] 5 (yaa [yeb 20 5,xL 21 20,ybl 22 21] (yck 22 (xR [xM 23 3,xM 24 4,xO 25 (.bslice .imm 1 (List.replicate 1 [.int .i64 0]) [(0,(.t 24))]),ydl 26 1 8 23 25,xM 3 26]))) [yby 27 .add 15,xM 15 27])
def c_30_k1:Xv:=yc5 (xM 28 3) (xM 2 28)
def c_30:AFn:=⟨1,[.tmp 2],ycr [xC 2 (.Xu 1 [])] [ybq 6,ybd 7 f_43 [.t 6],ybl 8 7] 8 (xC 2 (.Xu 1 [])) (yd4 [yed 3 1] [ybq 9,ybv 10 9,ybm 11 10,yeb 12 11,xL 13 12,xN 14 13,ya4 15] c_30_l0 c_30_k1)⟩
def c_31:AFn:=⟨2,[.tmp 4],yaa [xC 4 (.Xu 1 [])] (yd3 [ybq 6,ybe 7,ybd 8 f_45 [.t 6,.t 7],ycc 5] [ybu 9,xO 10 (.eqn false (.t 9) yd1)] 10 (xC 4 (.Xu 1 [])) [ybu 11,ybv 12 11,ycq 13 12,xL 14 13,ycv 15 f_47 14,ycm 15])⟩
def c_32:AFn:=⟨1,[.tmp 2],yd3 [xC 2 (.Xu 4 [])] [ybq 3,ybd 4 f_43 [.t 3],ybl 5 4] 5 (xC 2 (.Xu 4 [])) [ybq 6,ybv 7 6,ybm 8 7,yd9 9 8,xL 10 9,ybd 11 f_37 [.t 10],xM 2 11]⟩
def c_33_l0:Xv:=ydq 38 .lss 37 36 38 0 (ya1 1 (yaa [yef 39 35 37,xL 40 39,ycm 40] (ybb [xM 41 4,yby 42 .lss 41,xM 43 42,yay 44 43 4,yb4 45 43 .gtr 44 16,xW 46 43 45] 46 [xI 2 9])) [yby 47 .add 37,xM 37 47])
def c_33_l1:Xv:=ydq 53 .lss 52 51 53 2 (ydu 3 [xX 54 2 50 52,ych 55 54,yec 7,xS 2 7 55] 7 (ybb [yeg 56 1,ych 57 7,ybh 58 f_70 56 57,ybl 59 58] 59 [xI 2 9]) [yby 60 .add 52,xM 52 60])
def c_33_l2:Xv:=ydq 73 .lss 72 71 73 6 (ydu 7 [xX 74 2 70 72,ych 75 74,yec 11,xS 2 11 75] 11 (ybb [ych 76 9,ych 77 11,xO 78 (.eqs false true [.i,.i] (.t 76) (.t 77))] 78 [xI 2 7]) [yby 79 .add 72,xM 72 79])
def c_33_k3:Xv:=xR [yby 80 .add 63,xM 63 80]
def c_33_l4:Xv:=ydq 64 .lss 63 62 64 4 (yaj 5 (ydn [xM 65 63,xX 66 2 61 63,ych 67 66,yec 9,yee 65,xS 2 9 67] 9 (yaa [ybu 68,ycc 69,xO 70 (.slc 2 (.t 68) none (some (.t 69)) none),xN 71 70,ya4 72] (yal 6 c_33_l2))) c_33_k3)
def c_33_l5:Xv:=ydq 85 .lss 84 83 85 8 (ydu 9 [xX 86 5 82 84,xA 87 5 86,yao 13 [yav,yav,yav,yav,yak],xS 5 13 87] 13 (ybb [ybm 88 13,ybm 89 88,xL 90 89,ycq 91 13,ybm 92 91,xL 93 92,xB 94 .eql 90 93] 94 [xI 2 2]) [yby 95 .add 84,xM 84 95])
def c_33_k6:Xv:=ydh (ya4 2)
def c_33_k7:Xv:=ybi [ybr 81 1,xL 82 81,xN 83 82,ya4 84] 8 c_33_l5 c_33_k6
def c_33_k8:Xv:=ybi [ybu 61,xN 62 61,ya4 63] 4 c_33_l4 c_33_k7
def c_33_k9:Xv:=ybs [yeg 48 1,ycv 49 f_69 48,yct 49] [ybu 50,xN 51 50,ya4 52] 2 c_33_l1 c_33_k8
def c_33:AFn:=⟨1,[.tmp 2],ycr [ycl 1,ya4 2] [ybm 14 1,xL 15 14,xN 16 15,yco 17 .eql 16] 17 (xI 2 8) (ycd [ybm 18 1,xL 19 18,xN 20 19,xK 21 .gtr 20 16,xM 22 21,ydd 23 22 1,ybw 24 22 23,ybn 25 22 24,yb4 26 22 .gtr 25 32,xW 27 22 26,xM 28 27,yax 29 28 2 1,ybw 30 28 29,ybn 31 28 30,yb4 32 28 .gtr 31 16,xW 33 28 32] 33 [xI 2 12] (ybi [ybm 34 1,xL 35 34,xN 36 35,ya4 37] 0 c_33_l0 c_33_k9))⟩
def c_35_l0:Xv:=ydq 40 .lss 39 38 40 0 (ya1 1 (ya3 [xM 41 39,ydz 41] (xD [ydx 42,ycw 43,yc1 44,xL 45 44,ycw 46,yef 47 45 46,xL 48 47,ydt 49,xL 50 49,ycw 51,yef 52 50 51,xL 53 52,ycq 54 3,xL 55 54,ycw 56,xX 57 2 55 56,ych 58 57,yah 59 f_81 [.t 42,.t 43,.t 48,.t 53,.t 58],yee 59]) (ybb [ycc 60,yco 61 .neq 60] 61 [ycc 62,ycm 62])) [yby 63 .add 39,xM 39 63])
def c_35_k1:Xv:=yad [ydx 64,yd9 65 3,xL 66 65,ybh 67 f_82 64 66,ycm 67]
def c_35:AFn:=⟨2,[.tmp 4],ya3 [ycp,xJ 3 1,yb3] (ydn [ydx 9,ycv 10 f_80 9,yds 5,yde 5 10] 5 (ybb [ybm 11 5,xL 12 11,yco 13 .neq 12] 13 [ybm 14 5,xL 15 14,ycm 15])) (ydv [xF 16 5 2,xL 17 16,xN 18 17,yc7 18] [yc1 19,xL 20 19,xN 21 20,yb1 22,xB 23 .neq 21 22,xM 24 23,ydd 25 24 3,ybw 26 24 25,ybn 27 24 26,yay 28 24 6,yb6 29 24 .neq 27 28,xW 30 24 29,xM 31 30,yax 32 31 2 3,ybw 33 31 32,ybn 34 31 33,yay 35 31 6,yb6 36 31 .neq 34 35,xW 37 31 36] 37 (ydg 2) [yb1 38,ya4 39] 0 c_35_l0 c_35_k1)⟩
def c_36:AFn:=⟨1,[.cell 2 true 3],ya3 [ycl 1,yao 2 [.Xu 1 [],.Xu 5 [],.Xu 2 []]] (ybk [(2,4),(2,7),(5,7)] [⟨some 3,none,.faddr 0 (.t 1)⟩,⟨some 4,none,.load false 1 (.t 3)⟩,⟨some 5,none,.append .app 1 8 (.c (.Xu 1 [])) (.t 4)⟩,⟨some 6,none,.faddr 1 (.t 1)⟩,⟨some 7,none,.load false 1 (.t 6)⟩,⟨some 8,none,.append .row 5 40 (.c (.Xu 5 [])) (.t 7)⟩,⟨some 9,none,.faddr 2 (.t 1)⟩,⟨some 10,none,.load false 1 (.t 9)⟩,⟨some 11,none,.append .app 2 16 (.c (.Xu 2 [])) (.t 10)⟩,⟨some 12,none,.build [.Xu 1 [],.Xu 5 [],.Xu 2 []] [(0,1,(.t 5)),(1,1,(.t 8)),(2,1,(.t 11))]⟩,⟨none,none,.store 3 (.t 2) (.t 12)⟩] none) .ret⟩
def c_37_l0:Xv:=ydq 9 .lss 8 7 9 0 (ydu 1 [xX 10 4 6 8,yeh 11 10,yce 5 (.Xu 1 []) (.Xu 1 []) (.Xu 2 []) (.Xu 1 []),yde 5 11] 5 (xR [xM 12 3,yeh 13 5,ycv 14 f_65 13,xO 15 (.bslice .row 4 (List.replicate 1 [.Xu 1 [],.Xu 1 [],.Xu 2 [],.Xu 1 []]) [(0,(.t 14))]),yc6 16 .row 4 96 12 15,xM 3 16]) [yby 17 .add 8,yee 17])
def c_37_k1:Xv:=yc5 (xM 18 3) (xM 2 18)
def c_37:AFn:=⟨1,[.tmp 2],yaa [xC 2 (.Xu 4 [])] (yd4 [xC 3 (.Xu 4 [])] [ybq 6,xN 7 6,ya4 8] c_37_l0 c_37_k1)⟩
def c_39_l0:Xv:=ydf [xM 31 3,ybm 32 1,xL 33 32,xN 34 33,xB 35 .lss 31 34] 35 1 2 (ybb [ybm 38 1,xL 39 38,xM 40 3,yef 41 39 40,xL 42 41,yby 43 .lss 42,xM 44 43,yax 45 44 0 1,ybw 46 44 45,yay 47 44 3,yac 48 44 (ydw 1 46 47),ybw 49 44 48,yb4 50 44 .gtr 49 16,xW 51 44 50] 51 [xI 2 9]) [xM 36 3,yby 37 .add 36,xM 3 37]
def c_39_l1:Xv:=yc3 [ybu 54,xM 55 4,xN 56 55,xB 57 .lss 54 56] 57 3 4 [yeg 60 1,xM 61 4,ybu 62,xX 63 2 61 62,ych 64 63,ybh 65 f_87 60 64,ybl 66 65] 66 [xI 2 9] [ybu 58,yby 59 .add 58,yct 59]
def c_39_l2:Xv:=yc3 [ycw 73,yb1 74,xB 75 .lss 73 74] 75 7 8 [xM 78 4,yb1 79,xX 80 2 78 79,ych 81 80,xM 82 4,ycw 83,xX 84 2 82 83,ych 85 84,xO 86 (.eqs false true [.i,.i] (.t 81) (.t 85))] 86 [xI 2 7] [ycw 76,yby 77 .add 76,ydz 77]
def c_39_k3:Xv:=xR [yb1 71,yby 72 .add 71,yc7 72]
def c_39_l4:Xv:=yba [yb1 67,xM 68 4,xN 69 68,xB 70 .lss 67 69] 70 5 (yaj 6 (yaa [ydb] (yal 7 c_39_l2)) c_39_k3)
def c_39_l5:Xv:=yc3 [ycc 87,ybr 88 1,xL 89 88,xN 90 89,xB 91 .lss 87 90] 91 9 10 [ybr 94 1,xL 95 94,ycc 96,xX 97 5 95 96,ybm 98 97,ybm 99 98,xL 100 99,ybr 101 1,xL 102 101,ycc 103,xX 104 5 102 103,ycq 105 104,ybm 106 105,xL 107 106,xB 108 .eql 100 107] 108 [xI 2 2] [ycc 92,yby 93 .add 92,yee 93]
def c_39_k6:Xv:=ydh (ya4 2)
def c_39_k7:Xv:=ybi [ya4 8] 9 c_39_l5 c_39_k6
def c_39_k8:Xv:=ybi [yda] 5 c_39_l4 c_39_k7
def c_39_k9:Xv:=ybs [yeg 52 1,ycv 53 f_86 52,ycm 53] [ycg] 3 c_39_l1 c_39_k8
def c_39:AFn:=⟨1,[.tmp 2],yd6 (ycl 1) (ya4 2) (yaj 0 (yb0 [ybm 10 1,xL 11 10,xN 12 11,yco 13 .eql 12,xM 9 13] 9 [xI 2 8] (ybb [ybm 15 1,xL 16 15,xN 17 16,xK 18 .gtr 17 16,xM 19 18,ydd 20 19 1,ybw 21 19 20,ybn 22 19 21,yb4 23 19 .gtr 22 32,xW 24 19 23,xM 25 24,yax 26 25 2 1,ybw 27 25 26,ybn 28 25 27,yb4 29 25 .gtr 28 16,xW 30 25 29,xM 14 30] 14 [xI 2 12])) (ybi [ya4 3] 1 c_39_l0 c_39_k9))⟩
def c_40_l0:Xv:=ycs [yb1 39,ybu 40,xB 41 .lss 39 40] 41 1 2 [ydx 44,yb1 45,yc1 46,xL 47 46,yb1 48,yef 49 47 48,xL 50 49,ydt 51,xL 52 51,yb1 53,yef 54 52 53,xL 55 54,yah 56 f_89 [.t 44,.t 45,.t 50,.t 55],ydz 56] (ycd [ycw 57,yco 58 .neq 57] 58 [ycw 59,ycm 59] (ydc [ydx 60,yb1 61,ycq 62 3,xL 63 62,yb1 64,xX 65 2 63 64,ych 66 65,yah 67 f_90 [.t 60,.t 61,.t 66],ydz 67] (ybb [ycw 68,yco 69 .neq 68] 69 [ycw 70,ycm 70]))) [yb1 42,yby 43 .add 42,yc7 43]
def c_40_k1:Xv:=yad [ydx 71,yd9 72 3,xL 73 72,ybh 74 f_91 71 73,ycm 74]
def c_40:AFn:=⟨2,[.tmp 4],ycn [ycp,xJ 3 1,yb3] [xF 8 5 2,xL 9 8,xN 10 9,yct 10] (yaj 0 (yb0 [ydx 12,ycv 13 f_88 12,xO 14 (.fld false 0 1 (.t 13)),yco 15 .neq 14,xM 11 15] 11 [ydx 16,ycv 17 f_88 16,xO 18 (.fld false 0 1 (.t 17)),ycm 18] (ybb [yc1 20,xL 21 20,xN 22 21,ybu 23,xB 24 .neq 22 23,xM 25 24,ydd 26 25 3,ybw 27 25 26,ybn 28 25 27,yay 29 25 5,yb6 30 25 .neq 28 29,xW 31 25 30,xM 32 31,yax 33 32 2 3,ybw 34 32 33,ybn 35 32 34,yay 36 32 5,yb6 37 32 .neq 35 36,xW 38 32 37,xM 19 38] 19 [ydg 2])) (ybi [yda] 1 c_40_l0 c_40_k1))⟩
def c_42:AFn:=⟨3,[.tmp 6],ycr [yda] [ybq 10,ybd 11 f_43 [.t 10],ybl 12 11] 12 (xI 6 1) (ydn [ybq 14,ybv 15 14,ybm 16 15,ybm 17 16,yeg 18 17,ybe 19,ydj 20,yah 21 f_93 [.t 18,.t 19,.t 20],xM 13 21,yei 22 13,yej 23 13,yao 7 [.Xu 1 [],.Xu 5 [],.Xu 2 []],xS 3 7 22,yee 23] 7 (ycd [ycc 24,yco 25 .neq 24] 25 [ycc 26,yc7 26] (yaa [ybq 27,yeg 28 7,ybv 29 27,ybm 30 29,ybm 31 30,xS 3 31 28] (yap [ya4 9] [ydj 32] (yck 32 (xR [xI 9 1])) (ybx [ybq 33,ybv 34 33,ybm 35 34,ybe 36,ydy 37,ybd 38 f_64 [.t 35,ybj 6,.t 36,.t 37,ydo]] [yda])))))⟩
def c_43:AFn:=⟨1,[.tmp 2],ybx [ya6 2] [ybq 3,xO 4 (.eqn true (.t 3) yd1),yct 4,ybt 6 5 0,yat 7 5 (ya5 6),yci 8 5 6 7,ycf 9 5 1 8,yat 10 5 (.eqs true false [] (.t 9) (.c (.nilfunc))),xV 11 5 10,xM 2 11]⟩
def c_45:AFn:=⟨2,[.tmp 4],yd3 [yd0 4] [ybq 5,ybd 6 f_43 [.t 5],ybl 7 6,ycw 8,yay 9 8 1,ya2 10 8 .lss 9 ydo,xW 11 8 10,xM 12 11,yay 13 12 1,yay 14 12 0,yac 15 12 (ya5 14),yax 16 12 0 15,yax 17 12 4 16,ybw 18 12 17,ybn 19 12 18,yb6 20 12 .geq 13 19,xW 21 12 20] 21 (yd0 4) [ybq 22,ybv 23 22,ybm 24 23,yeb 25 24,xL 26 25,ybe 27,xX 28 9 26 27,ycm 28]⟩
def c_48:AFn:=⟨3,[.cell 6 true 6,.tmp 7,.tmp 8],ya0 [ycj 3 0,yao 6 [.Xu 1 [],.Xu 5 [],.Xu 2 [],.Xu 4 [],.Xu 9 [],.Xu 4 []],ydb,ya4 8] [ybe 10,yco 11 .lss 10,xM 12 11,yay 13 12 1,yax 14 12 0 3,yax 15 12 2 14,ybw 16 12 15,ybn 17 12 16,yb6 18 12 .geq 13 17,xW 19 12 18] 19 [yea 20 3,xS 6 6 20,ydb,xI 8 8] (ycd [ydj 21,xN 22 21,xK 23 .gtr 22 512] 23 [yea 24 3,xS 6 6 24,ydb,xI 8 4] (ycd [yeb 25 3,xL 26 25,xN 27 26,xK 28 .geq 27 4096] 28 [yea 29 3,xS 6 6 29,ydb,xI 8 12] (ya3 [yeb 30 3,xL 31 30,xN 32 31,xM 9 32] (ybk [(3,6),(3,9)] [⟨some 33,none,.bslice .imm 9 [] []⟩,⟨some 34,none,.faddr 4 (.t 3)⟩,⟨some 35,none,.load false 1 (.t 34)⟩,⟨some 36,none,.append .app 9 136 (.t 33) (.t 35)⟩,⟨some 37,none,.faddr 0 (.t 3)⟩,⟨some 38,none,.faddr 2 (.t 37)⟩,⟨some 39,none,.load false 1 (.t 38)⟩,⟨some 40,none,.mov (.t 1)⟩,⟨some 41,none,.iaddr 2 none (.t 39) (.t 40)⟩,⟨some 42,none,.load true 2 (.t 41)⟩,⟨some 43,none,.mov (.t 2)⟩,⟨some 44,none,.build [.int .i64 0,.int .i64 0,.Xu 1 [],.Xu 3 [],.bool false,.int .i64 0,.int .i64 0,.Xu 3 [],.Xu 2 []] [(0,2,(.t 42)),(2,1,(.t 43))]⟩,⟨some 45,none,.bslice .imm 9 (List.replicate 1 [.int .i64 0,.int .i64 0,.Xu 1 [],.Xu 3 [],.bool false,.int .i64 0,.int .i64 0,.Xu 3 [],.Xu 2 []]) [(0,(.t 44))]⟩,⟨some 46,none,.append .app 9 136 (.t 36) (.t 45)⟩,⟨some 47,none,.faddr 4 (.t 3)⟩,⟨none,none,.store 1 (.t 47) (.t 46)⟩] none) (yad [yea 48 3,ydy 49,ybe 50,xO 51 (.build [.int .i64 0,.int .i64 0,.int .i64 0,.int .i64 0] [(0,1,(.c (.int .i64 1))),(1,1,(.t 49)),(2,1,(.t 50))]),ybh 52 f_94 48 51,ydy 53,xS 6 6 52,ydz 53,ya4 8]))))⟩
def c_49:AFn:=⟨2,[.tmp 4],ycr [ycp,yb3] [ybe 5,yco 6 .lss 5,yb1 7,yay 8 7 1,yax 9 7 4 2,ybw 10 7 9,ybn 11 7 10,yb6 12 7 .geq 8 11,xW 13 7 12] 13 (ydg 8) (ycd [yeb 14 2,xL 15 14,ybe 16,xX 17 9 15 16,yeb 18 17,xL 19 18] 19 [ydg 25] (ydh yb3))⟩
def c_50:AFn:=⟨2,[.cell 4 true 6,.cell 5 true 4,.tmp 6],yaa [ycj 2 0,yao 4 [.Xu 1 [],.Xu 5 [],.Xu 2 [],.Xu 4 [],.Xu 9 [],.Xu 4 []],yds 5,yda] (ya0 [yea 12 2,ybe 13,ybh 14 f_49 12 13,ydz 14] [ycw 15,yco 16 .neq 15] 16 [yea 17 2,xO 18 (.build [.int .i64 0,.int .i64 0,.int .i64 0,.int .i64 0] []),ycw 19,xS 6 4 17,yde 5 18,yc7 19] (yb7 (ydm [yeb 20 2,xL 21 20,ybe 22,xX 23 9 21 22,yc4 24 23,yao 8 [yav,yav,.Xu 1 [],.Xu 3 [],yak,yav,yav,.Xu 3 [],.Xu 2 []],xS 9 8 24] 8) (ybk [(0,18),(2,18),(5,18),(7,18),(10,18),(12,18),(14,18),(0,19),(2,19),(5,19),(7,19),(10,19),(12,19),(14,19),(18,19)] [⟨some 26,none,.pcall f_26 []⟩,⟨some 27,none,.faddr 3 (.t 2)⟩,⟨some 28,none,.load false 1 (.t 27)⟩,⟨some 29,none,.faddr 0 (.t 8)⟩,⟨some 30,none,.faddr 0 (.t 29)⟩,⟨some 31,none,.load false 1 (.t 30)⟩,⟨some 32,none,.iaddr 4 none (.t 28) (.t 31)⟩,⟨some 33,none,.load true 4 (.t 32)⟩,⟨some 34,none,.faddr 0 (.t 8)⟩,⟨some 35,none,.faddr 1 (.t 34)⟩,⟨some 36,none,.load false 1 (.t 35)⟩,⟨some 37,none,.faddr 2 (.t 8)⟩,⟨some 38,none,.load false 1 (.t 37)⟩,⟨some 39,none,.build [.int .i64 0,.Xu 1 []] [(0,1,(.t 36)),(1,1,(.t 38))]⟩,⟨some 40,none,.pcall f_38 [.t 26,.t 33,.t 39]⟩,⟨some 25,none,.mov (.t 40)⟩,⟨some 41,none,.ext 0 (.t 25)⟩,⟨some 42,none,.ext 1 (.t 25)⟩,⟨some 9,none,.alloc [.bool false,.int .i64 0,.Xu 1 [],.Xu 3 []]⟩,⟨some 10,none,.alloc [.Xu 1 [],.Xu 1 [],.Xu 2 [],.Xu 1 []]⟩,⟨none,none,.store 4 (.t 9) (.t 41)⟩,⟨none,none,.store 4 (.t 10) (.t 42)⟩] (some [9,10])) (yb7 (ydm [yea 44 2,ybe 45,yeh 46 9,yeh 47 10,yah 48 f_51 [.t 44,.t 45,.t 46,.t 47],xM 43 48,yei 49 43,yej 50 43,yds 11,xS 6 2 49,yde 11 50] 11) (ybk [(1,2)] [⟨some 51,none,.load true 6 (.t 2)⟩,⟨some 52,none,.load true 4 (.t 11)⟩,⟨none,none,.store 6 (.t 4) (.t 51)⟩,⟨none,none,.store 4 (.t 5) (.t 52)⟩,⟨some 6,none,.mov (.c (.int .i64 0))⟩] none) .ret)))⟩
def c_51:AFn:=⟨4,[.cell 8 true 6,.cell 9 true 4],yaa [ycj 4 0,xJ 6 2,xJ 7 3,yao 8 [.Xu 1 [],.Xu 5 [],.Xu 2 [],.Xu 4 [],.Xu 9 [],.Xu 4 []],yds 9] (ycn [yeb 20 4,xL 21 20,ybe 22,xX 23 9 21 22,yc4 24 23,yao 10 [yav,yav,.Xu 1 [],.Xu 3 [],yak,yav,yav,.Xu 3 [],.Xu 2 []],xS 9 10 24] [ybm 25 10,ybm 26 25,xL 27 26,xM 11 27] (ycn [xO 28 (.bslice .imm 4 [] []),yd9 29 4,xL 30 29,yc6 31 .row 4 96 28 30,yd9 32 4,xS 1 32 31] [yd9 33 4,xL 34 33,xM 35 11,yeh 36 7,xX 37 4 34 35,yde 37 36] (yap [xM 38 11,ybm 39 10,ybr 40 39,xL 41 40,xO 42 (.build [.int .i64 0,.int .i64 0,.int .i64 0] [(0,1,(.t 38)),(1,1,(.t 41)),(2,1,(.c (.int .i64 (-1))))]),yao 12 [yav,yav,yav],xS 3 12 42] [ybm 43 6,xL 44 43] (yck 44 (.seq (ybk [(3,4)] [⟨some 45,none,.bslice .imm 3 [] []⟩,⟨some 46,none,.faddr 3 (.t 10)⟩,⟨some 47,none,.load false 1 (.t 46)⟩,⟨some 48,none,.append .app 3 24 (.t 45) (.t 47)⟩,⟨some 49,none,.load true 3 (.t 12)⟩,⟨some 50,none,.bslice .imm 3 (List.replicate 1 [.int .i64 0,.int .i64 0,.int .i64 0]) [(0,(.t 49))]⟩,⟨some 51,none,.append .app 3 24 (.t 48) (.t 50)⟩,⟨some 52,none,.faddr 3 (.t 10)⟩,⟨none,none,.store 1 (.t 52) (.t 51)⟩] none) (yb7 (ydm [ybe 53,xM 54 11,xO 55 (.build [.int .i64 0,.int .i64 0,.int .i64 0,.int .i64 0] [(0,1,(.c (.int .i64 2))),(1,1,(.t 53)),(2,1,(.t 54)),(3,1,(.c (.int .i64 (-1))))]),yds 13,yde 13 55] 13) (ybk [(4,5),(4,7),(6,7),(7,8)] [⟨some 56,none,.load true 6 (.t 4)⟩,⟨some 57,none,.mov (.t 1)⟩,⟨some 58,none,.load true 9 (.t 10)⟩,⟨some 59,none,.mov (.t 11)⟩,⟨some 60,none,.tcall f_95 [.t 56,.t 57,.t 58,.c (.int .i64 2),.t 59]⟩,⟨some 61,none,.load true 4 (.t 13)⟩,⟨some 62,none,.tcall f_94 [.t 60,.t 61]⟩,⟨some 63,none,.load true 4 (.t 13)⟩,⟨none,none,.store 6 (.t 8) (.t 62)⟩,⟨none,none,.store 4 (.t 9) (.t 63)⟩] none) .ret))) (ya3 [ybr 64 6,xL 65 64,ycq 66 12,xS 1 66 65] (ybk [(3,4)] [⟨some 67,none,.bslice .imm 3 [] []⟩,⟨some 68,none,.faddr 3 (.t 10)⟩,⟨some 69,none,.load false 1 (.t 68)⟩,⟨some 70,none,.append .app 3 24 (.t 67) (.t 69)⟩,⟨some 71,none,.load true 3 (.t 12)⟩,⟨some 72,none,.bslice .imm 3 (List.replicate 1 [.int .i64 0,.int .i64 0,.int .i64 0]) [(0,(.t 71))]⟩,⟨some 73,none,.append .app 3 24 (.t 70) (.t 72)⟩,⟨some 74,none,.faddr 3 (.t 10)⟩,⟨none,none,.store 1 (.t 74) (.t 73)⟩] none) (ycn [ycq 75 6,xL 76 75,ycq 77 10,xS 1 77 76] [ybe 78,xM 79 11,ybr 80 6,xL 81 80,xO 82 (.build [.int .i64 0,.int .i64 0,.int .i64 0,.int .i64 0] [(0,1,(.c (.int .i64 2))),(1,1,(.t 78)),(2,1,(.t 79)),(3,1,(.t 81))]),yds 14,yde 14 82] (ya3 [yea 83 4,yeh 84 14,ybd 85 f_94 [.t 83,.t 84],xS 6 4 85] (ydm [xM 86 11,ybr 87 6,xL 88 87,xO 89 (.build [.int .i64 0,.int .i64 0] [(0,1,(.t 86)),(1,1,(.t 88))]),yec 15,xS 2 15 89] 15) (yap [ybm 91 4,yeg 92 91,ych 93 15,ybh 94 f_96 92 93,xM 90 94,yei 95 90,yej 96 90,xM 16 95,xM 17 96] [xM 97 17] (yck 97 (ya3 [ybe 98,xM 99 16,xO 100 (.build [.int .i64 0,.int .i64 0,.int .i64 0,.int .i64 0] [(0,1,(.c (.int .i64 3))),(1,1,(.t 98)),(2,1,(.t 99))]),yde 14 100] (ybk [(4,5),(4,7),(6,7),(7,8)] [⟨some 101,none,.load true 6 (.t 4)⟩,⟨some 102,none,.mov (.t 1)⟩,⟨some 103,none,.load true 9 (.t 10)⟩,⟨some 104,none,.mov (.t 16)⟩,⟨some 105,none,.tcall f_95 [.t 101,.t 102,.t 103,.c (.int .i64 1),.t 104]⟩,⟨some 106,none,.load true 4 (.t 14)⟩,⟨some 107,none,.tcall f_94 [.t 105,.t 106]⟩,⟨some 108,none,.load true 4 (.t 14)⟩,⟨none,none,.store 6 (.t 8) (.t 107)⟩,⟨none,none,.store 4 (.t 9) (.t 108)⟩] none) .ret)) (ydn [ybm 110 4,yeg 111 110,ych 112 15,ybh 113 f_97 111 112,xM 109 113,yei 114 109,yej 115 109,yec 18,xS 2 18 114,xM 19 115] 18 (yae [xM 116 19,yco 117 .eql 116] (yck 117 (ya3 [ych 118 18,ybm 119 10,xS 2 119 118] (ybk [(3,4),(4,5)] [⟨some 120,none,.load true 6 (.t 4)⟩,⟨some 121,none,.mov (.t 1)⟩,⟨some 122,none,.load true 9 (.t 10)⟩,⟨some 123,none,.tcall f_98 [.t 120,.t 121,.t 122]⟩,⟨some 124,none,.load true 4 (.t 14)⟩,⟨none,none,.store 6 (.t 8) (.t 123)⟩,⟨none,none,.store 4 (.t 9) (.t 124)⟩] none) .ret)) (ya3 [ybe 125,xM 126 11,ybr 127 6,xL 128 127,xO 129 (.build [.int .i64 0,.int .i64 0,.int .i64 0,.int .i64 0] [(0,1,(.c (.int .i64 4))),(1,1,(.t 125)),(2,1,(.t 126)),(3,1,(.t 128))]),yde 14 129] (ybk [(4,5),(4,7),(6,7),(7,8)] [⟨some 130,none,.load true 6 (.t 4)⟩,⟨some 131,none,.mov (.t 1)⟩,⟨some 132,none,.load true 9 (.t 10)⟩,⟨some 133,none,.mov (.t 11)⟩,⟨some 134,none,.tcall f_95 [.t 130,.t 131,.t 132,.c (.int .i64 3),.t 133]⟩,⟨some 135,none,.load true 4 (.t 14)⟩,⟨some 136,none,.tcall f_94 [.t 134,.t 135]⟩,⟨some 137,none,.load true 4 (.t 14)⟩,⟨none,none,.store 6 (.t 8) (.t 136)⟩,⟨none,none,.store 4 (.t 9) (.t 137)⟩] none) .ret))))))))))⟩
def c_53:AFn:=⟨3,[.cell 6 true 6,.tmp 7],ya3 [ycj 3 0,yao 6 [.Xu 1 [],.Xu 5 [],.Xu 2 [],.Xu 4 [],.Xu 9 [],.Xu 4 []],ydb] (ydm [yc1 12,yeg 13 12,ybe 14,ydj 15,yah 16 f_100 [.t 13,.t 14,.t 15],xM 11 16,yei 17 11,yej 18 11,yao 8 [.Xu 1 [],.Xu 5 [],.Xu 2 []],xS 3 8 17,xM 9 18] 8) (ycd [ydy 19,yco 20 .neq 19] 20 [yea 21 3,ydy 22,xS 6 6 21,ydz 22] (yaa [yeg 23 8,yc1 24,xS 3 24 23] (yap [ybe 25,xO 26 (.build [.int .i64 0,.int .i64 0,.int .i64 0,.int .i64 0] [(0,1,(.c (.int .i64 6))),(1,1,(.t 25))]),yds 10,yde 10 26] [ydj 27] (yck 27 (xR [ycq 28 10,⟨none,none,.store 1 (.t 28) (.c (.int .i64 1))⟩])) (yad [yea 29 3,yeh 30 10,ybh 31 f_94 29 30,xS 6 6 31,ydb]))))⟩
def c_54_l0:Xv:=ydf [yct 4,yeb 6 1,xL 7 6,xN 8 7,xB 9 .lss 5 8] 9 0 1 (yaa [yeb 12 1,xL 13 12,xM 14 4,xX 15 9 13 14,yeb 16 15,xL 17 16,ybl 18 17] (yck 18 (xR [xM 19 3,xM 20 4,xO 21 (.bslice .imm 1 (List.replicate 1 [.int .i64 0]) [(0,(.t 20))]),ydl 22 1 8 19 21,xM 3 22]))) [xM 10 4,yby 11 .add 10,ycm 11]
def c_54_k1:Xv:=yc5 (xM 23 3) (xM 2 23)
def c_54:AFn:=⟨1,[.tmp 2],yd6 (ycl 1) (xC 2 (.Xu 1 [])) (yd4 [yed 3 1] [yb3] c_54_l0 c_54_k1)⟩
def c_55_l0:Xv:=yc3 [ybu 11,ybq 12,xN 13 12,xB 14 .lss 11 13] 14 0 1 [ybq 17,ybu 18,xX 19 4 17 18,yeh 20 19,ybe 21,ybu 22,xX 23 4 21 22,yeh 24 23,xO 25 (.eqs true true [.i,.i,.i,.i] (.t 20) (.t 24))] 25 [yb8] [ybu 15,yby 16 .add 15,yct 16]
def c_55_k1:Xv:=ydi 4
def c_55:AFn:=⟨2,[.tmp 4],ydv [yb8] [ybq 6,xN 7 6,ybe 8,xN 9 8,xB 10 .neq 7 9] 10 yb8 [ycg] 0 c_55_l0 c_55_k1⟩
def c_56_l0:Xv:=yc3 [ybu 39,ybm 40 2,xL 41 40,xN 42 41,xB 43 .lss 39 42] 43 0 1 [ybm 46 2,xL 47 46,ybu 48,yef 49 47 48,xL 50 49,yc1 51,xL 52 51,ybu 53,yef 54 52 53,xL 55 54,ybh 56 f_103 50 55,ybl 57 56] 57 [yb8] [ybu 44,yby 45 .add 44,yct 45]
def c_56_l1:Xv:=yc3 [yb1 58,ycq 59 2,xL 60 59,xN 61 60,xB 62 .lss 58 61] 62 2 3 [ycq 65 2,xL 66 65,yb1 67,xX 68 2 66 67,ych 69 68,ycq 70 3,xL 71 70,yb1 72,xX 73 2 71 72,ych 74 73,ybh 75 f_104 69 74,ybl 76 75] 76 [yb8] [yb1 63,yby 64 .add 63,yc7 64]
def c_56_k2:Xv:=ydi 4
def c_56_k3:Xv:=ybi [yda] 2 c_56_l1 c_56_k2
def c_56:AFn:=⟨2,[.tmp 4],ydv [ycj 2 0,ycj 3 1,yb8] [ybm 7 2,xL 8 7,xN 9 8,yc1 10,xL 11 10,xN 12 11,xB 13 .neq 9 12,xM 14 13,ydd 15 14 2,ybw 16 14 15,ydd 17 14 3,ybw 18 14 17,yek 19 14 f_101 [.t 16,.t 18],yac 20 14 (ya8 19),xW 21 14 20,xM 22 21,yax 23 22 2 2,ybw 24 22 23,ybn 25 22 24,yax 26 22 2 3,ybw 27 22 26,ybn 28 22 27,yb6 29 22 .neq 25 28,xW 30 22 29,xM 31 30,yax 32 31 3 2,ybw 33 31 32,yax 34 31 3 3,ybw 35 31 34,yek 36 31 f_102 [.t 33,.t 35],yac 37 31 (ya8 36),xW 38 31 37] 38 yb8 [ycg] 0 c_56_l0 c_56_k3⟩
def c_57:AFn:=⟨3,[.tmp 6],ya3 [xJ 4 1,ya6 6] (ydm [ybq 18,ydj 19,ybd 20 f_18 [.t 18,.t 19],xM 17 20,yei 21 17,yej 22 17,xE 23 2 17,yec 7,xS 2 7 21,yee 22,xM 9 23] 7) (yb7 (ydm [yea 25 4,ydj 26,ybh 27 f_105 25 26,xM 24 27,yei 28 24,yej 29 24,xE 30 2 24,yec 10,xS 2 10 28,xM 11 29,xM 12 30] 10) (ydm [ybq 32,ydj 33,ybd 34 f_17 [.t 32,.t 33],xM 31 34,yei 35 31,yej 36 31,yc9 13 (.Xu 3 []) (.Xu 2 []),yde 13 35,xM 14 36] 13) (yb7 (ydm [yea 38 4,ydj 39,ybh 40 f_106 38 39,xM 37 40,yei 41 37,yej 42 37,yc9 15 (.Xu 3 []) (.Xu 2 []),yde 15 41,xM 16 42] 15) (ybk [(50,51),(59,61)] [⟨some 43,none,.load true 2 (.t 7)⟩,⟨some 44,none,.load true 2 (.t 10)⟩,⟨some 45,none,.eqs false true [.i,.i] (.t 43) (.t 44)⟩,⟨some 46,none,.mov (.t 45)⟩,⟨some 47,some (46,true),.mov (.t 8)⟩,⟨some 48,some (46,true),.b2s (.t 47)⟩,⟨some 49,some (46,true),.mov (.t 11)⟩,⟨some 50,some (46,true),.b2s (.t 49)⟩,⟨some 51,some (46,true),.bin .eql (.t 48) (.t 50)⟩,⟨some 52,none,.pick (.t 46) (.t 51) (.c (.bool false))⟩,⟨some 53,none,.mov (.t 52)⟩,⟨some 54,some (53,true),.mov (.t 9)⟩,⟨some 55,some (53,true),.mov (.t 12)⟩,⟨some 56,some (53,true),.eqs false false [.b] (.t 54) (.t 55)⟩,⟨some 57,none,.pick (.t 53) (.t 56) (.c (.bool false))⟩,⟨some 58,none,.mov (.t 57)⟩,⟨some 59,some (58,true),.mov (.t 14)⟩,⟨some 60,some (58,true),.mov (.t 16)⟩,⟨some 61,some (58,true),.eqs false false [.b] (.t 59) (.t 60)⟩,⟨some 62,none,.pick (.t 58) (.t 61) (.c (.bool false))⟩,⟨some 63,none,.mov (.t 62)⟩,⟨some 64,some (63,true),.faddr 0 (.t 13)⟩,⟨some 65,some (63,true),.load false 1 (.t 64)⟩,⟨some 66,some (63,true),.faddr 0 (.t 15)⟩,⟨some 67,some (63,true),.load false 1 (.t 66)⟩,⟨some 68,some (63,true),.bin .eql (.t 65) (.t 67)⟩,⟨some 69,none,.pick (.t 63) (.t 68) (.c (.bool false))⟩,⟨some 70,none,.mov (.t 69)⟩,⟨some 71,some (70,true),.faddr 1 (.t 13)⟩,⟨some 72,some (70,true),.load false 1 (.t 71)⟩,⟨some 73,some (70,true),.faddr 1 (.t 15)⟩,⟨some 74,some (70,true),.load false 1 (.t 73)⟩,⟨some 75,some (70,true),.bin .eql (.t 72) (.t 74)⟩,⟨some 76,none,.pick (.t 70) (.t 75) (.c (.bool false))⟩,⟨some 77,none,.mov (.t 76)⟩,⟨some 78,some (77,true),.faddr 2 (.t 13)⟩,⟨some 79,some (77,true),.load false 1 (.t 78)⟩,⟨some 80,some (77,true),.faddr 2 (.t 15)⟩,⟨some 81,some (77,true),.load false 1 (.t 80)⟩,⟨some 82,some (77,true),.pcall f_107 [.t 79,.t 81]⟩,⟨some 83,none,.pick (.t 77) (.t 82) (.c (.bool false))⟩,⟨some 84,none,.mov (.t 83)⟩,⟨some 85,some (84,true),.faddr 3 (.t 13)⟩,⟨some 86,some (84,true),.load false 1 (.t 85)⟩,⟨some 87,some (84,true),.len (.t 86)⟩,⟨some 88,some (84,true),.bin .eql (.t 87) (.c (.int .i64 0))⟩,⟨some 89,none,.pick (.t 84) (.t 88) (.c (.bool false))⟩,⟨some 90,none,.mov (.t 89)⟩,⟨some 91,some (90,true),.mov (.t 0)⟩,⟨some 92,some (90,true),.mov (.t 2)⟩,⟨some 93,some (90,true),.tcall f_16 [.t 91,.t 92]⟩,⟨some 94,some (90,true),.load true 6 (.t 4)⟩,⟨some 95,some (90,true),.mov (.t 2)⟩,⟨some 96,some (90,true),.pcall f_108 [.t 94,.t 95]⟩,⟨some 97,some (90,true),.pcall f_107 [.t 93,.t 96]⟩,⟨some 98,none,.pick (.t 90) (.t 97) (.c (.bool false))⟩,⟨some 99,none,.mov (.t 98)⟩,⟨some 100,some (99,true),.mov (.t 0)⟩,⟨some 101,some (99,true),.mov (.t 2)⟩,⟨some 102,some (99,true),.tcall f_31 [.t 100,.t 101]⟩,⟨some 103,some (99,true),.b2s (.t 102)⟩,⟨some 104,some (99,true),.load true 6 (.t 4)⟩,⟨some 105,some (99,true),.mov (.t 2)⟩,⟨some 106,some (99,true),.pcall f_109 [.t 104,.t 105]⟩,⟨some 107,some (99,true),.b2s (.t 106)⟩,⟨some 108,some (99,true),.bin .eql (.t 103) (.t 107)⟩,⟨some 109,none,.pick (.t 99) (.t 108) (.c (.bool false))⟩,⟨some 6,none,.mov (.t 109)⟩] none) .ret))⟩
def c_64:AFn:=⟨5,[.cell 10 true 4],ya3 [yds 10] (ydm [ybe 12,ydj 13,xM 14 3,xM 15 4,xO 16 (.build [.int .i64 0,.int .i64 0,.int .i64 0,.int .i64 0] [(0,1,(.t 12)),(1,1,(.t 13)),(2,1,(.t 14)),(3,1,(.t 15))]),yds 11,yde 11 16] 11) (ydc [ybq 17,ybq 18,ybv 19 18,xF 20 5 19,xL 21 20,yeh 22 11,xO 23 (.bslice .imm 4 (List.replicate 1 [.int .i64 0,.int .i64 0,.int .i64 0,.int .i64 0]) [(0,(.t 22))]),ydl 24 4 32 21 23,ybv 25 17,xF 26 5 25,xS 1 26 24] (yc5 (yeh 27 11) (yde 10 27)))⟩
def c_65_l0:Xv:=ydq 27 .lss 26 25 27 2 (ya1 3 (yaa [xX 28 5 24 26,xA 29 5 28,yao 8 [yav,.Xu 2 [],yav,yav,.Xu 1 []],xS 5 8 29] (ycn [ybr 30 8,ybm 31 30,xL 32 31,ycv 33 f_114 32,ybr 34 8,ybm 35 34,xS 1 35 33] [ybr 36 8,ycq 37 36,ybr 38 37,xL 39 38,ycv 40 f_115 39,ybr 41 8,ycq 42 41,ybr 43 42,xS 1 43 40] (xR [yb1 44,xA 45 5 8,xO 46 (.bslice .imm 5 (List.replicate 1 [.int .i64 0,.Xu 2 [],.int .i64 0,.int .i64 0,.Xu 1 []]) [(0,(.t 45))]),ydl 47 5 72 44 46,yc7 47]))) [yby 48 .add 26,xM 26 48])
def c_65_k1:Xv:=xR [yc1 49,xL 50 49,yb1 51,xO 52 (.bslice .imm 1 (List.replicate 1 [.Xu 5 []]) [(0,(.t 51))]),ydl 53 1 24 50 52,yc1 54,xS 1 54 53]
def c_65_k2:Xv:=xR [yby 55 .add 20,xM 20 55]
def c_65_l3:Xv:=ydq 21 .lss 20 19 21 0 (yaj 1 (yaa [yef 22 18 20,xL 23 22,yct 23] (ybs [yed 6 5] [ybu 24,xN 25 24,ya4 26] 2 c_65_l0 c_65_k1)) c_65_k2)
def c_65_l4:Xv:=ydq 60 .lss 59 58 60 4 (ya1 5 (ycn [xX 61 2 57 59,ych 62 61,yd7 10 yav (.Xu 1 []),xS 2 10 62] [ybr 63 10,xL 64 63,ycv 65 f_115 64,ybr 66 10,xS 1 66 65] (xR [ycq 67 3,xL 68 67,ych 69 10,xO 70 (.bslice .imm 2 (List.replicate 1 [.int .i64 0,.Xu 1 []]) [(0,(.t 69))]),ydl 71 2 32 68 70,ycq 72 3,xS 1 72 71])) [yby 73 .add 59,xM 59 73])
def c_65_l5:Xv:=ydq 78 .lss 77 76 78 6 (ya1 7 (yaa [yef 79 75 77,xL 80 79,xM 12 80] (xD [yd9 81 3,xL 82 81,xM 83 12,ycv 84 f_115 83,xO 85 (.bslice .imm 1 (List.replicate 1 [.Xu 1 []]) [(0,(.t 84))]),ydl 86 1 24 82 85,yd9 87 3,xS 1 87 86])) [yby 88 .add 77,xM 77 88])
def c_65_k6:Xv:=yc5 (yeh 89 3) (yde 2 89)
def c_65_k7:Xv:=ybi [yd9 74 1,xL 75 74,xN 76 75,ya4 77] 6 c_65_l5 c_65_k6
def c_65_k8:Xv:=ybi [ycq 56 1,xL 57 56,xN 58 57,ya4 59] 4 c_65_l4 c_65_k7
def c_65:AFn:=⟨1,[.cell 2 true 4],yd6 (ycl 1) (yce 2 (.Xu 1 []) (.Xu 1 []) (.Xu 2 []) (.Xu 1 [])) (yd4 [ybr 13 1,xL 14 13,ycv 15 f_113 14,xO 16 (.build [.Xu 1 [],.Xu 1 [],.Xu 2 [],.Xu 1 []] [(1,1,(.t 15))]),yce 3 (.Xu 1 []) (.Xu 1 []) (.Xu 2 []) (.Xu 1 []),yde 3 16] [ybm 17 1,xL 18 17,xN 19 18,ya4 20] c_65_l3 c_65_k8)⟩
def c_66:AFn:=⟨3,[],yaa [ybq 6,ybv 7 6,yeb 8 7,⟨none,none,.store 1 (.t 8) (.c (.bool true))⟩] (xR [ybq 9,ybe 10,ydj 11,xO 12 (.build [.int .i64 0,.int .i64 0,.Xu 3 [],.Xu 2 []] [(0,1,(.t 10)),(1,1,(.t 11))]),ybv 13 9,xF 14 5 13,yde 14 12])⟩
def c_67_l0:Xv:=ydq 12 .lss 11 10 12 0 (ydu 1 [xM 13 11,xX 14 2 9 11,ych 15 14,yec 7,yc7 13,xS 2 7 15] 7 (ybb [ych 16 7,ych 17 3,xO 18 (.eqs false true [.i,.i] (.t 16) (.t 17))] 18 [yb1 19,ycm 19,ycz 5]) [yby 20 .add 11,xM 11 20])
def c_67_k1:Xv:=yc5 yb3 (ya6 5)
def c_67:AFn:=⟨2,[.tmp 4,.tmp 5],yd4 [ycp,xJ 3 1,yb3,ya6 5] [ycq 8 2,xL 9 8,xN 10 9,ya4 11] c_67_l0 c_67_k1⟩
def c_68:AFn:=⟨2,[.cell 4 true 2,.tmp 5],yap [ycp,xJ 3 1,yec 4,ycg] [yeg 9 2,ycv 10 f_33 9,yc7 10] (ybb [yb1 11,yco 12 .neq 11] 12 [xO 13 (.build [.int .i64 0,.int .i64 0] []),yb1 14,xS 2 4 13,yct 14]) (yaa [yeg 16 2,ych 17 3,ybh 18 f_116 16 17,xM 15 18,yei 19 15,yej 20 15,ydz 19,yee 20] (yaj 0 (yb0 [ycw 22,yby 23 .neq 22,xM 21 23] 21 [xO 24 (.build [.int .i64 0,.int .i64 0] []),xS 2 4 24,xI 5 8] (yb0 [ybr 26 2,xL 27 26,ycc 28,xX 29 5 27 28,yeb 30 29,xL 31 30,xM 25 31] 25 [xO 32 (.build [.int .i64 0,.int .i64 0] []),xS 2 4 32,xI 5 20] (ydc [ybr 34 2,xL 35 34,ycc 36,xX 37 5 35 36,ybm 38 37,ych 39 38,ych 40 3,xO 41 (.eqs false true [.i,.i] (.t 39) (.t 40)),xM 33 41] (yai 33 [ybr 42 2,xL 43 42,ycc 44,xX 45 5 43 44,ycq 46 45,ych 47 46,xS 2 4 47,ycg])))) (yad [ybr 48 2,xL 49 48,ycc 50,xX 51 5 49 50,ybm 52 51,ych 53 52,xS 2 4 53,ycg])))⟩
def c_69_l0:Xv:=ydq 10 .lss 9 8 10 0 (ydu 1 [xX 11 5 7 9,xA 12 5 11,yao 5 [yav,yav,yav,yav,yak],xS 5 5 12] 5 (xR [xM 13 3,ybm 14 5,ych 15 14,ycq 16 5,ych 17 16,xO 18 (.bslice .imm 2 (List.replicate 2 [.int .i64 0,.int .i64 0]) [(0,(.t 15)),(1,(.t 17))]),ydl 19 2 16 13 18,xM 3 19]) [yby 20 .add 9,xM 9 20])
def c_69_k1:Xv:=yad [xM 21 3,ycq 22 1,xL 23 22,ydl 24 2 16 21 23,xM 2 24]
def c_69:AFn:=⟨1,[.tmp 2],yd6 (ycl 1) (xC 2 (.Xu 2 [])) (yd4 [yed 3 2] [ybr 6 1,xL 7 6,xN 8 7,ya4 9] c_69_l0 c_69_k1)⟩
def c_70:AFn:=⟨2,[.tmp 4],ya3 [ycp,xJ 3 1,yb8] (xD [yc1 5,xL 6 5,yco 7 .geq 6,ycw 8,yci 9 8 0 3,ycf 10 8 1 9,yci 11 8 0 2,ycf 12 8 1 11,yat 13 8 (.len (.t 12)),yca 14 8 .lss 10 (.t 13),xV 15 8 14,xM 16 15,yci 17 16 1 3,ycf 18 16 1 17,yca 19 16 .geq 18 ydo,xV 20 16 19,xM 21 20,yci 22 21 1 3,ycf 23 21 1 22,yci 24 21 0 2,ycf 25 21 1 24,yci 26 21 0 3,ycf 27 21 1 26,yat 28 21 (ydw 1 25 27),ycf 29 21 1 28,yca 30 21 .lss 23 (.t 29),xV 31 21 30,ycm 31]) .ret⟩
def c_80:ADFn:=⟨1,[.cell 2 true 4],.seq (xR [xO 1 (.box (.t 0)),xO 2 (.alloc [.int .i64 0,.int .i64 0,.int .i64 0,.int .i64 0])]) (.dfr [⟨some 3,none,.mkfunc (.func f_121) [] [.t 2]⟩] 3 (.seq (xR [xA 4 9 1,xO 5 (.pcall f_122 [.t 4])]) (.seq (xR [xA 6 9 1,xO 7 (.pcall f_123 [.t 6])]) (.seq (xR [xA 8 9 1,xO 9 (.pcall f_124 [.t 8])]) (.seq (xR [xA 10 9 1,xO 11 (.pcall f_125 [.t 10])]) (.seq (xR [xA 12 9 1,xO 13 (.pcall f_126 [.t 12])]) (.seq (xR [xO 14 (.build [.int .i64 0,.int .i64 0,.int .i64 0,.int .i64 0] []),xS 4 2 14]) (.ret)))))))),f_121,1,(some (4,1)),.seq (.seq (xR [xM 5 1,xO 6 (.eqs false false [] (.t 5) (.c (.niliface)))]) (.cond (.t 6) (.ret) (.skip))) (.seq (.seq (xR [xM 8 1,xO 9 (.tassert 249 true (.agg [.int .i64 0,.int .i64 0,.int .i64 0,.int .i64 0]) (.t 8)),xM 7 9,xE 10 0 7,xE 11 1 7,xO 2 (.alloc [.int .i64 0,.int .i64 0,.int .i64 0,.int .i64 0]),xS 4 2 10,xM 3 11]) (.seq (xR [xM 12 3]) (.cond (.t 12) (.seq (xR [xF 13 0 2,xA 14 4 13,xS 4 0 14]) (.ret)) (.skip)))) (xR [xM 15 1,⟨none,none,.panic (.t 15)⟩]))⟩
def c_81_l0:Xv:=ydq 29 .lss 28 27 29 0 (ydu 1 [xX 30 5 26 28,xA 31 5 30,yao 13 [yav,.Xu 2 [],yav,yav,.Xu 1 []],xS 5 13 31] 13 (ycd [ybm 32 13,xL 33 32,xM 34 11,xB 35 .leq 33 34] 35 [xI 10 14] (xR [ybm 36 13,xL 37 36,xM 11 37])) [yby 38 .add 28,xM 28 38])
def c_81_l1:Xv:=ydq 53 .lss 52 51 53 2 (ydu 3 [xM 54 52,xX 55 5 50 52,xA 56 5 55,yao 15 [yav,.Xu 2 [],yav,yav,.Xu 1 []],xM 14 54,xS 5 15 56] 15 (yae [yc4 57 5,ybe 58,ybr 59 15,yeh 60 59,yah 61 f_127 [.t 57,.t 58,.t 60],xM 16 61] (ybb [xM 62 16,yco 63 .neq 62] 63 [xM 64 16,xM 10 64]) (ybb [ydj 65,xM 66 14,xO 67 (.slc 5 (.t 65) none (some (.t 66)) none),xO 68 (.mkfunc (.func f_129) [] [.t 15]),ybh 69 f_128 67 68] 69 [xI 10 7])) [yby 70 .add 52,xM 52 70])
def c_81_k2:Xv:=yad [yc4 71 5,ybe 72,ych 73 9,yah 74 f_131 [.t 71,.t 72,.t 73],xM 10 74]
def c_81_k3:Xv:=ycd [xM 39 3,xM 40 11,xB 41 .leq 39 40,xM 42 41,yay 43 42 3,yb4 44 42 .lss 43 1,xW 45 42 44,xM 46 45,yay 47 46 3,yb4 48 46 .gtr 47 1073741824,xW 49 46 48] 49 [xI 10 14] (ybi [ydj 50,xN 51 50,ya4 52] 2 c_81_l1 c_81_k2)
def c_81:AFn:=⟨5,[.tmp 10],ycr [ycl 5,xJ 9 4,ya4 10] [ydj 17,xN 18 17,xF 19 5 5,xL 20 19,ybe 21,xX 22 6 20 21,xF 23 5 22,xL 24 23,xB 25 .gtr 18 24] 25 (xI 10 12) (yd4 [ya4 11] [ydj 26,xN 27 26,ya4 28] c_81_l0 c_81_k3)⟩
def c_82_l0:Xv:=ydq 18 .lss 17 16 18 0 (ya1 1 (yaa [xM 19 17,yef 20 15 17,xL 21 20,yct 19,yc7 21] (ybb [yb1 22,xN 23 22,yd9 24 2,xL 25 24,ybu 26,xX 27 3 25 26,ycq 28 27,xL 29 28,xB 30 .neq 23 29] 30 [ydg 2])) [yby 31 .add 17,xM 17 31])
def c_82_l1:Xv:=ydq 35 .lss 34 33 35 2 (ya1 3 (ya3 [xM 36 34,yef 37 32 34,xL 38 37,ydz 36,yee 38] (xD [ycc 39,xN 40 39,yco 41 .gtr 40,xM 42 41,ybt 43 42 8,ycx 44 42 f_132 [.t 43],yci 45 42 3 2,ycf 46 42 1 45,ybt 47 42 7,yat 48 42 (ydw 3 46 47),yci 49 42 1 48,ycf 50 42 1 49,ycx 51 42 f_133 [.t 50],yca 52 42 .gtr 44 (.t 51),xV 53 42 52]) (yai 53 [ydg 9])) [yby 54 .add 34,xM 34 54])
def c_82_k2:Xv:=ydh yb3
def c_82_k3:Xv:=ybi [ybe 32,xN 33 32,ya4 34] 2 c_82_l1 c_82_k2
def c_82:AFn:=⟨2,[.tmp 4],ydv [ycp,yb3] [ybe 9,xN 10 9,yd9 11 2,xL 12 11,xN 13 12,xB 14 .neq 10 13] 14 (ydg 2) [ybe 15,xN 16 15,ya4 17] 0 c_82_l0 c_82_k3⟩
def c_86_l0:Xv:=ydf [yct 4,ybr 6 1,xL 7 6,xN 8 7,xB 9 .lss 5 8] 9 0 1 (xD [xM 12 3,ybr 13 1,xL 14 13,xM 15 4,xX 16 5 14 15,ybm 17 16,ych 18 17,ybr 19 1,xL 20 19,xM 21 4,xX 22 5 20 21,ycq 23 22,ych 24 23,xO 25 (.bslice .imm 2 (List.replicate 2 [.int .i64 0,.int .i64 0]) [(0,(.t 18)),(1,(.t 24))]),ydl 26 2 16 12 25,xM 3 26]) [xM 10 4,yby 11 .add 10,ycm 11]
def c_86_k1:Xv:=yad [xM 27 3,ycq 28 1,xL 29 28,ydl 30 2 16 27 29,xM 2 30]
def c_86:AFn:=⟨1,[.tmp 2],yd6 (ycl 1) (xC 2 (.Xu 2 [])) (yd4 [yed 3 2] [yb3] c_86_l0 c_86_k1)⟩
def c_87:AFn:=⟨2,[.tmp 4],ya3 [ycp,xJ 3 1,yb8] (xD [yc1 5,xL 6 5,yco 7 .geq 6,ycw 8,yci 9 8 0 3,ycf 10 8 1 9,yci 11 8 0 2,ycf 12 8 1 11,yat 13 8 (.len (.t 12)),yca 14 8 .lss 10 (.t 13),xV 15 8 14,xM 16 15,yci 17 16 1 3,ycf 18 16 1 17,yca 19 16 .geq 18 ydo,xV 20 16 19,xM 21 20,yci 22 21 1 3,ycf 23 21 1 22,yci 24 21 0 2,ycf 25 21 1 24,yci 26 21 0 3,ycf 27 21 1 26,yat 28 21 (ydw 1 25 27),ycf 29 21 1 28,yca 30 21 .lss 23 (.t 29),xV 31 21 30,ycm 31]) .ret⟩
def c_89_l0:Xv:=ydf [xM 22 10,ydj 23,xN 24 23,xB 25 .lss 22 24] 25 0 1 (ycd [ydj 28,xM 29 10,xX 30 5 28 29,ybm 31 30,xL 32 31,ydy 33,xB 34 .leq 32 33] 34 [xI 8 14] (xR [ydj 35,xM 36 10,xX 37 5 35 36,ybm 38 37,xL 39 38,xM 9 39])) [xM 26 10,yby 27 .add 26,xM 10 27]
def c_89_l1:Xv:=ycs [xM 47 11,ydj 48,xN 49 48,xB 50 .lss 47 49] 50 2 3 [yc4 53 4,ybe 54,ydj 55,xM 56 11,xX 57 5 55 56,ybr 58 57,yeh 59 58,yah 60 f_146 [.t 53,.t 54,.t 59],xM 12 60] (.block 4 (yb0 [xM 62 12,yco 63 .neq 62,xM 61 63] 61 [xM 64 12,yee 64] (ydc [ydj 66,xM 67 11,xO 68 (.slc 5 (.t 66) none (some (.t 67)) none),ydj 69,xM 70 11,xX 71 5 69 70,ybr 72 71,yeh 73 72,ybh 74 f_147 68 73,xM 65 74] (yai 65 [xI 8 7])))) [xM 51 11,yby 52 .add 51,xM 11 52]
def c_89_k2:Xv:=ydh (ya4 8)
def c_89_k3:Xv:=ycd [xM 40 3,ydy 41,xB 42 .leq 40 41,xM 43 42,yay 44 43 3,yb4 45 43 .gtr 44 1073741824,xW 46 43 45] 46 [xI 8 14] (ybi [ya4 11] 2 c_89_l1 c_89_k2)
def c_89:AFn:=⟨4,[.tmp 8],ycr [ycl 4,ya4 8] [ydj 13,xN 14 13,xF 15 5 4,xL 16 15,ybe 17,xX 18 6 16 17,xF 19 5 18,xL 20 19,xB 21 .gtr 14 20] 21 (xI 8 12) (yd4 [ya4 9] [ya4 10] c_89_l0 c_89_k3)⟩
def c_90:AFn:=⟨3,[.tmp 6],yd3 [ycl 3,xJ 5 2,yda] [yc4 7 3,ybe 8,ybm 9 5,xL 10 9,yah 11 f_148 [.t 7,.t 8,.t 10],ybl 12 11] 12 (xI 6 8) [yc4 13 3,ych 14 5,ybh 15 f_149 13 14,yc7 15]⟩
def c_91_l0:Xv:=yc3 [ybu 14,ybe 15,xN 16 15,xB 17 .lss 14 16] 17 0 1 [ybe 20,ybu 21,yef 22 20 21,xL 23 22,xN 24 23,yd9 25 2,xL 26 25,ybu 27,xX 28 3 26 27,ycq 29 28,xL 30 29,xB 31 .neq 24 30] 31 [ydg 2] [ybu 18,yby 19 .add 18,yct 19]
def c_91_l1:Xv:=yc3 [ycw 38,ybe 39,yb1 40,yef 41 39 40,xL 42 41,xN 43 42,xB 44 .lss 38 43] 44 4 5 [ybe 47,yb1 48,yef 49 47 48,xL 50 49,ycw 51,yef 52 50 51,xL 53 52,yd9 54 2,xL 55 54,yb1 56,xX 57 3 55 56,yeg 58 57,ycv 59 f_151 58,ybh 60 f_150 53 59,ybl 61 60] 61 [ydg 9] [ycw 45,yby 46 .add 45,ydz 46]
def c_91_k2:Xv:=xR [yb1 36,yby 37 .add 36,yc7 37]
def c_91_l3:Xv:=yba [yb1 32,ybe 33,xN 34 33,xB 35 .lss 32 34] 35 2 (yaj 3 (yaa [ydb] (yal 4 c_91_l1)) c_91_k2)
def c_91_k4:Xv:=ydh yb3
def c_91_k5:Xv:=ybi [yda] 2 c_91_l3 c_91_k4
def c_91:AFn:=⟨2,[.tmp 4],ydv [ycp,yb3] [ybe 8,xN 9 8,yd9 10 2,xL 11 10,xN 12 11,xB 13 .neq 9 12] 13 (ydg 2) [ycg] 0 c_91_l0 c_91_k5⟩
def c_93:AFn:=⟨3,[.cell 6 true 3,.tmp 7],ya0 [ycl 3,yao 6 [.Xu 1 [],.Xu 5 [],.Xu 2 []],ydb] [ybe 9,yco 10 .lss 9,xM 11 10,yay 12 11 1,ydd 13 11 3,ybw 14 11 13,ybn 15 11 14,yb6 16 11 .geq 12 15,xW 17 11 16] 17 [xO 18 (.build [.Xu 1 [],.Xu 5 [],.Xu 2 []] []),xS 3 6 18,xI 7 8] (ydn [yeg 19 3,ybd 20 f_36 [.t 19],yao 8 [.Xu 1 [],.Xu 5 [],.Xu 2 []],xS 3 8 20] 8 (ybx [ybr 21 8,xL 22 21,ybe 23,ydj 24,xX 25 5 22 23,yeb 26 25,xS 1 26 24] [yeg 27 8,xS 3 6 27,ydb]))⟩
def c_94:AFn:=⟨2,[.cell 4 true 6],ya3 [ycj 2 0,ycj 3 1,yao 4 [.Xu 1 [],.Xu 5 [],.Xu 2 [],.Xu 4 [],.Xu 9 [],.Xu 4 []]] (ybk [(3,4)] [⟨some 5,none,.bslice .imm 4 [] []⟩,⟨some 6,none,.faddr 5 (.t 2)⟩,⟨some 7,none,.load false 1 (.t 6)⟩,⟨some 8,none,.append .app 4 32 (.t 5) (.t 7)⟩,⟨some 9,none,.load true 4 (.t 3)⟩,⟨some 10,none,.bslice .imm 4 (List.replicate 1 [.int .i64 0,.int .i64 0,.int .i64 0,.int .i64 0]) [(0,(.t 9))]⟩,⟨some 11,none,.append .app 4 32 (.t 8) (.t 10)⟩,⟨some 12,none,.faddr 5 (.t 2)⟩,⟨none,none,.store 1 (.t 12) (.t 11)⟩] none) (yc5 (yea 13 2) (xS 6 4 13))⟩
def c_95:AFn:=⟨5,[.cell 10 true 6],ycn [ycj 5 0,ycj 7 2,yao 10 [.Xu 1 [],.Xu 5 [],.Xu 2 [],.Xu 4 [],.Xu 9 [],.Xu 4 []]] [yeb 11 7,⟨none,none,.store 1 (.t 11) (.c (.bool true))⟩] (ybx [xM 12 3,xM 13 4,yd9 14 7,xL 15 14,xO 16 (.build [.int .i64 0,.int .i64 0,.Xu 3 [],.Xu 2 []] [(0,1,(.t 12)),(1,1,(.t 13)),(2,1,(.t 15))]),xF 17 5 7,yde 17 16] [yea 18 5,ybe 19,yc4 20 7,ybd 21 f_98 [.t 18,.t 19,.t 20],xS 6 10 21])⟩
def c_96_l0:Xv:=yc3 [yb1 7,ycq 8 2,xL 9 8,xN 10 9,xB 11 .lss 7 10] 11 0 1 [ycq 14 2,xL 15 14,yb1 16,xX 17 2 15 16,ych 18 17,ych 19 3,xO 20 (.eqs false true [.i,.i] (.t 18) (.t 19))] 20 [yb1 21,ycm 21,ycz 5] [yb1 12,yby 13 .add 12,yc7 13]
def c_96_k1:Xv:=yc5 yb3 (ya6 5)
def c_96:AFn:=⟨2,[.tmp 4,.tmp 5],yd4 [ycp,xJ 3 1,yb3,ya6 5] [yda] c_96_l0 c_96_k1⟩
def c_97:AFn:=⟨2,[.cell 4 true 2,.tmp 5],yaa [ycp,xJ 3 1,yec 4,ycg] (ycn [yeg 9 2,ycv 10 f_39 9,yc7 10] [yeg 12 2,ych 13 3,ybh 14 f_155 12 13,xM 11 14,yei 15 11,yej 16 11,ydz 15,yee 16] (yaj 0 (yb0 [yb1 18,yco 19 .neq 18,xM 17 19] 17 [xO 20 (.build [.int .i64 0,.int .i64 0] []),yb1 21,xS 2 4 20,yct 21] (yb0 [ycc 23,ybl 24 23,xM 22 24] 22 [xO 25 (.build [.int .i64 0,.int .i64 0] []),xS 2 4 25,xI 5 8] (yb0 [ybr 27 2,xL 28 27,ycw 29,xX 30 5 28 29,yeb 31 30,xL 32 31,xM 26 32] 26 [xO 33 (.build [.int .i64 0,.int .i64 0] []),xS 2 4 33,xI 5 20] (ydc [ybr 35 2,xL 36 35,ycw 37,xX 38 5 36 37,ybm 39 38,ych 40 39,ych 41 3,xO 42 (.eqs false true [.i,.i] (.t 40) (.t 41)),xM 34 42] (yai 34 [ybr 43 2,xL 44 43,ycw 45,xX 46 5 44 45,ycq 47 46,ych 48 47,xS 2 4 48,ycg]))))) (yad [ybr 49 2,xL 50 49,ycw 51,xX 52 5 50 51,ybm 53 52,ych 54 53,xS 2 4 54,ycg])))⟩
def c_98:AFn:=⟨3,[.cell 6 true 6],ycn [ycj 3 0,ycj 5 2,yao 6 [.Xu 1 [],.Xu 5 [],.Xu 2 [],.Xu 4 [],.Xu 9 [],.Xu 4 []]] [xO 7 (.bslice .imm 9 [] []),yeb 8 3,xL 9 8,yc6 10 .row 9 136 7 9,yeb 11 3,xS 1 11 10] (ybx [yeb 12 3,xL 13 12,ybe 14,yc4 15 5,xX 16 9 13 14,xS 9 16 15] [yea 17 3,xS 6 6 17])⟩
def c_100:AFn:=⟨3,[.cell 6 true 3,.tmp 7],ya0 [ycl 3,yao 6 [.Xu 1 [],.Xu 5 [],.Xu 2 []],ydb] [ybe 9,yco 10 .lss 9,xM 11 10,yay 12 11 1,ydd 13 11 3,ybw 14 11 13,ybn 15 11 14,yb6 16 11 .geq 12 15,xW 17 11 16] 17 [xO 18 (.build [.Xu 1 [],.Xu 5 [],.Xu 2 []] []),xS 3 6 18,xI 7 8] (ydn [yeg 19 3,ybd 20 f_157 [.t 19],yao 8 [.Xu 1 [],.Xu 5 [],.Xu 2 []],xS 3 8 20] 8 (ybx [ybr 21 8,xL 22 21,ybe 23,ydj 24,xX 25 5 22 23,yeb 26 25,xS 1 26 24] [yeg 27 8,xS 3 6 27,ydb]))⟩
def c_101_l0:Xv:=yc3 [ybu 11,ybq 12,xN 13 12,xB 14 .lss 11 13] 14 0 1 [ybq 17,ybu 18,yef 19 17 18,xL 20 19,ybe 21,ybu 22,yef 23 21 22,xL 24 23,xB 25 .neq 20 24] 25 [yb8] [ybu 15,yby 16 .add 15,yct 16]
def c_101_k1:Xv:=ydi 4
def c_101:AFn:=⟨2,[.tmp 4],ydv [yb8] [ybq 6,xN 7 6,ybe 8,xN 9 8,xB 10 .neq 7 9] 10 yb8 [ycg] 0 c_101_l0 c_101_k1⟩
def c_102_l0:Xv:=yc3 [ybu 11,ybq 12,xN 13 12,xB 14 .lss 11 13] 14 0 1 [ybq 17,ybu 18,yef 19 17 18,xL 20 19,ybe 21,ybu 22,yef 23 21 22,xL 24 23,ybh 25 f_158 20 24,ybl 26 25] 26 [yb8] [ybu 15,yby 16 .add 15,yct 16]
def c_102_k1:Xv:=ydi 4
def c_102:AFn:=⟨2,[.tmp 4],ydv [yb8] [ybq 6,xN 7 6,ybe 8,xN 9 8,xB 10 .neq 7 9] 10 yb8 [ycg] 0 c_102_l0 c_102_k1⟩
def c_103_l0:Xv:=yc3 [ybu 11,ybq 12,xN 13 12,xB 14 .lss 11 13] 14 0 1 [ybq 17,ybu 18,xX 19 5 17 18,ybm 20 19,xL 21 20,ybe 22,ybu 23,xX 24 5 22 23,ybm 25 24,xL 26 25,xB 27 .neq 21 26,xM 28 27,yay 29 28 0,yay 30 28 5,yac 31 28 (ydw 5 29 30),ydd 32 28 31,ydd 33 28 32,ybw 34 28 33,yay 35 28 1,yay 36 28 5,yac 37 28 (ydw 5 35 36),ydd 38 28 37,ydd 39 28 38,ybw 40 28 39,yb6 41 28 .neq 34 40,xW 42 28 41,xM 43 42,yay 44 43 0,yay 45 43 5,yac 46 43 (ydw 5 44 45),ydd 47 43 46,yac 48 43 (yd2 4 47),yay 49 43 1,yay 50 43 5,yac 51 43 (ydw 5 49 50),ydd 52 43 51,yac 53 43 (yd2 4 52),yek 54 43 f_159 [.t 48,.t 53],yac 55 43 (ya8 54),xW 56 43 55] 56 [yb8] [ybu 15,yby 16 .add 15,yct 16]
def c_103_k1:Xv:=ydi 4
def c_103:AFn:=⟨2,[.tmp 4],ydv [yb8] [ybq 6,xN 7 6,ybe 8,xN 9 8,xB 10 .neq 7 9] 10 yb8 [ycg] 0 c_103_l0 c_103_k1⟩
def c_104_l0:Xv:=yc3 [ybu 20,ybr 21 2,xL 22 21,xN 23 22,xB 24 .lss 20 23] 24 0 1 [ybr 27 2,xL 28 27,ybu 29,yef 30 28 29,xL 31 30,ydt 32,xL 33 32,ybu 34,yef 35 33 34,xL 36 35,xB 37 .neq 31 36] 37 [yb8] [ybu 25,yby 26 .add 25,yct 26]
def c_104_k1:Xv:=ydi 4
def c_104:AFn:=⟨2,[.tmp 4],ydv [ycj 2 0,ycj 3 1,yb8] [ybm 6 2,xL 7 6,yc1 8,xL 9 8,xB 10 .neq 7 9,xM 11 10,ydd 12 11 2,ybw 13 11 12,ybn 14 11 13,ydd 15 11 3,ybw 16 11 15,ybn 17 11 16,yb6 18 11 .neq 14 17,xW 19 11 18] 19 yb8 [ycg] 0 c_104_l0 c_104_k1⟩
def c_105:AFn:=⟨2,[.cell 4 true 2,.tmp 5,.tmp 6],ya0 [ycp,yec 4,xC 5 (.Xu 1 []),ya6 6] [yea 7 2,ybe 8,ybh 9 f_49 7 8,yco 10 .neq 9] 10 [xO 11 (.build [.int .i64 0,.int .i64 0] []),xS 2 4 11,xC 5 (.Xu 1 []),ya6 6] (.seq (ybk [(7,12),(11,12)] [⟨some 12,none,.faddr 4 (.t 2)⟩,⟨some 13,none,.load false 1 (.t 12)⟩,⟨some 14,none,.mov (.t 1)⟩,⟨some 15,none,.iaddr 9 none (.t 13) (.t 14)⟩,⟨some 16,none,.faddr 0 (.t 15)⟩,⟨some 17,none,.load true 2 (.t 16)⟩,⟨some 18,none,.faddr 4 (.t 2)⟩,⟨some 19,none,.load false 1 (.t 18)⟩,⟨some 20,none,.mov (.t 1)⟩,⟨some 21,none,.iaddr 9 none (.t 19) (.t 20)⟩,⟨some 22,none,.faddr 2 (.t 21)⟩,⟨some 23,none,.load false 1 (.t 22)⟩,⟨none,none,.store 2 (.t 4) (.t 17)⟩,⟨some 5,none,.mov (.t 23)⟩,⟨some 6,none,.mov (.c (.bool true))⟩] none) .ret)⟩
def c_106:AFn:=⟨2,[.cell 4 true 4,.tmp 5],ya0 [ycp,yc9 4 (.Xu 3 []) (.Xu 2 []),ya6 5] [ybe 6,yco 7 .lss 6,ycw 8,yay 9 8 1,yax 10 8 4 2,ybw 11 8 10,ybn 12 8 11,yb6 13 8 .geq 9 12,xW 14 8 13,xM 15 14,yax 16 15 4 2,ybw 17 15 16,yay 18 15 1,yac 19 15 (ydw 9 17 18),yax 20 15 4 19,ybw 21 15 20,yac 22 15 (ya8 21),xW 23 15 22] 23 [xO 24 (.build [.int .i64 0,.int .i64 0,.Xu 3 [],.Xu 2 []] []),yde 4 24,ya6 5] (yad [yeb 25 2,xL 26 25,ybe 27,xX 28 9 26 27,xF 29 5 28,yeh 30 29,yde 4 30,ycz 5])⟩
def c_107_l0:Xv:=yc3 [ybu 11,ybq 12,xN 13 12,xB 14 .lss 11 13] 14 0 1 [ybq 17,ybu 18,xX 19 3 17 18,yeg 20 19,ybe 21,ybu 22,xX 23 3 21 22,yeg 24 23,xO 25 (.eqs true true [.i,.i,.i] (.t 20) (.t 24))] 25 [yb8] [ybu 15,yby 16 .add 15,yct 16]
def c_107_k1:Xv:=ydi 4
def c_107:AFn:=⟨2,[.tmp 4],ydv [yb8] [ybq 6,xN 7 6,ybe 8,xN 9 8,xB 10 .neq 7 9] 10 yb8 [ycg] 0 c_107_l0 c_107_k1⟩
def c_108:AFn:=⟨2,[.tmp 4],yd3 [ycp,xC 4 (.Xu 3 [])] [ybe 5,yco 6 .lss 5,yb1 7,yay 8 7 1,yax 9 7 4 2,ybw 10 7 9,ybn 11 7 10,yb6 12 7 .geq 8 11,xW 13 7 12] 13 (xC 4 (.Xu 3 [])) [yeb 14 2,xL 15 14,ybe 16,xX 17 9 15 16,yd9 18 17,xL 19 18,ycm 19]⟩
def c_109:AFn:=⟨2,[.tmp 4],yd3 [ycp,xC 4 (.Xu 1 [])] [ybe 5,yco 6 .lss 5,yb1 7,yay 8 7 1,yax 9 7 4 2,ybw 10 7 9,ybn 11 7 10,yb6 12 7 .geq 8 11,xW 13 7 12] 13 (xC 4 (.Xu 1 [])) [yeb 14 2,xL 15 14,ybe 16,xX 17 9 15 16,ycq 18 17,xL 19 18,ycm 19]⟩
def c_116:AFn:=⟨2,[.tmp 4,.tmp 5],yap [ycp,xJ 3 1,yb3,ycg] [yeg 11 2,ych 12 3,ybh 13 f_160 11 12,xM 10 13,yei 14 10,yej 15 10,yc7 14,ydz 15] (ybb [ycw 16] 16 [yb1 17,ydg 1,yct 17]) (yae [yeg 19 2,ych 20 3,ybh 21 f_67 19 20,xM 18 21,yei 22 18,yej 23 18,yee 22,xM 9 23] (ybb [ydy 24] 24 [ycc 25,ydg 2,yct 25]) (yc5 yb3 ycg))⟩
def c_127_l0:Xv:=ydq 42 .lss 41 40 42 0 (ydu 1 [xM 43 41,xX 44 2 39 41,ych 45 44,yd7 12 (yc2 0) (yc2 0),xM 11 43,xS 2 12 45] 12 (ydc [ych 46 12,ydy 47,xM 48 11,xX 49 3 47 48,ycq 50 49,xL 51 50,xM 52 10,xM 53 11,yef 54 52 53,xL 55 54,yah 56 f_184 [.t 46,.t 51,.t 55],xM 13 56] (ybb [xM 57 13,yco 58 .neq 57] 58 [xM 59 13,yc7 59])) [yby 60 .add 41,xM 41 60])
def c_127_k1:Xv:=yaj 2 (yb0 [ybr 62 5,xL 63 62,yco 64 .lss 63,xM 65 64,ydd 66 65 5,ybw 67 65 66,yb4 68 65 .gtr 67 255,xW 69 65 68,xM 61 69] 61 [xI 6 9] (yb0 [ybr 71 5,xL 72 71,yco 73 .neq 72,xM 74 73,yat 75 74 (yd2 9 3),ybt 76 74 1,ycx 77 74 f_185 [.t 75,.t 76],yca 78 74 .neq 77 (ybj 3),xV 79 74 78,xM 70 79] 70 [xI 6 11] (ybb [yc4 81 3,ybe 82,ycq 83 5,ybm 84 83,xL 85 84,yah 86 f_186 [.t 81,.t 82,.t 85],ybl 87 86,xM 80 87] 80 [xI 6 8]))) (yad [yc4 88 3,ycq 89 5,ych 90 89,ybh 91 f_187 88 90,yc7 91])
def c_127:AFn:=⟨3,[.tmp 6],yap [ycl 3,xJ 5 2,yda] [yc4 15 3,ybe 16,ybh 17 f_179 15 16,xM 14 17,yei 18 14,yej 19 14,ydz 18,yee 19] (ybb [ycc 20,yco 21 .neq 20] 21 [ycc 22,yc7 22]) (ydc [xF 23 5 3,xL 24 23,ybe 25,xX 26 6 24 25,ybr 27 26,xL 28 27,yc4 29 3,ybe 30,ybh 31 f_183 29 30,xM 9 28,xM 10 31] (ycd [ybm 32 5,xL 33 32,xN 34 33,ydy 35,xN 36 35,xB 37 .neq 34 36] 37 [xI 6 2] (ybi [ybm 38 5,xL 39 38,xN 40 39,ya4 41] 0 c_127_l0 c_127_k1)))⟩
def c_128:AFn:=⟨2,[.tmp 4],ybx [yb8] [ybq 5,ybe 6,ybh 7 f_188 5 6,yco 8 .geq 7,ycc 4]⟩
def c_129:AFn:=⟨2,[.tmp 3],ybx [ycp,ya6 3] [ybr 4 2,yeh 5 4,ybr 6 1,yeh 7 6,ybh 8 f_130 5 7,ycc 3]⟩
def c_130_l0:Xv:=ydq 25 .lss 24 23 25 0 (ya1 1 (ya3 [xM 26 24,xX 27 2 22 24,ych 28 27,yd7 6 (yc2 0) (yc2 0),yct 26,xS 2 6 28] (xD [ych 29 6,yc1 30,xL 31 30,ybu 32,xX 33 2 31 32,ych 34 33,xO 35 (.eqs true true [.i,.i] (.t 29) (.t 34))]) (yai 35 [yb8])) [yby 36 .add 24,xM 24 36])
def c_130_k1:Xv:=ydi 4
def c_130:AFn:=⟨2,[.tmp 4],ydv [ycj 2 0,ycj 3 1,yb8] [ybr 7 2,xL 8 7,ydt 9,xL 10 9,xB 11 .neq 8 10,xM 12 11,yax 13 12 0 2,ybw 14 12 13,ybn 15 12 14,yax 16 12 0 3,ybw 17 12 16,ybn 18 12 17,yb6 19 12 .neq 15 18,xW 20 12 19] 20 yb8 [ybm 21 2,xL 22 21,xN 23 22,ya4 24] 0 c_130_l0 c_130_k1⟩
def c_131:AFn:=⟨3,[.tmp 6],yd3 [ycl 3,xJ 5 2,yda] [yc4 7 3,ybe 8,ybm 9 5,xL 10 9,yah 11 f_186 [.t 7,.t 8,.t 10],ybl 12 11] 12 (xI 6 8) [yc4 13 3,ych 14 5,ybh 15 f_187 13 14,yc7 15]⟩
def c_132_l0:Xv:=ydf [xM 12 4,ybq 13,xN 14 13,xB 15 .lss 12 14] 15 0 1 (xR [xM 18 3,ybq 19,xM 20 4,yef 21 19 20,xL 22 21,xO 23 (.minmax true [.t 18,.t 22]),xM 3 23]) [xM 16 4,yby 17 .add 16,ycm 17]
def c_132_k1:Xv:=yc5 (xM 24 3) (xM 2 24)
def c_132:AFn:=⟨1,[.tmp 2],yap [xC 2 (yc2 0)] [ybq 5,xN 6 5,yby 7 .lss 6] (yck 7 (xR [xO 8 (.mkiface 9 (.c (.str [115,108,105,99,101,115,46,77,97,120,58,32,101,109,112,116,121,32,108,105,115,116]))),⟨none,none,.panic (.t 8)⟩])) (yd4 [ybq 9,xO 10 (ycy 1 9 ydo),xL 11 10,xM 3 11] [ydg 1] c_132_l0 c_132_k1)⟩
def c_133:AFn:=⟨1,[.tmp 2],yd3 [xC 2 (yc2 0)] [ybq 3,xO 4 (.bslice .imm 1 (List.replicate 1 [.int .i64 0]) [(0,(.t 3))]),ycv 5 f_189 4,ybl 6 5] 6 (xC 2 (yc2 0)) [ybq 7,xO 8 (.bin .sub (ybj 32) (.t 7)),xO 9 (.bin .shr (ycb .u32 4294967295) (.t 8)),ydy 2]⟩
def c_146_l0:Xv:=ycs [xM 29 10,ydy 30,xN 31 30,xB 32 .lss 29 31] 32 0 1 [ybm 35 5,xL 36 35,xM 37 10,xX 38 2 36 37,ych 39 38,ydy 40,xM 41 10,yef 42 40 41,xL 43 42,xF 44 5 3,xL 45 44,ybe 46,xX 47 6 45 46,ybr 48 47,xL 49 48,xM 50 10,xX 51 3 49 50,ycq 52 51,xL 53 52,yah 54 f_215 [.t 39,.t 43,.t 53],yee 54] (ybb [ycc 55,yco 56 .neq 55] 56 [ycc 57,yc7 57]) [xM 33 10,yby 34 .add 33,xM 10 34]
def c_146_k1:Xv:=yaj 2 (yb0 [ybr 59 5,xL 60 59,yco 61 .lss 60,xM 62 61,ydd 63 62 5,ybw 64 62 63,yb4 65 62 .gtr 64 255,xW 66 62 65,xM 58 66] 58 [xI 6 9] (yb0 [ybr 68 5,xL 69 68,yco 70 .gtr 69,xM 71 70,yat 72 71 (yd2 9 3),ybt 73 71 1,ycx 74 71 f_216 [.t 72,.t 73],yca 75 71 .neq 74 (ybj 3),xV 76 71 75,xM 67 76] 67 [xI 6 11] (ybb [yc4 78 3,ybe 79,ycq 80 5,ybm 81 80,xL 82 81,yah 83 f_148 [.t 78,.t 79,.t 82],ybl 84 83,xM 77 84] 77 [xI 6 8]))) (yad [yc4 85 3,ycq 86 5,ych 87 86,ybh 88 f_149 85 87,yc7 88])
def c_146:AFn:=⟨3,[.tmp 6],yaa [ycl 3,xJ 5 2,yda] (ya0 [yc4 12 3,ybe 13,ybh 14 f_211 12 13,xM 11 14,yei 15 11,yej 16 11,ydz 15,yee 16] [ycc 17,yco 18 .neq 17] 18 [ycc 19,yc7 19] (ydv [yc4 20 3,ybe 21,ybh 22 f_214 20 21,xM 9 22] [ybm 23 5,xL 24 23,xN 25 24,ydy 26,xN 27 26,xB 28 .neq 25 27] 28 (xI 6 2) [ya4 10] 0 c_146_l0 c_146_k1))⟩
def c_147_l0:Xv:=yc3 [ybu 6,ybq 7,xN 8 7,xB 9 .lss 6 8] 9 0 1 [ybq 12,ybu 13,xX 14 5 12 13,ybr 15 14,yeh 16 15,yeh 17 3,ybh 18 f_217 16 17] 18 [ycz 4] [ybu 10,yby 11 .add 10,yct 11]
def c_147_k1:Xv:=ydh yb8
def c_147:AFn:=⟨2,[.tmp 4],yd4 [xJ 3 1,yb8] [ycg] c_147_l0 c_147_k1⟩
def c_148:AFn:=⟨3,[.tmp 6],ybx [ycl 3,ya6 6] [yc4 7 3,ybe 8,ybh 9 f_218 7 8,ydy 10,yci 11 10 5 3,ycf 12 10 1 11,ybt 13 10 1,yat 14 10 (ydw 6 12 13),yci 15 10 2 14,ycf 16 10 1 15,ybt 17 10 2,ycx 18 10 f_219 [.t 16,.t 17],yca 19 10 .geq 18 ydo,xV 20 10 19,yc7 20]⟩
def c_149_l0:Xv:=yc3 [yb1 31,ybu 32,xN 33 32,xB 34 .lss 31 33] 34 0 1 [ydt 37,xL 38 37,yb1 39,yef 40 38 39,xL 41 40,ybu 42,yb1 43,xX 44 2 42 43,ybr 45 44,xL 46 45,ybh 47 f_220 41 46,ybl 48 47] 48 [ydg 9] [yb1 35,yby 36 .add 35,yc7 36]
def c_149_k1:Xv:=ydh yb3
def c_149:AFn:=⟨2,[.tmp 4],ycr [ycp,xJ 3 1,yb3] [yc1 7,xL 8 7,yco 9 .lss 8,ydy 10,yax 11 10 0 3,ybw 12 10 11,yax 13 10 4 2,ybw 14 10 13,ybn 15 10 14,yb6 16 10 .geq 12 15,xW 17 10 16] 17 (ydg 8) (ydv [yeb 18 2,xL 19 18,yc1 20,xL 21 20,xX 22 3 19 21,ybr 23 22,xL 24 23,yct 24] [ydt 25,xL 26 25,xN 27 26,ybu 28,xN 29 28,xB 30 .neq 27 29] 30 (ydg 2) [yda] 0 c_149_l0 c_149_k1)⟩
def c_150_l0:Xv:=ydf [yb1 7,ybe 8,xB 9 .lss 7 8] 9 0 1 (xR [ybu 12,xO 13 (.bin .mul (ycb .u64 2) (.t 12)),yct 13]) [yb1 10,yby 11 .add 10,yc7 11]
def c_150_k1:Xv:=yad [ybq 14,xO 15 (.conv .u64 (.t 14)),ybu 16,xB 17 .lss 15 16,ycm 17]
def c_150:AFn:=⟨2,[.tmp 4],yaa [yb8] (yd4 [xC 5 (.int .u64 1)] [yda] c_150_l0 c_150_k1)⟩
def c_151:AFn:=⟨1,[.tmp 2],yd3 [ycl 1,ya4 2] [ybr 3 1,xL 4 3,yby 5 .lss 4,ybu 6,ydd 7 6 1,ybw 8 6 7,yb4 9 6 .gtr 8 32,xW 10 6 9] 10 (ya4 2) [ybr 11 1,xL 12 11,xM 2 12]⟩
def c_153_l0:Xv:=ydq 37 .lss 36 35 37 0 (ya1 1 (yaa [xM 38 36,xX 39 9 34 36,yc4 40 39,yao 11 [yav,yav,yav,.Xu 2 [],yav,yav,.Xu 1 [],yav,.Xu 1 []],xM 10 38,xS 9 11 40] (ya0 [xL 42 2,yc4 43 11,ybd 44 f_225 [.t 42,.t 43],xM 41 44,yei 45 41,yej 46 41,xM 12 45,xM 13 46] [xM 47 13,yco 48 .neq 47] 48 [xM 49 10,xM 50 13,xC 4 (.Xu 1 []),yct 49,xS 1 6 50] (xR [ydy 51,xM 52 12,xO 53 (.bslice .imm 1 (List.replicate 1 [.int .i64 0]) [(0,(.t 52))]),ydl 54 1 8 51 53,xM 9 54]))) [yby 55 .add 36,xM 36 55])
def c_153_k1:Xv:=yad [ydy 56,ycm 56,ycg,⟨none,none,.store 1 (.t 6) (.c (.int .i64 0))⟩]
def c_153:ADFn:=⟨2,[.tmp 4,.tmp 5,.cell 6 false 1],.seq (xR [xO 2 (.box (.t 0)),xC 4 (.Xu 1 []),xI 5 0,xO 6 (.alloc [.int .i64 0])]) (.seq (xR [xL 14 2,xO 15 (.tcall f_222 [.t 14]),xO 7 (.alloc [.nilptr]),xS 1 7 15]) (.seq (.seq (xR [xL 16 2,xO 17 (.build [.int .i64 0,.Xu 1 []] []),xO 18 (.tcall f_223 [.t 16,.c (.int .i64 (-1)),.c (.int .i64 0),.t 17]),xK 19 .eql 18 1,xM 20 19,xG 21 20 false (.load false 1 (.t 7)),xG 22 20 false (.eqn false (.t 21) (.c (.nilptr))),xW 23 20 22]) (.cond (.t 23) (.seq (xR [xC 4 (.Xu 1 []),xI 5 (-1),⟨none,none,.store 1 (.t 6) (.c (.int .i64 1))⟩]) (.ret)) (.skip))) (.seq (.seq (xR [xM 24 1,xN 25 24,xK 26 .gtr 25 64]) (.cond (.t 26) (.seq (xR [xC 4 (.Xu 1 []),xI 5 (-1),⟨none,none,.store 1 (.t 6) (.c (.int .i64 12))⟩]) (.ret)) (.skip))) (.dfr [⟨some 27,none,.mkfunc (.func f_224) [] [.t 6,.t 7,.t 2]⟩] 27 (.seq (xR [xM 28 1,xN 29 28,xO 30 (.mkslice .row 9 120 [.int .i64 0,.int .i64 0,.int .i64 0,.Xu 2 [],.int .i64 0,.int .i64 0,.Xu 1 [],.int .i64 0,.Xu 1 []] (.t 29) (.t 29)),xM 8 30]) (.seq (xR [xM 31 8,xM 32 1,xO 33 (.copy 9 (.t 31) (.t 32))]) (.seq (xR [xO 9 (.nilapp 1)]) (.seq (.seq (xR [xM 34 8,xN 35 34,xI 36 0]) (.block 0 (.loop c_153_l0))) c_153_k1)))))))),f_224,3,none,.seq (xR [xL 3 0,xK 4 .neq 3 0]) (.cond (.t 4) (xD [xL 5 2,xL 6 1,xO 7 (.nilchk (.t 6)),xA 8 15 7,xO 9 (.nilchk (.t 5)),xS 15 9 8]) (.skip))⟩
def c_155_l0:Xv:=yc3 [yb1 7,ybr 8 2,xL 9 8,xN 10 9,xB 11 .lss 7 10] 11 0 1 [ybr 14 2,xL 15 14,yb1 16,xX 17 5 15 16,ybm 18 17,ych 19 18,ych 20 3,xO 21 (.eqs false true [.i,.i] (.t 19) (.t 20)),xM 22 21,ydd 23 22 2,ybw 24 22 23,yay 25 22 6,yac 26 22 (ydw 5 24 25),yax 27 22 2 26,yac 28 22 (yd2 2 27),yac 29 22 (yd2 2 3),yac 30 22 (.eqs false true [.i,.i] (.t 28) (.t 29)),xW 31 22 30] 31 [yb1 32,ycm 32,ycz 5] [yb1 12,yby 13 .add 12,yc7 13]
def c_155_k1:Xv:=yc5 yb3 (ya6 5)
def c_155:AFn:=⟨2,[.tmp 4,.tmp 5],yd4 [ycp,xJ 3 1,yb3,ya6 5] [yda] c_155_l0 c_155_k1⟩
def c_157:AFn:=⟨1,[.cell 2 true 3],ycn [ycl 1,yao 2 [.Xu 1 [],.Xu 5 [],.Xu 2 []]] [yao 3 [.Xu 1 [],.Xu 5 [],.Xu 2 []]] (ycn [yc1 4,xL 5 4,ybm 6 1,xL 7 6,ydl 8 1 8 5 7,yc1 9,xS 1 9 8] [ydt 10,xL 11 10,ybr 12 1,xL 13 12,yc6 14 .row 5 40 11 13,ydt 15,xS 1 15 14] (ybx [ycq 16 3,xL 17 16,ycq 18 1,xL 19 18,ydl 20 2 16 17 19,ycq 21 3,xS 1 21 20] [yeg 22 3,xS 3 2 22]))⟩
def c_158_l0:Xv:=yc3 [ybu 11,ybq 12,xN 13 12,xB 14 .lss 11 13] 14 0 1 [ybq 17,ybu 18,yef 19 17 18,xL 20 19,ybe 21,ybu 22,yef 23 21 22,xL 24 23,xB 25 .neq 20 24] 25 [yb8] [ybu 15,yby 16 .add 15,yct 16]
def c_158_k1:Xv:=ydi 4
def c_158:AFn:=⟨2,[.tmp 4],ydv [yb8] [ybq 6,xN 7 6,ybe 8,xN 9 8,xB 10 .neq 7 9] 10 yb8 [ycg] 0 c_158_l0 c_158_k1⟩
def c_159:AFn:=⟨2,[.tmp 4],ybx [ycj 2 0,ycj 3 1,yb8] [yeh 5 2,yeh 6 3,ybh 7 f_217 5 6,ycw 8,yci 9 8 2 2,yat 10 8 (yd2 2 9),yci 11 8 2 3,yat 12 8 (yd2 2 11),ycx 13 8 f_104 [.t 10,.t 12],xV 14 8 13,ycm 14]⟩
def c_160_l0:Xv:=ydq 12 .lss 11 10 12 0 (ydu 1 [xM 13 11,xX 14 5 9 11,xA 15 5 14,yao 7 [yav,yav,yav,yav,yak],yc7 13,xS 5 7 15] 7 (ybb [ybm 16 7,ych 17 16,ych 18 3,xO 19 (.eqs false true [.i,.i] (.t 17) (.t 18)),xM 20 19,yax 21 20 2 7,yac 22 20 (yd2 2 21),yac 23 20 (yd2 2 3),yac 24 20 (.eqs false true [.i,.i] (.t 22) (.t 23)),xW 25 20 24] 25 [yb1 26,ycm 26,ycz 5]) [yby 27 .add 11,xM 11 27])
def c_160_k1:Xv:=yc5 yb3 (ya6 5)
def c_160:AFn:=⟨2,[.tmp 4,.tmp 5],yd4 [ycp,xJ 3 1,yb3,ya6 5] [ybr 8 2,xL 9 8,xN 10 9,ya4 11] c_160_l0 c_160_k1⟩
def c_179:AFn:=⟨2,[.tmp 4,.tmp 5],ya0 [ycp,yb3,ycg] [ybe 7,yco 8 .lss 7,ycc 9,yay 10 9 1,yax 11 9 5 2,ybw 12 9 11,ybn 13 9 12,yb6 14 9 .geq 10 13,xW 15 9 14] 15 [yd5,xI 5 8] (ydn [xF 16 5 2,xL 17 16,ybe 18,xX 19 6 17 18,yea 20 19,yao 6 [.str [],.Xu 3 [],.Xu 1 [],yav,.Xu 1 [],yav],xS 6 6 20] 6 (yaj 0 (yb0 [ybm 22 6,xL 23 22,ycv 24 f_228 23,ybl 25 24,xM 21 25] 21 [yd5,xI 5 6] (yb0 [ybr 27 6,xL 28 27,xN 29 28,xK 30 .gtr 29 6,xM 31 30,yax 32 31 2 6,ybw 33 31 32,ybn 34 31 33,yb4 35 31 .gtr 34 16,xW 36 31 35,xM 26 36] 26 [yd5,xI 5 12] (ybb [xF 38 5 6,xL 39 38,yby 40 .lss 39,xM 41 40,yax 42 41 5 6,ybw 43 41 42,yb4 44 41 .gtr 43 256,xW 45 41 44,xM 37 45] 37 [yd5,xI 5 9]))) (yae [ydx 47,yea 48 6,ybh 49 f_235 47 48,xM 46 49,yei 50 46,yej 51 46,ycm 50,yct 51] (ybb [ybu 52,yco 53 .neq 52] 53 [xM 54 4,ybu 55,ycm 54,yct 55]) (yae [ydx 56,yea 57 6,ybh 58 f_236 56 57,yct 58] (ybb [ybu 59,yco 60 .neq 59] 60 [ybu 61,ydg (-3),yct 61]) (yc5 yb3 ycg)))))⟩
def c_183_l0:Xv:=ydq 20 .lss 19 18 20 0 (ydu 1 [xX 21 3 17 19,yeg 22 21,yao 7 [yav,yav,yav],xS 3 7 22] 7 (xR [ybu 23,ydx 24,ybm 25 7,ych 26 25,ybh 27 f_246 24 26,xO 28 (.bslice .imm 1 (List.replicate 1 [.int .i64 0]) [(0,(.t 27))]),ydl 29 1 8 23 28,yct 29]) [yby 30 .add 19,xM 19 30])
def c_183_k1:Xv:=yc5 (ybu 31) (ycm 31)
def c_183:AFn:=⟨2,[.tmp 4],ycr [ycp,xC 4 (.Xu 1 [])] [ydx 8,ybe 9,ybh 10 f_245 8 9,ybl 11 10] 11 (xC 4 (.Xu 1 [])) (yd4 [yed 5 1] [xF 12 5 2,xL 13 12,ybe 14,xX 15 6 13 14,ybr 16 15,xL 17 16,xN 18 17,ya4 19] c_183_l0 c_183_k1)⟩
def c_184:AFn:=⟨3,[.tmp 6],yd6 (ycl 3) yda (yaj 0 (yb0 [yc1 10,xL 11 10,ydj 12,ybh 13 f_247 11 12,ybl 14 13,xM 15 14,ydd 16 15 3,ybw 17 15 16,yay 18 15 2,yek 19 15 f_247 [.t 17,.t 18],yac 20 15 (ya8 19),xW 21 15 20,xM 9 21] 9 [xI 6 9] (yb0 [yc1 23,xL 24 23,ydt 25,xL 26 25,xB 27 .andNot 24 26,xO 28 (yas .neq 27 (ycb .u32 0)),xM 22 28] 22 [xI 6 5] (ydc [ybe 30,yby 31 .eql 30,xM 32 31,yci 33 32 1 3,ycf 34 32 1 33,ybt 35 32 2,ycx 36 32 f_133 [.t 35],yca 37 32 .neq 34 (.t 36),xV 38 32 37,xM 29 38] (yai 29 [xI 6 11])))) (yae [ybe 39,xK 40 .eql 39 2] (yck 40 (yaa [ydt 42,xL 43 42,ydj 44,ybh 45 f_248 43 44,xM 41 45,yei 46 41,yej 47 41,ydz 46,yee 47] (ybb [ycc 48,ybl 49 48] 49 [xI 6 11]))) (ydh yda)))⟩
def c_185_l0:Xv:=ydq 20 .lss 19 18 20 0 (ydu 1 [xX 21 3 17 19,yeg 22 21,yao 7 [yav,yav,yav],xS 3 7 22] 7 (.block 2 (yb0 [ycq 24 7,xL 25 24,xK 26 .eql 25 3,xM 23 26] 23 [ydg 3] (yaa [ycq 28 7,xL 29 28,xK 30 .eql 29 2,xM 27 30] (yck 27 (xR [xI 5 2]))))) [yby 31 .add 19,xM 19 31])
def c_185_k1:Xv:=yc5 (ybu 32) (ycm 32)
def c_185:AFn:=⟨2,[.tmp 4],ycr [ycp,yb3] [ydx 8,ybe 9,ybh 10 f_245 8 9,ybl 11 10] 11 yb3 (yd4 [xI 5 1] [xF 12 5 2,xL 13 12,ybe 14,xX 15 6 13 14,ybr 16 15,xL 17 16,xN 18 17,ya4 19] c_185_l0 c_185_k1)⟩
def c_186_l0:Xv:=ydq 21 .lss 20 19 21 0 (ya1 1 (yaa [yef 22 18 20,xL 23 22,yee 23] (ybb [ycc 24,ydj 25,xB 26 .eql 24 25] 26 [ycz 6])) [yby 27 .add 20,xM 20 27])
def c_186_k1:Xv:=ydh (ya6 6)
def c_186:AFn:=⟨3,[.tmp 6],ydv [ycl 3,ya6 6] [yc4 9 3,ybe 10,ybh 11 f_245 9 10,ybl 12 11] 12 (ya6 6) [xF 13 5 3,xL 14 13,ybe 15,xX 16 6 14 15,ycq 17 16,xL 18 17,xN 19 18,ya4 20] 0 c_186_l0 c_186_k1⟩
def c_187_l0:Xv:=ydq 36 .lss 35 34 36 0 (ya1 1 (yaa [xM 37 35,yef 38 33 35,xL 39 38,yc7 37,ydz 39] (ybb [ycw 40,ybu 41,yb1 42,xX 43 2 41 42,ybr 44 43,xL 45 44,ybh 46 f_247 40 45,ybl 47 46] 47 [ydg 9])) [yby 48 .add 35,xM 35 48])
def c_187_k1:Xv:=ydh yb3
def c_187:AFn:=⟨2,[.tmp 4],ycr [ycp,xJ 3 1,yb3] [yc1 8,xL 9 8,yco 10 .lss 9,xM 11 10,yax 12 11 0 3,ybw 13 11 12,yax 14 11 4 2,ybw 15 11 14,ybn 16 11 15,yb6 17 11 .geq 13 16,xW 18 11 17] 18 (ydg 8) (ydv [yeb 19 2,xL 20 19,yc1 21,xL 22 21,xX 23 3 20 22,ybr 24 23,xL 25 24,yct 25] [ydt 26,xL 27 26,xN 28 27,ybu 29,xN 30 29,xB 31 .neq 28 30] 31 (ydg 2) [ydt 32,xL 33 32,xN 34 33,ya4 35] 0 c_187_l0 c_187_k1)⟩
def c_188_l0:Xv:=ydq 9 .lss 8 7 9 0 (ya1 1 (yd6 (ycc 10) (yct 10) (ybb [ybe 11,ybq 12,ybu 13,xX 14 5 12 13,xA 15 5 14,xO 16 (.pcallv (.t 11) [.t 15])] 16 [ybu 17,ycm 17])) [yby 18 .add 8,yee 18])
def c_188_k1:Xv:=ydh yd5
def c_188:AFn:=⟨2,[.tmp 4],yd4 [yb3] [ybq 6,xN 7 6,ya4 8] c_188_l0 c_188_k1⟩
def c_189_l0:Xv:=ydq 8 .lss 7 6 8 0 (ya1 1 (yaa [yef 9 5 7,xL 10 9,ycm 10] (ybb [xM 11 4,yby 12 .lss 11,xM 13 12,yay 14 13 4,yb4 15 13 .gtr 14 32,xW 16 13 15] 16 [ya6 2])) [yby 17 .add 7,ydz 17])
def c_189_k1:Xv:=ydi 2
def c_189:AFn:=⟨1,[.tmp 2],yd4 [ya6 2] [ybq 5,xN 6 5,ydb] c_189_l0 c_189_k1⟩
def c_206_l0:Xv:=ydf [xM 17 3,ybq 18,xO 19 (.slen (.t 18)),xB 20 .lss 17 19] 20 0 1 (ybb [ybq 23,xM 24 3,xO 25 (.idxs (.t 23) (.t 24)),ycv 26 f_271 25,ybl 27 26,xM 28 27,ybt 29 28 0,ybt 30 28 3,yat 31 28 (.idxs (.t 29) (.t 30)),ycx 32 28 f_272 [.t 31],yat 33 28 (ya8 32),xV 34 28 33,xM 35 34,ybt 36 35 0,ybt 37 35 3,yat 38 35 (.idxs (.t 36) (.t 37)),yca 39 35 .neq 38 (ydk 95),xV 40 35 39] 40 [ya6 2]) [xM 21 3,yby 22 .add 21,xM 3 22]
def c_206_k1:Xv:=ydi 2
def c_206:AFn:=⟨1,[.tmp 2],ydv [ya6 2] [ybq 4,xO 5 (yas .eql 4 (.c (.str []))),ybu 6,yay 7 6 0,yac 8 6 (.slen (.t 7)),yb4 9 6 .gtr 8 16,xW 10 6 9,xM 11 10,yay 12 11 0,yac 13 11 (.idxs (.t 12) ydo),yek 14 11 f_271 [.t 13],yac 15 11 (ya8 14),xW 16 11 15] 16 (ya6 2) [ya4 3] 0 c_206_l0 c_206_k1⟩
def c_211:AFn:=⟨2,[.tmp 4,.tmp 5],ya0 [ycp,yb3,ycg] [ybe 9,yco 10 .lss 9,xM 11 10,yay 12 11 1,yax 13 11 5 2,ybw 14 11 13,ybn 15 11 14,yb6 16 11 .geq 12 15,xW 17 11 16] 17 [yd5,xI 5 8] (ydn [xF 18 5 2,xL 19 18,ybe 20,xX 21 6 19 20,yea 22 21,yao 6 [.str [],.Xu 3 [],.Xu 1 [],yav,.Xu 1 [],yav],xS 6 6 22] 6 (yaj 0 (yb0 [ybm 24 6,xL 25 24,ycv 26 f_206 25,ybl 27 26,xM 23 27] 23 [yd5,xI 5 6] (yb0 [ybr 29 6,xL 30 29,xN 31 30,xK 32 .gtr 31 6,xM 33 32,yax 34 33 2 6,ybw 35 33 34,ybn 36 33 35,yb4 37 33 .gtr 36 16,xW 38 33 37,xM 28 38] 28 [yd5,xI 5 12] (ybb [xF 40 5 6,xL 41 40,yby 42 .lss 41,xM 43 42,yax 44 43 5 6,ybw 45 43 44,yb4 46 43 .gtr 45 256,xW 47 43 46,xM 39 47] 39 [yd5,xI 5 9]))) (ya0 [ydx 49,yea 50 6,ybh 51 f_275 49 50,xM 48 51,yei 52 48,yej 53 48,ydz 52,yee 53] [ycc 54,yco 55 .neq 54] 55 [ycw 56,ycc 57,ycm 56,yct 57] (ya0 [ydx 58,yea 59 6,ybh 60 f_276 58 59,yee 60] [ycc 61,yco 62 .neq 61] 62 [ycc 63,ydg (-3),yct 63] (yc5 yb3 ycg)))))⟩
def c_214_l0:Xv:=ydf [yb1 11,xF 12 5 2,xL 13 12,ybe 14,xX 15 6 13 14,ybr 16 15,xL 17 16,xN 18 17,xB 19 .lss 11 18] 19 0 1 (xD [ybu 22,ydx 23,xF 24 5 2,xL 25 24,ybe 26,xX 27 6 25 26,ybr 28 27,xL 29 28,yb1 30,xX 31 3 29 30,ybm 32 31,ych 33 32,ybh 34 f_282 23 33,xO 35 (.bslice .imm 1 (List.replicate 1 [.int .i64 0]) [(0,(.t 34))]),ydl 36 1 8 22 35,yct 36]) [yb1 20,yby 21 .add 20,yc7 21]
def c_214_k1:Xv:=yc5 (ybu 37) (ycm 37)
def c_214:AFn:=⟨2,[.tmp 4],ycr [ycp,xC 4 (.Xu 1 [])] [ydx 7,ybe 8,ybh 9 f_218 7 8,ybl 10 9] 10 (xC 4 (.Xu 1 [])) (yd4 [yed 5 1] [yda] c_214_l0 c_214_k1)⟩
def c_215:AFn:=⟨3,[.tmp 6],ycn [ycl 3,yda] [ydt 10,xL 11 10,ybe 12,ybh 13 f_283 11 12,xM 9 13,yei 14 9,yej 15 9,ydz 14,yee 15] (yaj 0 (yb0 [yc1 17,xL 18 17,ybe 19,ybh 20 f_220 18 19,ybl 21 20,xM 22 21,ydd 23 22 3,ybw 24 22 23,yay 25 22 1,yek 26 22 f_220 [.t 24,.t 25],yac 27 22 (ya8 26),xW 28 22 27,xM 16 28] 16 [xI 6 9] (yb0 [yc1 30,xL 31 30,ydt 32,xL 33 32,xB 34 .and 31 33,yc1 35,xL 36 35,xB 37 .neq 34 36,xM 29 37] 29 [xI 6 5] (ydc [ydj 39,yby 40 .eql 39,xM 41 40,yci 42 41 1 3,ycf 43 41 1 42,ybt 44 41 1,ycx 45 41 f_284 [.t 44],yca 46 41 .neq 43 (.t 45),xV 47 41 46,xM 48 47,yay 49 48 2,yb4 50 48 .eql 49 2,yay 51 48 50,ybt 52 51 8,yat 53 51 (ya8 52),yac 54 48 (.pick (.t 51) (.t 53) (.c yak)),xW 55 48 54,xM 38 55] (yai 38 [xI 6 11])))) (ydh yda))⟩
def c_216_l0:Xv:=ydf [yb1 11,xF 12 5 2,xL 13 12,ybe 14,xX 15 6 13 14,ybr 16 15,xL 17 16,xN 18 17,xB 19 .lss 11 18] 19 0 1 (xR [ybu 22,xF 23 5 2,xL 24 23,ybe 25,xX 26 6 24 25,ybr 27 26,xL 28 27,yb1 29,xX 30 3 28 29,ycq 31 30,xL 32 31,xO 33 (.minmax true [.t 22,.t 32]),yct 33]) [yb1 20,yby 21 .add 20,yc7 21]
def c_216_k1:Xv:=yc5 (ybu 34) (ycm 34)
def c_216:AFn:=⟨2,[.tmp 4],ycr [ycp,yb3] [ydx 7,ybe 8,ybh 9 f_218 7 8,ybl 10 9] 10 yb3 (yd4 [xI 5 1] [yda] c_216_l0 c_216_k1)⟩
def c_217_l0:Xv:=yc3 [ybu 20,ybm 21 2,xL 22 21,xN 23 22,xB 24 .lss 20 23] 24 0 1 [ybm 27 2,xL 28 27,ybu 29,xX 30 2 28 29,ych 31 30,yc1 32,xL 33 32,ybu 34,xX 35 2 33 34,ych 36 35,xO 37 (.eqs true true [.i,.i] (.t 31) (.t 36))] 37 [yb8] [ybu 25,yby 26 .add 25,yct 26]
def c_217_k1:Xv:=ydi 4
def c_217:AFn:=⟨2,[.tmp 4],ydv [ycj 2 0,ycj 3 1,yb8] [ybm 6 2,xL 7 6,xN 8 7,yc1 9,xL 10 9,xN 11 10,xB 12 .neq 8 11,xM 13 12,ydd 14 13 2,ybw 15 13 14,ydd 16 13 3,ybw 17 13 16,yb6 18 13 .neq 15 17,xW 19 13 18] 19 yb8 [ycg] 0 c_217_l0 c_217_k1⟩
def c_218:AFn:=⟨2,[.tmp 4],yd6 ycp yb8 (ybx [ydx 8,ybe 9,ybh 10 f_211 8 9,ydz 10,yei 11 7,yej 12 7,yct 11,yc7 12] [yb1 13,yco 14 .eql 13,ycm 14])⟩
def c_219_l0:Xv:=ydf [ybu 6,ybq 7,xN 8 7,xB 9 .lss 6 8] 9 0 1 (ybb [ybq 12,ybu 13,yef 14 12 13,xL 15 14,ybe 16,xB 17 .eql 15 16] 17 [ybu 18,ycm 18]) [ybu 10,yby 11 .add 10,yct 11]
def c_219_k1:Xv:=ydh yd5
def c_219:AFn:=⟨2,[.tmp 4],yd4 [yb3] [ycg] c_219_l0 c_219_k1⟩
def c_220:AFn:=⟨2,[.tmp 4],ybx [yb8] [ybe 5,ycv 6 f_285 5,yb1 7,ybt 8 7 0,yat 9 7 (.conv .u64 (.t 8)),ybt 10 7 1,ycx 11 7 f_286 [.t 10],yca 12 7 .lss 9 (.t 11),xV 13 7 12,ycm 13]⟩
def c_228:AFn:=⟨1,[.tmp 2],yd3 [ya6 2] [ybq 3,xO 4 (.slen (.t 3)),yco 5 .eql 4,ybu 6,yay 7 6 0,yac 8 6 (.slen (.t 7)),yb4 9 6 .gtr 8 16,xW 10 6 9,xM 11 10,yay 12 11 0,yac 13 11 (.idxs (.t 12) ydo),yek 14 11 f_299 [.t 13],yac 15 11 (ya8 14),xW 16 11 15] 16 (ya6 2) [ybq 17,ybg 18 f_300 17 (.c (.func (.func f_301) [] [])),ybq 19,xO 20 (.slen (.t 19)),xB 21 .eql 18 20,xM 2 21]⟩
def c_235_l0:Xv:=ydq 15 .lss 14 13 15 0 (ydu 1 [xM 16 14,xX 17 3 12 14,yeg 18 17,yao 9 [yav,yav,yav],yee 16,xS 3 9 18] 9 (ya0 [ydx 19,ybm 20 9,ych 21 20,ybh 22 f_246 19 21,xM 10 22] [xM 23 10,yco 24 .eql 23] 24 [ycc 25,ycm 25,xI 5 8] (yae [ycq 26 9,xL 27 26] (.block 2 (yd6 (xK 30 .eql 27 2) (xM 29 30) (yab 29 (xR [yb1 31,yby 32 .add 31,yc7 32]) (yae [yby 34 .eql 27,xM 33 34] (yab 33 .skip (xR [xK 35 .eql 27 3,xM 33 35])) (yab 33 .skip (yad [ycc 28,ycm 28,xI 5 11])))))) (xR [ycw 36,xM 37 10,xB 38 .add 36 37,ydz 38]))) [yby 39 .add 14,xM 14 39])
def c_235_k1:Xv:=ycd [yb1 40,yby 41 .gtr 40] 41 [ydg (-2),xI 5 7] (ycd [ycw 42,xK 43 .gtr 42 64] 43 [ydg (-2),xI 5 10] (yc5 yb3 ycg))
def c_235:AFn:=⟨2,[.tmp 4,.tmp 5],yaa [ycp,xJ 3 1,yb3,ycg] (yd4 [yda,ydb] [ydt 11,xL 12 11,xN 13 12,ya4 14] c_235_l0 c_235_k1)⟩
def c_236_l0:Xv:=ydq 13 .lss 12 11 13 0 (ya1 1 (ycr [yef 14 10 12,xL 15 14,ydz 15] [ycw 16,yco 17 .lss 16,xM 18 17,yay 19 18 7,yax 20 18 4 2,ybw 21 18 20,ybn 22 18 21,yb6 23 18 .geq 19 22,xW 24 18 23] 24 (ydg 8) (ycd [ybu 25,ycw 26,xO 27 (.lookup .i (.bool false) false (.t 25) (.t 26))] 27 [ydg 7] (xR [ybu 28,ycw 29,⟨none,none,.update .i (.t 28) (.t 29) (.c (.bool true))⟩]))) [yby 30 .add 12,xM 12 30])
def c_236_k1:Xv:=ycd [ybu 31,yd9 32 3,ybm 33 32,xL 34 33,xO 35 (.lookup .i (.bool false) false (.t 31) (.t 34)),ybl 36 35] 36 [ydg 8] (yad [ydx 37,yd9 38 3,ych 39 38,ybh 40 f_187 37 39,ycm 40])
def c_236:AFn:=⟨2,[.tmp 4],yaa [ycp,xJ 3 1,yb3] (yd4 [xO 8 .mkmap,ycc 5] [ycq 9 3,xL 10 9,xN 11 10,ya4 12] c_236_l0 c_236_k1)⟩
def c_245:AFn:=⟨2,[.tmp 4],yd6 ycp yb8 (ybx [ydx 8,ybe 9,ybh 10 f_179 8 9,ydz 10,yei 11 7,yej 12 7,yct 11,yc7 12] [yb1 13,yco 14 .eql 13,ycm 14])⟩
def c_246:AFn:=⟨2,[.tmp 4],ya3 [ycp,xJ 3 1,yb3] (xD [ydx 6,yc1 7,xL 8 7,ybh 9 f_314 6 8,ydt 10,xL 11 10,ybh 12 f_313 9 11,xO 13 (.fld false 1 1 (.t 12)),yct 13]) (ycd [ybu 14,ycv 15 f_133 14,xO 16 (yas .eql 15 (ycb .u32 0))] 16 [yb3] (yc5 (ybu 17) (ycm 17)))⟩
def c_247:AFn:=⟨2,[.tmp 4],ybx [yb8] [ybe 5,xO 6 (.bslice .imm 1 (List.replicate 1 [.int .i64 0]) [(0,(.t 5))]),ycv 7 f_189 6,ycw 8,ybt 9 8 0,ybt 10 8 1,ycx 11 8 f_133 [.t 10],yca 12 8 .leq 9 (.t 11),xV 13 8 12,ycm 13]⟩
def c_248_l0:Xv:=ydq 14 .lss 13 12 14 0 (ya1 1 (yd6 (xM 15 13) (yc7 15) (ybb [yb1 16,ybe 17,ybh 18 f_315 16 17,ybq 19,xB 20 .eql 18 19] 20 [yb1 21,ycm 21,ycz 5])) [yby 22 .add 13,xM 13 22])
def c_248_k1:Xv:=yc5 yb3 (ya6 5)
def c_248:AFn:=⟨2,[.tmp 4,.tmp 5],ya0 [yb3,ya6 5] [ybe 7,xO 8 (.bslice .imm 1 (List.replicate 1 [.int .i64 0]) [(0,(.t 7))]),ycv 9 f_189 8,ybl 10 9] 10 [yb3,ya6 5] (ybi [ybe 11,yby 12 .add 11,ya4 13] 0 c_248_l0 c_248_k1)⟩
def c_271:AFn:=⟨1,[.tmp 2],ybx [ya6 2] [ybq 3,xO 4 (yas .geq 3 (ydk 97)),yct 4,ybt 6 5 0,yca 7 5 .leq 6 (ydk 122),xV 8 5 7,ycc 9,yay 10 9 0,ya2 11 9 .geq 10 (ydk 65),yay 12 9 11,ybt 13 12 0,yca 14 12 .leq 13 (ydk 90),yac 15 9 (.pick (.t 12) (.t 14) (.c yak)),xW 16 9 15,xM 2 16]⟩
def c_272:AFn:=⟨1,[.tmp 2],ybx [ya6 2] [ybq 3,xO 4 (yas .geq 3 (ydk 48)),yct 4,ybt 6 5 0,yca 7 5 .leq 6 (ydk 57),xV 8 5 7,ycc 2]⟩
def c_275_l0:Xv:=ycs [ycc 11,ydt 12,xL 13 12,xN 14 13,xB 15 .lss 11 14] 15 0 1 [ydx 18,ydt 19,xL 20 19,ycc 21,xX 22 3 20 21,ybm 23 22,ych 24 23,ybh 25 f_282 18 24,xM 9 25] (yaa [ydt 26,xL 27 26,ycc 28,xX 29 3 27 28,ycq 30 29,xL 31 30,xM 10 31] (ya1 2 (yb0 [ydy 33,yco 34 .eql 33,xM 32 34] 32 [ycc 35,ycm 35,xI 5 8] (yb0 [xM 37 10,yby 38 .neq 37,xM 39 38,ybt 40 39 10,yca 41 39 .neq 40 (ybj 2),xV 42 39 41,xM 43 42,ybt 44 43 10,yca 45 43 .neq 44 (ybj 3),xV 46 43 45,xM 36 46] 36 [ycc 47,ycm 47,xI 5 11] (yaa [xM 49 10,xK 50 .eql 49 2,xM 48 50] (yck 48 (xR [ycw 51,yby 52 .add 51,ydz 52]))))) [yb1 53,ydy 54,xB 55 .add 53 54,yc7 55])) [ycc 16,yby 17 .add 16,yee 17]
def c_275_k1:Xv:=yaj 3 (yb0 [ycw 57,yby 58 .gtr 57,xM 56 58] 56 [ydg (-2),xI 5 7] (ybb [yb1 60,xK 61 .gtr 60 64,xM 59 61] 59 [ydg (-2),xI 5 10])) (yc5 yb3 ycg)
def c_275:AFn:=⟨2,[.tmp 4,.tmp 5],ycn [ycp,xJ 3 1,yb3,ycg] [yda] (yd4 [ydb] [ya4 8] c_275_l0 c_275_k1)⟩
def c_276_l0:Xv:=ydf [ybu 6,ycq 7 3,xL 8 7,xN 9 8,xB 10 .lss 6 9] 10 0 1 (.block 2 (ydc [ycq 14 3,xL 15 14,ybu 16,yef 17 15 16,xL 18 17,yco 19 .lss 18,xM 20 19,yax 21 20 2 3,ybw 22 20 21,yay 23 20 5,yac 24 20 (ydw 1 22 23),ybw 25 20 24,yax 26 20 4 2,ybw 27 20 26,ybn 28 20 27,yb6 29 20 .geq 25 28,xW 30 20 29,xM 13 30] (yag 13 [ydg 8] (ydc [ycq 32 3,xL 33 32,ycq 34 3,xL 35 34,ybu 36,yef 37 35 36,xL 38 37,ybh 39 f_219 33 38,ybu 40,xB 41 .lss 39 40,xM 31 41] (yai 31 [ydg 7]))))) [ybu 11,yby 12 .add 11,yct 12]
def c_276_k1:Xv:=ycd [ycq 42 3,xL 43 42,yd9 44 3,ybm 45 44,xL 46 45,ybh 47 f_219 43 46,yco 48 .lss 47] 48 [ydg 8] (yad [ydx 49,yd9 50 3,ych 51 50,ybh 52 f_149 49 51,ycm 52])
def c_276:AFn:=⟨2,[.tmp 4],yd4 [ycp,xJ 3 1,yb3] [ycg] c_276_l0 c_276_k1⟩
def c_282:AFn:=⟨2,[.tmp 4],yaa [ycp,xJ 3 1,yb3] (yap [ycq 6 2,xL 7 6,yct 7] [yc1 8,xL 9 8,yco 10 .geq 9] (yck 10 (ycd [yc1 11,xL 12 11,ybr 13 2,xL 14 13,xN 15 14,xB 16 .geq 12 15] 16 [yb3] (xR [ybr 17 2,xL 18 17,yc1 19,xL 20 19,xX 21 2 18 20,ybr 22 21,xL 23 22,yct 23]))) (ycd [yc1 24,xL 25 24,xK 26 .lss 25 (-1),xM 27 26,ydd 28 27 3,ybw 29 27 28,ya2 30 27 .lss 29 ydo,xW 31 27 30,xM 32 31,ydd 33 32 3,ybw 34 32 33,yay 35 32 5,ybn 36 32 35,yb6 37 32 .geq 34 36,xW 38 32 37,xM 39 38,yay 40 39 5,ydd 41 39 3,ybw 42 39 41,yac 43 39 (ydw 2 40 42),ydd 44 39 43,ybw 45 39 44,yb4 46 39 .lss 45 1,xW 47 39 46,xM 48 47,yay 49 48 5,ydd 50 48 3,ybw 51 48 50,yac 52 48 (ydw 2 49 51),ydd 53 48 52,ybw 54 48 53,yb4 55 48 .gtr 54 32,xW 56 48 55] 56 [yb3] (yad [ybu 57,ydt 58,xL 59 58,xX 60 2 57 59,ybr 61 60,xL 62 61,ycm 62])))⟩
def c_283_l0:Xv:=ydf [yb1 7,ybe 8,xB 9 .leq 7 8,ydy 10,ybt 11 10 1,ycx 12 10 f_285 [.t 11],xV 13 10 12] 13 0 1 (ybb [yb1 16,ybe 17,ybh 18 f_336 16 17,ybq 19,xB 20 .eql 18 19] 20 [yb1 21,ycm 21,ycz 5]) [yb1 14,yby 15 .add 14,yc7 15]
def c_283_k1:Xv:=yc5 yb3 (ya6 5)
def c_283:AFn:=⟨2,[.tmp 4,.tmp 5],yd4 [yb3,ya6 5] [yda] c_283_l0 c_283_k1⟩
def c_284:AFn:=⟨1,[.tmp 2],yd3 [xC 2 (yc2 0)] [ybq 3,ycv 4 f_285 3,ybl 5 4] 5 (xC 2 (yc2 0)) [ybq 6,ycv 7 f_286 6,xO 8 (yas .sub 7 (ycb .u64 1)),xO 9 (.conv .u32 (.t 8)),ydy 2]⟩
def c_285:AFn:=⟨1,[.tmp 2],ybx [ya6 2] [ybq 3,yby 4 .geq 3,yct 4,ybt 6 5 0,yca 7 5 .leq 6 (ybj 32),xV 8 5 7,ycc 2]⟩
def c_286_l0:Xv:=ydf [yct 4,ybq 6,xB 7 .lss 5 6] 7 0 1 (xR [xM 10 3,xO 11 (.bin .mul (ycb .u64 2) (.t 10)),xM 3 11]) [yee 4,yby 9 .add 8,ycm 9]
def c_286_k1:Xv:=yc5 (xM 12 3) (xM 2 12)
def c_286:AFn:=⟨1,[.tmp 2],yaa [xC 2 (.int .u64 0)] (yd4 [xC 3 (.int .u64 1)] [yb3] c_286_l0 c_286_k1)⟩
def c_299:AFn:=⟨1,[.tmp 2],ybx [ya6 2] [ybq 3,xO 4 (yas .geq 3 (ydk 97)),yct 4,ybt 6 5 0,yca 7 5 .leq 6 (ydk 122),xV 8 5 7,ycc 9,yay 10 9 0,ya2 11 9 .geq 10 (ydk 65),yay 12 9 11,ybt 13 12 0,yca 14 12 .leq 13 (ydk 90),yac 15 9 (.pick (.t 12) (.t 14) (.c yak)),xW 16 9 15,xM 2 16]⟩
def c_300_l0:Xv:=yba [ybu 6,ybq 7,xO 8 (.slen (.t 7)),xB 9 .lss 6 8,ydy 10,ybt 11 10 1,ybt 12 10 0,ybt 13 10 5,yat 14 10 (.idxs (.t 12) (.t 13)),yat 15 10 (.pcallv (.t 11) [.t 14]),xV 16 10 15] 16 0 (.block 1 (xR [ybu 17,yby 18 .add 17,yct 18]))
def c_300_k1:Xv:=yc5 (ybu 19) (ycm 19)
def c_300:AFn:=⟨2,[.tmp 4],ycn [yb3] [ycg] (yaj 0 (.loop c_300_l0) c_300_k1)⟩
def c_301:AFn:=⟨1,[.tmp 2],ybx [ya6 2] [ybq 3,ycv 4 f_299 3,yct 4,yay 6 5 0,yek 7 5 f_302 [.t 6],xW 8 5 7,ycc 9,yay 10 9 0,ya2 11 9 .eql 10 (ydk 95),xW 12 9 11,xM 2 12]⟩
def c_302:AFn:=⟨1,[.tmp 2],ybx [ya6 2] [ybq 3,xO 4 (yas .geq 3 (ydk 48)),yct 4,ybt 6 5 0,yca 7 5 .leq 6 (ydk 57),xV 8 5 7,ycc 2]⟩
def c_313:AFn:=⟨2,[.cell 4 true 2],yaa [yd8 4 (.str [])] (ya0 [yd8 5 (.str [])] [ybe 6,yco 7 .lss 6,ycw 8,yay 9 8 1,yay 10 8 0,ybn 11 8 10,yb6 12 8 .geq 9 11,xW 13 8 12] 13 [ych 14 5,xS 2 4 14] (yad [ybq 15,ybe 16,xX 17 2 15 16,ych 18 17,xS 2 4 18]))⟩
def c_314:AFn:=⟨2,[.tmp 4],ya0 [ycp,xC 4 (.Xu 2 [])] [ybe 5,xK 6 .eql 5 (-1)] 6 [ycq 7 2,xL 8 7,ycc 4] (yad [ybr 9 2,xL 10 9,ybe 11,ybh 12 f_357 10 11,xO 13 (.fld false 1 1 (.t 12)),ycm 13])⟩
def c_315:AFn:=⟨2,[.tmp 4],yd3 [xC 4 (yc2 0)] [ybe 5,xO 6 (.bslice .imm 1 (List.replicate 1 [.int .i64 0]) [(0,(.t 5))]),ycv 7 f_189 6,ybl 8 7] 8 (xC 4 (yc2 0)) [ybe 9,ycv 10 f_133 9,ybe 11,ycv 12 f_133 11,ybq 13,xO 14 (.minmax true [.t 13,.c (.int .i64 0)]),ybe 15,xO 16 (.minmax false [.t 14,.t 15]),xB 17 .shr 12 16,xB 18 .andNot 10 17,ycm 18]⟩
def c_336:AFn:=⟨2,[.tmp 4],ycr [xC 4 (yc2 0)] [ybe 5,ycv 6 f_285 5,ybl 7 6] 7 (xC 4 (yc2 0)) (ybx [ybq 8,xO 9 (.minmax true [.t 8,.c (.int .i64 0)]),ybe 10,xO 11 (.minmax false [.t 9,.t 10]),xM 0 11] [ybe 12,ycv 13 f_286 12,ybe 14,ybq 15,xB 16 .sub 14 15,ycv 17 f_286 16,xB 18 .sub 13 17,xO 19 (.conv .u32 (.t 18)),ycm 19])⟩
def c_357:AFn:=⟨2,[.cell 4 true 2],yaa [yd7 4 (.str []) (.Xu 2 [])] (ya0 [yd7 5 (.str []) (.Xu 2 [])] [ybe 6,yco 7 .lss 6,ycw 8,yay 9 8 1,yay 10 8 0,ybn 11 8 10,yb6 12 8 .geq 9 11,xW 13 8 12] 13 [ych 14 5,xS 2 4 14] (yad [ybq 15,ybe 16,xX 17 2 15 16,ych 18 17,xS 2 4 18]))⟩
def tabL:List (Nat×AFn):=[(f_4,c_4),
  (f_7,c_7),
  (f_9,c_9),
  (f_11,c_11),
  (f_12,c_12),
  (f_13,c_13),
  (f_14,c_14),
  (f_15,c_15),
  (f_16,c_16),
  (f_17,c_17),
  (f_18,c_18),
  (f_21,c_21),
  (f_22,c_22),
  (f_23,c_23),
  (f_28,c_28),
  (f_29,c_29),
  (f_30,c_30),
  (f_31,c_31),
  (f_32,c_32),
  (f_33,c_33),
  (f_35,c_35),
  (f_36,c_36),
  (f_37,c_37),
  (f_39,c_39),
  (f_40,c_40),
  (f_42,c_42),
  (f_43,c_43),
  (f_45,c_45),
  (f_48,c_48),
  (f_49,c_49),
  (f_50,c_50),
  (f_51,c_51),
  (f_53,c_53),
  (f_54,c_54),
  (f_55,c_55),
  (f_56,c_56),
  (f_57,c_57),
  (f_64,c_64),
  (f_65,c_65),
  (f_66,c_66),
  (f_67,c_67),
  (f_68,c_68),
  (f_69,c_69),
  (f_70,c_70),
  (f_81,c_81),
  (f_82,c_82),
  (f_86,c_86),
  (f_87,c_87),
  (f_89,c_89),
  (f_90,c_90),
  (f_91,c_91),
  (f_93,c_93),
  (f_94,c_94),
  (f_95,c_95),
  (f_96,c_96),
  (f_97,c_97),
  (f_98,c_98),
  (f_100,c_100),
  (f_101,c_101),
  (f_102,c_102),
  (f_103,c_103),
  (f_104,c_104),
  (f_105,c_105),
  (f_106,c_106),
  (f_107,c_107),
  (f_108,c_108),
  (f_109,c_109),
  (f_116,c_116),
  (f_127,c_127),
  (f_128,c_128),
  (f_129,c_129),
  (f_130,c_130),
  (f_131,c_131),
  (f_132,c_132),
  (f_133,c_133),
  (f_146,c_146),
  (f_147,c_147),
  (f_148,c_148),
  (f_149,c_149),
  (f_150,c_150),
  (f_151,c_151),
  (f_155,c_155),
  (f_157,c_157),
  (f_158,c_158),
  (f_159,c_159),
  (f_160,c_160),
  (f_179,c_179),
  (f_183,c_183),
  (f_184,c_184),
  (f_185,c_185),
  (f_186,c_186),
  (f_187,c_187),
  (f_188,c_188),
  (f_189,c_189),
  (f_206,c_206),
  (f_211,c_211),
  (f_214,c_214),
  (f_215,c_215),
  (f_216,c_216),
  (f_217,c_217),
  (f_218,c_218),
  (f_219,c_219),
  (f_220,c_220),
  (f_228,c_228),
  (f_235,c_235),
  (f_236,c_236),
  (f_245,c_245),
  (f_246,c_246),
  (f_247,c_247),
  (f_248,c_248),
  (f_271,c_271),
  (f_272,c_272),
  (f_275,c_275),
  (f_276,c_276),
  (f_282,c_282),
  (f_283,c_283),
  (f_284,c_284),
  (f_285,c_285),
  (f_286,c_286),
  (f_299,c_299),
  (f_300,c_300),
  (f_301,c_301),
  (f_302,c_302),
  (f_313,c_313),
  (f_314,c_314),
  (f_315,c_315),
  (f_336,c_336),
  (f_357,c_357)]
def tabD:List (Nat×ADFn):=[(f_80,c_80),
  (f_153,c_153)]
def tabC:List CloneD:=[⟨f_44,4,32,.app⟩,⟨f_46,3,24,.app⟩,⟨f_47,1,1,.app⟩,⟨f_113,1,8,.row⟩,⟨f_114,2,8,.app⟩,⟨f_115,1,4,.app⟩,⟨f_339,2,24,.app⟩,⟨f_340,3,32,.app⟩,⟨f_366,3,24,.app⟩,⟨f_367,3,16,.app⟩,⟨f_368,3,24,.app⟩]
def nilL:List (Nat×Nat):=[(f_30,3),(f_54,3),(f_58,3),(f_60,4),(f_65,6),(f_69,3),(f_72,3),(f_86,3),(f_120,5),(f_136,15),(f_138,14),(f_153,9),(f_164,5),(f_168,5),(f_171,5),(f_174,5),(f_177,5),(f_183,5),(f_190,10),(f_203,16),(f_214,5),(f_230,3),(f_251,3),(f_254,4),(f_257,8),(f_258,12),(f_265,8),(f_280,3),(f_295,13),(f_297,11),(f_316,8),(f_337,5),(f_341,5),(f_343,5),(f_345,5),(f_347,5),(f_364,5)]
def thr:List Nat:=[f_9,f_12,f_14,f_15,f_16,f_17,f_18,f_22,f_28,f_29,f_30,f_31,f_32,f_37,f_41,f_42,f_43,f_45,f_64,f_66,f_152,f_153,f_154,f_221,f_222,f_223,f_225,f_226,f_240,f_288,f_289,f_291,f_292,f_293,f_349,f_350,f_352]
def thrAt:List (Nat×Nat):=[(f_51,f_94),(f_51,f_95),(f_51,f_98),(f_95,f_98),(f_52,f_94),(f_22,f_44),(f_22,f_46),(f_93,f_36),(f_100,f_157),(f_135,f_191),(f_329,f_191),(f_226,f_113),(f_34,f_72),(f_252,f_191)]
def thrV:List Nat:=[f_240]
def rowAt:List (Nat×Nat):=[(f_270,27),(f_270,29),(f_22,60),(f_51,31),(f_98,10),(f_52,59),(f_36,8),(f_157,14),(f_191,26),(f_191,34),(f_291,112),(f_296,48),(f_298,41),(f_113,7),(f_191,9),(f_191,28)]
def thrVAt:List (Nat×Nat):=[(f_29,122),(f_29,148),(f_29,170),(f_29,191)]
def rowF:List Nat:=[f_226,f_28,f_37]
def rowFB:List Nat:=[f_28,f_37]
def appAt:List (Nat×Nat):=[(f_226,70)]
def immAt:List (Nat×Nat):=[(f_250,26),(f_58,27)]
def slcHL:List Nat:=[f_352]
def browAt:List (Nat×Nat):=[(f_270,28),(f_22,59),(f_191,27),(f_226,39)]
def boxiAt:List (Nat×Nat):=[(f_36,1),(f_157,1),(f_191,1),(f_9,3),(f_14,3),(f_221,2),(f_152,2),(f_152,3)]
def takeAt:List (Nat×Nat):=[(f_296,65)]
def boxiL:List (Nat×List Nat):=[(3,[3]),(4,[3]),(5,[3]),(6,[3,5]),(7,[3]),(10,[2,3]),(11,[2]),(13,[3]),(20,[2]),(21,[3,4]),(23,[3]),(25,[1]),(27,[2,3]),(33,[1]),(35,[2,3]),(38,[3,4,5]),(39,[1]),(40,[2,3]),(49,[2]),(51,[6,7]),(52,[7]),(54,[1]),(57,[4]),(58,[1]),(65,[1]),(67,[2,3]),(68,[2,3]),(69,[1]),(70,[2,3]),(77,[1]),(81,[5,9]),(82,[2]),(83,[3,4,5]),(84,[3,5]),(85,[4,5]),(86,[1]),(87,[2,3]),(88,[1]),(89,[4]),(90,[3,5]),(91,[2]),(92,[3,4]),(93,[3]),(96,[2,3]),(97,[2,3]),(99,[3,4]),(100,[3]),(105,[2]),(106,[2]),(108,[2]),(109,[2]),(110,[2]),(116,[2,3]),(118,[2]),(122,[1]),(123,[1]),(124,[1]),(125,[1]),(126,[1]),(127,[3,5]),(129,[2]),(131,[3,5]),(134,[2]),(135,[4,5,6]),(136,[2,3]),(137,[5,6]),(138,[4,5,7]),(139,[1]),(140,[1]),(141,[1]),(142,[1]),(143,[1]),(144,[1]),(145,[1]),(146,[3,5]),(147,[3]),(148,[3]),(149,[2,3]),(151,[1]),(155,[2,3]),(156,[3,4]),(160,[2,3]),(165,[1]),(166,[1]),(169,[1]),(172,[1]),(173,[1]),(175,[1]),(176,[2]),(178,[1]),(179,[2]),(180,[1]),(181,[1]),(182,[1]),(183,[2]),(184,[3]),(185,[2]),(186,[3]),(187,[2,3]),(190,[2]),(192,[2,3]),(193,[2,3]),(194,[2]),(196,[1]),(197,[2,3]),(198,[1]),(200,[3,5]),(201,[1]),(202,[3]),(203,[7,8]),(204,[4,5,7]),(205,[4,5]),(209,[1]),(210,[2]),(211,[2]),(212,[1]),(213,[1]),(214,[2]),(215,[3]),(216,[2]),(218,[2]),(227,[3,4,5]),(230,[1]),(232,[1]),(233,[1]),(234,[2,3]),(235,[2,3]),(236,[2,3]),(237,[2]),(241,[5]),(242,[3,4]),(243,[1]),(245,[2]),(246,[2,3]),(249,[2]),(250,[1]),(252,[4,5]),(253,[2,3]),(254,[1]),(255,[2,3]),(256,[2]),(257,[3]),(258,[5]),(260,[2,3]),(263,[2]),(264,[4]),(265,[3,5]),(266,[2]),(267,[3,4]),(268,[3,4]),(269,[4]),(270,[5]),(274,[3,4,5]),(275,[2,3]),(276,[2,3]),(277,[2]),(281,[3]),(282,[2,3]),(287,[1]),(290,[1]),(294,[1]),(295,[4,5,7]),(296,[5,6,9]),(297,[4,5]),(298,[4,5,7]),(305,[2]),(306,[2,3]),(307,[3]),(308,[3]),(309,[3,5]),(310,[3]),(311,[2]),(314,[2]),(316,[2]),(318,[2,3]),(319,[2]),(327,[2]),(328,[4,6,7]),(329,[3]),(330,[4]),(331,[2,3]),(332,[4]),(333,[2]),(334,[3]),(351,[1]),(353,[4]),(356,[3]),(358,[1]),(359,[1]),(362,[3,5]),(363,[1]),(370,[2,3]),(371,[2,3]),(374,[3])]
def keepL:List (Nat×List (Nat×List Nat)):=[(3,[(4,[9])]),(4,[(9,[10])]),(5,[(8,[13]),(19,[18]),(20,[20]),(26,[25])]),(8,[(5,[5]),(6,[7]),(7,[9])]),(9,[(6,[9]),(9,[11])]),(12,[(4,[12]),(5,[14,16])]),(14,[(6,[10])]),(20,[(4,[6]),(5,[7])]),(21,[(3,[10]),(8,[14,15]),(10,[17]),(11,[18,19]),(12,[20,21]),(15,[22]),(18,[24])]),(26,[(7,[3]),(8,[4])]),(29,[(9,[10,11]),(17,[12]),(18,[13]),(23,[16])]),(30,[(6,[5])]),(33,[(14,[7]),(20,[9]),(23,[11]),(30,[13])]),(35,[(1,[5])]),(37,[(4,[5])]),(38,[(1,[8])]),(41,[(7,[9])]),(42,[(3,[7])]),(50,[(4,[8]),(5,[9,10]),(6,[11])]),(51,[(8,[13]),(15,[15]),(20,[18])]),(52,[(5,[10])]),(53,[(1,[8])]),(57,[(1,[7]),(2,[10]),(3,[13]),(4,[15])]),(60,[(2,[2])]),(64,[(1,[11])]),(67,[(3,[7])]),(69,[(4,[5])]),(73,[(2,[2])]),(74,[(2,[2]),(3,[3])]),(81,[(6,[13]),(15,[15])]),(83,[(3,[8])]),(93,[(3,[8])]),(99,[(1,[10])]),(100,[(3,[8])]),(120,[(4,[7])]),(123,[(4,[4])]),(124,[(5,[4]),(12,[6])]),(125,[(4,[4])]),(127,[(9,[12])]),(134,[(1,[6])]),(135,[(1,[9])]),(136,[(15,[11])]),(138,[(1,[10,11]),(2,[12])]),(156,[(10,[12])]),(160,[(3,[7])]),(164,[(4,[7])]),(166,[(9,[4])]),(168,[(4,[7])]),(171,[(4,[7])]),(174,[(4,[7])]),(176,[(3,[6]),(7,[7]),(10,[9])]),(177,[(4,[7])]),(179,[(3,[6])]),(180,[(8,[7])]),(183,[(6,[7])]),(185,[(6,[7])]),(198,[(11,[5])]),(200,[(10,[11])]),(203,[(1,[11]),(20,[19])]),(204,[(1,[10])]),(205,[(4,[12]),(9,[15])]),(210,[(3,[6])]),(211,[(3,[6])]),(226,[(8,[8]),(15,[10])]),(227,[(5,[9]),(8,[11]),(11,[13])]),(230,[(4,[5])]),(233,[(7,[4])]),(234,[(1,[5])]),(235,[(4,[9])]),(237,[(1,[6]),(16,[10])]),(239,[(6,[5])]),(240,[(3,[6])]),(252,[(5,[13])]),(277,[(1,[6])]),(281,[(1,[7])]),(288,[(3,[5])]),(316,[(10,[10])]),(329,[(1,[7])]),(333,[(1,[6]),(6,[9])]),(337,[(4,[7])]),(341,[(4,[7])]),(343,[(4,[7])]),(345,[(4,[7])]),(347,[(4,[7])]),(364,[(4,[7])]),(370,[(8,[8])])]
def qacq:List (Nat×List Nat):=[(122,[1,2,3,4,5]),(123,[5,6,7]),(124,[1,6,7,8,13]),(125,[5,6,13,14,21,22]),(126,[2,4,6]),(132,[2]),(161,[1])]
def ann:Ann:=
  { pure:=fun fn f _=> !(qbq f thr)&& !(thrAt.any fun p=>p.1 == fn&&p.2 == f)
    purev:=fun fn d=> !(qbq fn thrV)&& !(match d with | some t=>thrVAt.any (fun q=>q.1 == fn&&q.2 == t) | none=>false),bmode:=fun fn d=>if qbq fn rowFB || (match d with | some t=>browAt.any (fun q=>q.1 == fn&&q.2 == t) | none=>false) then .row else .imm,smode:=fun fn d=>match d with | some t=>if immAt.any (fun q=>q.1 == fn&&q.2 == t) then .imm else .row | none=> .row,amode:=fun fn d=>match d with | some t=>if rowAt.any (fun q=>q.1 == fn&&q.2 == t) || (qbq fn rowF&& !(appAt.any fun q=>q.1 == fn&&q.2 == t)) then .row else .app | none=> .app
    nilapp:=fun fn d=>match d with | some t=>nilL.any (fun q=>q.1 == fn&&q.2 == t) | none=>false
    slch:=fun fn d=>(qbq fn slcHL&&(match d with | some t=>t == 13 || t == 31 | none=>false)) || (match d with | some t=>takeAt.any (fun q=>q.1 == fn&&q.2 == t) | none=>false)
    boxi:=fun fn d=>match d with | some t=>boxiAt.any (fun q=>q.1 == fn&&q.2 == t) || (match look fn boxiL with | some l=>qbq t l | none=>false) | none=>false
    keep:=fun fn id=>(look fn keepL).bind (look id)
    split:=fun fn id=>match look fn qacq with | some l=>qbq id l | none=>false }
def ktabL:List Nat:=[176,234,307,233,305,306,181,241,238,311,239,243,242,240,182,308,356,374,370,369,371,373,34,71,73,117,118,79,76,77,72,78,119,75,74,120,166,229,230,24,27,8,41,180,309,237,310,287,175,126,123,122,124,125,342,338,348,346,365,344,341,347,337,345,364,343,169,165,163,174,168,164,171,177,172,167,161,178,162,170,324,326,320,372,259,321,322,323,325,201,251,199,360,359,254,257,317,358,198,256,316,200,267,197,191,260,194,250,268,135,192,193,195,255,329,262,202,331,137,263,261,258,203,318,319,361,209,58,269,270,330,210,205,273,266,332,274,265,212,134,249,333,252,334,190,277,253,196,136,213,278,279,280,335,363,281,88,143,207,145,208,140,141,142,144,139,327,328,362,264,297,25,295,296,298,354,353,84,38,204,83,138,85,99,227,156,26,59,110,61,63,111,62,112,60,52,173,232,304,244,231,352,355,312,303,152,222,154,292,291,350,223,293,288,289,349,290,226,351,294,221,92,224,225]
def qpc (b:FuncId->Option AFun) (P:Program) (A:Ann) (l:List Nat) (f:FuncId):Option AFun:=match b f with
  | some x=>some x
  | none=>if qbq f l then (cFn P A f).map .code else none
def Φ:FuncId->Option AFun:=qpc (qpg tabL tabD tabC) Go.Proofs.Tryz.prog ann ktabL
end
end Go.Av
