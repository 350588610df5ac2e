/-
  The compact form of the program's functions, printed by a program.
-/
import Derived.Test.YtakklbipljodeaaGreatAvD
import Derived.Test.YtakklbipljodeaaGreatRows
set_option linter.unusedVariables false
set_option linter.unusedSimpArgs false
set_option linter.constructorNameAsVariable false
namespace Go.Av
noncomputable section
@[reducible] def xM (d s:Nat):AOper:=⟨some d,none,.mov (.t s)⟩
@[reducible] def xI (d:Nat) (n:Int):AOper:=⟨some d,none,.mov (.c (.int .i64 n))⟩
@[reducible] def xC (d:Nat) (v:AV):AOper:=⟨some d,none,.mov (.c v)⟩
@[reducible] def xF (d o s:Nat):AOper:=⟨some d,none,.faddr o (.t s)⟩
@[reducible] def xL (d s:Nat):AOper:=⟨some d,none,.load false 1 (.t s)⟩
@[reducible] def xA (d n s:Nat):AOper:=⟨some d,none,.load true n (.t s)⟩
@[reducible] def xX (d z a i:Nat):AOper:=⟨some d,none,.iaddr z none (.t a) (.t i)⟩
@[reducible] def xS (n p v:Nat):AOper:=⟨none,none,.store n (.t p) (.t v)⟩
@[reducible] def xN (d s:Nat):AOper:=⟨some d,none,.len (.t s)⟩
@[reducible] def xE (d i s:Nat):AOper:=⟨some d,none,.ext i (.t s)⟩
@[reducible] def xB (d:Nat) (p:BinOp) (a b:Nat):AOper:=⟨some d,none,.bin p (.t a) (.t b)⟩
@[reducible] def xK (d:Nat) (p:BinOp) (a:Nat) (n:Int):AOper:=⟨some d,none,.bin p (.t a) (.c (.int .i64 n))⟩
@[reducible] def xW (d a b:Nat):AOper:=⟨some d,none,.pick (.t a) (.c (.bool true)) (.t b)⟩
@[reducible] def xV (d a b:Nat):AOper:=⟨some d,none,.pick (.t a) (.t b) (.c (.bool false))⟩
@[reducible] def xJ (d s:Nat):AOper:=⟨some d,none,.boxi (.t s)⟩
@[reducible] def xO (d:Nat) (p:AOp):AOper:=⟨some d,none,p⟩
@[reducible] def xG (d g:Nat) (b:Bool) (p:AOp):AOper:=⟨some d,some (g,b),p⟩
@[reducible] def xR (l:List AOper):ACode:= .region false [] l none
@[reducible] def xD (l:List AOper):ACode:= .region true [] l none
@[reducible] def xQ (l:List AOper) (k:List Nat):ACode:= .region false [] l (some k)
@[reducible] def yaa (a:List AOper) (b:ACode):ACode:= .seq (xR a) b
@[reducible] def yab (a:Nat) (b c:ACode):ACode:= .cond (.t a) b c
@[reducible] def yac (a b:Nat) (c:AOp):AOper:=xG a b false c
@[reducible] def yad (a:List AOper) (b c:ACode):ACode:= .seq (yaa a b) c
@[reducible] def yae (a:List AOper):ACode:=yaa a .ret
@[reducible] def yaf (a b:Nat) (c:List AX):AOper:=xO a (.pcall b c)
@[reducible] def yag (a:Int):AV:= .int .i64 a
@[reducible] def yah (a:Nat) (b:List AOper) (c:ACode):ACode:=yab a (yae b) c
@[reducible] def yai (a:Nat) (b:List AOper):ACode:=yah a b .skip
@[reducible] def yaj (a:Nat) (b c:ACode):ACode:= .seq (.block a b) c
@[reducible] def yak (a b:Nat):AOp:= .faddr a (.t b)
@[reducible] def yal (a:Nat) (b:AX):AOp:= .load false a b
@[reducible] def yam (a:Nat) (b:ACode):ACode:= .block a (.loop b)
@[reducible] def yan (a:Int):AX:= .c (yag a)
@[reducible] def yao (a:BinOp) (b:Nat) (c:AX):AOp:= .bin a (.t b) c
@[reducible] def yap:AV:= .bool false
@[reducible] def yaq (a b:Nat) (c:AOp):AOper:=xG a b true c
@[reducible] def yar (a b:List AOper) (c d:ACode):ACode:=yaa a (yad b c d)
@[reducible] def yas (a:Nat) (b:ACode) (c:Nat):ACode:=yab a b (.exit c)
@[reducible] def yat (a:Nat):AOp:= .mov (.t a)
@[reducible] def yau (a b:Nat):AOp:=yal a (.t b)
@[reducible] def yav (a b c d:Nat):AOper:=yac a b (yau c d)
@[reducible] def yaw (a b c d:Nat):AOper:=yac a b (yak c d)
@[reducible] def yax (a b:Nat):ACode:=yas a .skip b
@[reducible] def yay (a b:Nat) (c:BinOp) (d:Nat) (e:AX):AOper:=yac a b (yao c d e)
@[reducible] def yaz (a:Nat) (b:List AV):AOper:=xO a (.alloc b)
@[reducible] def ya0 (a:Nat) (b:ACode) (c:List AOper):ACode:=yaj a b (xR c)
@[reducible] def ya1 (a b c:Nat):AOper:=yac a b (yat c)
@[reducible] def ya2 (a:List AOper) (b c:ACode):ACode:=yaa a (.seq b c)
@[reducible] def ya3 (a:List AOper) (b:Nat) (c:List AOper):ACode:=yaa a (yai b c)
@[reducible] def ya4 (a b:List AOper) (c:Nat) (d:List AOper) (e:ACode):ACode:=yar a b (yai c d) e
@[reducible] def ya5 (a:Nat):AOp:= .len (.t a)
@[reducible] def ya6 (a:AX):AOp:= .un .not a
@[reducible] def ya7 (a:Nat):AOp:=ya6 (.t a)
@[reducible] def ya8 (a:List AOper) (b c:Nat) (d:ACode):ACode:=yad a (yax b c) d
@[reducible] def ya9 (a b:Nat) (c:BinOp) (d:Nat) (e:Int):AOper:=yay a b c d (yan e)
@[reducible] def yba (a:Nat) (b c:ACode) (d:List AOper):ACode:=ya0 a (.seq b c) d
@[reducible] def ybb (a b c:Nat):AOper:=yac a b (ya5 c)
@[reducible] def ybc (a:Nat) (b:Option Nat) (c:Nat) (d:AX):AOp:= .iaddr a b (.t c) d
@[reducible] def ybd (a:Nat):AOper:=xI a 0
@[reducible] def ybe (a b:Nat) (c d:AX):AOper:=yaf a b [c,d]
@[reducible] def ybf (a b c:Nat) (d:AX):AOper:=ybe a b (.t c) d
@[reducible] def ybg (a b c d:Nat):AOper:=ybf a b c (.t d)
@[reducible] def ybh (a b c:Nat):AOper:=yaq a b (yat c)
@[reducible] def ybi (a:Nat):AOper:=xC a yap
@[reducible] def ybj (a:List AOper) (b:Nat) (c:List AOper) (d:ACode):ACode:=yad a (yai b c) d
@[reducible] def ybk (a b:List AOper) (c:Nat) (d e:ACode):ACode:=yar a b (yam c d) e
@[reducible] def ybl (a b:Nat):AOper:=xO a (ya7 b)
@[reducible] def ybm (a:List AOper) (b c:Nat) (d:ACode):ACode:=ya2 a (yax b c) d
@[reducible] def ybn (a:List AOper) (b:Nat) (c d:ACode):ACode:=yad a (yam b c) d
@[reducible] def ybo:AV:=yag 0
@[reducible] def ybp (a:List AOper) (b:Nat) (c:List AOper) (d:ACode):ACode:=yaa a (yah b c d)
@[reducible] def ybq (a b:Nat) (c:BinOp) (d:Nat) (e:AX):AOper:=yaq a b (yao c d e)
@[reducible] def ybr (a b:List AOper) (c:ACode):ACode:=yaa a (yaa b c)
@[reducible] def ybs (a:SM) (b c:Nat) (d:AX) (e:Nat):AOp:= .append a b c d (.t e)
@[reducible] def ybt (a b c:Nat):AOper:=yav a b 1 c
@[reducible] def ybu (a:Nat) (b:ACode):ACode:=yab a b .skip
@[reducible] def ybv (a b c d:Nat):AOper:=yaq a b (yak c d)
@[reducible] def ybw:AV:= .bool true
@[reducible] def ybx (a b:Nat) (c:BinOp) (d e:Nat):AOper:=yay a b c d (.t e)
@[reducible] def yby:AOper:=ybd 4
@[reducible] def ybz (a b c d:Nat):AOper:=yaq a b (yau c d)
@[reducible] def yb0 (a:Nat):AOper:=xI a (-1)
@[reducible] def yb1 (a b:List AOper):ACode:=yaa a (yae b)
@[reducible] def yb2 (a b:Nat) (c:AX):AOp:=ybc a none b c
@[reducible] def yb3 (a:Nat) (b:AX):AOp:= .load true a b
@[reducible] def yb4 (a b:Nat):AOper:=xF a 0 b
@[reducible] def yb5 (a:Nat) (b:BinOp) (c:Nat):AOper:=xK a b c 1
@[reducible] def yb6 (a b:Nat) (c:AX):AOper:=yaf a b [c]
@[reducible] def yb7 (a b c:Nat):AOper:=yb6 a b (.t c)
@[reducible] def yb8 (a b:Nat) (c d e f:AX):AOper:=yaf a b [c,d,e,f]
@[reducible] def yb9 (a b:Nat) (c:AX) (d:Int) (e f:AX):AOper:=yb8 a b c (yan d) e f
@[reducible] def yca (a:List AOper) (b c d:Nat) (e:ACode) (f:List AOper):ACode:=ya8 a b c (ya0 d e f)
@[reducible] def ycb (a:Nat):AOper:=xM a 5
@[reducible] def ycc (a b c:Nat) (d:List AX):AOper:=yac a b (.pcall c d)
@[reducible] def ycd (a:List AOper) (b:ACode):ACode:= .seq (xD a) b
@[reducible] def yce (a b:Nat):AOper:=xF a 1 b
@[reducible] def ycf (a b:AOper):ACode:=yae [a,b]
@[reducible] def ycg (a b c:Nat) (d:List AX):AOper:=yaq a b (.pcall c d)
@[reducible] def ych (a:Nat):AOper:=xM a 1
@[reducible] def yci (a:List AOper) (b c d:Nat) (e f:ACode) (g:List AOper):ACode:=ya8 a b c (yba d e f g)
@[reducible] def ycj (a b:Nat) (c:AX) (d:Int) (e:AX) (f:Int):AOper:=yb9 a b c d e (yan f)
@[reducible] def yck (a b:Nat) (c:AX) (d:Nat):AOp:=ybs .app a b c d
@[reducible] def ycl (a:Nat):AOper:=xM a 0
@[reducible] def ycm (a b:AOper) (c:ACode):ACode:=yaa [a,b] c
@[reducible] def ycn (a:AOper) (b c:Nat) (d:ACode):ACode:=ycm a (xM b c) d
@[reducible] def yco (a:Int):AV:= .int .u32 a
@[reducible] def ycp (a b c:Nat) (d:AX) (e:Nat):AOper:=xO a (yck b c d e)
@[reducible] def ycq (a b:Nat) (c d e:AX):AOper:=yaf a b [c,d,e]
@[reducible] def ycr (a b c:Nat) (d e:AX):AOper:=ycq a b (.t c) d e
@[reducible] def ycs (a b c d:Nat) (e:AX):AOper:=ycr a b c (.t d) e
@[reducible] def yct (a b c d e:Nat):AOper:=ycs a b c d (.t e)
@[reducible] def ycu (a:Nat):AOp:= .box (.t a)
@[reducible] def ycv (a b:Nat):AOper:=xO a (.nilapp b)
@[reducible] def ycw:AOper:=ybd 5
@[reducible] def ycx (a b c d e:Nat):AOper:=ycp a b c (.t d) e
@[reducible] def ycy (a b:Nat):AOp:=yb3 a (.t b)
@[reducible] def ycz (a:List AOper) (b c d:Nat) (e:ACode) (f:List AOper):ACode:=ybm a b c (ya0 d e f)
@[reducible] def yc0 (a b:Nat) (c:BinOp) (d:Nat) (e:Int):AOper:=ybq a b c d (yan e)
@[reducible] def yc1 (a:AOper) (b c:Nat):ACode:=ycf a (xM b c)
@[reducible] def yc2 (a:Nat) (b:BinOp) (c:Nat):AOper:=xK a b c 0
@[reducible] def yc3 (a b c:Nat):AOper:=yaw a b 1 c
@[reducible] def yc4 (a:Nat) (b:List AOper) (c:Nat) (d:List AOper) (e f:ACode):ACode:=yaj a (ybp b c d e) f
@[reducible] def yc5 (a:List AOper) (b c d:Nat) (e f:ACode) (g:List AOper):ACode:=ybm a b c (yba d e f g)
@[reducible] def yc6 (a b c:Nat):AOp:=yb2 a b (.t c)
@[reducible] def yc7:AOper:=ybi 4
@[reducible] def yc8 (a:Nat) (b:ACode):ACode:=yab a .skip b
@[reducible] def yc9 (a:AOper):ACode:=yae [a]
@[reducible] def yda (a:Nat):AOper:=xJ a 0
@[reducible] def ydb (a:Nat):AOper:=xM a 8
def f_7:Nat:=7
def f_8:Nat:=8
def f_9:Nat:=9
def f_17:Nat:=17
def f_18:Nat:=18
def f_19:Nat:=19
def f_21:Nat:=21
def f_23:Nat:=23
def f_24:Nat:=24
def f_26:Nat:=26
def f_28:Nat:=28
def f_29:Nat:=29
def f_31:Nat:=31
def f_32:Nat:=32
def f_33:Nat:=33
def f_34:Nat:=34
def f_35:Nat:=35
def f_36:Nat:=36
def f_37:Nat:=37
def f_38:Nat:=38
def f_39:Nat:=39
def f_40:Nat:=40
def f_41:Nat:=41
def f_42:Nat:=42
def f_43:Nat:=43
def f_44:Nat:=44
def f_45:Nat:=45
def f_46:Nat:=46
def f_47:Nat:=47
def f_51:Nat:=51
def f_52:Nat:=52
def f_53:Nat:=53
def f_55:Nat:=55
def f_57:Nat:=57
def f_58:Nat:=58
def f_63:Nat:=63
def f_64:Nat:=64
def f_65:Nat:=65
def f_66:Nat:=66
def f_67:Nat:=67
def f_68:Nat:=68
def f_69:Nat:=69
def f_72:Nat:=72
def f_75:Nat:=75
def f_76:Nat:=76
def f_77:Nat:=77
def f_78:Nat:=78
def f_79:Nat:=79
def f_80:Nat:=80
def f_81:Nat:=81
def f_82:Nat:=82
def f_83:Nat:=83
def f_85:Nat:=85
def f_86:Nat:=86
def f_87:Nat:=87
def f_88:Nat:=88
def f_89:Nat:=89
def f_91:Nat:=91
def f_92:Nat:=92
def f_93:Nat:=93
def f_94:Nat:=94
def f_95:Nat:=95
def f_96:Nat:=96
def f_97:Nat:=97
def f_101:Nat:=101
def f_102:Nat:=102
def f_103:Nat:=103
def f_104:Nat:=104
def f_105:Nat:=105
def f_106:Nat:=106
def f_107:Nat:=107
def f_108:Nat:=108
def f_109:Nat:=109
def f_110:Nat:=110
def f_111:Nat:=111
def f_112:Nat:=112
def f_116:Nat:=116
def f_117:Nat:=117
def f_118:Nat:=118
def f_125:Nat:=125
def f_126:Nat:=126
def f_127:Nat:=127
def f_128:Nat:=128
def f_129:Nat:=129
def f_130:Nat:=130
def f_131:Nat:=131
def f_133:Nat:=133
def f_134:Nat:=134
def f_135:Nat:=135
def f_136:Nat:=136
def f_137:Nat:=137
def f_140:Nat:=140
def f_141:Nat:=141
def f_144:Nat:=144
def f_145:Nat:=145
def f_146:Nat:=146
def f_147:Nat:=147
def f_148:Nat:=148
def f_149:Nat:=149
def f_150:Nat:=150
def f_151:Nat:=151
def f_152:Nat:=152
def f_153:Nat:=153
def f_154:Nat:=154
def f_155:Nat:=155
def f_156:Nat:=156
def f_157:Nat:=157
def f_158:Nat:=158
def f_160:Nat:=160
def f_161:Nat:=161
def f_162:Nat:=162
def f_164:Nat:=164
def f_165:Nat:=165
def f_168:Nat:=168
def f_169:Nat:=169
def f_175:Nat:=175
def f_176:Nat:=176
def f_177:Nat:=177
def f_178:Nat:=178
def f_179:Nat:=179
def f_180:Nat:=180
def f_181:Nat:=181
def f_182:Nat:=182
def f_183:Nat:=183
def f_184:Nat:=184
def f_185:Nat:=185
def f_186:Nat:=186
def f_187:Nat:=187
def f_188:Nat:=188
def f_189:Nat:=189
def f_190:Nat:=190
def f_194:Nat:=194
def f_195:Nat:=195
def f_196:Nat:=196
def f_197:Nat:=197
def f_198:Nat:=198
def f_199:Nat:=199
def f_200:Nat:=200
def f_201:Nat:=201
def f_202:Nat:=202
def f_203:Nat:=203
def f_205:Nat:=205
def f_206:Nat:=206
def f_207:Nat:=207
def f_208:Nat:=208
def f_209:Nat:=209
def f_211:Nat:=211
def f_212:Nat:=212
def f_214:Nat:=214
def f_215:Nat:=215
def f_216:Nat:=216
def f_218:Nat:=218
def f_220:Nat:=220
def f_222:Nat:=222
def f_226:Nat:=226
def f_227:Nat:=227
def f_228:Nat:=228
def f_229:Nat:=229
def f_230:Nat:=230
def f_231:Nat:=231
def f_232:Nat:=232
def f_233:Nat:=233
def f_234:Nat:=234
def f_235:Nat:=235
def f_236:Nat:=236
def f_237:Nat:=237
def f_238:Nat:=238
def f_239:Nat:=239
def f_240:Nat:=240
def f_241:Nat:=241
def f_242:Nat:=242
def f_243:Nat:=243
def f_244:Nat:=244
def f_245:Nat:=245
def f_246:Nat:=246
def f_247:Nat:=247
def f_248:Nat:=248
def f_249:Nat:=249
def f_250:Nat:=250
def f_251:Nat:=251
def f_252:Nat:=252
def f_253:Nat:=253
def f_254:Nat:=254
def f_257:Nat:=257
def f_258:Nat:=258
def f_259:Nat:=259
def f_260:Nat:=260
def f_261:Nat:=261
def f_262:Nat:=262
def f_263:Nat:=263
def f_264:Nat:=264
def f_265:Nat:=265
def f_266:Nat:=266
def f_267:Nat:=267
def f_268:Nat:=268
def f_269:Nat:=269
def f_270:Nat:=270
def f_271:Nat:=271
def f_272:Nat:=272
def f_273:Nat:=273
def f_274:Nat:=274
def f_275:Nat:=275
def f_276:Nat:=276
def f_277:Nat:=277
def f_278:Nat:=278
def f_279:Nat:=279
def f_280:Nat:=280
def f_281:Nat:=281
def f_282:Nat:=282
def f_285:Nat:=285
def f_286:Nat:=286
def f_287:Nat:=287
def f_289:Nat:=289
def f_290:Nat:=290
def f_291:Nat:=291
def f_292:Nat:=292
def f_293:Nat:=293
def f_294:Nat:=294
def f_295:Nat:=295
def f_296:Nat:=296
def f_297:Nat:=297
def f_298:Nat:=298
def f_299:Nat:=299
def f_300:Nat:=300
def f_301:Nat:=301
def f_302:Nat:=302
def f_303:Nat:=303
def f_304:Nat:=304
def f_305:Nat:=305
def f_306:Nat:=306
def f_307:Nat:=307
def f_308:Nat:=308
def f_309:Nat:=309
def f_310:Nat:=310
def f_313:Nat:=313
def f_314:Nat:=314
def f_315:Nat:=315
def f_316:Nat:=316
def f_317:Nat:=317
def f_318:Nat:=318
def f_319:Nat:=319
def f_320:Nat:=320
def f_321:Nat:=321
def f_322:Nat:=322
def f_323:Nat:=323
def f_324:Nat:=324
def f_325:Nat:=325
def f_326:Nat:=326
def f_327:Nat:=327
def f_328:Nat:=328
def f_329:Nat:=329
def f_330:Nat:=330
def f_331:Nat:=331
def f_332:Nat:=332
def f_333:Nat:=333
def f_334:Nat:=334
def f_335:Nat:=335
def f_336:Nat:=336
def f_337:Nat:=337
def f_338:Nat:=338
def f_339:Nat:=339
def f_340:Nat:=340
def f_341:Nat:=341
def f_342:Nat:=342
def f_343:Nat:=343
def f_344:Nat:=344
def f_345:Nat:=345
def f_346:Nat:=346
def f_347:Nat:=347
def f_348:Nat:=348
def f_349:Nat:=349
def f_350:Nat:=350
def f_351:Nat:=351
def f_352:Nat:=352
def c_7:AFn:=⟨3,[.tmp 6],ya4 [yda 3,xJ 4 1,xJ 5 2,ybi 6] [xA 11 9 3,xA 12 4 4,ybg 13 f_37 11 12,ybl 14 13,xM 15 14,yac 16 15 (ycy 4 5),ycc 17 15 f_38 [.t 16],yac 18 15 (ya7 17),xW 19 15 18] 19 [yaf 20 f_39 [],xM 6 20] (ybr [xA 22 9 3,xA 23 4 4,xA 24 4 5,yct 25 f_40 22 23 24,xM 21 25,xE 26 0 21,xE 27 1 21,xM 7 26,xM 8 27] [xA 29 9 3,xA 30 4 4,xA 31 4 5,yct 32 f_41 29 30 31,xM 28 32,xE 33 0 28,xE 34 1 28,xM 9 33,xM 10 34] (yae [xM 35 7,xM 36 9,ybg 37 f_42 35 36,xM 38 37,ybh 39 38 8,ybh 40 38 10,ybq 41 38 .eql 39 (.t 40),xV 42 38 41,xM 43 42,ycg 44 43 f_39 [],xV 45 43 44,xM 6 45]))⟩
def c_8:AFn:=⟨3,[.tmp 6],ya4 [yda 3,xJ 4 1,xJ 5 2,ybi 6] [xA 15 9 3,xA 16 4 4,ybg 17 f_37 15 16,ybl 18 17,xM 19 18,yac 20 19 (ycy 9 5),yac 21 19 (.bslice .imm 9 (List.replicate 1 [.int .i64 0,.int .i64 0,.int .i64 0,.fslice 2 [],.int .i64 0,.int .i64 0,.fslice 1 [],.int .i64 0,.fslice 1 []]) [(0,(.t 20))]),ycc 22 19 f_43 [.t 21],yac 23 19 (ya7 22),xW 24 19 23] 24 [yaf 25 f_39 [],xM 6 25] (.seq (xQ [xA 27 9 3,xA 28 4 4,xA 29 9 5,xO 30 (.bslice .imm 9 (List.replicate 1 [.int .i64 0,.int .i64 0,.int .i64 0,.fslice 2 [],.int .i64 0,.int .i64 0,.fslice 1 [],.int .i64 0,.fslice 1 []]) [(0,(.t 29))]),yct 31 f_44 27 28 30,xM 26 31,xE 32 0 26,xE 33 1 26,xE 34 2 26,xE 35 3 26,yaz 7 [.fslice 1 [],.fslice 1 [],.fslice 2 [],.fslice 1 []],xS 4 7 32,xM 8 33,xM 9 34,xM 10 35] [7]) (ybj [xM 36 10,yc2 37 .neq 36] 37 [yaf 38 f_39 [],xM 6 38] (yaa [xA 40 9 3,xA 41 4 4,xA 42 4 7,yct 43 f_40 40 41 42,xM 39 43,xE 44 0 39,xE 45 1 39,xM 11 44,xM 12 45] (ya4 [xA 47 9 3,xA 48 4 4,xA 49 4 4,yct 50 f_40 47 48 49,xM 46 50,xE 51 0 46,xE 52 1 46,xM 13 51,xM 14 52] [xM 53 12,yc2 54 .neq 53,xM 55 54,ya1 56 55 14,ya9 57 55 .neq 56 0,xW 58 55 57,xM 59 58,ya1 60 59 13,ybb 61 59 60,ya9 62 59 .neq 61 0,xW 63 59 62,xM 64 63,ya1 65 64 11,ybb 66 64 65,ya9 67 64 .gtr 66 1,xW 68 64 67,xM 69 68,ya1 70 69 11,ybb 71 69 70,ya9 72 69 .eql 71 0,ya1 73 69 72,ybv 74 73 0 5,ybz 75 73 1 74,yc0 76 73 .eql 75 1,ybh 77 73 76,yaw 78 77 0 5,ybt 79 77 78,ya9 80 77 .eql 79 3,yaq 81 73 (.pick (.t 77) (.c ybw) (.t 80)),yac 82 69 (.pick (.t 73) (.t 81) (.c yap)),xW 83 69 82] 83 [ybi 6] (ycd [xM 84 11,xN 85 84,yc2 86 .eql 85,xM 87 86,ya1 88 87 11,yac 89 87 (yb2 9 88 (yan 0)),yaw 90 87 0 89,ybt 91 87 90,yaw 92 87 0 5,ybt 93 87 92,ybx 94 87 .eql 91 93,ya1 95 87 94,ybh 96 95 11,yaq 97 95 (yb2 9 96 (yan 0)),ybv 98 95 1 97,ybz 99 95 1 98,ybv 100 95 1 5,ybz 101 95 1 100,ybq 102 95 .eql 99 (.t 101),yac 103 87 (.pick (.t 95) (.t 102) (.c yap)),xW 104 87 103,xM 105 104,ycg 106 105 f_39 [],xV 107 105 106,xM 6 107] .ret)))))⟩
def c_9:AFn:=⟨3,[.tmp 6],ya4 [yda 3,xJ 4 1,xJ 5 2,ybi 6] [xA 10 9 3,xA 11 4 4,ybg 12 f_37 10 11,ybl 13 12,xM 14 13,yac 15 14 (ycy 4 5),ycc 16 14 f_38 [.t 15],yac 17 14 (ya7 16),xW 18 14 17,xM 19 18,yac 20 19 (ycy 9 3),yac 21 19 (ycy 4 4),ycc 22 19 f_19 [.t 20,.t 21],ya9 23 19 .neq 22 0,xW 24 19 23,xM 25 24,yac 26 25 (ycy 9 3),yac 27 25 (ycy 4 5),ycc 28 25 f_19 [.t 26,.t 27],ya9 29 25 .neq 28 0,xW 30 25 29] 30 [yaf 31 f_39 [],xM 6 31] (ya2 [xA 33 9 3,xA 34 4 4,xA 35 4 5,yct 36 f_40 33 34 35,xM 32 36,xE 37 0 32,xE 38 1 32,xM 7 37,xM 8 38] (xD [xA 39 4 4,xA 40 4 4,xA 41 4 5,ybg 42 f_46 40 41,ybg 43 f_45 39 42,xM 9 43]) (yae [ydb 44,yc2 45 .eql 44,xM 46 45,ya1 47 46 8,ya9 48 46 .eql 47 12,xW 49 46 48,xM 50 49,ya1 51 50 8,ya9 52 50 .eql 51 13,xW 53 50 52,xM 54 53,ybh 55 54 8,yc0 56 54 .eql 55 0,ybh 57 54 56,ybh 58 57 7,yaq 59 57 (ya5 58),yc0 60 57 .eql 59 0,yaq 61 54 (.pick (.t 57) (.t 60) (.c yap)),ybh 62 54 9,yaq 63 54 (.eqs false false [.b] (.t 61) (.t 62)),xV 64 54 63,xM 65 64,ybh 66 65 9,yaq 67 65 (ya7 66),ybh 68 65 67,yac 69 68 (ycy 4 4),yac 70 68 (ycy 4 5),ycc 71 68 f_47 [.t 69,.t 70],yaq 72 65 (.pick (.t 68) (.c ybw) (.t 71)),xV 73 65 72,xM 74 73,ycg 75 74 f_39 [],xV 76 74 75,xM 6 76]))⟩
def c_17_l0:ACode:=ycz [xB 40 .lss 39 38] 40 0 1 (ya2 [xM 41 39,xM 7 41] (xD [xA 42 9 2,xM 43 7,yb4 44 3,xL 45 44,xM 46 7,xX 47 1 45 46,xL 48 47,yce 49 3,xL 50 49,xM 51 7,xX 52 1 50 51,xL 53 52,xF 54 2 3,xL 55 54,xM 56 7,xX 57 2 55 56,xA 58 2 57,yaf 59 f_64 [.t 42,.t 43,.t 48,.t 53,.t 58],xM 8 59]) (ya3 [ydb 60,yc2 61 .neq 60] 61 [ydb 62,xM 4 62])) [yb5 63 .add 39,xM 39 63]
def c_17_k1:ACode:=yae [xA 64 9 2,xF 65 3 3,xL 66 65,ybg 67 f_65 64 66,xM 4 67]
def c_17:AFn:=⟨2,[.tmp 4],ya2 [yda 2,xJ 3 1,yby] (.seq (xQ [xA 9 9 2,yb7 10 f_63 9,yaz 5 [ybo,ybo,ybo,ybo],xS 4 5 10] [5]) (ya3 [yb4 11 5,xL 12 11,yc2 13 .neq 12] 13 [yb4 14 5,xL 15 14,xM 4 15])) (ya4 [xF 16 5 2,xL 17 16,xN 18 17,xM 6 18] [yb4 19 3,xL 20 19,xN 21 20,xM 22 6,xB 23 .neq 21 22,xM 24 23,yc3 25 24 3,ybt 26 24 25,ybb 27 24 26,ya1 28 24 6,ybx 29 24 .neq 27 28,xW 30 24 29,xM 31 30,yaw 32 31 2 3,ybt 33 31 32,ybb 34 31 33,ya1 35 31 6,ybx 36 31 .neq 34 35,xW 37 31 36] 37 [xI 4 2] (ybn [xM 38 6,ybd 39] 0 c_17_l0 c_17_k1))⟩
def c_19_l0:ACode:=yci [xM 39 6,ycb 40,xB 41 .lss 39 40] 41 1 2 (xD [xA 44 9 2,xM 45 6,yb4 46 3,xL 47 46,xM 48 6,xX 49 1 47 48,xL 50 49,yce 51 3,xL 52 51,xM 53 6,xX 54 1 52 53,xL 55 54,yb8 56 f_67 (.t 44) (.t 45) (.t 50) (.t 55),xM 7 56]) (ybj [xM 57 7,yc2 58 .neq 57] 58 [xM 59 7,xM 4 59] (ycd [xA 60 9 2,xM 61 6,xF 62 2 3,xL 63 62,xM 64 6,xX 65 2 63 64,xA 66 2 65,yct 67 f_68 60 61 66,xM 7 67] (ya3 [xM 68 7,yc2 69 .neq 68] 69 [xM 70 7,xM 4 70]))) [xM 42 6,yb5 43 .add 42,xM 6 43]
def c_19_k1:ACode:=yae [xA 71 9 2,xF 72 3 3,xL 73 72,ybg 74 f_69 71 73,xM 4 74]
def c_19:AFn:=⟨2,[.tmp 4],ybr [yda 2,xJ 3 1,yby] [xF 8 5 2,xL 9 8,xN 10 9,xM 5 10] (yc4 0 [xA 12 9 2,yb7 13 f_55 12,xO 14 (.fld false 0 1 (.t 13)),yc2 15 .neq 14,xM 11 15] 11 [xA 16 9 2,yb7 17 f_55 16,xO 18 (.fld false 0 1 (.t 17)),xM 4 18] (ya3 [yb4 20 3,xL 21 20,xN 22 21,ycb 23,xB 24 .neq 22 23,xM 25 24,yc3 26 25 3,ybt 27 25 26,ybb 28 25 27,ya1 29 25 5,ybx 30 25 .neq 28 29,xW 31 25 30,xM 32 31,yaw 33 32 2 3,ybt 34 32 33,ybb 35 32 34,ya1 36 32 5,ybx 37 32 .neq 35 36,xW 38 32 37,xM 19 38] 19 [xI 4 2]) (ybn [ybd 6] 1 c_19_l0 c_19_k1))⟩
def c_31:AFn:=⟨2,[.tmp 4],yb1 [xO 2 (ycu 0),xO 3 (ycu 1),yc7] [xA 5 4 2,xA 6 4 3,ybg 7 f_85 5 6,xM 8 7,ybv 9 8 2 2,yaq 10 8 (ycy 2 9),ybv 11 8 2 3,yaq 12 8 (ycy 2 11),ycg 13 8 f_72 [.t 10,.t 12],xV 14 8 13,xM 4 14]⟩
def c_37:AFn:=⟨2,[.tmp 4],yb1 [yda 2,xJ 3 1,yc7] [xA 5 9 2,yb7 6 f_95 5,xM 7 6,ybv 8 7 7 2,ybz 9 7 1 8,ycg 10 7 f_96 [.t 9,yan 40],xV 11 7 10,xM 12 11,yaq 13 12 (ycy 4 3),ycg 14 12 f_38 [.t 13],xV 15 12 14,xM 4 15]⟩
def c_38_l0:ACode:=yca [xM 43 4,yb4 44 1,xL 45 44,xM 46 3,xX 47 1 45 46,xL 48 47,xN 49 48,xB 50 .lss 43 49] 50 2 3 (ya3 [yb4 53 1,xL 54 53,xM 55 3,xX 56 1 54 55,xL 57 56,xM 58 4,xX 59 5 57 58,yce 60 59,xA 61 4 60,yb7 62 f_97 61,ybl 63 62] 63 [ybi 2]) [xM 51 4,yb5 52 .add 51,xM 4 52]
def c_38_k1:ACode:=xR [xM 34 3,yb5 35 .add 34,xM 3 35]
def c_38_l2:ACode:=ya8 [xM 29 3,yb4 30 1,xL 31 30,xN 32 31,xB 33 .lss 29 32] 33 0 (yaj 1 (ybj [yb4 36 1,xL 37 36,xM 38 3,xX 39 1 37 38,xL 40 39,xN 41 40,xK 42 .gtr 41 40] 42 [ybi 2] (yaa [yby] (yam 2 c_38_l0))) c_38_k1)
def c_38_l3:ACode:=yca [ycb 64,xF 65 2 1,xL 66 65,xN 67 66,xB 68 .lss 64 67] 68 4 5 (ya3 [xF 71 2 1,xL 72 71,ycb 73,xX 74 2 72 73,yce 75 74,xL 76 75,xN 77 76,xK 78 .gtr 77 10] 78 [ybi 2]) [ycb 69,yb5 70 .add 69,xM 5 70]
def c_38_l4:ACode:=yca [xM 79 6,xF 80 3 1,xL 81 80,xN 82 81,xB 83 .lss 79 82] 83 6 7 (ya3 [xF 86 3 1,xL 87 86,xM 88 6,xX 89 1 87 88,xL 90 89,xN 91 90,xK 92 .gtr 91 80] 92 [ybi 2]) [xM 84 6,yb5 85 .add 84,xM 6 85]
def c_38_k5:ACode:=yc9 (xC 2 ybw)
def c_38_k6:ACode:=ybn [ybd 6] 6 c_38_l4 c_38_k5
def c_38_k7:ACode:=ybn [ycw] 4 c_38_l3 c_38_k6
def c_38:AFn:=⟨1,[.tmp 2],ya4 [xO 1 (ycu 0),ybi 2] [yb4 7 1,xL 8 7,xN 9 8,xK 10 .gtr 9 16,xM 11 10,yc3 12 11 1,ybt 13 11 12,ybb 14 11 13,ya9 15 11 .gtr 14 16,xW 16 11 15,xM 17 16,yaw 18 17 2 1,ybt 19 17 18,ybb 20 17 19,ya9 21 17 .gtr 20 16,xW 22 17 21,xM 23 22,yaw 24 23 3 1,ybt 25 23 24,ybb 26 23 25,ya9 27 23 .gtr 26 8,xW 28 23 27] 28 [ybi 2] (ybn [ybd 3] 0 c_38_l2 c_38_k7)⟩
def c_40_l0:ACode:=yc5 [xB 60 .lss 59 58] 60 2 3 (xQ [xM 61 59,xX 62 5 57 59,xA 63 5 62,yaz 18 [ybo,.fslice 2 [],ybo,ybo,.fslice 1 []],xM 17 61,xS 5 18 63] [18]) (yad [xM 64 16,xM 65 14,xN 66 65,xB 67 .lss 64 66,xM 68 67,ybh 69 68 14,ybh 70 68 16,yaq 71 68 (yc6 1 69 70),ybz 72 68 1 71,ybh 73 68 17,ybq 74 68 .eql 72 (.t 73),xV 75 68 74] (ybu 75 (yaa [xM 76 16,yb5 77 .add 76,xM 16 77] (.exit 3))) (xR [xM 78 15,yb4 79 18,xL 80 79,xO 81 (.build [.int .i64 0,.int .i64 0,.int .i64 0,.fslice 2 [],.int .i64 0,.int .i64 0,.fslice 1 [],.int .i64 0,.fslice 1 []] [(0,1,(.c (.int .i64 3))),(2,1,(.t 80))]),xO 82 (.tcallv (.t 78) [.t 81])])) [yb5 83 .add 59,xM 59 83]
def c_40_l1:ACode:=ycz [xB 87 .lss 86 85] 87 4 5 (ya2 [xM 88 86,xX 89 1 84 86,xL 90 89,xM 19 88,xM 20 90] (xD [xM 91 12,xM 92 20,xX 93 5 91 92,yce 94 93,xF 95 2 94,xA 96 2 95,xM 97 13,xM 98 19,xX 99 5 97 98,yce 100 99,xF 101 2 100,xA 102 2 101,ybg 103 f_103 96 102,ybl 104 103]) (ybu 104 (xD [xM 105 15,xM 106 12,xM 107 20,xX 108 5 106 107,yb4 109 108,xL 110 109,xM 111 13,xM 112 19,xX 113 5 111 112,yce 114 113,xF 115 2 114,xA 116 2 115,yb7 117 f_104 116,xO 118 (.build [.int .i64 0,.int .i64 0,.int .i64 0,.fslice 2 [],.int .i64 0,.int .i64 0,.fslice 1 [],.int .i64 0,.fslice 1 []] [(0,1,(.c (.int .i64 2))),(2,1,(.t 110)),(7,2,(.t 117))]),xO 119 (.tcallv (.t 105) [.t 118])]))) [yb5 120 .add 86,xM 86 120]
def c_40_l2:ACode:=yc5 [xB 127 .lss 126 125] 127 6 7 (xQ [xX 128 5 124 126,xA 129 5 128,yaz 22 [ybo,.fslice 2 [],ybo,ybo,.fslice 1 []],xS 5 22 129] [22]) (xR [xM 130 15,yce 131 22,xA 132 4 131,yb7 133 f_105 132,xO 134 (.build [.int .i64 0,.int .i64 0,.int .i64 0,.fslice 2 [],.int .i64 0,.int .i64 0,.fslice 1 [],.int .i64 0,.fslice 1 []] [(0,1,(.c (.int .i64 1))),(3,4,(.t 133))]),xO 135 (.tcallv (.t 130) [.t 134])]) [yb5 136 .add 126,xM 126 136]
def c_40_k3:ACode:=ycd [xF 137 2 4,xL 138 137,xL 139 11,xX 140 2 138 139,xA 141 2 140,xF 142 2 5,xL 143 142,xL 144 11,xX 145 2 143 144,xA 146 2 145,ybg 147 f_103 141 146,ybl 148 147] (ybu 148 (xR [xM 149 15,xF 150 2 5,xL 151 150,xL 152 11,xX 153 2 151 152,xA 154 2 153,yb7 155 f_104 154,xO 156 (.build [.int .i64 0,.int .i64 0,.int .i64 0,.fslice 2 [],.int .i64 0,.int .i64 0,.fslice 1 [],.int .i64 0,.fslice 1 []] [(0,1,(.c (.int .i64 4))),(7,2,(.t 155))]),xO 157 (.tcallv (.t 149) [.t 156])]))
def c_40_k4:ACode:=ybn [xM 121 13,xM 122 14,xN 123 122,xO 124 (.slc 5 (.t 121) (some (.t 123)) none none),xN 125 124,ybd 126] 6 c_40_l2 c_40_k3
def c_40_k5:ACode:=ybn [xM 84 14,xN 85 84,ybd 86] 4 c_40_l1 c_40_k4
def c_40_k6:ACode:=xR [yb5 158 .add 40,xM 40 158]
def c_40_l7:ACode:=ybm [xB 41 .lss 40 39] 41 0 (yaj 1 (.seq (xQ [xM 42 40,yaz 11 [ybo],xS 1 11 42] [11]) (ycd [yb4 43 4,xL 44 43,xL 45 11,xX 46 1 44 45,xL 47 46,yb4 48 5,xL 49 48,xL 50 11,xX 51 1 49 50,xL 52 51,xM 12 47,xM 13 52] (ybr [xM 53 12,xM 54 13,ybg 55 f_101 53 54,xM 14 55] [xO 56 (.mkfunc (.func f_102) [] [.t 11,.t 10]),xM 15 56] (ybk [ybd 16] [xM 57 12,xN 58 57,ybd 59] 2 c_40_l0 c_40_k5)))) c_40_k6)
def c_40_l8:ACode:=ycz [xB 166 .lss 165 164] 166 8 9 (yaa [xM 167 165,xX 168 1 163 165,xL 169 168,xM 23 167,xM 24 169] (ya3 [xL 170 10,xM 171 23,ybg 172 f_106 170 171,xM 173 24,xO 174 (.bin .sub (yan 1073741824) (.t 173)),xB 175 .gtr 172 174] 175 [xC 6 (.fslice 9 []),xI 7 13])) [yb5 176 .add 165,xM 165 176]
def c_40_k9:ACode:=yae [xL 177 10,xM 6 177,ybd 7]
def c_40_k10:ACode:=ybj [xL 159 10,xN 160 159,xK 161 .gtr 160 64] 161 [xC 6 (.fslice 9 []),xI 7 12] (ybn [yce 162 4,xL 163 162,xN 164 163,ybd 165] 8 c_40_l8 c_40_k9)
def c_40:AFn:=⟨3,[.tmp 6,.tmp 7],yar [xO 3 (ycu 0),xO 4 (ycu 1),xO 5 (ycu 2),xC 6 (.fslice 9 []),ybd 7] [xA 25 9 3,xA 26 4 4,ybg 27 f_17 25 26,xM 8 27] (ya3 [ydb 28,yc2 29 .neq 28] 29 [ydb 30,xC 6 (.fslice 9 []),xM 7 30]) (yad [xA 31 9 3,xA 32 4 5,ybg 33 f_17 31 32,xM 9 33] (ya3 [xM 34 9,yc2 35 .neq 34] 35 [xM 36 9,xC 6 (.fslice 9 []),xM 7 36]) (ybk [yaz 10 [.fslice 9 []]] [yb4 37 4,xL 38 37,xN 39 38,ybd 40] 0 c_40_l7 c_40_k10))⟩
def c_41_l0:ACode:=yca [xM 23 10,xF 24 5 3,xL 25 24,xN 26 25,xB 27 .lss 23 26] 27 0 1 (xR [xM 30 9,xM 31 10,xA 32 4 4,xA 33 4 5,yct 34 f_107 31 32 33,ycx 35 9 120 30 34,xM 9 35]) [xM 28 10,yb5 29 .add 28,xM 10 29]
def c_41_l1:ACode:=yci [xM 39 11,xF 40 5 3,xL 41 40,xN 42 41,xB 43 .lss 39 42] 43 2 3 (xD [yce 46 4,xL 47 46,xM 48 11,xX 49 1 47 48,xL 50 49,xM 51 11,xA 52 4 4,xA 53 4 5,yct 54 f_107 51 52 53,yb7 55 f_108 54,xO 56 (.idxa false 5 1 (.t 55) (.c (.int .i64 1))),xB 57 .add 50 56,xK 58 .gtr 57 1073741824]) (yai 58 [xC 6 (.fslice 9 []),xI 7 13]) [xM 44 11,yb5 45 .add 44,xM 11 45]
def c_41_k2:ACode:=yae [xM 59 9,xM 6 59,ybd 7]
def c_41_k3:ACode:=ybj [xM 36 9,xN 37 36,xK 38 .gtr 37 64] 38 [xC 6 (.fslice 9 []),xI 7 12] (ybn [ybd 11] 2 c_41_l1 c_41_k2)
def c_41:AFn:=⟨3,[.tmp 6,.tmp 7],yaa [yda 3,xJ 4 1,xJ 5 2,xC 6 (.fslice 9 []),ybd 7] (yar [xA 12 9 3,xA 13 4 4,ybg 14 f_19 12 13,xM 8 14] [ydb 15,yc2 16 .eql 15] (ybu 16 (xR [xA 17 9 3,xA 18 4 5,ybg 19 f_19 17 18,xM 8 19])) (ybj [ydb 20,yc2 21 .neq 20] 21 [ydb 22,xC 6 (.fslice 9 []),xM 7 22] (ybk [ycv 9 9] [ybd 10] 0 c_41_l0 c_41_k3)))⟩
def c_42_l0:ACode:=yci [ycb 13,ycl 14,xN 15 14,xB 16 .lss 13 15] 16 0 1 (.region true [(3,8),(7,8),(3,9),(7,9),(8,9),(7,10)] [⟨some 19,none,.mov (.t 0)⟩,⟨some 20,none,.mov (.t 5)⟩,⟨some 21,none,.iaddr 9 none (.t 19) (.t 20)⟩,⟨some 22,none,.load true 9 (.t 21)⟩,⟨some 23,none,.mov (.t 1)⟩,⟨some 24,none,.mov (.t 5)⟩,⟨some 25,none,.iaddr 9 none (.t 23) (.t 24)⟩,⟨some 26,none,.load true 9 (.t 25)⟩,⟨some 6,none,.alloc [.int .i64 0,.int .i64 0,.int .i64 0,.fslice 2 [],.int .i64 0,.int .i64 0,.fslice 1 [],.int .i64 0,.fslice 1 []]⟩,⟨some 7,none,.alloc [.int .i64 0,.int .i64 0,.int .i64 0,.fslice 2 [],.int .i64 0,.int .i64 0,.fslice 1 [],.int .i64 0,.fslice 1 []]⟩,⟨none,none,.store 9 (.t 6) (.t 22)⟩,⟨none,none,.store 9 (.t 7) (.t 26)⟩] none) (ya3 [yb4 27 6,xL 28 27,yb4 29 7,xL 30 29,xB 31 .neq 28 30,xM 32 31,yc3 33 32 6,ybt 34 32 33,yc3 35 32 7,ybt 36 32 35,ybx 37 32 .neq 34 36,xW 38 32 37,xM 39 38,yaw 40 39 2 6,ybt 41 39 40,yaw 42 39 2 7,ybt 43 39 42,ybx 44 39 .neq 41 43,xW 45 39 44,xM 46 45,yaw 47 46 3 6,yac 48 46 (ycy 4 47),yaw 49 46 3 7,yac 50 46 (ycy 4 49),ycc 51 46 f_31 [.t 48,.t 50],yac 52 46 (ya7 51),xW 53 46 52,xM 54 53,yaw 55 54 7 6,yac 56 54 (ycy 2 55),yaw 57 54 7 7,yac 58 54 (ycy 2 57),ycc 59 54 f_72 [.t 56,.t 58],yac 60 54 (ya7 59),xW 61 54 60] 61 [yc7]) [ycb 17,yb5 18 .add 17,xM 5 18]
def c_42_k1:ACode:=yc9 (xC 4 ybw)
def c_42:AFn:=⟨2,[.tmp 4],ya4 [yc7] [ycl 8,xN 9 8,ych 10,xN 11 10,xB 12 .neq 9 11] 12 [yc7] (ybn [ycw] 0 c_42_l0 c_42_k1)⟩
def c_43_l0:ACode:=yca [xM 7 3,ycl 8,xN 9 8,xB 10 .lss 7 9] 10 0 1 (ya3 [ycl 13,xM 14 3,xX 15 9 13 14,xF 16 3 15,xA 17 4 16,yb7 18 f_97 17,ybl 19 18,xM 20 19,ya1 21 20 0,ya1 22 20 3,yac 23 20 (yc6 9 21 22),yaw 24 20 7 23,yc3 25 20 24,ybt 26 20 25,ybb 27 20 26,ya9 28 20 .gtr 27 10,xW 29 20 28] 29 [ybi 2]) [xM 11 3,yb5 12 .add 11,xM 3 12]
def c_43_k1:ACode:=yc9 (xC 2 ybw)
def c_43:AFn:=⟨1,[.tmp 2],ya4 [ybi 2] [ycl 4,xN 5 4,xK 6 .gtr 5 80] 6 [ybi 2] (ybn [ybd 3] 0 c_43_l0 c_43_k1)⟩
def c_44:AFn:=⟨3,[.cell 6 true 4,.tmp 7,.tmp 8,.tmp 9],ya2 [yda 3,xJ 4 1,yaz 6 [.fslice 1 [],.fslice 1 [],.fslice 2 [],.fslice 1 []],xC 7 (.fslice 1 []),ybd 8,ybd 9] (xQ [xA 14 9 3,xA 15 4 4,xM 16 2,yct 17 f_109 14 15 16,xM 13 17,xE 18 0 13,xE 19 1 13,xE 20 2 13,yaz 10 [.fslice 4 [],.fslice 1 []],xS 2 10 18,xM 11 19,xM 12 20] [10]) (ybj [xM 21 12,yc2 22 .neq 21] 22 [xO 23 (.build [.fslice 1 [],.fslice 1 [],.fslice 2 [],.fslice 1 []] []),xM 24 11,xM 25 12,xS 4 6 23,xC 7 (.fslice 1 []),xM 8 24,xM 9 25] (.seq (.region true [(7,8)] [⟨some 26,none,.faddr 0 (.t 10)⟩,⟨some 27,none,.load false 1 (.t 26)⟩,⟨some 28,none,.mov (.t 2)⟩,⟨some 29,none,.len (.t 28)⟩,⟨some 30,none,.iaddr 4 none (.t 27) (.t 29)⟩,⟨some 31,none,.load true 4 (.t 30)⟩,⟨some 32,none,.faddr 1 (.t 10)⟩,⟨some 33,none,.load false 1 (.t 32)⟩,⟨none,none,.store 4 (.t 6) (.t 31)⟩,⟨some 7,none,.mov (.t 33)⟩,⟨some 8,none,.mov (.c (.int .i64 0))⟩,⟨some 9,none,.mov (.c (.int .i64 0))⟩] none) .ret))⟩
def c_45_l0:ACode:=yci [ycb 33,yb4 34 2,xL 35 34,xN 36 35,xB 37 .lss 33 36] 37 0 1 (xD [yb4 40 2,xL 41 40,ycb 42,xX 43 1 41 42,xL 44 43,yb4 45 3,xL 46 45,ycb 47,xX 48 1 46 47,xL 49 48,ybg 50 f_110 44 49,ybl 51 50]) (yai 51 [yc7]) [ycb 38,yb5 39 .add 38,xM 5 39]
def c_45_l1:ACode:=yci [xM 52 6,xF 53 2 2,xL 54 53,xN 55 54,xB 56 .lss 52 55] 56 2 3 (xD [xF 59 2 2,xL 60 59,xM 61 6,xX 62 2 60 61,xA 63 2 62,xF 64 2 3,xL 65 64,xM 66 6,xX 67 2 65 66,xA 68 2 67,ybg 69 f_72 63 68,ybl 70 69]) (yai 70 [yc7]) [xM 57 6,yb5 58 .add 57,xM 6 58]
def c_45_l2:ACode:=yci [xM 71 7,xF 72 3 2,xL 73 72,xN 74 73,xB 75 .lss 71 74] 75 4 5 (xD [xF 78 3 2,xL 79 78,xM 80 7,xX 81 1 79 80,xL 82 81,xF 83 3 3,xL 84 83,xM 85 7,xX 86 1 84 85,xL 87 86,ybg 88 f_111 82 87,ybl 89 88]) (yai 89 [yc7]) [xM 76 7,yb5 77 .add 76,xM 7 77]
def c_45_k3:ACode:=yc9 (xC 4 ybw)
def c_45_k4:ACode:=ybn [ybd 7] 4 c_45_l2 c_45_k3
def c_45_k5:ACode:=ybn [ybd 6] 2 c_45_l1 c_45_k4
def c_45:AFn:=⟨2,[.tmp 4],ya4 [xO 2 (ycu 0),xO 3 (ycu 1),yc7] [yb4 8 2,xL 9 8,xN 10 9,yb4 11 3,xL 12 11,xN 13 12,xB 14 .neq 10 13,xM 15 14,yaw 16 15 2 2,ybt 17 15 16,ybb 18 15 17,yaw 19 15 2 3,ybt 20 15 19,ybb 21 15 20,ybx 22 15 .neq 18 21,xW 23 15 22,xM 24 23,yaw 25 24 3 2,ybt 26 24 25,ybb 27 24 26,yaw 28 24 3 3,ybt 29 24 28,ybb 30 24 29,ybx 31 24 .neq 27 30,xW 32 24 31] 32 [yc7] (ybn [ycw] 0 c_45_l0 c_45_k5)⟩
def c_46:AFn:=⟨2,[.cell 4 true 4],ybr [yda 2,xO 3 (ycu 1),yaz 4 [.fslice 1 [],.fslice 1 [],.fslice 2 [],.fslice 1 []]] [xF 5 3 2,xL 6 5,xF 7 3 3,xS 1 7 6] (ycf (xA 8 4 3) (xS 4 4 8))⟩
def c_47_l0:ACode:=ycz [xB 18 .lss 17 16] 18 0 1 (yaa [xM 19 17,xX 20 1 15 17,xL 21 20,xM 5 19,xM 6 21] (ya3 [xM 22 6,yb4 23 3,xL 24 23,ycb 25,xX 26 1 24 25,xL 27 26,ybg 28 f_112 22 27,ybl 29 28] 29 [yc7])) [yb5 30 .add 17,xM 17 30]
def c_47_k1:ACode:=yc9 (xC 4 ybw)
def c_47:AFn:=⟨2,[.tmp 4],ya4 [xO 2 (ycu 0),xO 3 (ycu 1),yc7] [yb4 7 2,xL 8 7,xN 9 8,yb4 10 3,xL 11 10,xN 12 11,xB 13 .neq 9 12] 13 [yc7] (ybn [yb4 14 2,xL 15 14,xN 16 15,ybd 17] 0 c_47_l0 c_47_k1)⟩
def c_51_l0:ACode:=ycz [xB 37 .lss 36 35] 37 0 1 (yaa [xM 38 36,xX 39 9 34 36,xA 40 9 39,yaz 11 [ybo,ybo,ybo,.fslice 2 [],ybo,ybo,.fslice 1 [],ybo,.fslice 1 []],xM 10 38,xS 9 11 40] (ya4 [xL 42 2,xA 43 9 11,xO 44 (.tcall f_117 [.t 42,.t 43]),xM 41 44,xE 45 0 41,xE 46 1 41,xM 12 45,xM 13 46] [xM 47 13,yc2 48 .neq 47] 48 [xM 49 10,xM 50 13,xC 4 (.fslice 1 []),xM 5 49,xS 1 6 50] (xR [xM 51 9,xM 52 12,xO 53 (.bslice .imm 1 (List.replicate 1 [.int .i64 0]) [(0,(.t 52))]),ycx 54 1 8 51 53,xM 9 54]))) [yb5 55 .add 36,xM 36 55]
def c_51_k1:ACode:=yae [xM 56 9,xM 4 56,ycw,⟨none,none,.store 1 (.t 6) (.c (.int .i64 0))⟩]
def c_51:ADFn:=⟨2,[.tmp 4,.tmp 5,.cell 6 false 1],.seq (xR [xO 2 (.box (.t 0)),xC 4 (.fslice 1 []),xI 5 0,xO 6 (.alloc [.int .i64 0])]) (.seq (xR [xL 14 2,xO 15 (.tcall f_36 [.t 14]),xO 7 (.alloc [.nilptr]),xS 1 7 15]) (.seq (.seq (xR [xL 16 2,xO 17 (.build [.int .i64 0,.fslice 1 []] []),xO 18 (.tcall f_34 [.t 16,.c (.int .i64 (-1)),.c (.int .i64 0),.t 17]),xK 19 .eql 18 1,xM 20 19,xG 21 20 false (.load false 1 (.t 7)),xG 22 20 false (.eqn false (.t 21) (.c (.nilptr))),xW 23 20 22]) (.cond (.t 23) (.seq (xR [xC 4 (.fslice 1 []),xI 5 (-1),⟨none,none,.store 1 (.t 6) (.c (.int .i64 1))⟩]) (.ret)) (.skip))) (.seq (.seq (xR [xM 24 1,xN 25 24,xK 26 .gtr 25 64]) (.cond (.t 26) (.seq (xR [xC 4 (.fslice 1 []),xI 5 (-1),⟨none,none,.store 1 (.t 6) (.c (.int .i64 12))⟩]) (.ret)) (.skip))) (.dfr [⟨some 27,none,.mkfunc (.func f_116) [] [.t 6,.t 7,.t 2]⟩] 27 (.seq (xR [xM 28 1,xN 29 28,xO 30 (.mkslice .row 9 120 [.int .i64 0,.int .i64 0,.int .i64 0,.fslice 2 [],.int .i64 0,.int .i64 0,.fslice 1 [],.int .i64 0,.fslice 1 []] (.t 29) (.t 29)),xM 8 30]) (.seq (xR [xM 31 8,xM 32 1,xO 33 (.copy 9 (.t 31) (.t 32))]) (.seq (xR [xO 9 (.nilapp 1)]) (.seq (.seq (xR [xM 34 8,xN 35 34,xI 36 0]) (.block 0 (.loop c_51_l0))) c_51_k1)))))))),f_116,3,none,.seq (xR [xL 3 0,xK 4 .neq 3 0]) (.cond (.t 4) (xD [xL 5 2,xL 6 1,xO 7 (.nilchk (.t 6)),xA 8 15 7,xO 9 (.nilchk (.t 5)),xS 15 9 8]) (.skip))⟩
def c_55:AFn:=⟨1,[.cell 2 true 4],ycm (yda 1) (yaz 2 [ybo,ybo,ybo,ybo]) (yar [xA 4 9 1,yb7 5 f_125 4,yaz 3 [ybo,ybo,ybo,ybo],xS 4 3 5] [yb4 6 3,xL 7 6,yc2 8 .eql 7] (ybu 8 (xR [xA 9 9 1,yb7 10 f_126 9,xS 4 3 10])) (yad [yb4 11 3,xL 12 11,yc2 13 .eql 12] (ybu 13 (xR [xA 14 9 1,yb7 15 f_127 14,xS 4 3 15])) (yad [yb4 16 3,xL 17 16,yc2 18 .eql 17] (ybu 18 (xR [xA 19 9 1,yb7 20 f_128 19,xS 4 3 20])) (yad [yb4 21 3,xL 22 21,yc2 23 .eql 22] (ybu 23 (xR [xA 24 9 1,yb7 25 f_129 24,xS 4 3 25])) (yad [yb4 26 3,xL 27 26,yc2 28 .eql 27] (ybu 28 (xR [xA 29 9 1,yb7 30 f_130 29,xS 4 3 30])) (yad [yb4 31 3,xL 32 31,yc2 33 .eql 32] (ybu 33 (xR [xA 34 9 1,yb7 35 f_131 34,xS 4 3 35])) (ycf (xA 36 4 3) (xS 4 2 36))))))))⟩
def c_63:ADFn:=⟨1,[.cell 2 true 4],.seq (xR [xO 1 (.box (.t 0)),xO 2 (.alloc [.int .i64 0,.int .i64 0,.int .i64 0,.int .i64 0])]) (.dfr [⟨some 3,none,.mkfunc (.func f_144) [] [.t 2]⟩] 3 (.seq (xR [xA 4 9 1,xO 5 (.pcall f_145 [.t 4])]) (.seq (xR [xA 6 9 1,xO 7 (.pcall f_146 [.t 6])]) (.seq (xR [xA 8 9 1,xO 9 (.pcall f_147 [.t 8])]) (.seq (xR [xA 10 9 1,xO 11 (.pcall f_148 [.t 10])]) (.seq (xR [xA 12 9 1,xO 13 (.pcall f_149 [.t 12])]) (.seq (xR [xO 14 (.build [.int .i64 0,.int .i64 0,.int .i64 0,.int .i64 0] []),xS 4 2 14]) (.ret)))))))),f_144,1,(some (4,1)),.seq (.seq (xR [xM 5 1,xO 6 (.eqs false false [] (.t 5) (.c (.niliface)))]) (.cond (.t 6) (.ret) (.skip))) (.seq (.seq (xR [xM 8 1,xO 9 (.tassert 207 true (.agg [.int .i64 0,.int .i64 0,.int .i64 0,.int .i64 0]) (.t 8)),xM 7 9,xE 10 0 7,xE 11 1 7,xO 2 (.alloc [.int .i64 0,.int .i64 0,.int .i64 0,.int .i64 0]),xS 4 2 10,xM 3 11]) (.seq (xR [xM 12 3]) (.cond (.t 12) (.seq (xR [xF 13 0 2,xA 14 4 13,xS 4 0 14]) (.ret)) (.skip)))) (xR [xM 15 1,⟨none,none,.panic (.t 15)⟩]))⟩
def c_64_l0:ACode:=yc5 [xB 29 .lss 28 27] 29 0 1 (xQ [xX 30 5 26 28,xA 31 5 30,yaz 13 [ybo,.fslice 2 [],ybo,ybo,.fslice 1 []],xS 5 13 31] [13]) (ybj [yb4 32 13,xL 33 32,xM 34 11,xB 35 .leq 33 34] 35 [xI 10 14] (xR [yb4 36 13,xL 37 36,xM 11 37])) [yb5 38 .add 28,xM 28 38]
def c_64_l1:ACode:=yc5 [xB 53 .lss 52 51] 53 2 3 (xQ [xM 54 52,xX 55 5 50 52,xA 56 5 55,yaz 15 [ybo,.fslice 2 [],ybo,ybo,.fslice 1 []],xM 14 54,xS 5 15 56] [15]) (yad [xA 57 9 5,ych 58,yce 59 15,xA 60 4 59,yct 61 f_86 57 58 60,xM 16 61] (ya3 [xM 62 16,yc2 63 .neq 62] 63 [xM 64 16,xM 10 64]) (ya3 [xM 65 2,xM 66 14,xO 67 (.slc 5 (.t 65) none (some (.t 66)) none),xO 68 (.mkfunc (.func f_150) [] [.t 15]),ybg 69 f_87 67 68] 69 [xI 10 7])) [yb5 70 .add 52,xM 52 70]
def c_64_k2:ACode:=yae [xA 71 9 5,ych 72,xA 73 2 9,yct 74 f_92 71 72 73,xM 10 74]
def c_64_k3:ACode:=ybj [xM 39 3,xM 40 11,xB 41 .leq 39 40,xM 42 41,ya1 43 42 3,ya9 44 42 .lss 43 1,xW 45 42 44,xM 46 45,ya1 47 46 3,ya9 48 46 .gtr 47 1073741824,xW 49 46 48] 49 [xI 10 14] (ybn [xM 50 2,xN 51 50,ybd 52] 2 c_64_l1 c_64_k2)
def c_64:AFn:=⟨5,[.tmp 10],ya4 [yda 5,xJ 9 4,ybd 10] [xM 17 2,xN 18 17,xF 19 5 5,xL 20 19,ych 21,xX 22 6 20 21,xF 23 5 22,xL 24 23,xB 25 .gtr 18 24] 25 [xI 10 12] (ybk [ybd 11] [xM 26 2,xN 27 26,ybd 28] 0 c_64_l0 c_64_k3)⟩
def c_65_l0:ACode:=ycz [xB 18 .lss 17 16] 18 0 1 (yaa [xM 19 17,xX 20 1 15 17,xL 21 20,xM 5 19,xM 6 21] (ya3 [xM 22 6,xN 23 22,xF 24 3 2,xL 25 24,ycb 26,xX 27 3 25 26,xF 28 2 27,xL 29 28,xB 30 .neq 23 29] 30 [xI 4 2])) [yb5 31 .add 17,xM 17 31]
def c_65_l1:ACode:=ycz [xB 35 .lss 34 33] 35 2 3 (ya2 [xM 36 34,xX 37 1 32 34,xL 38 37,xM 7 36,xM 8 38] (xD [ydb 39,xN 40 39,yc2 41 .gtr 40,xM 42 41,ybh 43 42 8,ycg 44 42 f_151 [.t 43],ybv 45 42 3 2,ybz 46 42 1 45,ybh 47 42 7,yaq 48 42 (yc6 3 46 47),ybv 49 42 1 48,ybz 50 42 1 49,ycg 51 42 f_152 [.t 50],ybq 52 42 .gtr 44 (.t 51),xV 53 42 52]) (yai 53 [xI 4 9])) [yb5 54 .add 34,xM 34 54]
def c_65_k2:ACode:=yc9 yby
def c_65_k3:ACode:=ybn [ych 32,xN 33 32,ybd 34] 2 c_65_l1 c_65_k2
def c_65:AFn:=⟨2,[.tmp 4],ya4 [yda 2,yby] [ych 9,xN 10 9,xF 11 3 2,xL 12 11,xN 13 12,xB 14 .neq 10 13] 14 [xI 4 2] (ybn [ych 15,xN 16 15,ybd 17] 0 c_65_l0 c_65_k3)⟩
def c_67_l0:ACode:=yca [xM 22 10,xM 23 2,xN 24 23,xB 25 .lss 22 24] 25 0 1 (ybj [xM 28 2,xM 29 10,xX 30 5 28 29,yb4 31 30,xL 32 31,xM 33 9,xB 34 .leq 32 33] 34 [xI 8 14] (xR [xM 35 2,xM 36 10,xX 37 5 35 36,yb4 38 37,xL 39 38,xM 9 39])) [xM 26 10,yb5 27 .add 26,xM 10 27]
def c_67_l1:ACode:=yci [xM 47 11,xM 48 2,xN 49 48,xB 50 .lss 47 49] 50 2 3 (xD [xA 53 9 4,ych 54,xM 55 2,xM 56 11,xX 57 5 55 56,yce 58 57,xA 59 4 58,yct 60 f_153 53 54 59,xM 12 60]) (.block 4 (ybp [xM 62 12,yc2 63 .neq 62,xM 61 63] 61 [xM 64 12,xM 8 64] (ycd [xM 66 2,xM 67 11,xO 68 (.slc 5 (.t 66) none (some (.t 67)) none),xM 69 2,xM 70 11,xX 71 5 69 70,yce 72 71,xA 73 4 72,ybg 74 f_154 68 73,xM 65 74] (yai 65 [xI 8 7])))) [xM 51 11,yb5 52 .add 51,xM 11 52]
def c_67_k2:ACode:=yc9 (ybd 8)
def c_67_k3:ACode:=ybj [xM 40 3,xM 41 9,xB 42 .leq 40 41,xM 43 42,ya1 44 43 3,ya9 45 43 .gtr 44 1073741824,xW 46 43 45] 46 [xI 8 14] (ybn [ybd 11] 2 c_67_l1 c_67_k2)
def c_67:AFn:=⟨4,[.tmp 8],ya4 [yda 4,ybd 8] [xM 13 2,xN 14 13,xF 15 5 4,xL 16 15,ych 17,xX 18 6 16 17,xF 19 5 18,xL 20 19,xB 21 .gtr 14 20] 21 [xI 8 12] (ybk [ybd 9] [ybd 10] 0 c_67_l0 c_67_k3)⟩
def c_68:AFn:=⟨3,[.tmp 6],ya4 [yda 3,xJ 5 2,ybd 6] [xA 7 9 3,ych 8,yb4 9 5,xL 10 9,yct 11 f_155 7 8 10,ybl 12 11] 12 [xI 6 8] (yae [xA 13 9 3,xA 14 2 5,ybg 15 f_156 13 14,xM 6 15])⟩
def c_69_l0:ACode:=yci [ycb 14,ych 15,xN 16 15,xB 17 .lss 14 16] 17 0 1 (xD [ych 20,ycb 21,xX 22 1 20 21,xL 23 22,xN 24 23,xF 25 3 2,xL 26 25,ycb 27,xX 28 3 26 27,xF 29 2 28,xL 30 29,xB 31 .neq 24 30]) (yai 31 [xI 4 2]) [ycb 18,yb5 19 .add 18,xM 5 19]
def c_69_l1:ACode:=yci [xM 38 7,ych 39,xM 40 6,xX 41 1 39 40,xL 42 41,xN 43 42,xB 44 .lss 38 43] 44 4 5 (xD [ych 47,xM 48 6,xX 49 1 47 48,xL 50 49,xM 51 7,xX 52 1 50 51,xL 53 52,xF 54 3 2,xL 55 54,xM 56 6,xX 57 3 55 56,xA 58 3 57,yb7 59 f_158 58,ybg 60 f_157 53 59,ybl 61 60]) (yai 61 [xI 4 9]) [xM 45 7,yb5 46 .add 45,xM 7 46]
def c_69_k2:ACode:=xR [xM 36 6,yb5 37 .add 36,xM 6 37]
def c_69_l3:ACode:=ya8 [xM 32 6,ych 33,xN 34 33,xB 35 .lss 32 34] 35 2 (yaj 3 (yaa [ybd 7] (yam 4 c_69_l1)) c_69_k2)
def c_69_k4:ACode:=yc9 yby
def c_69_k5:ACode:=ybn [ybd 6] 2 c_69_l3 c_69_k4
def c_69:AFn:=⟨2,[.tmp 4],ya4 [yda 2,yby] [ych 8,xN 9 8,xF 10 3 2,xL 11 10,xN 12 11,xB 13 .neq 9 12] 13 [xI 4 2] (ybn [ycw] 0 c_69_l0 c_69_k5)⟩
def c_72_l0:ACode:=yci [ycb 20,yce 21 2,xL 22 21,xN 23 22,xB 24 .lss 20 23] 24 0 1 (xD [yce 27 2,xL 28 27,ycb 29,xX 30 1 28 29,xL 31 30,yce 32 3,xL 33 32,ycb 34,xX 35 1 33 34,xL 36 35,xB 37 .neq 31 36]) (yai 37 [yc7]) [ycb 25,yb5 26 .add 25,xM 5 26]
def c_72_k1:ACode:=yc9 (xC 4 ybw)
def c_72:AFn:=⟨2,[.tmp 4],ya4 [xO 2 (ycu 0),xO 3 (ycu 1),yc7] [yb4 6 2,xL 7 6,yb4 8 3,xL 9 8,xB 10 .neq 7 9,xM 11 10,yc3 12 11 2,ybt 13 11 12,ybb 14 11 13,yc3 15 11 3,ybt 16 11 15,ybb 17 11 16,ybx 18 11 .neq 14 17,xW 19 11 18] 19 [yc7] (ybn [ycw] 0 c_72_l0 c_72_k1)⟩
def c_77:AFn:=⟨4,[.cell 8 true 4,.tmp 9,.tmp 10],ya4 [yda 4,xJ 5 1,xJ 7 3,yaz 8 [.fslice 1 [],.fslice 1 [],.fslice 2 [],.fslice 1 []],ybd 9,ybd 10] [xM 14 2,yc2 15 .lss 14,xM 16 15,ya1 17 16 2,yaw 18 16 5 4,ybt 19 16 18,ybb 20 16 19,ybx 21 16 .geq 17 20,xW 22 16 21] 22 [xA 23 4 5,xS 4 8 23,ybd 9,xI 10 8] (yaa [xA 24 9 4,xM 25 2,xA 26 4 7,yct 27 f_153 24 25 26,xM 11 27] (yc4 0 [xM 29 11,yc2 30 .neq 29,xM 28 30] 28 [xA 31 4 5,xM 32 11,xS 4 8 31,ybd 9,xM 10 32] (ycd [yb4 34 5,xL 35 34,xM 36 2,xX 37 1 35 36,xL 38 37,xA 39 4 7,ybg 40 f_154 38 39,xM 33 40] (yah 33 [xA 41 4 5,xS 4 8 41,ybd 9,xI 10 7] (ycd [yb4 43 5,xL 44 43,xM 45 2,xX 46 1 44 45,xL 47 46,xN 48 47,xF 49 5 4,xL 50 49,xM 51 2,xX 52 6 50 51,xF 53 5 52,xL 54 53,xB 55 .geq 48 54,xM 56 55,yc3 57 56 5,ybt 58 56 57,ya1 59 56 2,yac 60 56 (yc6 1 58 59),ybt 61 56 60,ya9 62 56 .geq 61 1073741824,xW 63 56 62,xM 42 63] (yai 42 [xA 64 4 5,xS 4 8 64,ybd 9,xI 10 13])))) (ybr [yce 65 5,xL 66 65,xM 67 2,xX 68 1 66 67,xL 69 68,xM 12 69] [ycv 13 5] (ybr [xM 70 13,yb4 71 5,xL 72 71,xM 73 2,xX 74 1 72 73,xL 75 74,ycx 76 5 72 70 75,xM 13 76] [xM 77 13,xM 78 12,xA 79 4 7,xO 80 (.build [.int .i64 0,.fslice 2 [],.int .i64 0,.int .i64 0,.fslice 1 []] [(0,1,(.t 78)),(1,4,(.t 79))]),xO 81 (.bslice .imm 5 (List.replicate 1 [.int .i64 0,.fslice 2 [],.int .i64 0,.int .i64 0,.fslice 1 []]) [(0,(.t 80))]),ycx 82 5 72 77 81,xM 13 82] (yae [xA 83 4 5,xM 84 2,xM 85 13,xM 86 12,yb5 87 .add 86,yb8 88 f_164 (.t 83) (.t 84) (.t 85) (.t 87),xM 89 12,xS 4 8 88,xM 9 89,ybd 10])))))⟩
def c_78:AFn:=⟨5,[.cell 10 true 4,.tmp 11],ya4 [yda 5,xJ 6 1,xJ 9 4,yaz 10 [.fslice 1 [],.fslice 1 [],.fslice 2 [],.fslice 1 []],ybd 11] [xM 14 2,yc2 15 .lss 14,xM 16 15,ya1 17 16 2,yaw 18 16 5 5,ybt 19 16 18,ybb 20 16 19,ybx 21 16 .geq 17 20,xW 22 16 21,xM 23 22,yaw 24 23 0 6,ybt 25 23 24,ya1 26 23 2,yac 27 23 (yc6 1 25 26),ybt 28 23 27,ya1 29 23 3,ycc 30 23 f_165 [.t 28,.t 29],ya9 31 23 .lss 30 0,xW 32 23 31] 32 [xA 33 4 6,xS 4 10 33,xI 11 8] (ya4 [xA 34 9 5,xM 35 2,xA 36 2 9,yct 37 f_68 34 35 36,xM 12 37] [xM 38 12,yc2 39 .neq 38] 39 [xA 40 4 6,xM 41 12,xS 4 10 40,xM 11 41] (yaa [xC 13 (.fslice 5 [])] (ya2 [xM 42 13,yb4 43 6,xL 44 43,xM 45 2,xX 46 1 44 45,xL 47 46,xO 48 (ybs .row 5 72 (.t 42) 47),xM 13 48] (xD [xM 49 13,xM 50 13,xM 51 3,ybg 52 f_165 50 51,xA 53 2 9,xX 54 5 49 52,yce 55 54,xF 56 2 55,xS 2 56 53]) (ycd [xA 57 4 6,xM 58 2,xM 59 13,yce 60 6,xL 61 60,xM 62 2,xX 63 1 61 62,xL 64 63,xO 65 (.pcallk f_164 [.t 57,.t 58,.t 59,.t 64]),xS 4 10 65,ybd 11] .ret))))⟩
def c_79:AFn:=⟨4,[.cell 8 true 4,.tmp 9],ya4 [yda 4,xJ 5 1,yaz 8 [.fslice 1 [],.fslice 1 [],.fslice 2 [],.fslice 1 []],ybd 9] [xM 12 2,yc2 13 .lss 12,xM 14 13,ya1 15 14 2,yaw 16 14 5 4,ybt 17 14 16,ybb 18 14 17,ybx 19 14 .geq 15 18,xW 20 14 19,xM 21 20,yaw 22 21 0 5,ybt 23 21 22,ya1 24 21 2,yac 25 21 (yc6 1 23 24),ybt 26 21 25,ya1 27 21 3,ycc 28 21 f_165 [.t 26,.t 27],ya9 29 21 .lss 28 0,xW 30 21 29] 30 [xA 31 4 5,xS 4 8 31,xI 9 8] (yaa [yb4 32 5,xL 33 32,xM 34 2,xX 35 1 33 34,xL 36 35,xM 37 3,ybg 38 f_165 36 37,xM 10 38] (ybr [ycv 11 5] [xM 39 11,yb4 40 5,xL 41 40,xM 42 2,xX 43 1 41 42,xL 44 43,xM 45 10,xO 46 (.slc 5 (.t 44) none (some (.t 45)) none),ycx 47 5 72 39 46,xM 11 47] (ya2 [xM 48 11,yb4 49 5,xL 50 49,xM 51 2,xX 52 1 50 51,xL 53 52,xM 54 10,yb5 55 .add 54,xO 56 (.slc 5 (.t 53) (some (.t 55)) none none),ycx 57 5 72 48 56,xM 11 57] (xD [xA 58 4 5,xM 59 2,xM 60 11,yce 61 5,xL 62 61,xM 63 2,xX 64 1 62 63,xL 65 64,yb8 66 f_164 (.t 58) (.t 59) (.t 60) (.t 65),xS 4 8 66,ybd 9]) .ret)))⟩
def c_80:AFn:=⟨4,[.cell 8 true 4,.tmp 9],ya4 [yda 4,xJ 5 1,xJ 7 3,yaz 8 [.fslice 1 [],.fslice 1 [],.fslice 2 [],.fslice 1 []],ybd 9] [xM 12 2,yc2 13 .lss 12,xM 14 13,ya1 15 14 2,yaw 16 14 5 4,ybt 17 14 16,ybb 18 14 17,ybx 19 14 .geq 15 18,xW 20 14 19] 20 [xA 21 4 5,xS 4 8 21,xI 9 8] (ya4 [xA 22 9 4,xM 23 2,xA 24 2 7,yct 25 f_68 22 23 24,xM 10 25] [xM 26 10,yc2 27 .neq 26] 27 [xA 28 4 5,xM 29 10,xS 4 8 28,xM 9 29] (yaa [yb4 30 5,xL 31 30,yce 32 5,xL 33 32,xF 34 3 5,xL 35 34,xO 36 (.build [.fslice 1 [],.fslice 1 [],.fslice 2 [],.fslice 1 []] [(0,1,(.t 31)),(1,1,(.t 33)),(3,1,(.t 35))]),yaz 11 [.fslice 1 [],.fslice 1 [],.fslice 2 [],.fslice 1 []],xS 4 11 36] (ybr [xF 37 2 11,xL 38 37,xF 39 2 5,xL 40 39,xO 41 (ybs .row 2 32 (.t 38) 40),xF 42 2 11,xS 1 42 41] [xF 43 2 11,xL 44 43,xM 45 2,xA 46 2 7,xX 47 2 44 45,xS 2 47 46] (yae [xA 48 4 11,xS 4 8 48,ybd 9]))))⟩
def c_85_l0:ACode:=yci [ycb 20,yb4 21 2,xL 22 21,xN 23 22,xB 24 .lss 20 23] 24 0 1 (xD [yb4 27 2,xL 28 27,ycb 29,xX 30 2 28 29,xA 31 2 30,yb4 32 3,xL 33 32,ycb 34,xX 35 2 33 34,xA 36 2 35,xO 37 (.eqs true true [.i,.i] (.t 31) (.t 36))]) (yai 37 [yc7]) [ycb 25,yb5 26 .add 25,xM 5 26]
def c_85_k1:ACode:=yc9 (xC 4 ybw)
def c_85:AFn:=⟨2,[.tmp 4],ya4 [xO 2 (ycu 0),xO 3 (ycu 1),yc7] [yb4 6 2,xL 7 6,xN 8 7,yb4 9 3,xL 10 9,xN 11 10,xB 12 .neq 8 11,xM 13 12,yc3 14 13 2,ybt 15 13 14,yc3 16 13 3,ybt 17 13 16,ybx 18 13 .neq 15 17,xW 19 13 18] 19 [yc7] (ybn [ycw] 0 c_85_l0 c_85_k1)⟩
def c_86_l0:ACode:=yc5 [xB 42 .lss 41 40] 42 0 1 (xQ [xM 43 41,xX 44 2 39 41,xA 45 2 44,yaz 12 [yco 0,yco 0],xM 11 43,xS 2 12 45] [12]) (ycd [xA 46 2 12,xM 47 9,xM 48 11,xX 49 3 47 48,xF 50 2 49,xL 51 50,xM 52 10,xM 53 11,xX 54 1 52 53,xL 55 54,yct 56 f_177 46 51 55,xM 13 56] (ya3 [xM 57 13,yc2 58 .neq 57] 58 [xM 59 13,xM 6 59])) [yb5 60 .add 41,xM 41 60]
def c_86_k1:ACode:=yc4 2 [yce 62 5,xL 63 62,yc2 64 .lss 63,xM 65 64,yc3 66 65 5,ybt 67 65 66,ya9 68 65 .gtr 67 255,xW 69 65 68,xM 61 69] 61 [xI 6 9] (ybp [yce 71 5,xL 72 71,yc2 73 .neq 72,xM 74 73,yaq 75 74 (ycy 9 3),ybh 76 74 1,ycg 77 74 f_178 [.t 75,.t 76],yc0 78 74 .neq 77 3,xV 79 74 78,xM 70 79] 70 [xI 6 11] (ya3 [xA 81 9 3,ych 82,xF 83 2 5,yb4 84 83,xL 85 84,yct 86 f_179 81 82 85,ybl 87 86,xM 80 87] 80 [xI 6 8])) (yae [xA 88 9 3,xF 89 2 5,xA 90 2 89,ybg 91 f_180 88 90,xM 6 91])
def c_86:AFn:=⟨3,[.tmp 6],yar [yda 3,xJ 5 2,ybd 6] [xA 15 9 3,ych 16,ybg 17 f_175 15 16,xM 14 17,xE 18 0 14,xE 19 1 14,xM 7 18,xM 8 19] (ya3 [ydb 20,yc2 21 .neq 20] 21 [ydb 22,xM 6 22]) (ycd [xF 23 5 3,xL 24 23,ych 25,xX 26 6 24 25,yce 27 26,xL 28 27,xA 29 9 3,ych 30,ybg 31 f_176 29 30,xM 9 28,xM 10 31] (ybj [yb4 32 5,xL 33 32,xN 34 33,xM 35 9,xN 36 35,xB 37 .neq 34 36] 37 [xI 6 2] (ybn [yb4 38 5,xL 39 38,xN 40 39,ybd 41] 0 c_86_l0 c_86_k1)))⟩
def c_87:AFn:=⟨2,[.tmp 4],yb1 [yc7] [ycl 5,ych 6,ybg 7 f_181 5 6,yc2 8 .geq 7,ydb 4]⟩
def c_89_l0:ACode:=ycz [xB 25 .lss 24 23] 25 0 1 (ya2 [xM 26 24,xX 27 2 22 24,xA 28 2 27,yaz 6 [yco 0,yco 0],xM 5 26,xS 2 6 28] (xD [xA 29 2 6,yb4 30 3,xL 31 30,ycb 32,xX 33 2 31 32,xA 34 2 33,xO 35 (.eqs true true [.i,.i] (.t 29) (.t 34))]) (yai 35 [yc7])) [yb5 36 .add 24,xM 24 36]
def c_89_k1:ACode:=yc9 (xC 4 ybw)
def c_89:AFn:=⟨2,[.tmp 4],ya4 [xO 2 (ycu 0),xO 3 (ycu 1),yc7] [yce 7 2,xL 8 7,yce 9 3,xL 10 9,xB 11 .neq 8 10,xM 12 11,yaw 13 12 0 2,ybt 14 12 13,ybb 15 12 14,yaw 16 12 0 3,ybt 17 12 16,ybb 18 12 17,ybx 19 12 .neq 15 18,xW 20 12 19] 20 [yc7] (ybn [yb4 21 2,xL 22 21,xN 23 22,ybd 24] 0 c_89_l0 c_89_k1)⟩
def c_92:AFn:=⟨3,[.tmp 6],ya4 [yda 3,xJ 5 2,ybd 6] [xA 7 9 3,ych 8,yb4 9 5,xL 10 9,yct 11 f_179 7 8 10,ybl 12 11] 12 [xI 6 8] (yae [xA 13 9 3,xA 14 2 5,ybg 15 f_180 13 14,xM 6 15])⟩
def c_95_l0:ACode:=yca [xM 55 3,yce 56 1,xL 57 56,xN 58 57,xB 59 .lss 55 58] 59 0 1 (ya3 [yce 62 1,xL 63 62,xM 64 3,xX 65 2 63 64,yb4 66 65,xL 67 66,xO 68 (.slen (.t 67)),xK 69 .gtr 68 40,xM 70 69,yc3 71 70 1,ybt 72 70 71,ya1 73 70 3,yac 74 70 (yc6 2 72 73),yc3 75 70 74,ybt 76 70 75,ycc 77 70 f_183 [.t 76],yac 78 70 (ya7 77),xW 79 70 78] 79 [ybi 2]) [xM 60 3,yb5 61 .add 60,xM 3 61]
def c_95_l1:ACode:=yca [xM 80 4,xF 81 3 1,xL 82 81,xN 83 82,xB 84 .lss 80 83] 84 2 3 (ya3 [xF 87 3 1,xL 88 87,xM 89 4,xX 90 3 88 89,yb4 91 90,xL 92 91,xO 93 (.slen (.t 92)),xK 94 .gtr 93 40] 94 [ybi 2]) [xM 85 4,yb5 86 .add 85,xM 4 86]
def c_95_l2:ACode:=yca [ycb 95,xF 96 4 1,xL 97 96,xN 98 97,xB 99 .lss 95 98] 99 4 5 (ya3 [xF 102 4 1,xL 103 102,ycb 104,xX 105 3 103 104,xA 106 3 105,yb7 107 f_184 106,ybl 108 107] 108 [ybi 2]) [ycb 100,yb5 101 .add 100,xM 5 101]
def c_95_l3:ACode:=yci [xM 109 6,xF 110 5 1,xL 111 110,xN 112 111,xB 113 .lss 109 112] 113 6 7 (xQ [xF 116 5 1,xL 117 116,xM 118 6,xX 119 6 117 118,xA 120 6 119,yaz 7 [.str [],.fslice 3 [],.fslice 1 [],ybo,.fslice 1 [],ybo],xS 6 7 120] [7]) (ya3 [yb4 121 7,xL 122 121,xO 123 (.slen (.t 122)),xK 124 .gtr 123 40,xM 125 124,yc3 126 125 7,ybt 127 125 126,ybb 128 125 127,ya9 129 125 .gtr 128 10,xW 130 125 129,xM 131 130,yaw 132 131 2 7,ybt 133 131 132,ybb 134 131 133,ya9 135 131 .gtr 134 24,xW 136 131 135,xM 137 136,yaw 138 137 3 7,yc3 139 137 138,ybt 140 137 139,ybb 141 137 140,ya9 142 137 .gtr 141 10,xW 143 137 142] 143 [ybi 2]) [xM 114 6,yb5 115 .add 114,xM 6 115]
def c_95_l4:ACode:=yca [ydb 144,xF 145 6 1,xL 146 145,xN 147 146,xB 148 .lss 144 147] 148 8 9 (ya3 [xF 151 6 1,xL 152 151,ydb 153,xX 154 7 152 153,yb4 155 154,xL 156 155,xO 157 (.slen (.t 156)),xK 158 .gtr 157 40,xM 159 158,yaw 160 159 6 1,ybt 161 159 160,ya1 162 159 8,yac 163 159 (yc6 7 161 162),yc3 164 159 163,ybt 165 159 164,ybb 166 159 165,ya9 167 159 .gtr 166 8,xW 168 159 167,xM 169 168,yaw 170 169 6 1,ybt 171 169 170,ya1 172 169 8,yac 173 169 (yc6 7 171 172),yaw 174 169 5 173,ybt 175 169 174,ybb 176 169 175,ya9 177 169 .gtr 176 16,xW 178 169 177] 178 [ybi 2]) [ydb 149,yb5 150 .add 149,xM 8 150]
def c_95_k5:ACode:=yc9 (xC 2 ybw)
def c_95_k6:ACode:=ybn [ybd 8] 8 c_95_l4 c_95_k5
def c_95_k7:ACode:=ybn [ybd 6] 6 c_95_l3 c_95_k6
def c_95_k8:ACode:=ybn [ycw] 4 c_95_l2 c_95_k7
def c_95_k9:ACode:=ybn [yby] 2 c_95_l1 c_95_k8
def c_95:AFn:=⟨1,[.tmp 2],ya4 [yda 1,ybi 2] [yb4 9 1,xL 10 9,xO 11 (.slen (.t 10)),xK 12 .gtr 11 40,xM 13 12,yc3 14 13 1,ybt 15 13 14,ybb 16 13 15,ya9 17 13 .gtr 16 12,xW 18 13 17,xM 19 18,yaw 20 19 2 1,ybt 21 19 20,ycc 22 19 f_183 [.t 21],yac 23 19 (ya7 22),xW 24 19 23,xM 25 24,yaw 26 25 3 1,ybt 27 25 26,ybb 28 25 27,ya9 29 25 .gtr 28 8,xW 30 25 29,xM 31 30,yaw 32 31 4 1,ybt 33 31 32,ybb 34 31 33,ya9 35 31 .gtr 34 20,xW 36 31 35,xM 37 36,yaw 38 37 5 1,ybt 39 37 38,ybb 40 37 39,ya9 41 37 .gtr 40 16,xW 42 37 41,xM 43 42,yaw 44 43 6 1,ybt 45 43 44,ybb 46 43 45,ya9 47 43 .gtr 46 16,xW 48 43 47,xM 49 48,yaw 50 49 8 1,ybt 51 49 50,ybb 52 49 51,ya9 53 49 .gtr 52 16,xW 54 49 53] 54 [ybi 2] (ybn [ybd 3] 0 c_95_l0 c_95_k9)⟩
def c_96:AFn:=⟨2,[.tmp 4],yb1 [yc7] [ycl 5,ych 6,ycs 7 f_185 5 6 (yan 12),ych 8,xB 9 .leq 7 8,xM 4 9]⟩
def c_97:AFn:=⟨1,[.tmp 2],yb1 [xO 1 (ycu 0),ybi 2] [yb4 3 1,xL 4 3,xN 5 4,xK 6 .leq 5 10,xM 7 6,ybv 8 7 2 1,ybv 9 7 1 8,ybz 10 7 1 9,yaq 11 7 (ya5 10),yc0 12 7 .leq 11 10,xV 13 7 12,xM 2 13]⟩
def c_101_l0:ACode:=yc5 [xB 18 .lss 17 16] 18 0 1 (xQ [xM 19 17,xX 20 5 15 17,xA 21 5 20,yaz 7 [ybo,.fslice 2 [],ybo,ybo,.fslice 1 []],xM 6 19,xS 5 7 21] [7]) (xR [ycb 22,yce 23 7,xA 24 4 23,yb7 25 f_186 24,xM 26 6,⟨none,none,.update .s (.t 22) (.t 25) (.t 26)⟩]) [yb5 27 .add 17,xM 17 27]
def c_101_l1:ACode:=yc5 [xB 31 .lss 30 29] 31 2 3 (xQ [xX 32 5 28 30,xA 33 5 32,yaz 11 [ybo,.fslice 2 [],ybo,ybo,.fslice 1 []],xS 5 11 33] [11]) (yar [ycb 35,yce 36 11,xA 37 4 36,yb7 38 f_186 37,xO 39 (.lookup .s (.int .i64 0) true (.t 35) (.t 38)),xM 34 39,xE 40 0 34,xE 41 1 34,xM 12 40,xM 13 41] [xM 42 13,ybl 43 42,xM 44 43,ya1 45 44 12,ya1 46 44 9,ybx 47 44 .leq 45 46,xW 48 44 47] (ybu 48 (.exit 2)) (yaa [ydb 49,xM 50 12,xO 51 (.bslice .imm 1 (List.replicate 1 [.int .i64 0]) [(0,(.t 50))]),ycx 52 1 8 49 51,xM 8 52] (xR [xM 53 12,xM 9 53]))) [yb5 54 .add 30,xM 30 54]
def c_101_k2:ACode:=yc1 (ydb 55) 4 55
def c_101_k3:ACode:=yaa [ycv 8 1] (ybk [yb0 9] [ych 28,xN 29 28,ybd 30] 2 c_101_l1 c_101_k2)
def c_101:AFn:=⟨2,[.tmp 4],yaa [xC 4 (.fslice 1 [])] (ybk [xO 14 .mkmap,xM 5 14] [ycl 15,xN 16 15,ybd 17] 0 c_101_l0 c_101_k3)⟩
def c_102:AFn:=⟨3,[],ybr [xO 3 (ycu 0)] [xL 4 1,yce 5 3,xS 1 5 4] (xR [xL 6 2,xA 7 9 3,xO 8 (.bslice .imm 9 (List.replicate 1 [.int .i64 0,.int .i64 0,.int .i64 0,.fslice 2 [],.int .i64 0,.int .i64 0,.fslice 1 [],.int .i64 0,.fslice 1 []]) [(0,(.t 7))]),ycx 9 9 120 6 8,xS 1 2 9])⟩
def c_103:AFn:=⟨2,[.tmp 4],yb1 [yda 2,xJ 3 1,yc7] [xA 5 2 2,xO 6 (.build [.fslice 2 [],.int .i64 0,.int .i64 0,.fslice 1 []] [(2,2,(.t 5))]),xA 7 2 3,xO 8 (.build [.fslice 2 [],.int .i64 0,.int .i64 0,.fslice 1 []] [(2,2,(.t 7))]),ybg 9 f_187 6 8,xM 4 9]⟩
def c_104:AFn:=⟨1,[.cell 2 true 2],ybr [xO 1 (ycu 0),yaz 2 [ybo,.fslice 1 []]] [yce 3 1,xL 4 3,ycp 5 1 4 (.c (.fslice 1 [])) 4,yce 6 1,xS 1 6 5] (ycf (xA 7 2 1) (xS 2 2 7))⟩
def c_105:AFn:=⟨1,[.cell 2 true 4],ycm (xO 1 (ycu 0)) (yaz 2 [.fslice 2 [],ybo,ybo,.fslice 1 []]) (ybr [yb4 3 1,xL 4 3,ycp 5 2 8 (.c (.fslice 2 [])) 4,yb4 6 1,xS 1 6 5] [xF 7 2 1,xA 8 2 7,yb7 9 f_104 8,xF 10 2 1,xS 2 10 9] (ycf (xA 11 4 1) (xS 4 2 11)))⟩
def c_106_l0:ACode:=yc5 [xB 11 .lss 10 9] 11 0 1 (xQ [xX 12 9 8 10,xA 13 9 12,yaz 7 [ybo,ybo,ybo,.fslice 2 [],ybo,ybo,.fslice 1 [],ybo,.fslice 1 []],xS 9 7 13] [7]) (yaa [yb4 14 7,xL 15 14,yb5 16 .eql 15,xM 17 16,ybv 18 17 1 7,ybz 19 17 1 18,ybh 20 17 1,ybq 21 17 .eql 19 (.t 20),xV 22 17 21] (ybu 22 (xR [ycb 23,yb5 24 .add 23,xM 5 24]))) [yb5 25 .add 10,xM 10 25]
def c_106_k1:ACode:=yc1 (ycb 26) 4 26
def c_106:AFn:=⟨2,[.tmp 4],yaa [yby] (ybk [ycw] [ycl 8,xN 9 8,ybd 10] 0 c_106_l0 c_106_k1)⟩
def c_107_l0:ACode:=yca [xM 27 11,xM 28 7,xN 29 28,xB 30 .lss 27 29] 30 0 1 (yaa [xM 33 9,xM 34 11,ybg 35 f_189 33 34,ybl 36 35] (ybu 36 (xR [xM 37 10,ycl 38,xM 39 7,xM 40 11,xX 41 5 39 40,yb4 42 41,xL 43 42,xO 44 (.build [.int .i64 0,.int .i64 0,.int .i64 0,.fslice 2 [],.int .i64 0,.int .i64 0,.fslice 1 [],.int .i64 0,.fslice 1 []] [(0,1,(.c (.int .i64 3))),(1,1,(.t 38)),(2,1,(.t 43))]),xO 45 (.bslice .imm 9 (List.replicate 1 [.int .i64 0,.int .i64 0,.int .i64 0,.fslice 2 [],.int .i64 0,.int .i64 0,.fslice 1 [],.int .i64 0,.fslice 1 []]) [(0,(.t 44))]),ycx 46 9 120 37 45,xM 10 46]))) [xM 31 11,yb5 32 .add 31,xM 11 32]
def c_107_l1:ACode:=yci [xM 47 12,xM 48 9,xN 49 48,xB 50 .lss 47 49] 50 2 3 (xD [xM 53 7,xM 54 9,xM 55 12,xX 56 1 54 55,xL 57 56,xX 58 5 53 57,yce 59 58,xF 60 2 59,xA 61 2 60,ydb 62,xM 63 12,xX 64 5 62 63,yce 65 64,xF 66 2 65,xA 67 2 66,ybg 68 f_72 61 67,ybl 69 68]) (ybu 69 (xD [xM 70 10,ycl 71,xM 72 7,xM 73 9,xM 74 12,xX 75 1 73 74,xL 76 75,xX 77 5 72 76,yb4 78 77,xL 79 78,ydb 80,xM 81 12,xX 82 5 80 81,yce 83 82,xF 84 2 83,xA 85 2 84,xO 86 (.build [.int .i64 0,.int .i64 0,.int .i64 0,.fslice 2 [],.int .i64 0,.int .i64 0,.fslice 1 [],.int .i64 0,.fslice 1 []] [(0,1,(.c (.int .i64 2))),(1,1,(.t 71)),(2,1,(.t 79)),(7,2,(.t 85))]),xO 87 (.bslice .imm 9 (List.replicate 1 [.int .i64 0,.int .i64 0,.int .i64 0,.fslice 2 [],.int .i64 0,.int .i64 0,.fslice 1 [],.int .i64 0,.fslice 1 []]) [(0,(.t 86))]),ycx 88 9 120 70 87,xM 10 88])) [xM 51 12,yb5 52 .add 51,xM 12 52]
def c_107_l2:ACode:=yca [xM 91 13,ydb 92,xN 93 92,xB 94 .lss 91 93] 94 4 5 (xR [xM 97 10,ycl 98,ydb 99,xM 100 13,xX 101 5 99 100,yce 102 101,xA 103 4 102,xO 104 (.build [.int .i64 0,.int .i64 0,.int .i64 0,.fslice 2 [],.int .i64 0,.int .i64 0,.fslice 1 [],.int .i64 0,.fslice 1 []] [(0,1,(.c (.int .i64 1))),(1,1,(.t 98)),(3,4,(.t 103))]),xO 105 (.bslice .imm 9 (List.replicate 1 [.int .i64 0,.int .i64 0,.int .i64 0,.fslice 2 [],.int .i64 0,.int .i64 0,.fslice 1 [],.int .i64 0,.fslice 1 []]) [(0,(.t 104))]),ycx 106 9 120 97 105,xM 10 106]) [xM 95 13,yb5 96 .add 95,xM 13 96]
def c_107_k3:ACode:= .seq (ycd [xF 107 2 4,xL 108 107,ycl 109,xX 110 2 108 109,xA 111 2 110,xF 112 2 5,xL 113 112,ycl 114,xX 115 2 113 114,xA 116 2 115,ybg 117 f_72 111 116,ybl 118 117] (ybu 118 (xR [xM 119 10,ycl 120,xF 121 2 5,xL 122 121,ycl 123,xX 124 2 122 123,xA 125 2 124,xO 126 (.build [.int .i64 0,.int .i64 0,.int .i64 0,.fslice 2 [],.int .i64 0,.int .i64 0,.fslice 1 [],.int .i64 0,.fslice 1 []] [(0,1,(.c (.int .i64 4))),(1,1,(.t 120)),(7,2,(.t 125))]),xO 127 (.bslice .imm 9 (List.replicate 1 [.int .i64 0,.int .i64 0,.int .i64 0,.fslice 2 [],.int .i64 0,.int .i64 0,.fslice 1 [],.int .i64 0,.fslice 1 []]) [(0,(.t 126))]),ycx 128 9 120 119 127,xM 10 128]))) (yc1 (xM 129 10) 6 129)
def c_107_k4:ACode:=ybn [xM 89 9,xN 90 89,xM 13 90] 4 c_107_l2 c_107_k3
def c_107_k5:ACode:=ybn [ybd 12] 2 c_107_l1 c_107_k4
def c_107:AFn:=⟨3,[.tmp 6],ya2 [xJ 4 1,xJ 5 2,xC 6 (.fslice 9 [])] (xD [yb4 14 4,xL 15 14,ycl 16,xX 17 1 15 16,xL 18 17,yb4 19 5,xL 20 19,ycl 21,xX 22 1 20 21,xL 23 22,xM 7 18,xM 8 23]) (yaa [xM 24 7,ydb 25,ybg 26 f_188 24 25,xM 9 26] (ybk [ycv 10 9] [ybd 11] 0 c_107_l0 c_107_k5))⟩
def c_108_l0:ACode:=yca [xM 6 4,ycl 7,xN 8 7,xB 9 .lss 6 8] 9 0 1 (yar [ycl 12,xM 13 4,xX 14 9 12 13,yb4 15 14,xL 16 15,xM 5 16] [ycb 17,yb5 18 .lss 17,xM 19 18,ya1 20 19 5,ya9 21 19 .gtr 20 4,xW 22 19 21] (ybu 22 (xR [ycw])) (xR [ycb 23,xO 24 (ybc 1 (some 5) 3 (.t 23)),xL 25 24,yb5 26 .add 25,xO 27 (ybc 1 (some 5) 3 (.t 23)),xS 1 27 26])) [xM 10 4,yb5 11 .add 10,xM 4 11]
def c_108_k1:ACode:=ycf (xA 28 5 3) (xS 5 2 28)
def c_108:AFn:=⟨1,[.cell 2 true 5],yaa [yaz 2 [ybo,ybo,ybo,ybo,ybo]] (ybk [yaz 3 [ybo,ybo,ybo,ybo,ybo]] [yby] 0 c_108_l0 c_108_k1)⟩
def c_109_l0:ACode:=yci [xM 32 11,xM 33 2,xN 34 33,xB 35 .lss 32 34] 35 0 1 (.region true [(0,15),(2,15),(5,15),(9,15),(10,15)] [⟨some 39,none,.load true 9 (.t 3)⟩,⟨some 40,none,.faddr 0 (.t 10)⟩,⟨some 41,none,.load false 1 (.t 40)⟩,⟨some 42,none,.mov (.t 11)⟩,⟨some 43,none,.iaddr 4 none (.t 41) (.t 42)⟩,⟨some 44,none,.load true 4 (.t 43)⟩,⟨some 45,none,.mov (.t 2)⟩,⟨some 46,none,.mov (.t 11)⟩,⟨some 47,none,.iaddr 9 none (.t 45) (.t 46)⟩,⟨some 48,none,.load true 9 (.t 47)⟩,⟨some 49,none,.pcall f_190 [.t 39,.t 44,.t 48]⟩,⟨some 38,none,.mov (.t 49)⟩,⟨some 50,none,.ext 0 (.t 38)⟩,⟨some 51,none,.ext 1 (.t 38)⟩,⟨some 52,none,.ext 2 (.t 38)⟩,⟨some 12,none,.alloc [.fslice 1 [],.fslice 1 [],.fslice 2 [],.fslice 1 []]⟩,⟨none,none,.store 4 (.t 12) (.t 50)⟩,⟨some 13,none,.mov (.t 51)⟩,⟨some 14,none,.mov (.t 52)⟩] (some [12])) (ybj [xM 53 14,yc2 54 .neq 53] 54 [xO 55 (.build [.fslice 4 [],.fslice 1 []] []),xM 56 11,xM 57 14,xS 2 6 55,xM 7 56,xM 8 57] (yaa [yb4 58 10,xL 59 58,xA 60 4 12,xO 61 (.bslice .imm 4 (List.replicate 1 [.fslice 1 [],.fslice 1 [],.fslice 2 [],.fslice 1 []]) [(0,(.t 60))]),ycx 62 4 96 59 61,yb4 63 10,xS 1 63 62] (xR [yce 64 10,xL 65 64,xM 66 13,xO 67 (.bslice .imm 1 (List.replicate 1 [.int .i64 0]) [(0,(.t 66))]),ycx 68 1 8 65 67,yce 69 10,xS 1 69 68]))) [xM 36 11,yb5 37 .add 36,xM 11 37]
def c_109_k1:ACode:=yae [xA 70 2 10,xS 2 6 70,ybd 7,ybd 8]
def c_109:AFn:=⟨3,[.cell 6 true 2,.tmp 7,.tmp 8],yaa [yda 3,xJ 4 1,yaz 6 [.fslice 4 [],.fslice 1 []],ybd 7,ybd 8] (yar [xA 15 9 3,xA 16 4 4,ybg 17 f_19 15 16,xM 9 17] [xM 18 9,yc2 19 .eql 18,xM 20 19,ybh 21 20 2,yaq 22 20 (ya5 21),yc0 23 20 .gtr 22 64,xV 24 20 23] (ybu 24 (xR [xI 9 12])) (ybj [xM 25 9,yc2 26 .neq 25] 26 [xO 27 (.build [.fslice 4 [],.fslice 1 []] []),xM 28 9,xS 2 6 27,yb0 7,xM 8 28] (ybk [xA 29 4 4,xO 30 (.bslice .imm 4 (List.replicate 1 [.fslice 1 [],.fslice 1 [],.fslice 2 [],.fslice 1 []]) [(0,(.t 29))]),xO 31 (.build [.fslice 4 [],.fslice 1 []] [(0,1,(.t 30))]),yaz 10 [.fslice 4 [],.fslice 1 []],xS 2 10 31] [ybd 11] 0 c_109_l0 c_109_k1)))⟩
def c_110_l0:ACode:=yci [ycb 11,ycl 12,xN 13 12,xB 14 .lss 11 13] 14 0 1 (xD [ycl 17,ycb 18,xX 19 5 17 18,yce 20 19,xA 21 4 20,ych 22,ycb 23,xX 24 5 22 23,yce 25 24,xA 26 4 25,ybg 27 f_31 21 26,ybl 28 27]) (yai 28 [yc7]) [ycb 15,yb5 16 .add 15,xM 5 16]
def c_110_k1:ACode:=yc9 (xC 4 ybw)
def c_110:AFn:=⟨2,[.tmp 4],ya4 [yc7] [ycl 6,xN 7 6,ych 8,xN 9 8,xB 10 .neq 7 9] 10 [yc7] (ybn [ycw] 0 c_110_l0 c_110_k1)⟩
def c_111_l0:ACode:=yci [ycb 11,ycl 12,xN 13 12,xB 14 .lss 11 13] 14 0 1 (xD [ycl 17,ycb 18,xX 19 1 17 18,xL 20 19,ych 21,ycb 22,xX 23 1 21 22,xL 24 23,xB 25 .neq 20 24]) (yai 25 [yc7]) [ycb 15,yb5 16 .add 15,xM 5 16]
def c_111_k1:ACode:=yc9 (xC 4 ybw)
def c_111:AFn:=⟨2,[.tmp 4],ya4 [yc7] [ycl 6,xN 7 6,ych 8,xN 9 8,xB 10 .neq 7 9] 10 [yc7] (ybn [ycw] 0 c_111_l0 c_111_k1)⟩
def c_112_l0:ACode:=ycz [xB 27 .lss 26 25] 27 2 3 (ybr [xM 28 26,xX 29 5 24 26,xA 30 5 29,yaz 9 [ybo,.fslice 2 [],ybo,ybo,.fslice 1 []],xM 8 28,xS 5 9 30] [ycb 31,ydb 32,xX 33 1 31 32,xL 34 33,ybl 35 34,xM 36 35,ybv 37 36 1 7,yaq 38 36 (ycy 4 37),ybv 39 36 1 9,yaq 40 36 (ycy 4 39),ycg 41 36 f_187 [.t 38,.t 40],xV 42 36 41] (ybu 42 (yaa [ycb 43,ydb 44,xX 45 1 43 44,⟨none,none,.store 1 (.t 45) (.c (.bool true))⟩] (.exit 1)))) [yb5 46 .add 26,xM 26 46]
def c_112_k1:ACode:=yc9 yc7
def c_112_k2:ACode:=xR [yb5 47 .add 20,xM 20 47]
def c_112_l3:ACode:=ybm [xB 21 .lss 20 19] 21 0 (yaj 1 (ybk [xX 22 5 18 20,xA 23 5 22,yaz 7 [ybo,.fslice 2 [],ybo,ybo,.fslice 1 []],xS 5 7 23] [ych 24,xN 25 24,ybd 26] 2 c_112_l0 c_112_k1) c_112_k2)
def c_112_k4:ACode:=yc9 (xC 4 ybw)
def c_112:AFn:=⟨2,[.tmp 4],ya4 [yc7] [ycl 10,xN 11 10,ych 12,xN 13 12,xB 14 .neq 11 13] 14 [yc7] (ya2 [ych 15,xN 16 15,xO 17 (.mkslice .row 1 1 [.bool false] (.t 16) (.t 16)),xM 5 17] .skip (ybn [ycl 18,xN 19 18,ybd 20] 0 c_112_l3 c_112_k4))⟩
def c_125:AFn:=⟨1,[.cell 2 true 4],ycm (yda 1) (yaz 2 [ybo,ybo,ybo,ybo]) (yc4 0 [yb4 4 1,xL 5 4,yb7 6 f_194 5,ybl 7 6,xM 3 7] 3 [ycj 8 f_195 (yan 6) 0 (yan 0) 0,xS 4 2 8] (ybp [yce 10 1,xL 11 10,xN 12 11,xK 13 .gtr 12 8,xM 9 13] 9 [ycj 14 f_195 (yan 12) 0 (yan 1) 0,xS 4 2 14] (ybp [xF 16 3 1,xL 17 16,xN 18 17,xK 19 .gtr 18 4,xM 15 19] 15 [ycj 20 f_195 (yan 12) 0 (yan 3) 0,xS 4 2 20] (ybp [xF 22 4 1,xL 23 22,xN 24 23,xK 25 .gtr 24 16,xM 21 25] 21 [ycj 26 f_195 (yan 12) 0 (yan 4) 0,xS 4 2 26] (ya3 [xF 28 5 1,xL 29 28,xN 30 29,xK 31 .gtr 30 12,xM 27 31] 27 [ycj 32 f_195 (yan 12) 0 (yan 5) 0,xS 4 2 32])))) (ycf (xO 33 (.build [.int .i64 0,.int .i64 0,.int .i64 0,.int .i64 0] [])) (xS 4 2 33)))⟩
def c_126_l0:ACode:=yci [ycb 30,xM 31 3,xB 32 .lss 30 31,xM 33 32,ybh 34 33 4,yc0 35 33 .eql 34 0,xV 36 33 35] 36 2 3 (xD [yce 39 1,xL 40 39,ycb 41,xX 42 2 40 41,yb4 43 42,xL 44 43,yce 45 1,xL 46 45,xM 47 3,xX 48 2 46 47,yb4 49 48,xL 50 49,xB 51 .eql 44 50]) (ybu 51 (xR [xI 4 7])) [ycb 37,yb5 38 .add 37,xM 5 38]
def c_126_k1:ACode:=ya3 [xM 52 4,yc2 53 .neq 52] 53 [xM 54 4,xM 55 3,ycj 56 f_195 (.t 54) 1 (.t 55) 0,xS 4 2 56]
def c_126_k2:ACode:=xR [xM 11 3,yb5 12 .add 11,xM 3 12]
def c_126_l3:ACode:=ya8 [xM 6 3,yce 7 1,xL 8 7,xN 9 8,xB 10 .lss 6 9] 10 0 (yaj 1 (yar [yce 13 1,xL 14 13,xM 15 3,xX 16 2 14 15,xA 17 2 16,yb7 18 f_196 17,xM 4 18] [xM 19 4,yc2 20 .eql 19,xM 21 20,ybv 22 21 1 1,ybz 23 21 1 22,ybh 24 21 3,yaq 25 21 (yc6 2 23 24),ybv 26 21 0 25,ybz 27 21 1 26,ybq 28 21 .eql 27 (.c (.str [109,101,116,97])),xV 29 21 28] (ybu 29 (xR [xI 4 6])) (ybn [ycw] 2 c_126_l0 c_126_k1)) c_126_k2)
def c_126_k4:ACode:=ycf (xO 57 (.build [.int .i64 0,.int .i64 0,.int .i64 0,.int .i64 0] [])) (xS 4 2 57)
def c_126:AFn:=⟨1,[.cell 2 true 4],ybk [yda 1,yaz 2 [ybo,ybo,ybo,ybo]] [ybd 3] 0 c_126_l3 c_126_k4⟩
def c_127_l0:ACode:=yca [xM 12 3,xF 13 2 1,xL 14 13,xN 15 14,xB 16 .lss 12 15] 16 0 1 (yaa [xF 19 2 1,xL 20 19,xM 21 3,ybg 22 f_197 20 21,xM 4 22] (ya3 [xM 23 4,yc2 24 .neq 23] 24 [xM 25 4,xM 26 3,ycj 27 f_195 (.t 25) 2 (.t 26) 0,xS 4 2 27])) [xM 17 3,yb5 18 .add 17,xM 3 18]
def c_127_l1:ACode:=yci [xM 32 6,ycb 33,xN 34 33,xB 35 .lss 32 34] 35 2 3 (xD [xM 38 6,xF 39 2 1,xL 40 39,xN 41 40,xB 42 .geq 38 41,xM 43 42,yaw 44 43 2 1,ybt 45 43 44,ya1 46 43 6,yac 47 43 (yc6 2 45 46),yac 48 43 (ycy 2 47),ya1 49 43 5,ya1 50 43 6,yac 51 43 (yc6 2 49 50),yac 52 43 (ycy 2 51),yac 53 43 (.eqs true true [.s,.i] (.t 48) (.t 52)),xW 54 43 53]) (yai 54 [xM 55 6,ycj 56 f_195 (yan 5) 2 (.t 55) 0,xS 4 2 56]) [xM 36 6,yb5 37 .add 36,xM 6 37]
def c_127_k2:ACode:=ycf (xO 57 (.build [.int .i64 0,.int .i64 0,.int .i64 0,.int .i64 0] [])) (xS 4 2 57)
def c_127_k3:ACode:=ybk [xO 28 (.build [.str [],.int .i64 0] [(0,1,(.c (.str [105,110]))),(1,1,(.c (.int .i64 8)))]),xO 29 (.build [.str [],.int .i64 0] [(0,1,(.c (.str [111,117,116]))),(1,1,(.c (.int .i64 8)))]),xO 30 (.build [.str [],.int .i64 0] [(0,1,(.c (.str [100,114,111,112]))),(1,1,(.c (.int .i64 1)))]),xO 31 (.bslice .imm 2 (List.replicate 3 [.str [],.int .i64 0]) [(0,(.t 28)),(1,(.t 29)),(2,(.t 30))]),xM 5 31] [ybd 6] 2 c_127_l1 c_127_k2
def c_127:AFn:=⟨1,[.cell 2 true 4],ya4 [yda 1,yaz 2 [ybo,ybo,ybo,ybo]] [xF 7 2 1,xL 8 7,xN 9 8,xK 10 .gtr 9 12] 10 [ycj 11 f_195 (yan 12) 2 (yan 0) 0,xS 4 2 11] (ybn [ybd 3] 0 c_127_l0 c_127_k3)⟩
def c_128_l0:ACode:=yci [ycb 19,xM 20 3,xB 21 .lss 19 20,xM 22 21,ybh 23 22 4,yc0 24 22 .eql 23 0,xV 25 22 24] 25 2 3 (xD [xF 28 3 1,xL 29 28,ycb 30,xX 31 3 29 30,yb4 32 31,xL 33 32,xF 34 3 1,xL 35 34,xM 36 3,xX 37 3 35 36,yb4 38 37,xL 39 38,xB 40 .eql 33 39]) (ybu 40 (xR [xI 4 7])) [ycb 26,yb5 27 .add 26,xM 5 27]
def c_128_k1:ACode:=ya3 [xM 41 4,yc2 42 .neq 41] 42 [xM 43 4,xM 44 3,ycj 45 f_195 (.t 43) 3 (.t 44) 0,xS 4 2 45]
def c_128_k2:ACode:=xR [xM 11 3,yb5 12 .add 11,xM 3 12]
def c_128_l3:ACode:=ya8 [xM 6 3,xF 7 3 1,xL 8 7,xN 9 8,xB 10 .lss 6 9] 10 0 (yaj 1 (ybk [xF 13 3 1,xL 14 13,xM 15 3,xX 16 3 14 15,xA 17 3 16,yb7 18 f_198 17,xM 4 18] [ycw] 2 c_128_l0 c_128_k1) c_128_k2)
def c_128_k4:ACode:=ycf (xO 46 (.build [.int .i64 0,.int .i64 0,.int .i64 0,.int .i64 0] [])) (xS 4 2 46)
def c_128:AFn:=⟨1,[.cell 2 true 4],ybk [yda 1,yaz 2 [ybo,ybo,ybo,ybo]] [ybd 3] 0 c_128_l3 c_128_k4⟩
def c_129_l0:ACode:=yci [xM 26 6,xM 27 3,xB 28 .lss 26 27] 28 2 3 (xD [xF 31 4 1,xL 32 31,xM 33 6,xX 34 3 32 33,yb4 35 34,xL 36 35,xF 37 4 1,xL 38 37,xM 39 3,xX 40 3 38 39,yb4 41 40,xL 42 41,xB 43 .eql 36 42]) (yai 43 [xM 44 3,ycj 45 f_195 (yan 7) 4 (.t 44) 0,xS 4 2 45]) [xM 29 6,yb5 30 .add 29,xM 6 30]
def c_129_k1:ACode:=xR [xM 12 3,yb5 13 .add 12,xM 3 13]
def c_129_l2:ACode:=ya8 [xM 7 3,xF 8 4 1,xL 9 8,xN 10 9,xB 11 .lss 7 10] 11 0 (yaj 1 (ya4 [xA 15 9 1,xM 16 3,ybg 17 f_199 15 16,xM 14 17,xE 18 0 14,xE 19 1 14,xM 4 18,xM 5 19] [ycb 20,yc2 21 .neq 20] 21 [ycb 22,xM 23 3,xM 24 4,yb9 25 f_195 (.t 22) 4 (.t 23) (.t 24),xS 4 2 25] (yaa [ybd 6] (yam 2 c_129_l0))) c_129_k1)
def c_129_k3:ACode:=ycf (xO 46 (.build [.int .i64 0,.int .i64 0,.int .i64 0,.int .i64 0] [])) (xS 4 2 46)
def c_129:AFn:=⟨1,[.cell 2 true 4],ybk [yda 1,yaz 2 [ybo,ybo,ybo,ybo]] [ybd 3] 0 c_129_l2 c_129_k3⟩
def c_130_l0:ACode:=yci [xM 26 6,xM 27 3,xB 28 .lss 26 27] 28 2 3 (xD [xF 31 5 1,xL 32 31,xM 33 6,xX 34 6 32 33,yb4 35 34,xL 36 35,xF 37 5 1,xL 38 37,xM 39 3,xX 40 6 38 39,yb4 41 40,xL 42 41,xB 43 .eql 36 42]) (yai 43 [xM 44 3,ycj 45 f_195 (yan 7) 5 (.t 44) 0,xS 4 2 45]) [xM 29 6,yb5 30 .add 29,xM 6 30]
def c_130_k1:ACode:=xR [xM 12 3,yb5 13 .add 12,xM 3 13]
def c_130_l2:ACode:=ya8 [xM 7 3,xF 8 5 1,xL 9 8,xN 10 9,xB 11 .lss 7 10] 11 0 (yaj 1 (ya4 [xA 15 9 1,xM 16 3,ybg 17 f_200 15 16,xM 14 17,xE 18 0 14,xE 19 1 14,xM 4 18,xM 5 19] [ycb 20,yc2 21 .neq 20] 21 [ycb 22,xM 23 3,xM 24 4,yb9 25 f_195 (.t 22) 5 (.t 23) (.t 24),xS 4 2 25] (yaa [ybd 6] (yam 2 c_130_l0))) c_130_k1)
def c_130_k3:ACode:=ycf (xO 46 (.build [.int .i64 0,.int .i64 0,.int .i64 0,.int .i64 0] [])) (xS 4 2 46)
def c_130:AFn:=⟨1,[.cell 2 true 4],ybk [yda 1,yaz 2 [ybo,ybo,ybo,ybo]] [ybd 3] 0 c_130_l2 c_130_k3⟩
def c_131:AFn:=⟨1,[.cell 2 true 4],ycm (yda 1) (yaz 2 [ybo,ybo,ybo,ybo]) (ya4 [xA 7 9 1,yb7 8 f_201 7,ydb 6,xE 9 0 6,xE 10 1 6,xE 11 2 6,xM 3 9,xM 4 10,xM 5 11] [ycb 12,yc2 13 .neq 12] 13 [ycb 14,xM 15 3,xM 16 4,yb9 17 f_195 (.t 14) 6 (.t 15) (.t 16),xS 4 2 17] (ya4 [xA 19 9 1,yb7 20 f_202 19,xM 18 20,xE 21 0 18,xE 22 1 18,xM 3 21,xM 5 22] [ycb 23,yc2 24 .neq 23] 24 [ycb 25,xM 26 3,ycj 27 f_195 (.t 25) 7 (.t 26) 0,xS 4 2 27] (ya4 [xA 29 9 1,yb7 30 f_203 29,xM 28 30,xE 31 0 28,xE 32 1 28,xM 3 31,xM 5 32] [ycb 33,yc2 34 .neq 33] 34 [ycb 35,xM 36 3,ycj 37 f_195 (.t 35) 8 (.t 36) 0,xS 4 2 37] (ycf (xO 38 (.build [.int .i64 0,.int .i64 0,.int .i64 0,.int .i64 0] [])) (xS 4 2 38)))))⟩
def c_145:AFn:=⟨1,[],yaa [yda 1] (ybr [yb4 2 1,xL 3 2,yb7 4 f_229 3,ybf 5 f_228 4 (yan 6),ycj 6 f_227 (.t 5) 0 (yan 0) 0] [yce 7 1,xL 8 7,xN 9 8,xK 10 .gtr 9 8,ybf 11 f_228 10 (yan 12),ycj 12 f_227 (.t 11) 0 (yan 1) 0] (ybr [xF 13 3 1,xL 14 13,xN 15 14,xK 16 .gtr 15 4,ybf 17 f_228 16 (yan 12),ycj 18 f_227 (.t 17) 0 (yan 3) 0] [xF 19 4 1,xL 20 19,xN 21 20,xK 22 .gtr 21 16,ybf 23 f_228 22 (yan 12),ycj 24 f_227 (.t 23) 0 (yan 4) 0] (xR [xF 25 5 1,xL 26 25,xN 27 26,xK 28 .gtr 27 12,ybf 29 f_228 28 (yan 12),ycj 30 f_227 (.t 29) 0 (yan 5) 0])))⟩
def c_146_l0:ACode:=yc5 [xB 12 .lss 11 10] 12 0 1 (xQ [xM 13 11,xX 14 2 9 11,xA 15 2 14,yaz 4 [.str [],.fslice 2 []],xM 3 13,xS 2 4 15] [4]) (ybr [xA 16 2 4,yb7 17 f_232 16,xM 18 3,ycj 19 f_227 (.t 17) 1 (.t 18) 0] [yb4 20 4,xL 21 20,xO 22 (yao .eql 21 (.c (.str [109,101,116,97]))),ybf 23 f_228 22 (yan 6),xM 24 3,ycj 25 f_227 (.t 23) 1 (.t 24) 0] (xR [xM 26 2,xM 27 3,ybg 28 f_233 26 27,ybf 29 f_228 28 (yan 7),xM 30 3,ycj 31 f_227 (.t 29) 1 (.t 30) 0])) [yb5 32 .add 11,xM 11 32]
def c_146:AFn:=⟨1,[],yaa [yda 1] (ybr [yce 5 1,xL 6 5,ybf 7 f_230 6 (.c (.func (.func f_231) [] [])),xM 2 7] [yce 8 1,xL 9 8,xN 10 9,ybd 11] (yam 0 c_146_l0))⟩
def c_147_l0:ACode:=yc5 [xB 20 .lss 19 18] 20 0 1 (xQ [xM 21 19,xX 22 2 17 19,xA 23 2 22,yaz 4 [.str [],ybo],xM 3 21,xS 2 4 23] [4]) (ybr [yb4 24 4,xL 25 24,yb7 26 f_229 25,ybf 27 f_228 26 (yan 6),xM 28 3,ycj 29 f_227 (.t 27) 2 (.t 28) 0] [yce 30 4,xL 31 30,yb7 32 f_236 31,ybf 33 f_228 32 (yan 10),xM 34 3,ycj 35 f_227 (.t 33) 2 (.t 34) 0] (xR [xM 36 2,xM 37 3,ybg 38 f_233 36 37,ybf 39 f_228 38 (yan 7),xM 40 3,ycj 41 f_227 (.t 39) 2 (.t 40) 0])) [yb5 42 .add 19,xM 19 42]
def c_147_l1:ACode:=yc5 [xK 48 .lss 47 3] 48 2 3 (xQ [xM 49 47,xO 50 (.idxa true 3 2 (.t 46) (.t 47)),yaz 6 [.str [],ybo],xM 5 49,xS 2 6 50] [6]) (ycd [ycb 51,xF 52 2 1,xL 53 52,xN 54 53,xB 55 .geq 51 54,xM 56 55,yaw 57 56 2 1,ybt 58 56 57,ya1 59 56 5,yac 60 56 (yc6 2 58 59),yac 61 56 (ycy 2 60),yac 62 56 (ycy 2 6),yac 63 56 (.eqs true true [.s,.i] (.t 61) (.t 62)),xW 64 56 63,ybf 65 f_228 64 (yan 5),ycb 66] (xR [ycj 67 f_227 (.t 65) 2 (.t 66) 0])) [yb5 68 .add 47,xM 47 68]
def c_147_k2:ACode:=yaa [xO 43 (.build [.str [],.int .i64 0] [(0,1,(.c (.str [105,110]))),(1,1,(.c (.int .i64 8)))]),xO 44 (.build [.str [],.int .i64 0] [(0,1,(.c (.str [111,117,116]))),(1,1,(.c (.int .i64 8)))]),xO 45 (.build [.str [],.int .i64 0] [(0,1,(.c (.str [100,114,111,112]))),(1,1,(.c (.int .i64 1)))]),xO 46 (.build [.str [],.int .i64 0,.str [],.int .i64 0,.str [],.int .i64 0] [(0,2,(.t 43)),(2,2,(.t 44)),(4,2,(.t 45))]),ybd 47] (yam 2 c_147_l1)
def c_147:AFn:=⟨1,[],ybr [yda 1] [xF 7 2 1,xL 8 7,xN 9 8,xK 10 .gtr 9 12,ybf 11 f_228 10 (yan 12),ycj 12 f_227 (.t 11) 2 (yan 0) 0] (ybk [xF 13 2 1,xL 14 13,ybf 15 f_234 14 (.c (.func (.func f_235) [] [])),xM 2 15] [xF 16 2 1,xL 17 16,xN 18 17,ybd 19] 0 c_147_l0 c_147_k2)⟩
def c_148_l0:ACode:=yc5 [xB 18 .lss 17 16] 18 0 1 (xQ [xM 19 17,xX 20 3 15 17,xA 21 3 20,yaz 4 [.str [],ybo,ybo],xM 3 19,xS 3 4 21] [4]) (yaa [xA 22 3 4,yb7 23 f_239 22,xM 24 3,ycj 25 f_227 (.t 23) 3 (.t 24) 0] (xR [xM 26 2,xM 27 3,ybg 28 f_233 26 27,ybf 29 f_228 28 (yan 7),xM 30 3,ycj 31 f_227 (.t 29) 3 (.t 30) 0])) [yb5 32 .add 17,xM 17 32]
def c_148_l1:ACode:=ycz [xB 40 .lss 39 38] 40 2 3 (ycn (xM 41 39) 5 41 (ybr [xA 43 9 1,ycb 44,ybg 45 f_242 43 44,xM 42 45,xE 46 0 42,xE 47 1 42,xM 6 46,xM 7 47] [xM 48 7,ycb 49,xM 50 6,yb9 51 f_227 (.t 48) 4 (.t 49) (.t 50)] (xR [xM 52 2,ycb 53,ybg 54 f_233 52 53,ybf 55 f_228 54 (yan 7),ycb 56,ycj 57 f_227 (.t 55) 4 (.t 56) 0]))) [yb5 58 .add 39,xM 39 58]
def c_148_l2:ACode:=ycz [xB 66 .lss 65 64] 66 4 5 (ycn (xM 67 65) 8 67 (ybr [xA 69 9 1,ydb 70,ybg 71 f_175 69 70,xM 68 71,xE 72 0 68,xE 73 1 68,xM 9 72,xM 10 73] [xM 74 10,ydb 75,xM 76 9,yb9 77 f_227 (.t 74) 5 (.t 75) (.t 76)] (xR [xM 78 2,ydb 79,ybg 80 f_233 78 79,ybf 81 f_228 80 (yan 7),ydb 82,ycj 83 f_227 (.t 81) 5 (.t 82) 0]))) [yb5 84 .add 65,xM 65 84]
def c_148_k3:ACode:=ybr [xF 59 5 1,xL 60 59,ybf 61 f_243 60 (.c (.func (.func f_244) [] [])),xM 2 61] [xF 62 5 1,xL 63 62,xN 64 63,ybd 65] (yam 4 c_148_l2)
def c_148_k4:ACode:=ybk [xF 33 4 1,xL 34 33,ybf 35 f_240 34 (.c (.func (.func f_241) [] [])),xM 2 35] [xF 36 4 1,xL 37 36,xN 38 37,ybd 39] 2 c_148_l1 c_148_k3
def c_148:AFn:=⟨1,[],yaa [yda 1] (ybk [xF 11 3 1,xL 12 11,ybf 13 f_237 12 (.c (.func (.func f_238) [] [])),xM 2 13] [xF 14 3 1,xL 15 14,xN 16 15,ybd 17] 0 c_148_l0 c_148_k4)⟩
def c_149:AFn:=⟨1,[],ybr [yda 1] [xA 7 9 1,yb7 8 f_245 7,ydb 6,xE 9 0 6,xE 10 1 6,xE 11 2 6,xM 2 9,xM 3 10,xM 4 11] (ybr [xM 12 4,xM 13 2,xM 14 3,yb9 15 f_227 (.t 12) 6 (.t 13) (.t 14)] [xA 17 9 1,yb7 18 f_246 17,xM 16 18,xE 19 0 16,xE 20 1 16,xM 5 19,xM 4 20] (ybr [xM 21 4,ycb 22,ycj 23 f_227 (.t 21) 7 (.t 22) 0] [xA 25 9 1,yb7 26 f_247 25,xM 24 26,xE 27 0 24,xE 28 1 24,xM 5 27,xM 4 28] (xR [xM 29 4,ycb 30,ycj 31 f_227 (.t 29) 8 (.t 30) 0])))⟩
def c_150:AFn:=⟨2,[.tmp 3],yb1 [yda 2,ybi 3] [yce 4 2,xA 5 4 4,yce 6 1,xA 7 4 6,ybg 8 f_89 5 7,ydb 3]⟩
def c_151_l0:ACode:=yca [xM 12 4,ycl 13,xN 14 13,xB 15 .lss 12 14] 15 0 1 (xR [xM 18 3,ycl 19,xM 20 4,xX 21 1 19 20,xL 22 21,xO 23 (.minmax true [.t 18,.t 22]),xM 3 23]) [xM 16 4,yb5 17 .add 16,xM 4 17]
def c_151_k1:ACode:=yc1 (xM 24 3) 2 24
def c_151:AFn:=⟨1,[.tmp 2],yar [xC 2 (yco 0)] [ycl 5,xN 6 5,yb5 7 .lss 6] (ybu 7 (xR [xO 8 (.mkiface 9 (.c (.str [115,108,105,99,101,115,46,77,97,120,58,32,101,109,112,116,121,32,108,105,115,116]))),⟨none,none,.panic (.t 8)⟩])) (ybk [ycl 9,xO 10 (yb2 1 9 (yan 0)),xL 11 10,xM 3 11] [xI 4 1] 0 c_151_l0 c_151_k1)⟩
def c_152:AFn:=⟨1,[.tmp 2],ya4 [xC 2 (yco 0)] [ycl 3,xO 4 (.bslice .imm 1 (List.replicate 1 [.int .i64 0]) [(0,(.t 3))]),yb7 5 f_248 4,ybl 6 5] 6 [xC 2 (yco 0)] (yae [ycl 7,xO 8 (.bin .sub (yan 32) (.t 7)),xO 9 (.bin .shr (.c (yco 4294967295)) (.t 8)),xM 2 9])⟩
def c_153_l0:ACode:=yci [xM 29 10,xM 30 9,xN 31 30,xB 32 .lss 29 31] 32 0 1 (xD [yb4 35 5,xL 36 35,xM 37 10,xX 38 2 36 37,xA 39 2 38,xM 40 9,xM 41 10,xX 42 1 40 41,xL 43 42,xF 44 5 3,xL 45 44,ych 46,xX 47 6 45 46,yce 48 47,xL 49 48,xM 50 10,xX 51 3 49 50,xF 52 2 51,xL 53 52,yct 54 f_250 39 43 53,xM 8 54]) (ya3 [ydb 55,yc2 56 .neq 55] 56 [ydb 57,xM 6 57]) [xM 33 10,yb5 34 .add 33,xM 10 34]
def c_153_k1:ACode:=yc4 2 [yce 59 5,xL 60 59,yc2 61 .lss 60,xM 62 61,yc3 63 62 5,ybt 64 62 63,ya9 65 62 .gtr 64 255,xW 66 62 65,xM 58 66] 58 [xI 6 9] (ybp [yce 68 5,xL 69 68,yc2 70 .gtr 69,xM 71 70,yaq 72 71 (ycy 9 3),ybh 73 71 1,ycg 74 71 f_251 [.t 72,.t 73],yc0 75 71 .neq 74 3,xV 76 71 75,xM 67 76] 67 [xI 6 11] (ya3 [xA 78 9 3,ych 79,xF 80 2 5,yb4 81 80,xL 82 81,yct 83 f_155 78 79 82,ybl 84 83,xM 77 84] 77 [xI 6 8])) (yae [xA 85 9 3,xF 86 2 5,xA 87 2 86,ybg 88 f_156 85 87,xM 6 88])
def c_153:AFn:=⟨3,[.tmp 6],yaa [yda 3,xJ 5 2,ybd 6] (ya4 [xA 12 9 3,ych 13,ybg 14 f_200 12 13,xM 11 14,xE 15 0 11,xE 16 1 11,xM 7 15,xM 8 16] [ydb 17,yc2 18 .neq 17] 18 [ydb 19,xM 6 19] (ya4 [xA 20 9 3,ych 21,ybg 22 f_249 20 21,xM 9 22] [yb4 23 5,xL 24 23,xN 25 24,xM 26 9,xN 27 26,xB 28 .neq 25 27] 28 [xI 6 2] (ybn [ybd 10] 0 c_153_l0 c_153_k1)))⟩
def c_154_l0:ACode:=yci [ycb 6,ycl 7,xN 8 7,xB 9 .lss 6 8] 9 0 1 (xD [ycl 12,ycb 13,xX 14 5 12 13,yce 15 14,xA 16 4 15,xA 17 4 3,ybg 18 f_85 16 17]) (yai 18 [xC 4 ybw]) [ycb 10,yb5 11 .add 10,xM 5 11]
def c_154_k1:ACode:=yc9 yc7
def c_154:AFn:=⟨2,[.tmp 4],ybk [xJ 3 1,yc7] [ycw] 0 c_154_l0 c_154_k1⟩
def c_155:AFn:=⟨3,[.tmp 6],yb1 [yda 3,ybi 6] [xA 7 9 3,ych 8,ybg 9 f_252 7 8,xM 10 9,ybv 11 10 5 3,ybz 12 10 1 11,ybh 13 10 1,yaq 14 10 (yc6 6 12 13),ybv 15 10 2 14,ybz 16 10 1 15,ybh 17 10 2,ycg 18 10 f_253 [.t 16,.t 17],yc0 19 10 .geq 18 0,xV 20 10 19,xM 6 20]⟩
def c_156_l0:ACode:=yci [xM 31 6,ycb 32,xN 33 32,xB 34 .lss 31 33] 34 0 1 (xD [yce 37 3,xL 38 37,xM 39 6,xX 40 1 38 39,xL 41 40,ycb 42,xM 43 6,xX 44 2 42 43,yce 45 44,xL 46 45,ybg 47 f_254 41 46,ybl 48 47]) (yai 48 [xI 4 9]) [xM 35 6,yb5 36 .add 35,xM 6 36]
def c_156_k1:ACode:=yc9 yby
def c_156:AFn:=⟨2,[.tmp 4],ya4 [yda 2,xJ 3 1,yby] [yb4 7 3,xL 8 7,yc2 9 .lss 8,xM 10 9,yaw 11 10 0 3,ybt 12 10 11,yaw 13 10 4 2,ybt 14 10 13,ybb 15 10 14,ybx 16 10 .geq 12 15,xW 17 10 16] 17 [xI 4 8] (ya4 [xF 18 4 2,xL 19 18,yb4 20 3,xL 21 20,xX 22 3 19 21,yce 23 22,xL 24 23,xM 5 24] [yce 25 3,xL 26 25,xN 27 26,ycb 28,xN 29 28,xB 30 .neq 27 29] 30 [xI 4 2] (ybn [ybd 6] 0 c_156_l0 c_156_k1))⟩
def c_157_l0:ACode:=yca [xM 7 6,ych 8,xB 9 .lss 7 8] 9 0 1 (xR [ycb 12,xO 13 (.bin .mul (.c (.int .u64 2)) (.t 12)),xM 5 13]) [xM 10 6,yb5 11 .add 10,xM 6 11]
def c_157_k1:ACode:=yae [ycl 14,xO 15 (.conv .u64 (.t 14)),ycb 16,xB 17 .lss 15 16,xM 4 17]
def c_157:AFn:=⟨2,[.tmp 4],yaa [yc7] (ybk [xC 5 (.int .u64 1)] [ybd 6] 0 c_157_l0 c_157_k1)⟩
def c_158:AFn:=⟨1,[.tmp 2],ya4 [yda 1,ybd 2] [yce 3 1,xL 4 3,yb5 5 .lss 4,ycb 6,yc3 7 6 1,ybt 8 6 7,ya9 9 6 .gtr 8 32,xW 10 6 9] 10 [ybd 2] (yae [yce 11 1,xL 12 11,xM 2 12])⟩
def c_160:AFn:=⟨1,[.tmp 2],yb1 [yda 1,ybi 2] [xF 3 2 1,xL 4 3,yb5 5 .geq 4,ycb 6,ybv 7 6 2 1,ybz 8 6 1 7,yc0 9 6 .leq 8 64,xV 10 6 9,xM 2 10]⟩
def c_164_l0:ACode:=yca [xM 16 10,yb4 17 4,xL 18 17,xN 19 18,xB 20 .lss 16 19] 20 0 1 (yaa [xM 23 10,ych 24,xB 25 .eql 23 24] (yab 25 (yaa [yb4 26 9,xL 27 26,xM 28 2,xO 29 (.bslice .imm 1 (List.replicate 1 [.fslice 5 []]) [(0,(.t 28))]),ycx 30 1 24 27 29,yb4 31 9,xS 1 31 30] (xR [yce 32 9,xL 33 32,xM 34 3,xO 35 (.bslice .imm 1 (List.replicate 1 [.int .i64 0]) [(0,(.t 34))]),ycx 36 1 8 33 35,yce 37 9,xS 1 37 36])) (ycd [yb4 38 9,xL 39 38,yb4 40 4,xL 41 40,xM 42 10,xX 43 1 41 42,xL 44 43,xO 45 (.bslice .imm 1 (List.replicate 1 [.fslice 5 []]) [(0,(.t 44))]),ycx 46 1 24 39 45,yb4 47 9,xS 1 47 46] (xD [yce 48 9,xL 49 48,yce 50 4,xL 51 50,xM 52 10,xX 53 1 51 52,xL 54 53,xO 55 (.bslice .imm 1 (List.replicate 1 [.int .i64 0]) [(0,(.t 54))]),ycx 56 1 8 49 55,yce 57 9,xS 1 57 56])))) [xM 21 10,yb5 22 .add 21,xM 10 22]
def c_164_k1:ACode:=ycf (xA 58 4 9) (xS 4 8 58)
def c_164:AFn:=⟨4,[.cell 8 true 4],ycm (yda 4) (yaz 8 [.fslice 1 [],.fslice 1 [],.fslice 2 [],.fslice 1 []]) (ybk [xF 11 2 4,xL 12 11,xF 13 3 4,xL 14 13,xO 15 (.build [.fslice 1 [],.fslice 1 [],.fslice 2 [],.fslice 1 []] [(2,1,(.t 12)),(3,1,(.t 14))]),yaz 9 [.fslice 1 [],.fslice 1 [],.fslice 2 [],.fslice 1 []],xS 4 9 15] [ybd 10] 0 c_164_l0 c_164_k1)⟩
def c_165_l0:ACode:=yca [ycb 6,ycl 7,xN 8 7,xB 9 .lss 6 8] 9 0 1 (ya3 [ycl 12,ycb 13,xX 14 5 12 13,yb4 15 14,xL 16 15,ych 17,xB 18 .eql 16 17] 18 [ycb 19,xM 4 19]) [ycb 10,yb5 11 .add 10,xM 5 11]
def c_165_k1:ACode:=yc9 (yb0 4)
def c_165:AFn:=⟨2,[.tmp 4],ybk [yby] [ycw] 0 c_165_l0 c_165_k1⟩
def c_175:AFn:=⟨2,[.tmp 4,.tmp 5],ya4 [yda 2,yby,ycw] [ych 7,yc2 8 .lss 7,ydb 9,ya1 10 9 1,yaw 11 9 5 2,ybt 12 9 11,ybb 13 9 12,ybx 14 9 .geq 10 13,xW 15 9 14] 15 [yb0 4,xI 5 8] (.seq (xQ [xF 16 5 2,xL 17 16,ych 18,xX 19 6 17 18,xA 20 6 19,yaz 6 [.str [],.fslice 3 [],.fslice 1 [],ybo,.fslice 1 [],ybo],xS 6 6 20] [6]) (yc4 0 [yb4 22 6,xL 23 22,yb7 24 f_257 23,ybl 25 24,xM 21 25] 21 [yb0 4,xI 5 6] (ybp [yce 27 6,xL 28 27,xN 29 28,xK 30 .gtr 29 6,xM 31 30,yaw 32 31 2 6,ybt 33 31 32,ybb 34 31 33,ya9 35 31 .gtr 34 16,xW 36 31 35,xM 26 36] 26 [yb0 4,xI 5 12] (ya3 [xF 38 5 6,xL 39 38,yb5 40 .lss 39,xM 41 40,yaw 42 41 5 6,ybt 43 41 42,ya9 44 41 .gtr 43 256,xW 45 41 44,xM 37 45] 37 [yb0 4,xI 5 9])) (yad [xA 47 9 2,xA 48 6 6,ybg 49 f_258 47 48,xM 46 49,xE 50 0 46,xE 51 1 46,xM 4 50,xM 5 51] (ya3 [ycb 52,yc2 53 .neq 52] 53 [xM 54 4,ycb 55,xM 4 54,xM 5 55]) (yad [xA 56 9 2,xA 57 6 6,ybg 58 f_259 56 57,xM 5 58] (ya3 [ycb 59,yc2 60 .neq 59] 60 [ycb 61,xI 4 (-3),xM 5 61]) (ycf yby ycw)))))⟩
def c_176_l0:ACode:=yc5 [xB 20 .lss 19 18] 20 0 1 (xQ [xX 21 3 17 19,xA 22 3 21,yaz 7 [ybo,ybo,ybo],xS 3 7 22] [7]) (xR [ycb 23,xA 24 9 2,yb4 25 7,xA 26 2 25,ybg 27 f_261 24 26,xO 28 (.bslice .imm 1 (List.replicate 1 [.int .i64 0]) [(0,(.t 27))]),ycx 29 1 8 23 28,xM 5 29]) [yb5 30 .add 19,xM 19 30]
def c_176_k1:ACode:=yc1 (ycb 31) 4 31
def c_176:AFn:=⟨2,[.tmp 4],ya4 [yda 2,xC 4 (.fslice 1 [])] [xA 8 9 2,ych 9,ybg 10 f_260 8 9,ybl 11 10] 11 [xC 4 (.fslice 1 [])] (ybk [ycv 5 1] [xF 12 5 2,xL 13 12,ych 14,xX 15 6 13 14,yce 16 15,xL 17 16,xN 18 17,ybd 19] 0 c_176_l0 c_176_k1)⟩
def c_177:AFn:=⟨3,[.tmp 6],ycm (yda 3) (ybd 6) (yc4 0 [yb4 10 3,xL 11 10,xM 12 2,ybg 13 f_262 11 12,ybl 14 13,xM 15 14,yc3 16 15 3,ybt 17 15 16,ya1 18 15 2,ycc 19 15 f_262 [.t 17,.t 18],yac 20 15 (ya7 19),xW 21 15 20,xM 9 21] 9 [xI 6 9] (ybp [yb4 23 3,xL 24 23,yce 25 3,xL 26 25,xB 27 .andNot 24 26,xO 28 (yao .neq 27 (.c (yco 0))),xM 22 28] 22 [xI 6 5] (ycd [ych 30,yb5 31 .eql 30,xM 32 31,ybv 33 32 1 3,ybz 34 32 1 33,ybh 35 32 2,ycg 36 32 f_152 [.t 35],ybq 37 32 .neq 34 (.t 36),xV 38 32 37,xM 29 38] (yai 29 [xI 6 11]))) (yad [ych 39,xK 40 .eql 39 2] (ybu 40 (yaa [yce 42 3,xL 43 42,xM 44 2,ybg 45 f_263 43 44,xM 41 45,xE 46 0 41,xE 47 1 41,xM 7 46,xM 8 47] (ya3 [ydb 48,ybl 49 48] 49 [xI 6 11]))) (yc9 (ybd 6))))⟩
def c_178_l0:ACode:=yc5 [xB 20 .lss 19 18] 20 0 1 (xQ [xX 21 3 17 19,xA 22 3 21,yaz 7 [ybo,ybo,ybo],xS 3 7 22] [7]) (.block 2 (ybp [xF 24 2 7,xL 25 24,xK 26 .eql 25 3,xM 23 26] 23 [xI 4 3] (yaa [xF 28 2 7,xL 29 28,xK 30 .eql 29 2,xM 27 30] (ybu 27 (xR [xI 5 2]))))) [yb5 31 .add 19,xM 19 31]
def c_178_k1:ACode:=yc1 (ycb 32) 4 32
def c_178:AFn:=⟨2,[.tmp 4],ya4 [yda 2,yby] [xA 8 9 2,ych 9,ybg 10 f_260 8 9,ybl 11 10] 11 [yby] (ybk [xI 5 1] [xF 12 5 2,xL 13 12,ych 14,xX 15 6 13 14,yce 16 15,xL 17 16,xN 18 17,ybd 19] 0 c_178_l0 c_178_k1)⟩
def c_179_l0:ACode:=ycz [xB 21 .lss 20 19] 21 0 1 (yaa [xX 22 1 18 20,xL 23 22,xM 8 23] (ya3 [ydb 24,xM 25 2,xB 26 .eql 24 25] 26 [xC 6 ybw])) [yb5 27 .add 20,xM 20 27]
def c_179_k1:ACode:=yc9 (ybi 6)
def c_179:AFn:=⟨3,[.tmp 6],ya4 [yda 3,ybi 6] [xA 9 9 3,ych 10,ybg 11 f_260 9 10,ybl 12 11] 12 [ybi 6] (ybn [xF 13 5 3,xL 14 13,ych 15,xX 16 6 14 15,xF 17 2 16,xL 18 17,xN 19 18,ybd 20] 0 c_179_l0 c_179_k1)⟩
def c_180_l0:ACode:=ycz [xB 36 .lss 35 34] 36 0 1 (yaa [xM 37 35,xX 38 1 33 35,xL 39 38,xM 6 37,xM 7 39] (ya3 [xM 40 7,ycb 41,xM 42 6,xX 43 2 41 42,yce 44 43,xL 45 44,ybg 46 f_262 40 45,ybl 47 46] 47 [xI 4 9])) [yb5 48 .add 35,xM 35 48]
def c_180_k1:ACode:=yc9 yby
def c_180:AFn:=⟨2,[.tmp 4],ya4 [yda 2,xJ 3 1,yby] [yb4 8 3,xL 9 8,yc2 10 .lss 9,xM 11 10,yaw 12 11 0 3,ybt 13 11 12,yaw 14 11 4 2,ybt 15 11 14,ybb 16 11 15,ybx 17 11 .geq 13 16,xW 18 11 17] 18 [xI 4 8] (ya4 [xF 19 4 2,xL 20 19,yb4 21 3,xL 22 21,xX 23 3 20 22,yce 24 23,xL 25 24,xM 5 25] [yce 26 3,xL 27 26,xN 28 27,ycb 29,xN 30 29,xB 31 .neq 28 30] 31 [xI 4 2] (ybn [yce 32 3,xL 33 32,xN 34 33,ybd 35] 0 c_180_l0 c_180_k1))⟩
def c_181_l0:ACode:=ycz [xB 9 .lss 8 7] 9 0 1 (ycn (ydb 10) 5 10 (ya3 [ych 11,ycl 12,ycb 13,xX 14 5 12 13,xA 15 5 14,xO 16 (.pcallv (.t 11) [.t 15])] 16 [ycb 17,xM 4 17])) [yb5 18 .add 8,xM 8 18]
def c_181_k1:ACode:=yc9 (yb0 4)
def c_181:AFn:=⟨2,[.tmp 4],ybk [yby] [ycl 6,xN 7 6,ybd 8] 0 c_181_l0 c_181_k1⟩
def c_183_l0:ACode:=yca [xM 7 3,ycl 8,xN 9 8,xB 10 .lss 7 9] 10 0 1 (ya3 [ycl 13,xM 14 3,xX 15 2 13 14,yb4 16 15,xL 17 16,xO 18 (.slen (.t 17)),xK 19 .gtr 18 40] 19 [ybi 2]) [xM 11 3,yb5 12 .add 11,xM 3 12]
def c_183_k1:ACode:=yc9 (xC 2 ybw)
def c_183:AFn:=⟨1,[.tmp 2],ya4 [ybi 2] [ycl 4,xN 5 4,xK 6 .gtr 5 16] 6 [ybi 2] (ybn [ybd 3] 0 c_183_l0 c_183_k1)⟩
def c_184_l0:ACode:=yca [xM 20 3,xF 21 2 1,xL 22 21,xN 23 22,xB 24 .lss 20 23] 24 0 1 (ya3 [xF 27 2 1,xL 28 27,xM 29 3,xX 30 7 28 29,xF 31 5 30,xL 32 31,xN 33 32,xK 34 .gtr 33 40,xM 35 34,yaw 36 35 2 1,ybt 37 35 36,ya1 38 35 3,yac 39 35 (yc6 7 37 38),yaw 40 35 6 39,ybt 41 35 40,ybb 42 35 41,ya9 43 35 .gtr 42 40,xW 44 35 43] 44 [ybi 2]) [xM 25 3,yb5 26 .add 25,xM 3 26]
def c_184_k1:ACode:=yc9 (xC 2 ybw)
def c_184:AFn:=⟨1,[.tmp 2],ya4 [yda 1,ybi 2] [yb4 4 1,xL 5 4,xO 6 (.slen (.t 5)),xK 7 .gtr 6 40,xM 8 7,yc3 9 8 1,ybt 10 8 9,ycc 11 8 f_183 [.t 10],yac 12 8 (ya7 11),xW 13 8 12,xM 14 13,yaw 15 14 2 1,ybt 16 14 15,ybb 17 14 16,ya9 18 14 .gtr 17 16,xW 19 14 18] 19 [ybi 2] (ybn [ybd 3] 0 c_184_l0 c_184_k1)⟩
def c_185_l0:ACode:=yca [ydb 9,ycl 10,xN 11 10,xB 12 .lss 9 11,xM 13 12,ybh 14 13 7,ybh 15 13 1,ybq 16 13 .leq 14 (.t 15),xV 17 13 16] 17 0 1 (ya4 [xM 20 7,yb5 21 .add 20,xM 7 21] [ycl 22,ydb 23,xX 24 5 22 23,xF 25 2 24,xL 26 25,xN 27 26,xK 28 .gtr 27 40,xM 29 28,ya1 30 29 2,ya9 31 29 .eql 30 0,xW 32 29 31] 32 [ych 33,yb5 34 .add 33,xM 6 34] (ybr [xM 35 7,ycl 36,ydb 37,xX 38 5 36 37,xF 39 3 38,xL 40 39,ych 41,xM 42 7,xB 43 .sub 41 42,xM 44 2,yb5 45 .sub 44,yct 46 f_185 40 43 45,xB 47 .add 35 46,xM 7 47] [xM 48 7,ych 49,xB 50 .leq 48 49] (ybu 50 (xR [xM 51 7,ycl 52,ydb 53,xX 54 5 52 53,xF 55 4 54,xL 56 55,ych 57,xM 58 7,xB 59 .sub 57 58,xM 60 2,yb5 61 .sub 60,yct 62 f_185 56 59 61,xB 63 .add 51 62,xM 7 63])))) [ydb 18,yb5 19 .add 18,xM 8 19]
def c_185_k1:ACode:=yc1 (xM 64 7) 6 64
def c_185:AFn:=⟨3,[.tmp 6],yaa [ybd 6] (ybk [ybd 7] [ybd 8] 0 c_185_l0 c_185_k1)⟩
def c_186_l0:ACode:=yc5 [xB 17 .lss 16 15] 17 0 1 (xQ [xX 18 2 14 16,xA 19 2 18,yaz 6 [yco 0,yco 0],xS 2 6 19] [6]) (xR [xM 20 4,yb4 21 6,xL 22 21,xO 23 (.conv .u64 (.t 22)),xO 24 (yao .shl 23 (.c (.int .u64 32))),yce 25 6,xL 26 25,xO 27 (.conv .u64 (.t 26)),xB 28 .or 24 27,xO 29 (.tcallv (.t 20) [.t 28])]) [yb5 30 .add 16,xM 16 30]
def c_186_k1:ACode:=yae [xL 31 3,xO 32 (.b2s (.t 31)),xM 2 32]
def c_186:AFn:=⟨1,[.tmp 2],ycm (yda 1) (xC 2 (.str [])) (ybr [yaz 3 [.fslice 1 []]] [xO 7 (.mkfunc (.func f_264) [] [.t 3]),xM 4 7] (ybk [xM 8 4,yce 9 1,xL 10 9,xO 11 (.conv .u64 (.t 10)),xO 12 (.tcallv (.t 8) [.t 11])] [yb4 13 1,xL 14 13,xN 15 14,ybd 16] 0 c_186_l0 c_186_k1))⟩
def c_187:AFn:=⟨2,[.tmp 4],yb1 [xO 2 (ycu 0),xO 3 (ycu 1),yc7] [xA 5 4 2,xA 6 4 3,ybg 7 f_89 5 6,xM 8 7,ybv 9 8 2 2,ybv 10 8 0 9,ybz 11 8 1 10,ybv 12 8 2 3,ybv 13 8 0 12,ybz 14 8 1 13,ybq 15 8 .eql 11 (.t 14),xV 16 8 15,xM 17 16,ybv 18 17 2 2,ybv 19 17 1 18,ybz 20 17 1 19,ybv 21 17 2 3,ybv 22 17 1 21,ybz 23 17 1 22,ycg 24 17 f_265 [.t 20,.t 23],xV 25 17 24,xM 4 25]⟩
def c_188_l0:ACode:=yca [xM 9 7,ych 10,xN 11 10,xB 12 .lss 9 11] 12 0 1 (ya4 [ycl 15,xM 16 6,ych 17,xM 18 7,xX 19 5 17 18,yce 20 19,xA 21 4 20,yct 22 f_266 15 16 21,xM 8 22] [ydb 23,yc2 24 .lss 23] 24 [ycb 25,xM 4 25] (yaa [ycb 26,ydb 27,xO 28 (.bslice .imm 1 (List.replicate 1 [.int .i64 0]) [(0,(.t 27))]),ycx 29 1 8 26 28,xM 5 29] (xR [ydb 30,yb5 31 .add 30,xM 6 31]))) [xM 13 7,yb5 14 .add 13,xM 7 14]
def c_188_k1:ACode:=yc1 (ycb 32) 4 32
def c_188:AFn:=⟨2,[.tmp 4],ybr [xC 4 (.fslice 1 [])] [ycv 5 1] (ybk [ybd 6] [ybd 7] 0 c_188_l0 c_188_k1)⟩
def c_189_l0:ACode:=yca [ycb 6,ycl 7,xN 8 7,xB 9 .lss 6 8] 9 0 1 (ya3 [ycl 12,ycb 13,xX 14 1 12 13,xL 15 14,ych 16,xB 17 .eql 15 16] 17 [xC 4 ybw]) [ycb 10,yb5 11 .add 10,xM 5 11]
def c_189_k1:ACode:=yc9 yc7
def c_189:AFn:=⟨2,[.tmp 4],ybk [yc7] [ycw] 0 c_189_l0 c_189_k1⟩
def c_190:AFn:=⟨3,[.cell 6 true 4,.tmp 7,.tmp 8],yar [yda 3,xJ 4 1,xJ 5 2,yaz 6 [.fslice 1 [],.fslice 1 [],.fslice 2 [],.fslice 1 []],ybd 7,ybd 8] [yb4 15 5,xL 16 15] (.block 0 (ybp [yb5 18 .eql 16,xM 17 18] 17 [xA 19 9 3,xA 20 4 4,yce 21 5,xL 22 21,xF 23 3 5,xA 24 4 23,yb8 25 f_77 (.t 19) (.t 20) (.t 22) (.t 24),xE 26 0 25,xE 27 1 25,xE 28 2 25,xS 4 6 26,xM 7 27,xM 8 28] (ycn (xK 30 .eql 16 2) 29 30 (yab 29 (.seq (xQ [xA 32 9 3,xA 33 4 4,yce 34 5,xL 35 34,xF 36 2 5,xL 37 36,xF 38 7 5,xA 39 2 38,yaf 40 f_78 [.t 32,.t 33,.t 35,.t 37,.t 39],xM 31 40,xE 41 0 31,xE 42 1 31,yaz 9 [.fslice 1 [],.fslice 1 [],.fslice 2 [],.fslice 1 []],xS 4 9 41,xM 10 42] [9]) (yae [xA 43 4 9,xM 44 10,xS 4 6 43,ybd 7,xM 8 44])) (ycn (xK 46 .eql 16 3) 45 46 (yab 45 (.seq (xQ [xA 48 9 3,xA 49 4 4,yce 50 5,xL 51 50,xF 52 2 5,xL 53 52,yb8 54 f_79 (.t 48) (.t 49) (.t 51) (.t 53),xM 47 54,xE 55 0 47,xE 56 1 47,yaz 11 [.fslice 1 [],.fslice 1 [],.fslice 2 [],.fslice 1 []],xS 4 11 55,xM 12 56] [11]) (yae [xA 57 4 11,xM 58 12,xS 4 6 57,ybd 7,xM 8 58])) (ycn (xK 60 .eql 16 4) 59 60 (ybu 59 (.seq (xQ [xA 62 9 3,xA 63 4 4,yce 64 5,xL 65 64,xF 66 7 5,xA 67 2 66,yb8 68 f_80 (.t 62) (.t 63) (.t 65) (.t 67),xM 61 68,xE 69 0 61,xE 70 1 61,yaz 13 [.fslice 1 [],.fslice 1 [],.fslice 2 [],.fslice 1 []],xS 4 13 69,xM 14 70] [13]) (yae [xA 71 4 13,xM 72 14,xS 4 6 71,ybd 7,xM 8 72])))))))))) (yae [xA 73 4 4,xS 4 6 73,ybd 7,xI 8 11])⟩
def c_194_l0:ACode:=yca [xM 17 3,ycl 18,xO 19 (.slen (.t 18)),xB 20 .lss 17 19] 20 0 1 (ya3 [ycl 23,xM 24 3,xO 25 (.idxs (.t 23) (.t 24)),yb7 26 f_267 25,ybl 27 26,xM 28 27,ybh 29 28 0,ybh 30 28 3,yaq 31 28 (.idxs (.t 29) (.t 30)),ycg 32 28 f_268 [.t 31],yaq 33 28 (ya7 32),xV 34 28 33,xM 35 34,ybh 36 35 0,ybh 37 35 3,yaq 38 35 (.idxs (.t 36) (.t 37)),ybq 39 35 .neq 38 (.c (.int .u8 95)),xV 40 35 39] 40 [ybi 2]) [xM 21 3,yb5 22 .add 21,xM 3 22]
def c_194_k1:ACode:=yc9 (xC 2 ybw)
def c_194:AFn:=⟨1,[.tmp 2],ya4 [ybi 2] [ycl 4,xO 5 (yao .eql 4 (.c (.str []))),ycb 6,ya1 7 6 0,yac 8 6 (.slen (.t 7)),ya9 9 6 .gtr 8 16,xW 10 6 9,xM 11 10,ya1 12 11 0,yac 13 11 (.idxs (.t 12) (yan 0)),ycc 14 11 f_267 [.t 13],yac 15 11 (ya7 14),xW 16 11 15] 16 [ybi 2] (ybn [ybd 3] 0 c_194_l0 c_194_k1)⟩
def c_195:AFn:=⟨4,[.cell 8 true 4],yb1 [yaz 8 [ybo,ybo,ybo,ybo]] [ycl 9,ych 10,xM 11 2,xM 12 3,xO 13 (.build [.int .i64 0,.int .i64 0,.int .i64 0,.int .i64 0] [(0,1,(.t 9)),(1,1,(.t 10)),(2,1,(.t 11)),(3,1,(.t 12))]),xS 4 8 13]⟩
def c_196_l0:ACode:=yci [xM 23 4,yce 24 1,xL 25 24,xN 26 25,xB 27 .lss 23 26] 27 1 2 (xQ [yce 30 1,xL 31 30,xM 32 4,xX 33 2 31 32,xA 34 2 33,yaz 5 [.str [],ybo],xS 2 5 34] [5]) (yaa [xA 36 2 1,yb4 37 5,xL 38 37,ybg 39 f_269 36 38,xM 35 39,xE 40 0 35,xE 41 1 35,xM 6 40,xM 7 41] (ya0 3 (ybp [yb4 43 5,xL 44 43,yb7 45 f_194 44,ybl 46 45,xM 42 46] 42 [xI 2 6] (ybp [yce 48 5,xL 49 48,yb5 50 .lss 49,xM 51 50,yc3 52 51 5,ybt 53 51 52,ya9 54 51 .gtr 53 32,xW 55 51 54,xM 47 55] 47 [xI 2 10] (ya3 [xM 57 6,xM 58 4,xB 59 .lss 57 58,xM 56 59] 56 [xI 2 7]))) [xM 60 3,yce 61 5,xL 62 61,xB 63 .add 60 62,xM 3 63])) [xM 28 4,yb5 29 .add 28,xM 4 29]
def c_196_k1:ACode:=ybj [xM 64 3,xK 65 .rem 64 8,yc2 66 .neq 65] 66 [xI 2 10] (yc9 (ybd 2))
def c_196:AFn:=⟨1,[.tmp 2],ycm (yda 1) (ybd 2) (yc4 0 [yb4 9 1,xL 10 9,yb7 11 f_194 10,ybl 12 11,xM 8 12] 8 [xI 2 6] (ybp [yce 14 1,xL 15 14,xN 16 15,yc2 17 .eql 16,xM 13 17] 13 [xI 2 8] (ya3 [yce 19 1,xL 20 19,xN 21 20,xK 22 .gtr 21 12,xM 18 22] 18 [xI 2 12])) (ybk [ybd 3] [yby] 1 c_196_l0 c_196_k1))⟩
def c_197_l0:ACode:=yci [ycb 27,ych 28,xB 29 .lss 27 28] 29 0 1 (xD [ycl 32,ycb 33,xX 34 2 32 33,yb4 35 34,xL 36 35,ycl 37,ych 38,xX 39 2 37 38,yb4 40 39,xL 41 40,xB 42 .eql 36 41]) (yai 42 [xI 4 7]) [ycb 30,yb5 31 .add 30,xM 5 31]
def c_197_k1:ACode:=yc9 yby
def c_197:AFn:=⟨2,[.tmp 4],ya4 [yby] [ycl 6,ych 7,xX 8 2 6 7,yb4 9 8,xL 10 9,yb7 11 f_194 10,ybl 12 11] 12 [xI 4 6] (ybj [ycl 13,ych 14,xX 15 2 13 14,yce 16 15,xL 17 16,yb5 18 .lss 17,xM 19 18,ya1 20 19 0,ya1 21 19 1,yac 22 19 (yc6 2 20 21),yc3 23 19 22,ybt 24 19 23,ya9 25 19 .gtr 24 32,xW 26 19 25] 26 [xI 4 10] (ybn [ycw] 0 c_197_l0 c_197_k1))⟩
def c_198:AFn:=⟨1,[.tmp 2],ya4 [yda 1,ybd 2] [yb4 3 1,xL 4 3,yb7 5 f_194 4,ybl 6 5] 6 [xI 2 6] (ybj [yce 7 1,xL 8 7,yb5 9 .lss 8,xM 10 9,yc3 11 10 1,ybt 12 10 11,ya9 13 10 .gtr 12 32,xW 14 10 13] 14 [xI 2 10] (ybj [xF 15 2 1,xL 16 15,yb5 17 .lss 16,xM 18 17,yaw 19 18 2 1,ybt 20 18 19,ya9 21 18 .gtr 20 64,xW 22 18 21] 22 [xI 2 9] (yc9 (ybd 2))))⟩
def c_199_l0:ACode:=yci [xM 47 7,xF 48 2 6,xL 49 48,xN 50 49,xB 51 .lss 47 50] 51 1 2 (xD [xA 54 9 2,xF 55 2 6,xL 56 55,xM 57 7,xX 58 7 56 57,xA 59 7 58,xA 60 9 2,ych 61,ybg 62 f_272 60 61,yct 63 f_271 54 59 62,xM 8 63]) (ya3 [ydb 64,yc2 65 .neq 64] 65 [xM 66 7,ydb 67,xM 4 66,xM 5 67]) [xM 52 7,yb5 53 .add 52,xM 7 53]
def c_199_k1:ACode:=ycf yby ycw
def c_199:AFn:=⟨2,[.tmp 4,.tmp 5],ya4 [yda 2,yby,ycw] [ych 9,yc2 10 .lss 9,xM 11 10,ya1 12 11 1,yaw 13 11 4 2,ybt 14 11 13,ybb 15 11 14,ybx 16 11 .geq 12 15,xW 17 11 16] 17 [yb0 4,xI 5 8] (.seq (xQ [xF 18 4 2,xL 19 18,ych 20,xX 21 3 19 20,xA 22 3 21,yaz 6 [.str [],.fslice 2 [],.fslice 7 []],xS 3 6 22] [6]) (yc4 0 [yb4 24 6,xL 25 24,yb7 26 f_194 25,ybl 27 26,xM 23 27] 23 [yb0 4,xI 5 6] (ybp [yce 29 6,xL 30 29,xN 31 30,xK 32 .gtr 31 4,xM 33 32,yaw 34 33 2 6,ybt 35 33 34,ybb 36 33 35,ya9 37 33 .gtr 36 12,xW 38 33 37,xM 28 38] 28 [yb0 4,xI 5 12] (ya3 [yce 40 6,xL 41 40,yb7 42 f_270 41,yc2 43 .neq 42,xM 39 43] 39 [yce 44 6,xL 45 44,yb7 46 f_270 45,yb0 4,xM 5 46])) (ybn [ybd 7] 1 c_199_l0 c_199_k1)))⟩
def c_200:AFn:=⟨2,[.tmp 4,.tmp 5],ya4 [yda 2,yby,ycw] [ych 9,yc2 10 .lss 9,xM 11 10,ya1 12 11 1,yaw 13 11 5 2,ybt 14 11 13,ybb 15 11 14,ybx 16 11 .geq 12 15,xW 17 11 16] 17 [yb0 4,xI 5 8] (.seq (xQ [xF 18 5 2,xL 19 18,ych 20,xX 21 6 19 20,xA 22 6 21,yaz 6 [.str [],.fslice 3 [],.fslice 1 [],ybo,.fslice 1 [],ybo],xS 6 6 22] [6]) (yc4 0 [yb4 24 6,xL 25 24,yb7 26 f_194 25,ybl 27 26,xM 23 27] 23 [yb0 4,xI 5 6] (ybp [yce 29 6,xL 30 29,xN 31 30,xK 32 .gtr 31 6,xM 33 32,yaw 34 33 2 6,ybt 35 33 34,ybb 36 33 35,ya9 37 33 .gtr 36 16,xW 38 33 37,xM 28 38] 28 [yb0 4,xI 5 12] (ya3 [xF 40 5 6,xL 41 40,yb5 42 .lss 41,xM 43 42,yaw 44 43 5 6,ybt 45 43 44,ya9 46 43 .gtr 45 256,xW 47 43 46,xM 39 47] 39 [yb0 4,xI 5 9])) (ya4 [xA 49 9 2,xA 50 6 6,ybg 51 f_273 49 50,xM 48 51,xE 52 0 48,xE 53 1 48,xM 7 52,xM 8 53] [ydb 54,yc2 55 .neq 54] 55 [xM 56 7,ydb 57,xM 4 56,xM 5 57] (ya4 [xA 58 9 2,xA 59 6 6,ybg 60 f_274 58 59,xM 8 60] [ydb 61,yc2 62 .neq 61] 62 [ydb 63,xI 4 (-3),xM 5 63] (ycf yby ycw)))))⟩
def c_201_l0:ACode:=yca [ycb 16,xF 17 6 1,xL 18 17,xN 19 18,xB 20 .lss 16 19] 20 0 1 (yaa [xA 24 9 1,ycb 25,ybg 26 f_275 24 25,xM 23 26,xE 27 0 23,xE 28 1 23,xM 6 27,xM 7 28] (ya3 [xM 29 7,yc2 30 .neq 29] 30 [ycb 31,xM 32 6,xM 33 7,xM 2 31,xM 3 32,xM 4 33])) [ycb 21,yb5 22 .add 21,xM 5 22]
def c_201_k1:ACode:=yae [ybd 2,ybd 3,yby]
def c_201:AFn:=⟨1,[.tmp 2,.tmp 3,.tmp 4],ya4 [yda 1,ybd 2,ybd 3,yby] [xF 8 6 1,xL 9 8,xN 10 9,yc2 11 .eql 10] 11 [yb0 2,yb0 3,xI 4 8] (ybj [xF 12 6 1,xL 13 12,xN 14 13,xK 15 .gtr 14 12] 15 [yb0 2,yb0 3,xI 4 12] (ybn [ycw] 0 c_201_l0 c_201_k1))⟩
def c_202_l0:ACode:=yca [ycb 20,xM 21 4,xN 22 21,xB 23 .lss 20 22] 23 1 2 (yaa [xA 26 9 1,xM 27 4,ycb 28,yct 29 f_279 26 27 28,xM 6 29] (ya3 [xM 30 6,yc2 31 .neq 30] 31 [ycb 32,xM 33 6,xM 2 32,xM 3 33])) [ycb 24,yb5 25 .add 24,xM 5 25]
def c_202_k1:ACode:=ycf (ybd 2) (ybd 3)
def c_202:AFn:=⟨1,[.tmp 2,.tmp 3],yaa [yda 1,ybd 2,ybd 3] (yc4 0 [xF 8 7 1,xL 9 8,yb7 10 f_276 9,xK 11 .gtr 10 24,xM 7 11] 7 [yb0 2,xI 3 12] (ya3 [xF 13 7 1,xL 14 13,yb7 15 f_277 14,xK 16 .gtr 15 6,xM 12 16] 12 [yb0 2,xI 3 14]) (ybk [xF 17 7 1,xL 18 17,yb7 19 f_278 18,xM 4 19] [ycw] 1 c_202_l0 c_202_k1))⟩
def c_203_l0:ACode:=yci [ycb 35,xM 36 4,xB 37 .lss 35 36] 37 2 3 (xD [xF 40 8 1,xL 41 40,ycb 42,xX 43 1 41 42,xL 44 43,xF 45 8 1,xL 46 45,xM 47 4,xX 48 1 46 47,xL 49 48,xB 50 .eql 44 49]) (yai 50 [xM 51 4,xM 2 51,xI 3 7]) [ycb 38,yb5 39 .add 38,xM 5 39]
def c_203_k1:ACode:=xR [xM 15 4,yb5 16 .add 15,xM 4 16]
def c_203_l2:ACode:=ya8 [xM 10 4,xF 11 8 1,xL 12 11,xN 13 12,xB 14 .lss 10 13] 14 0 (yaj 1 (.seq (ycd [xF 17 8 1,xL 18 17,xM 19 4,xX 20 1 18 19,xL 21 20,yc2 22 .lss 21,xM 23 22,yaw 24 23 8 1,ybt 25 23 24,ya1 26 23 4,yac 27 23 (yc6 1 25 26),ybt 28 23 27,yc3 29 23 1,ybt 30 23 29,ybb 31 23 30,ybx 32 23 .geq 28 31,xW 33 23 32] (yai 33 [xM 34 4,xM 2 34,xI 3 8])) (yaa [ycw] (yam 2 c_203_l0))) c_203_k1)
def c_203_k3:ACode:=ycf (ybd 2) (ybd 3)
def c_203:AFn:=⟨1,[.tmp 2,.tmp 3],ya4 [yda 1,ybd 2,ybd 3] [xF 6 8 1,xL 7 6,xN 8 7,xK 9 .gtr 8 8] 9 [yb0 2,xI 3 12] (ybn [yby] 0 c_203_l2 c_203_k3)⟩
def c_227:AFn:=⟨4,[],ycm (ycl 8) (yc2 9 .neq 8) (ybu 9 (xR [ycl 10,ych 11,xM 12 2,xM 13 3,xO 14 (.build [.int .i64 0,.int .i64 0,.int .i64 0,.int .i64 0] [(0,1,(.t 10)),(1,1,(.t 11)),(2,1,(.t 12)),(3,1,(.t 13))]),xO 15 (.build [.int .i64 0,.int .i64 0,.int .i64 0,.int .i64 0] [(0,4,(.t 14))]),xO 16 (.mkiface 207 (.t 15)),⟨none,none,.panic (.t 16)⟩]))⟩
def c_228:AFn:=⟨2,[.tmp 4],ya4 [yby] [ycl 5] 5 [ych 6,xM 4 6] (yc9 yby)⟩
def c_229:AFn:=⟨1,[.tmp 2],yb1 [ybi 2] [ycl 3,yb7 4 f_257 3,ybl 5 4,ycb 2]⟩
def c_230_l0:ACode:=yc5 [xB 11 .lss 10 9] 11 0 1 (xQ [xX 12 2 8 10,xA 13 2 12,yaz 7 [.str [],.fslice 2 []],xS 2 7 13] [7]) (xR [ycb 14,ych 15,xA 16 2 7,xO 17 (.pcallv (.t 15) [.t 16]),xO 18 (.bslice .imm 1 (List.replicate 1 [.str []]) [(0,(.t 17))]),ycx 19 1 16 14 18,xM 5 19]) [yb5 20 .add 10,xM 10 20]
def c_230_k1:ACode:=yc1 (ycb 21) 4 21
def c_230:AFn:=⟨2,[.tmp 4],yaa [xC 4 (.fslice 1 [])] (ybk [ycv 5 1] [ycl 8,xN 9 8,ybd 10] 0 c_230_l0 c_230_k1)⟩
def c_231:AFn:=⟨1,[.tmp 2],yb1 [yda 1,xC 2 (.str [])] [yb4 3 1,xL 4 3,xM 2 4]⟩
def c_232_l0:ACode:=ycz [xB 48 .lss 47 46] 48 3 4 (ybr [xX 49 2 45 47,xA 50 2 49,yaz 6 [.str [],ybo],xS 2 6 50] [yce 51 4,xL 52 51,yce 53 6,xS 1 53 52] (ya3 [xA 54 2 6,xA 55 2 4,xO 56 (.eqs false true [.s,.i] (.t 54) (.t 55))] 56 [xI 2 7])) [yb5 57 .add 47,xM 47 57]
def c_232_k1:ACode:=xR [yb5 58 .add 25,xM 25 58]
def c_232_l2:ACode:=ybm [xB 26 .lss 25 24] 26 1 (yaj 2 (.seq (xQ [xM 27 25,xX 28 2 23 25,xA 29 2 28,yaz 4 [.str [],ybo],xM 3 27,xS 2 4 29] [4]) (ybj [yb4 30 4,xL 31 30,yb7 32 f_257 31,ybl 33 32] 33 [xI 2 6] (ybj [yce 34 4,xL 35 34,yb5 36 .lss 35,xM 37 36,yc3 38 37 4,ybt 39 37 38,ya9 40 37 .gtr 39 32,xW 41 37 40] 41 [xI 2 10] (yaa [yce 42 1,xL 43 42,xM 44 3,xO 45 (.slc 2 (.t 43) none (some (.t 44)) none),xN 46 45,ybd 47] (yam 3 c_232_l0))))) c_232_k1)
def c_232_k3:ACode:=ybj [xA 59 2 1,yb7 60 f_294 59,yb7 61 f_293 60,xK 62 .rem 61 8,yc2 63 .neq 62] 63 [xI 2 10] (yc9 (ybd 2))
def c_232:AFn:=⟨1,[.tmp 2],ycm (yda 1) (ybd 2) (yc4 0 [yb4 8 1,xL 9 8,yb7 10 f_257 9,ybl 11 10,xM 7 11] 7 [xI 2 6] (ybp [yce 13 1,xL 14 13,xN 15 14,yc2 16 .eql 15,xM 12 16] 12 [xI 2 8] (ya3 [yce 18 1,xL 19 18,xN 20 19,xK 21 .gtr 20 12,xM 17 21] 17 [xI 2 12])) (ybn [yce 22 1,xL 23 22,xN 24 23,ybd 25] 1 c_232_l2 c_232_k3))⟩
def c_233:AFn:=⟨2,[.tmp 4],ya2 [yc7] (xD [ycl 5,ych 6,xO 7 (.slc 1 (.t 5) none (some (.t 6)) none),ycl 8,ych 9,xX 10 1 8 9,xL 11 10,ybg 12 f_295 7 11,xM 4 12]) .ret⟩
def c_234_l0:ACode:=yc5 [xB 11 .lss 10 9] 11 0 1 (xQ [xX 12 2 8 10,xA 13 2 12,yaz 7 [.str [],ybo],xS 2 7 13] [7]) (xR [ycb 14,ych 15,xA 16 2 7,xO 17 (.pcallv (.t 15) [.t 16]),xO 18 (.bslice .imm 1 (List.replicate 1 [.str []]) [(0,(.t 17))]),ycx 19 1 16 14 18,xM 5 19]) [yb5 20 .add 10,xM 10 20]
def c_234_k1:ACode:=yc1 (ycb 21) 4 21
def c_234:AFn:=⟨2,[.tmp 4],yaa [xC 4 (.fslice 1 [])] (ybk [ycv 5 1] [ycl 8,xN 9 8,ybd 10] 0 c_234_l0 c_234_k1)⟩
def c_235:AFn:=⟨1,[.tmp 2],yb1 [yda 1,xC 2 (.str [])] [yb4 3 1,xL 4 3,xM 2 4]⟩
def c_236:AFn:=⟨1,[.tmp 2],yb1 [ybi 2] [ycl 3,yb5 4 .lss 3,xM 5 4,ya1 6 5 0,ya9 7 5 .gtr 6 32,xW 8 5 7,ydb 2]⟩
def c_237_l0:ACode:=yc5 [xB 11 .lss 10 9] 11 0 1 (xQ [xX 12 3 8 10,xA 13 3 12,yaz 7 [.str [],ybo,ybo],xS 3 7 13] [7]) (xR [ycb 14,ych 15,xA 16 3 7,xO 17 (.pcallv (.t 15) [.t 16]),xO 18 (.bslice .imm 1 (List.replicate 1 [.str []]) [(0,(.t 17))]),ycx 19 1 16 14 18,xM 5 19]) [yb5 20 .add 10,xM 10 20]
def c_237_k1:ACode:=yc1 (ycb 21) 4 21
def c_237:AFn:=⟨2,[.tmp 4],yaa [xC 4 (.fslice 1 [])] (ybk [ycv 5 1] [ycl 8,xN 9 8,ybd 10] 0 c_237_l0 c_237_k1)⟩
def c_238:AFn:=⟨1,[.tmp 2],yb1 [yda 1,xC 2 (.str [])] [yb4 3 1,xL 4 3,xM 2 4]⟩
def c_239:AFn:=⟨1,[.tmp 2],ycm (yda 1) (ybd 2) (yc4 0 [yb4 4 1,xL 5 4,yb7 6 f_257 5,ybl 7 6,xM 3 7] 3 [xI 2 6] (ybp [yce 9 1,xL 10 9,yb7 11 f_152 10,xO 12 (yao .eql 11 (.c (yco 0))),xM 8 12] 8 [xI 2 10] (ya3 [xA 14 3 1,yb7 15 f_160 14,ybl 16 15,xM 13 16] 13 [xI 2 9])) (yc9 (ybd 2)))⟩
def c_240_l0:ACode:=yc5 [xB 11 .lss 10 9] 11 0 1 (xQ [xX 12 3 8 10,xA 13 3 12,yaz 7 [.str [],.fslice 2 [],.fslice 7 []],xS 3 7 13] [7]) (xR [ycb 14,ych 15,xA 16 3 7,xO 17 (.pcallv (.t 15) [.t 16]),xO 18 (.bslice .imm 1 (List.replicate 1 [.str []]) [(0,(.t 17))]),ycx 19 1 16 14 18,xM 5 19]) [yb5 20 .add 10,xM 10 20]
def c_240_k1:ACode:=yc1 (ycb 21) 4 21
def c_240:AFn:=⟨2,[.tmp 4],yaa [xC 4 (.fslice 1 [])] (ybk [ycv 5 1] [ycl 8,xN 9 8,ybd 10] 0 c_240_l0 c_240_k1)⟩
def c_241:AFn:=⟨1,[.tmp 2],yb1 [yda 1,xC 2 (.str [])] [yb4 3 1,xL 4 3,xM 2 4]⟩
def c_242_l0:ACode:=yc5 [xB 38 .lss 37 36] 38 0 1 (xQ [xM 39 37,xX 40 7 35 37,xA 41 7 40,yaz 9 [ybo,ybo,ybo,ybo,ybo,.fslice 3 [],.fslice 3 []],xM 8 39,xS 7 9 41] [9]) (yaa [xA 42 10 7,xA 43 7 9,ybg 44 f_297 42 43,xM 5 44] (ya3 [ycb 45,yc2 46 .neq 45] 46 [ydb 47,ycb 48,xM 4 47,xM 5 48])) [yb5 49 .add 37,xM 37 49]
def c_242_k1:ACode:=ycf yby ycw
def c_242:AFn:=⟨2,[.tmp 4,.tmp 5],ya4 [yda 2,yby,ycw] [ych 10,yc2 11 .lss 10,xM 12 11,ya1 13 12 1,yaw 14 12 4 2,ybt 15 12 14,ybb 16 12 15,ybx 17 12 .geq 13 16,xW 18 12 17] 18 [yb0 4,xI 5 8] (.seq (xQ [xF 19 4 2,xL 20 19,ych 21,xX 22 3 20 21,xA 23 3 22,yaz 6 [.str [],.fslice 2 [],.fslice 7 []],xS 3 6 23] [6]) (yad [xA 24 3 6,yb7 25 f_296 24,xM 5 25] (ya3 [ycb 26,yc2 27 .neq 26] 27 [ycb 28,yb0 4,xM 5 28]) (.seq (xQ [xA 29 9 2,yce 30 6,xL 31 30,xO 32 (.build [.str [],.fslice 2 [],.fslice 2 [],.fslice 3 [],.fslice 3 [],.fslice 6 [],.fslice 7 [],.fslice 5 [],.fslice 1 [],.fslice 2 []] [(0,9,(.t 29)),(9,1,(.t 31))]),xO 33 (.build [.str [],.fslice 2 [],.fslice 2 [],.fslice 3 [],.fslice 3 [],.fslice 6 [],.fslice 7 [],.fslice 5 [],.fslice 1 [],.fslice 2 []] [(0,10,(.t 32))]),yaz 7 [.str [],.fslice 2 [],.fslice 2 [],.fslice 3 [],.fslice 3 [],.fslice 6 [],.fslice 7 [],.fslice 5 [],.fslice 1 [],.fslice 2 []],xS 10 7 33] [7]) (ybn [xF 34 2 6,xL 35 34,xN 36 35,ybd 37] 0 c_242_l0 c_242_k1))))⟩
def c_243_l0:ACode:=yc5 [xB 11 .lss 10 9] 11 0 1 (xQ [xX 12 6 8 10,xA 13 6 12,yaz 7 [.str [],.fslice 3 [],.fslice 1 [],ybo,.fslice 1 [],ybo],xS 6 7 13] [7]) (xR [ycb 14,ych 15,xA 16 6 7,xO 17 (.pcallv (.t 15) [.t 16]),xO 18 (.bslice .imm 1 (List.replicate 1 [.str []]) [(0,(.t 17))]),ycx 19 1 16 14 18,xM 5 19]) [yb5 20 .add 10,xM 10 20]
def c_243_k1:ACode:=yc1 (ycb 21) 4 21
def c_243:AFn:=⟨2,[.tmp 4],yaa [xC 4 (.fslice 1 [])] (ybk [ycv 5 1] [ycl 8,xN 9 8,ybd 10] 0 c_243_l0 c_243_k1)⟩
def c_244:AFn:=⟨1,[.tmp 2],yb1 [yda 1,xC 2 (.str [])] [yb4 3 1,xL 4 3,xM 2 4]⟩
def c_245_l0:ACode:=yc5 [xB 25 .lss 24 23] 25 1 2 (xQ [xM 26 24,xX 27 7 22 24,xA 28 7 27,yaz 7 [.str [],.fslice 1 [],yap,ybo,ybo,.fslice 3 [],ybo],xM 6 26,xS 7 7 28] [7]) (yc4 3 [yb4 30 7,xL 31 30,yb7 32 f_257 31,ybl 33 32,xM 29 33] 29 [xM 34 6,xM 2 34,yb0 3,xI 4 6] (ya3 [ycb 36,yb4 37 7,xL 38 37,xO 39 (.lookup .s (.bool false) false (.t 36) (.t 38)),xM 35 39] 35 [xM 40 6,xM 2 40,yb0 3,xI 4 7]) (ybr [ycb 41,yb4 42 7,xL 43 42,⟨none,none,.update .s (.t 41) (.t 43) (.c (.bool true))⟩] [xA 45 9 1,xM 46 6,ybg 47 f_298 45 46,xM 44 47,xE 48 0 44,xE 49 1 44,xM 8 48,xM 9 49] (ya3 [xM 50 9,yc2 51 .neq 50] 51 [xM 52 6,ydb 53,xM 54 9,xM 2 52,xM 3 53,xM 4 54]))) [yb5 55 .add 24,xM 24 55]
def c_245_k1:ACode:=yae [ybd 2,ybd 3,yby]
def c_245:AFn:=⟨1,[.tmp 2,.tmp 3,.tmp 4],yaa [yda 1,ybd 2,ybd 3,yby] (yc4 0 [xF 11 6 1,xL 12 11,xN 13 12,yc2 14 .eql 13,xM 10 14] 10 [yb0 2,yb0 3,xI 4 8] (ya3 [xF 16 6 1,xL 17 16,xN 18 17,xK 19 .gtr 18 12,xM 15 19] 15 [yb0 2,yb0 3,xI 4 12]) (ybk [xO 20 .mkmap,xM 5 20] [xF 21 6 1,xL 22 21,xN 23 22,ybd 24] 1 c_245_l0 c_245_k1))⟩
def c_246:AFn:=⟨1,[.tmp 2,.cell 3 false 1],ya4 [yda 1,ybd 2,yaz 3 [ybo]] [xF 6 7 1,xL 7 6,yb7 8 f_299 7,xK 9 .gtr 8 24] 9 [yb0 2,⟨none,none,.store 1 (.t 3) (.c (.int .i64 12))⟩] (ybj [xF 10 7 1,xL 11 10,yb7 12 f_300 11,xK 13 .gtr 12 6] 13 [yb0 2,⟨none,none,.store 1 (.t 3) (.c (.int .i64 14))⟩] (ybr [yaz 4 [ybo],⟨none,none,.store 1 (.t 4) (.c (.int .i64 0))⟩] [yaz 5 [.fslice 1 []]] (yar [xF 14 7 1,xL 15 14,xO 16 (.mkfunc (.func f_302) [] [.t 1,.t 5,.t 3,.t 4]),xO 17 (.tcall f_301 [.t 15,.t 16])] [xL 18 3,yc2 19 .neq 18] (ybu 19 (ycd [xL 20 4,xL 21 3,xM 2 20,xS 1 3 21] .ret)) (ycf (ybd 2) ⟨none,none,.store 1 (.t 3) (.c (.int .i64 0))⟩))))⟩
def c_247_l0:ACode:=ycz [xB 14 .lss 13 12] 14 0 1 (yaa [xM 15 13,xX 16 1 11 13,xL 17 16,xM 4 15,xM 5 17] (.block 2 (ybp [ycb 19,yc2 20 .lss 19,xM 21 20,ya1 22 21 5,yc3 23 21 1,ybt 24 21 23,ybb 25 21 24,ybx 26 21 .geq 22 25,xW 27 21 26,xM 18 27] 18 [xM 28 4,xM 2 28,xI 3 8] (ya3 [xF 30 8 1,xL 31 30,xM 32 4,xO 33 (.slc 1 (.t 31) none (some (.t 32)) none),ycb 34,ybg 35 f_305 33 34,xM 29 35] 29 [xM 36 4,xM 2 36,xI 3 7])))) [yb5 37 .add 13,xM 13 37]
def c_247_k1:ACode:=ycf (ybd 2) (ybd 3)
def c_247:AFn:=⟨1,[.tmp 2,.tmp 3],ya4 [yda 1,ybd 2,ybd 3] [xF 6 8 1,xL 7 6,xN 8 7,xK 9 .gtr 8 8] 9 [yb0 2,xI 3 12] (ybn [xF 10 8 1,xL 11 10,xN 12 11,ybd 13] 0 c_247_l0 c_247_k1)⟩
def c_248_l0:ACode:=ycz [xB 8 .lss 7 6] 8 0 1 (yaa [xX 9 1 5 7,xL 10 9,xM 4 10] (ya3 [xM 11 4,yb5 12 .lss 11,xM 13 12,ya1 14 13 4,ya9 15 13 .gtr 14 32,xW 16 13 15] 16 [ybi 2])) [yb5 17 .add 7,xM 7 17]
def c_248_k1:ACode:=yc9 (xC 2 ybw)
def c_248:AFn:=⟨1,[.tmp 2],ybk [ybi 2] [ycl 5,xN 6 5,ybd 7] 0 c_248_l0 c_248_k1⟩
def c_249_l0:ACode:=yca [xM 11 6,xF 12 5 2,xL 13 12,ych 14,xX 15 6 13 14,yce 16 15,xL 17 16,xN 18 17,xB 19 .lss 11 18] 19 0 1 (xD [ycb 22,xA 23 9 2,xF 24 5 2,xL 25 24,ych 26,xX 27 6 25 26,yce 28 27,xL 29 28,xM 30 6,xX 31 3 29 30,yb4 32 31,xA 33 2 32,ybg 34 f_306 23 33,xO 35 (.bslice .imm 1 (List.replicate 1 [.int .i64 0]) [(0,(.t 34))]),ycx 36 1 8 22 35,xM 5 36]) [xM 20 6,yb5 21 .add 20,xM 6 21]
def c_249_k1:ACode:=yc1 (ycb 37) 4 37
def c_249:AFn:=⟨2,[.tmp 4],ya4 [yda 2,xC 4 (.fslice 1 [])] [xA 7 9 2,ych 8,ybg 9 f_252 7 8,ybl 10 9] 10 [xC 4 (.fslice 1 [])] (ybk [ycv 5 1] [ybd 6] 0 c_249_l0 c_249_k1)⟩
def c_250:AFn:=⟨3,[.tmp 6],ybr [yda 3,ybd 6] [yce 10 3,xL 11 10,ych 12,ybg 13 f_307 11 12,xM 9 13,xE 14 0 9,xE 15 1 9,xM 7 14,xM 8 15] (yc4 0 [yb4 17 3,xL 18 17,ych 19,ybg 20 f_254 18 19,ybl 21 20,xM 22 21,yc3 23 22 3,ybt 24 22 23,ya1 25 22 1,ycc 26 22 f_254 [.t 24,.t 25],yac 27 22 (ya7 26),xW 28 22 27,xM 16 28] 16 [xI 6 9] (ybp [yb4 30 3,xL 31 30,yce 32 3,xL 33 32,xB 34 .and 31 33,yb4 35 3,xL 36 35,xB 37 .neq 34 36,xM 29 37] 29 [xI 6 5] (ycd [xM 39 2,yb5 40 .eql 39,xM 41 40,ybv 42 41 1 3,ybz 43 41 1 42,ybh 44 41 1,ycg 45 41 f_308 [.t 44],ybq 46 41 .neq 43 (.t 45),xV 47 41 46,xM 48 47,ya1 49 48 2,ya9 50 48 .eql 49 2,ya1 51 48 50,ybh 52 51 8,yaq 53 51 (ya7 52),yac 54 48 (.pick (.t 51) (.t 53) (.c yap)),xW 55 48 54,xM 38 55] (yai 38 [xI 6 11]))) (yc9 (ybd 6)))⟩
def c_251_l0:ACode:=yca [xM 11 6,xF 12 5 2,xL 13 12,ych 14,xX 15 6 13 14,yce 16 15,xL 17 16,xN 18 17,xB 19 .lss 11 18] 19 0 1 (xR [ycb 22,xF 23 5 2,xL 24 23,ych 25,xX 26 6 24 25,yce 27 26,xL 28 27,xM 29 6,xX 30 3 28 29,xF 31 2 30,xL 32 31,xO 33 (.minmax true [.t 22,.t 32]),xM 5 33]) [xM 20 6,yb5 21 .add 20,xM 6 21]
def c_251_k1:ACode:=yc1 (ycb 34) 4 34
def c_251:AFn:=⟨2,[.tmp 4],ya4 [yda 2,yby] [xA 7 9 2,ych 8,ybg 9 f_252 7 8,ybl 10 9] 10 [yby] (ybk [xI 5 1] [ybd 6] 0 c_251_l0 c_251_k1)⟩
def c_252:AFn:=⟨2,[.tmp 4],ybr [yda 2,yc7] [xA 8 9 2,ych 9,ybg 10 f_200 8 9,xM 7 10,xE 11 0 7,xE 12 1 7,xM 5 11,xM 6 12] (yae [xM 13 6,yc2 14 .eql 13,xM 4 14])⟩
def c_253_l0:ACode:=yca [ycb 6,ycl 7,xN 8 7,xB 9 .lss 6 8] 9 0 1 (ya3 [ycl 12,ycb 13,xX 14 1 12 13,xL 15 14,ych 16,xB 17 .eql 15 16] 17 [ycb 18,xM 4 18]) [ycb 10,yb5 11 .add 10,xM 5 11]
def c_253_k1:ACode:=yc9 (yb0 4)
def c_253:AFn:=⟨2,[.tmp 4],ybk [yby] [ycw] 0 c_253_l0 c_253_k1⟩
def c_254:AFn:=⟨2,[.tmp 4],yb1 [yc7] [ych 5,yb7 6 f_309 5,xM 7 6,ybh 8 7 0,yaq 9 7 (.conv .u64 (.t 8)),ybh 10 7 1,ycg 11 7 f_310 [.t 10],ybq 12 7 .lss 9 (.t 11),xV 13 7 12,xM 4 13]⟩
def c_257:AFn:=⟨1,[.tmp 2],ya4 [ybi 2] [ycl 3,xO 4 (.slen (.t 3)),yc2 5 .eql 4,ycb 6,ya1 7 6 0,yac 8 6 (.slen (.t 7)),ya9 9 6 .gtr 8 16,xW 10 6 9,xM 11 10,ya1 12 11 0,yac 13 11 (.idxs (.t 12) (yan 0)),ycc 14 11 f_313 [.t 13],yac 15 11 (ya7 14),xW 16 11 15] 16 [ybi 2] (yae [ycl 17,ybf 18 f_314 17 (.c (.func (.func f_315) [] [])),ycl 19,xO 20 (.slen (.t 19)),xB 21 .eql 18 20,xM 2 21])⟩
def c_258_l0:ACode:=yc5 [xB 15 .lss 14 13] 15 0 1 (xQ [xM 16 14,xX 17 3 12 14,xA 18 3 17,yaz 9 [ybo,ybo,ybo],xM 8 16,xS 3 9 18] [9]) (ya4 [xA 19 9 2,yb4 20 9,xA 21 2 20,ybg 22 f_261 19 21,xM 10 22] [xM 23 10,yc2 24 .eql 23] 24 [ydb 25,xM 4 25,xI 5 8] (yad [xF 26 2 9,xL 27 26] (.block 2 (ycn (xK 30 .eql 27 2) 29 30 (yab 29 (xR [xM 31 6,yb5 32 .add 31,xM 6 32]) (yad [yb5 34 .eql 27,xM 33 34] (yc8 33 (xR [xK 35 .eql 27 3,xM 33 35])) (yc8 33 (yae [ydb 28,xM 4 28,xI 5 11])))))) (xR [xM 36 7,xM 37 10,xB 38 .add 36 37,xM 7 38]))) [yb5 39 .add 14,xM 14 39]
def c_258_k1:ACode:=ybj [xM 40 6,yb5 41 .gtr 40] 41 [xI 4 (-2),xI 5 7] (ybj [xM 42 7,xK 43 .gtr 42 64] 43 [xI 4 (-2),xI 5 10] (ycf yby ycw))
def c_258:AFn:=⟨2,[.tmp 4,.tmp 5],yaa [yda 2,xJ 3 1,yby,ycw] (ybk [ybd 6,ybd 7] [yce 11 3,xL 12 11,xN 13 12,ybd 14] 0 c_258_l0 c_258_k1)⟩
def c_259_l0:ACode:=ycz [xB 13 .lss 12 11] 13 0 1 (ya4 [xX 14 1 10 12,xL 15 14,xM 7 15] [xM 16 7,yc2 17 .lss 16,xM 18 17,ya1 19 18 7,yaw 20 18 4 2,ybt 21 18 20,ybb 22 18 21,ybx 23 18 .geq 19 22,xW 24 18 23] 24 [xI 4 8] (ybj [ycb 25,xM 26 7,xO 27 (.lookup .i (.bool false) false (.t 25) (.t 26))] 27 [xI 4 7] (xR [ycb 28,xM 29 7,⟨none,none,.update .i (.t 28) (.t 29) (.c (.bool true))⟩]))) [yb5 30 .add 12,xM 12 30]
def c_259_k1:ACode:=ybj [ycb 31,xF 32 3 3,yb4 33 32,xL 34 33,xO 35 (.lookup .i (.bool false) false (.t 31) (.t 34)),ybl 36 35] 36 [xI 4 8] (yae [xA 37 9 2,xF 38 3 3,xA 39 2 38,ybg 40 f_180 37 39,xM 4 40])
def c_259:AFn:=⟨2,[.tmp 4],yaa [yda 2,xJ 3 1,yby] (ybk [xO 8 .mkmap,ydb 5] [xF 9 2 3,xL 10 9,xN 11 10,ybd 12] 0 c_259_l0 c_259_k1)⟩
def c_260:AFn:=⟨2,[.tmp 4],ybr [yda 2,yc7] [xA 8 9 2,ych 9,ybg 10 f_175 8 9,xM 7 10,xE 11 0 7,xE 12 1 7,xM 5 11,xM 6 12] (yae [xM 13 6,yc2 14 .eql 13,xM 4 14])⟩
def c_261:AFn:=⟨2,[.tmp 4],ya2 [yda 2,xJ 3 1,yby] (xD [xA 6 9 2,yb4 7 3,xL 8 7,ybg 9 f_318 6 8,yce 10 3,xL 11 10,ybg 12 f_317 9 11,xO 13 (.fld false 1 1 (.t 12)),xM 5 13]) (ybj [ycb 14,yb7 15 f_152 14,xO 16 (yao .eql 15 (.c (yco 0)))] 16 [yby] (yc1 (ycb 17) 4 17))⟩
def c_262:AFn:=⟨2,[.tmp 4],yb1 [yc7] [ych 5,xO 6 (.bslice .imm 1 (List.replicate 1 [.int .i64 0]) [(0,(.t 5))]),yb7 7 f_248 6,xM 8 7,ybh 9 8 0,ybh 10 8 1,ycg 11 8 f_152 [.t 10],ybq 12 8 .leq 9 (.t 11),xV 13 8 12,xM 4 13]⟩
def c_263_l0:ACode:=ycz [xB 14 .lss 13 12] 14 0 1 (ycn (xM 15 13) 6 15 (ya3 [xM 16 6,ych 17,ybg 18 f_319 16 17,ycl 19,xB 20 .eql 18 19] 20 [xM 21 6,xM 4 21,xC 5 ybw])) [yb5 22 .add 13,xM 13 22]
def c_263_k1:ACode:=ycf yby (ybi 5)
def c_263:AFn:=⟨2,[.tmp 4,.tmp 5],ya4 [yby,ybi 5] [ych 7,xO 8 (.bslice .imm 1 (List.replicate 1 [.int .i64 0]) [(0,(.t 7))]),yb7 9 f_248 8,ybl 10 9] 10 [yby,ybi 5] (ybn [ych 11,yb5 12 .add 11,ybd 13] 0 c_263_l0 c_263_k1)⟩
def c_264_l0:ACode:=ycz [xK 5 .lss 4 8] 5 0 1 (ycn (xM 6 4) 3 6 (xD [xL 7 1,ycl 8,xM 9 3,xO 10 (.bin .mul (yan 8) (.t 9)),xB 11 .shr 8 10,xO 12 (.conv .u8 (.t 11)),xO 13 (.bslice .imm 1 (List.replicate 1 [.int .u8 0]) [(0,(.t 12))]),ycx 14 1 1 7 13,xS 1 1 14])) [yb5 15 .add 4,xM 4 15]
def c_264:AFn:=⟨2,[],yaa [yby] (yam 0 c_264_l0)⟩
def c_265_l0:ACode:=ycz [xB 15 .lss 14 13] 15 0 1 (yaa [xM 16 14,xX 17 1 12 14,xL 18 17,xM 5 16,xM 6 18] (ya3 [xM 19 6,ych 20,ycb 21,xX 22 1 20 21,xL 23 22,xB 24 .neq 19 23] 24 [yc7])) [yb5 25 .add 14,xM 14 25]
def c_265_k1:ACode:=yc9 (xC 4 ybw)
def c_265:AFn:=⟨2,[.tmp 4],ya4 [yc7] [ycl 7,xN 8 7,ych 9,xN 10 9,xB 11 .neq 8 10] 11 [yc7] (ybn [ycl 12,xN 13 12,ybd 14] 0 c_265_l0 c_265_k1)⟩
def c_266_l0:ACode:=yci [xM 9 7,ycl 10,xN 11 10,xB 12 .lss 9 11] 12 0 1 (xD [ycl 15,xM 16 7,xX 17 5 15 16,yce 18 17,xA 19 4 18,xA 20 4 5,ybg 21 f_85 19 20]) (yai 21 [xM 22 7,xM 6 22]) [xM 13 7,yb5 14 .add 13,xM 7 14]
def c_266_k1:ACode:=yc9 (yb0 6)
def c_266:AFn:=⟨3,[.tmp 6],ybk [xJ 5 2,ybd 6] [ych 8,ydb 7] 0 c_266_l0 c_266_k1⟩
def c_267:AFn:=⟨1,[.tmp 2],yb1 [ybi 2] [ycl 3,xO 4 (yao .geq 3 (.c (.int .u8 97))),xM 5 4,ybh 6 5 0,ybq 7 5 .leq 6 (.c (.int .u8 122)),xV 8 5 7,ydb 9,ya1 10 9 0,yay 11 9 .geq 10 (.c (.int .u8 65)),ya1 12 9 11,ybh 13 12 0,ybq 14 12 .leq 13 (.c (.int .u8 90)),yac 15 9 (.pick (.t 12) (.t 14) (.c yap)),xW 16 9 15,xM 2 16]⟩
def c_268:AFn:=⟨1,[.tmp 2],yb1 [ybi 2] [ycl 3,xO 4 (yao .geq 3 (.c (.int .u8 48))),xM 5 4,ybh 6 5 0,ybq 7 5 .leq 6 (.c (.int .u8 57)),xV 8 5 7,ydb 2]⟩
def c_269_l0:ACode:=yca [xM 7 6,yce 8 2,xL 9 8,xN 10 9,xB 11 .lss 7 10] 11 0 1 (ya3 [yce 14 2,xL 15 14,xM 16 6,xX 17 2 15 16,yb4 18 17,xL 19 18,ych 20,xB 21 .eql 19 20] 21 [xM 22 6,xM 4 22,xC 5 ybw]) [xM 12 6,yb5 13 .add 12,xM 6 13]
def c_269_k1:ACode:=ycf yby (ybi 5)
def c_269:AFn:=⟨2,[.tmp 4,.tmp 5],ybk [yda 2,yby,ybi 5] [ybd 6] 0 c_269_l0 c_269_k1⟩
def c_270_l0:ACode:=yci [xM 34 4,xM 35 3,xB 36 .lss 34 35] 36 3 4 (xD [ycl 39,xM 40 4,xX 41 2 39 40,yb4 42 41,xL 43 42,ycl 44,xM 45 3,xX 46 2 44 45,yb4 47 46,xL 48 47,xB 49 .eql 43 48]) (yai 49 [xI 2 7]) [xM 37 4,yb5 38 .add 37,xM 4 38]
def c_270_k1:ACode:=xR [xM 9 3,yb5 10 .add 9,xM 3 10]
def c_270_l2:ACode:=ya8 [xM 5 3,ycl 6,xN 7 6,xB 8 .lss 5 7] 8 0 (yaj 1 (yc4 2 [ycl 12,xM 13 3,xX 14 2 12 13,yb4 15 14,xL 16 15,yb7 17 f_194 16,ybl 18 17,xM 11 18] 11 [xI 2 6] (ya3 [ycl 20,xM 21 3,xX 22 2 20 21,yce 23 22,xL 24 23,yb5 25 .lss 24,xM 26 25,ya1 27 26 0,ya1 28 26 3,yac 29 26 (yc6 2 27 28),yc3 30 26 29,ybt 31 26 30,ya9 32 26 .gtr 31 32,xW 33 26 32,xM 19 33] 19 [xI 2 10]) (yaa [yby] (yam 3 c_270_l0))) c_270_k1)
def c_270_k3:ACode:=yc9 (ybd 2)
def c_270:AFn:=⟨1,[.tmp 2],ybk [ybd 2] [ybd 3] 0 c_270_l2 c_270_k3⟩
def c_271:AFn:=⟨3,[.tmp 6],ybr [yda 3,xJ 4 1,xJ 5 2,ybd 6] [xA 15 9 3,yce 16 4,xA 17 2 16,ybg 18 f_320 15 17,xM 14 18,xE 19 0 14,xE 20 1 14,xM 7 19,xM 8 20] (yar [xF 21 3 4,xL 22 21,yc2 23 .geq 22,xM 24 23,ybv 25 24 3 4,ybz 26 24 1 25,ybv 27 24 3 3,ybz 28 24 1 27,yaq 29 24 (ya5 28),ybq 30 24 .lss 26 (.t 29),xV 31 24 30,xM 9 31] [yb4 32 4,xL 33 32] (.block 0 (ycn (yb5 35 .eql 33) 34 35 (yab 34 (ybj [ydb 36,ybl 37 36] 37 [xI 6 8] (yae [xF 38 6 4,xL 39 38,xA 40 10 5,xM 41 7,yct 42 f_321 39 40 41,xM 6 42])) (yad [xK 44 .eql 33 2,xM 43 44] (yc8 43 (xR [xK 45 .eql 33 3,xM 43 45])) (yab 43 (ybj [xF 46 4 4,xL 47 46,yc2 48 .lss 47,xM 49 48,yaw 50 49 4 4,ybt 51 49 50,yc3 52 49 3,ybt 53 49 52,ybb 54 49 53,ybx 55 49 .geq 51 54,xW 56 49 55] 56 [xI 6 8] (yc9 (ybd 6))) (ycn (xK 58 .eql 33 4) 57 58 (yab 57 (ybj [ydb 59,ybl 60 59,xM 61 60,ya1 62 61 9,yac 63 61 (ya7 62),xW 64 61 63] 64 [xI 6 8] (ya4 [xF 66 5 4,xL 67 66,xA 68 10 5,ybg 69 f_322 67 68,xM 65 69,xE 70 0 65,xE 71 1 65,xM 10 70,xM 11 71] [xM 72 11,yc2 73 .eql 72,xM 74 73,ybh 75 74 7,ybv 76 74 3 3,ybz 77 74 1 76,ybv 78 74 3 4,ybz 79 74 1 78,yaq 80 74 (yc6 3 77 79),ybv 81 74 1 80,ybz 82 74 1 81,ybq 83 74 .neq 75 (.t 82),xV 84 74 83] 84 [xI 6 10] (yc1 (xM 85 11) 6 85))) (ycn (xK 87 .eql 33 5) 86 87 (ybu 86 (ybj [xM 88 9,ybl 89 88] 89 [xI 6 8] (ya4 [xF 91 5 4,xL 92 91,xA 93 10 5,ybg 94 f_322 92 93,xM 90 94,xE 95 0 90,xE 96 1 90,xM 12 95,xM 13 96] [xM 97 13,yc2 98 .neq 97] 98 [xM 99 13,xM 6 99] (ycd [xF 100 6 4,xL 101 100,xA 102 10 5,xF 103 3 3,xL 104 103,xF 105 3 4,xL 106 105,xX 107 3 104 106,yce 108 107,xL 109 108,yct 110 f_321 101 102 109,xM 6 110] .ret)))))))))))) (yc9 (xI 6 11)))⟩
def c_272:AFn:=⟨2,[.cell 4 true 10],ya2 [yda 2,yaz 4 [.str [],.fslice 2 [],.fslice 2 [],.fslice 3 [],.fslice 3 [],.fslice 6 [],.fslice 7 [],.fslice 5 [],.fslice 1 [],.fslice 2 []]] (xD [xA 5 9 2,xF 6 4 2,xL 7 6,ych 8,xX 9 3 7 8,yce 10 9,xL 11 10,xO 12 (.build [.str [],.fslice 2 [],.fslice 2 [],.fslice 3 [],.fslice 3 [],.fslice 6 [],.fslice 7 [],.fslice 5 [],.fslice 1 [],.fslice 2 []] [(0,9,(.t 5)),(9,1,(.t 11))]),xS 10 4 12]) .ret⟩
def c_273_l0:ACode:=yci [ydb 11,yce 12 3,xL 13 12,xN 14 13,xB 15 .lss 11 14] 15 0 1 (xD [xA 18 9 2,yce 19 3,xL 20 19,ydb 21,xX 22 3 20 21,yb4 23 22,xA 24 2 23,ybg 25 f_306 18 24,xM 9 25]) (yaa [yce 26 3,xL 27 26,ydb 28,xX 29 3 27 28,xF 30 2 29,xL 31 30,xM 10 31] (ya0 2 (ybp [xM 33 9,yc2 34 .eql 33,xM 32 34] 32 [ydb 35,xM 4 35,xI 5 8] (ybp [xM 37 10,yb5 38 .neq 37,xM 39 38,ybh 40 39 10,yc0 41 39 .neq 40 2,xV 42 39 41,xM 43 42,ybh 44 43 10,yc0 45 43 .neq 44 3,xV 46 43 45,xM 36 46] 36 [ydb 47,xM 4 47,xI 5 11] (yaa [xM 49 10,xK 50 .eql 49 2,xM 48 50] (ybu 48 (xR [xM 51 7,yb5 52 .add 51,xM 7 52]))))) [xM 53 6,xM 54 9,xB 55 .add 53 54,xM 6 55])) [ydb 16,yb5 17 .add 16,xM 8 17]
def c_273_k1:ACode:=yc4 3 [xM 57 7,yb5 58 .gtr 57,xM 56 58] 56 [xI 4 (-2),xI 5 7] (ya3 [xM 60 6,xK 61 .gtr 60 64,xM 59 61] 59 [xI 4 (-2),xI 5 10]) (ycf yby ycw)
def c_273:AFn:=⟨2,[.tmp 4,.tmp 5],ybr [yda 2,xJ 3 1,yby,ycw] [ybd 6] (ybk [ybd 7] [ybd 8] 0 c_273_l0 c_273_k1)⟩
def c_274_l0:ACode:=yca [ycb 6,xF 7 2 3,xL 8 7,xN 9 8,xB 10 .lss 6 9] 10 0 1 (.block 2 (ycd [xF 14 2 3,xL 15 14,ycb 16,xX 17 1 15 16,xL 18 17,yc2 19 .lss 18,xM 20 19,yaw 21 20 2 3,ybt 22 20 21,ya1 23 20 5,yac 24 20 (yc6 1 22 23),ybt 25 20 24,yaw 26 20 4 2,ybt 27 20 26,ybb 28 20 27,ybx 29 20 .geq 25 28,xW 30 20 29,xM 13 30] (yah 13 [xI 4 8] (ycd [xF 32 2 3,xL 33 32,xF 34 2 3,xL 35 34,ycb 36,xX 37 1 35 36,xL 38 37,ybg 39 f_253 33 38,ycb 40,xB 41 .lss 39 40,xM 31 41] (yai 31 [xI 4 7]))))) [ycb 11,yb5 12 .add 11,xM 5 12]
def c_274_k1:ACode:=ybj [xF 42 2 3,xL 43 42,xF 44 3 3,yb4 45 44,xL 46 45,ybg 47 f_253 43 46,yc2 48 .lss 47] 48 [xI 4 8] (yae [xA 49 9 2,xF 50 3 3,xA 51 2 50,ybg 52 f_156 49 51,xM 4 52])
def c_274:AFn:=⟨2,[.tmp 4],ybk [yda 2,xJ 3 1,yby] [ycw] 0 c_274_l0 c_274_k1⟩
def c_275_l0:ACode:=yci [xM 20 7,ych 21,xB 22 .lss 20 21] 22 0 1 (xD [xF 25 6 2,xL 26 25,xM 27 7,xX 28 7 26 27,yb4 29 28,xL 30 29,yb4 31 6,xL 32 31,xB 33 .eql 30 32]) (yai 33 [yb0 4,xI 5 7]) [xM 23 7,yb5 24 .add 23,xM 7 24]
def c_275_l1:ACode:=yci [ydb 44,yce 45 6,xL 46 45,xN 47 46,xB 48 .lss 44 47] 48 2 3 (xD [yce 51 6,xL 52 51,ydb 53,xX 54 1 52 53,xL 55 54,yc2 56 .lss 55,xM 57 56,yc3 58 57 6,ybt 59 57 58,ya1 60 57 8,yac 61 57 (yc6 1 59 60),ybt 62 57 61,yc3 63 57 2,ybt 64 57 63,ybb 65 57 64,ybx 66 57 .geq 62 65,xW 67 57 66]) (yai 67 [yb0 4,xI 5 8]) [ydb 49,yb5 50 .add 49,xM 8 50]
def c_275_k2:ACode:=ybj [xF 68 2 6,xL 69 68,xM 70 69,yaq 71 70 (ycy 9 2),ybv 72 70 3 6,yaq 73 70 (ycy 2 72),ycg 74 70 f_323 [.t 71,.t 73],yc0 75 70 .eql 74 0,xV 76 70 75] 76 [yb0 4,xI 5 8] (ybj [xF 77 2 6,xL 78 77,ybl 79 78,xM 80 79,ybv 81 80 5 6,ybz 82 80 1 81,yaq 83 80 (ya5 82),yc0 84 80 .gtr 83 0,xV 85 80 84] 85 [yb0 4,xI 5 11] (ya4 [xA 87 9 2,ych 88,ybg 89 f_324 87 88,xM 86 89,xE 90 0 86,xE 91 1 86,xM 9 90,xM 10 91] [xM 92 10,yc2 93 .neq 92] 93 [xM 94 9,xM 95 10,xM 4 94,xM 5 95] (ybj [xA 96 9 2,ych 97,xF 98 6 6,xL 99 98,yct 100 f_325 96 97 99,ybl 101 100] 101 [yb0 4,xI 5 14] (ycf yby ycw))))
def c_275_k3:ACode:=ybj [yce 34 6,xL 35 34,xN 36 35,xK 37 .gtr 36 4,xM 38 37,yaw 39 38 5 6,ybt 40 38 39,ybb 41 38 40,ya9 42 38 .gtr 41 8,xW 43 38 42] 43 [yb0 4,xI 5 12] (ybn [ybd 8] 2 c_275_l1 c_275_k2)
def c_275:AFn:=⟨2,[.tmp 4,.tmp 5],ya2 [yda 2,yby,ycw] (xQ [xF 11 6 2,xL 12 11,ych 13,xX 14 7 12 13,xA 15 7 14,yaz 6 [.str [],.fslice 1 [],yap,ybo,ybo,.fslice 3 [],ybo],xS 7 6 15] [6]) (ybj [yb4 16 6,xL 17 16,yb7 18 f_194 17,ybl 19 18] 19 [yb0 4,xI 5 6] (ybn [ybd 7] 0 c_275_l0 c_275_k3))⟩
def c_276_l0:ACode:=yca [xM 5 4,ycl 6,xN 7 6,xB 8 .lss 5 7] 8 0 1 (xD [xM 11 3,ycl 12,xM 13 4,xX 14 5 12 13,xF 15 3 14,xL 16 15,yb7 17 f_276 16,xO 18 (.bin .add (yan 1) (.t 17)),ycl 19,xM 20 4,xX 21 5 19 20,xF 22 4 21,xL 23 22,yb7 24 f_276 23,xB 25 .add 18 24,xB 26 .add 11 25,xM 3 26]) [xM 9 4,yb5 10 .add 9,xM 4 10]
def c_276_k1:ACode:=yc1 (xM 27 3) 2 27
def c_276:AFn:=⟨1,[.tmp 2],yaa [ybd 2] (ybk [ybd 3] [yby] 0 c_276_l0 c_276_k1)⟩
def c_277_l0:ACode:=yca [xM 5 4,ycl 6,xN 7 6,xB 8 .lss 5 7] 8 0 1 (xD [xM 11 3,ycl 12,xM 13 4,xX 14 5 12 13,xF 15 3 14,xL 16 15,yb7 17 f_277 16,xO 18 (.bin .add (yan 1) (.t 17)),ycl 19,xM 20 4,xX 21 5 19 20,xF 22 4 21,xL 23 22,yb7 24 f_277 23,xO 25 (.bin .add (yan 1) (.t 24)),xO 26 (.minmax true [.t 11,.t 18,.t 25]),xM 3 26]) [xM 9 4,yb5 10 .add 9,xM 4 10]
def c_277_k1:ACode:=yc1 (xM 27 3) 2 27
def c_277:AFn:=⟨1,[.tmp 2],yaa [ybd 2] (ybk [ybd 3] [yby] 0 c_277_l0 c_277_k1)⟩
def c_278_l0:ACode:=yca [xM 5 4,ycl 6,xN 7 6,xB 8 .lss 5 7] 8 0 1 (ybr [xM 11 3,ycl 12,xM 13 4,xX 14 5 12 13,xA 15 5 14,xO 16 (.bslice .imm 5 (List.replicate 1 [.int .i64 0,.int .i64 0,.fslice 3 [],.fslice 5 [],.fslice 5 []]) [(0,(.t 15))]),ycx 17 5 88 11 16,xM 3 17] [xM 18 3,ycl 19,xM 20 4,xX 21 5 19 20,xF 22 3 21,xL 23 22,yb7 24 f_278 23,ycx 25 5 88 18 24,xM 3 25] (xR [xM 26 3,ycl 27,xM 28 4,xX 29 5 27 28,xF 30 4 29,xL 31 30,yb7 32 f_278 31,ycx 33 5 88 26 32,xM 3 33])) [xM 9 4,yb5 10 .add 9,xM 4 10]
def c_278_k1:ACode:=yc1 (xM 34 3) 2 34
def c_278:AFn:=⟨1,[.tmp 2],yaa [xC 2 (.fslice 5 [])] (ybk [ycv 3 5] [yby] 0 c_278_l0 c_278_k1)⟩
def c_279:AFn:=⟨3,[.tmp 6],ya2 [yda 3,ybd 6] (xQ [ych 10,xM 11 2,xX 12 5 10 11,xA 13 5 12,yaz 7 [ybo,ybo,.fslice 3 [],.fslice 5 [],.fslice 5 []],xS 5 7 13] [7]) (yc4 0 [yb4 15 7,xL 16 15,yb5 17 .lss 16,xM 18 17,yaw 19 18 0 7,ybt 20 18 19,ya9 21 18 .gtr 20 3,xW 22 18 21,xM 14 22] 14 [xI 6 11] (yaa [yb4 24 7,xL 25 24,xK 26 .eql 25 2,xM 23 26] (yab 23 (yar [xF 28 2 7,xL 29 28,xA 30 9 3,xO 31 (.build [.str [],.fslice 2 [],.fslice 2 [],.fslice 3 [],.fslice 3 [],.fslice 6 [],.fslice 7 [],.fslice 5 [],.fslice 1 [],.fslice 2 []] [(0,9,(.t 30))]),ybg 32 f_322 29 31,xM 27 32,xE 33 0 27,xE 34 1 27,xM 8 33,xM 9 34] [xM 35 9,yc2 36 .eql 35,xM 37 36,ybh 38 37 8,yc0 39 37 .neq 38 1,xV 40 37 39] (ybu 40 (xR [xI 9 10])) (yc1 (xM 41 9) 6 41)) (ybp [yce 43 7,xL 44 43,yc2 45 .lss 44,xM 46 45,yc3 47 46 7,ybt 48 46 47,yaw 49 46 5 3,ybt 50 46 49,ybb 51 46 50,ybx 52 46 .geq 48 51,xW 53 46 52,xM 42 53] 42 [xI 6 8] (ybp [ych 55,xM 56 2,ybg 57 f_326 55 56,xM 54 57] 54 [xI 6 7] (ya3 [yb4 59 7,xL 60 59,yb5 61 .eql 60,xM 62 61,ybv 63 62 3 7,ybz 64 62 1 63,yaq 65 62 (ya5 64),ybv 66 62 4 7,ybz 67 62 1 66,yaq 68 62 (ya5 67),ybq 69 62 .add 65 (.t 68),yc0 70 62 .gtr 69 0,xV 71 62 70,xM 58 71] 58 [xI 6 5]))))) (yc9 (ybd 6)))⟩
def c_293_l0:ACode:=ycz [xB 9 .lss 8 7] 9 0 1 (yaa [xX 10 1 6 8,xL 11 10,xM 5 11] (xR [xM 12 3,ycb 13,xB 14 .add 12 13,xM 3 14])) [yb5 15 .add 8,xM 8 15]
def c_293_k1:ACode:=yc1 (xM 16 3) 2 16
def c_293:AFn:=⟨1,[.tmp 2],yaa [ybd 2] (ybk [ybd 3] [ycl 6,xN 7 6,ybd 8] 0 c_293_l0 c_293_k1)⟩
def c_294_l0:ACode:=yc5 [xB 10 .lss 9 8] 10 0 1 (xQ [xX 11 2 7 9,xA 12 2 11,yaz 5 [.str [],ybo],xS 2 5 12] [5]) (xR [xM 13 3,yce 14 5,xL 15 14,xO 16 (.bslice .imm 1 (List.replicate 1 [.int .i64 0]) [(0,(.t 15))]),ycx 17 1 8 13 16,xM 3 17]) [yb5 18 .add 9,xM 9 18]
def c_294_k1:ACode:=yc1 (xM 19 3) 2 19
def c_294:AFn:=⟨1,[.tmp 2],ycm (yda 1) (xC 2 (.fslice 1 [])) (ybk [ycv 3 1] [yce 6 1,xL 7 6,xN 8 7,ybd 9] 0 c_294_l0 c_294_k1)⟩
def c_295:AFn:=⟨2,[.tmp 4],yb1 [yc7] [ycl 5,ych 6,ybg 7 f_328 5 6,yc2 8 .geq 7,ydb 4]⟩
def c_296_l0:ACode:=yc5 [xB 25 .lss 24 23] 25 1 2 (xQ [xM 26 24,xX 27 2 22 24,xA 28 2 27,yaz 4 [.str [],ybo],xM 3 26,xS 2 4 28] [4]) (.block 3 (ybp [yb4 30 4,xL 31 30,yb7 32 f_257 31,ybl 33 32,xM 29 33] 29 [xI 2 6] (ybp [yce 35 4,xL 36 35,yb5 37 .lss 36,xM 38 37,yc3 39 38 4,ybt 40 38 39,ya9 41 38 .gtr 40 32,xW 42 38 41,xM 34 42] 34 [xI 2 10] (ya3 [yce 44 1,xL 45 44,xM 46 3,xO 47 (.slc 2 (.t 45) none (some (.t 46)) none),xO 48 (.mkfunc (.func f_330) [] [.t 4]),ybg 49 f_329 47 48,xM 43 49] 43 [xI 2 7])))) [yb5 50 .add 24,xM 24 50]
def c_296_k1:ACode:=yc9 (ybd 2)
def c_296:AFn:=⟨1,[.tmp 2],ycm (yda 1) (ybd 2) (yc4 0 [yb4 6 1,xL 7 6,yb7 8 f_257 7,ybl 9 8,xM 5 9] 5 [xI 2 6] (ya3 [yce 11 1,xL 12 11,xN 13 12,xK 14 .gtr 13 4,xM 15 14,yaw 16 15 2 1,ybt 17 15 16,ybb 18 15 17,ya9 19 15 .gtr 18 12,xW 20 15 19,xM 10 20] 10 [xI 2 12]) (ybn [yce 21 1,xL 22 21,xN 23 22,ybd 24] 1 c_296_l0 c_296_k1))⟩
def c_297:AFn:=⟨2,[.tmp 4],ya2 [yda 2,xJ 3 1,yby] (xQ [yb4 11 2,yb4 12 11,xA 13 9 12,yaz 5 [.str [],.fslice 2 [],.fslice 2 [],.fslice 3 [],.fslice 3 [],.fslice 6 [],.fslice 7 [],.fslice 5 [],.fslice 1 []],xS 9 5 13] [5]) (yaa [xA 15 9 5,yce 16 3,xA 17 2 16,ybg 18 f_331 15 17,xM 14 18,xE 19 0 14,xE 20 1 14,xM 6 19,xM 7 20] (yar [xF 21 3 3,xL 22 21,yc2 23 .geq 22,xM 24 23,ybv 25 24 3 3,ybz 26 24 1 25,ybv 27 24 3 5,ybz 28 24 1 27,yaq 29 24 (ya5 28),ybq 30 24 .lss 26 (.t 29),xV 31 24 30,xM 8 31] [yb4 32 3,xL 33 32] (.block 0 (ycn (yb5 35 .eql 33) 34 35 (yab 34 (ybj [xM 36 7,ybl 37 36] 37 [xI 4 8] (yae [xA 38 10 2,xF 39 6 3,xL 40 39,xM 41 6,yct 42 f_332 38 40 41,xM 4 42])) (yad [xK 44 .eql 33 2,xM 43 44] (yc8 43 (xR [xK 45 .eql 33 3,xM 43 45])) (yab 43 (ybj [xF 46 4 3,xL 47 46,yc2 48 .lss 47,xM 49 48,yaw 50 49 4 3,ybt 51 49 50,yc3 52 49 5,ybt 53 49 52,ybb 54 49 53,ybx 55 49 .geq 51 54,xW 56 49 55] 56 [xI 4 8] (yc9 yby)) (yad [xK 58 .eql 33 4,xM 57 58] (yc8 57 (xR [xK 59 .eql 33 5,xM 57 59])) (ybu 57 (ybj [ydb 60,ybl 61 60,xM 62 61,yaw 63 62 0 3,ybt 64 62 63,ya9 65 62 .eql 64 4,ya1 66 62 65,ybh 67 66 7,yaq 68 66 (ya7 67),yac 69 62 (.pick (.t 66) (.t 68) (.c yap)),xW 70 62 69] 70 [xI 4 8] (yad [xF 72 5 3,xL 73 72,yb4 74 2,xA 75 10 74,ybg 76 f_333 73 75,xM 71 76,xE 77 0 71,xE 78 1 71,xM 9 77,xM 10 78] (ya3 [xM 79 10,yc2 80 .neq 79] 80 [xM 81 10,xM 4 81]) (yad [yb4 82 3,xL 83 82,xK 84 .eql 83 5] (ybu 84 (ycd [xA 85 10 2,xF 86 6 3,xL 87 86,xF 88 3 5,xL 89 88,xF 90 3 3,xL 91 90,xX 92 3 89 91,yce 93 92,xL 94 93,yct 95 f_332 85 87 94,xM 4 95] .ret)) (ybj [xM 96 6,xF 97 3 5,xL 98 97,xF 99 3 3,xL 100 99,xX 101 3 98 100,yce 102 101,xL 103 102,xB 104 .neq 96 103] 104 [xI 4 10] (yc9 yby)))))))))))) (yc9 (xI 4 11))))⟩
def c_298_l0:ACode:=ycz [xB 31 .lss 30 29] 31 0 1 (yaa [xX 32 1 28 30,xL 33 32,xM 8 33] (ya3 [ydb 34,yc2 35 .lss 34,xM 36 35,ya1 37 36 8,yc3 38 36 2,ybt 39 36 38,ybb 40 36 39,ybx 41 36 .geq 37 40,xW 42 36 41] 42 [yb0 4,xI 5 8])) [yb5 43 .add 30,xM 30 43]
def c_298_l1:ACode:=yc5 [xB 68 .lss 67 66] 68 3 4 (xQ [xM 69 67,xX 70 3 65 67,xA 71 3 70,yaz 10 [yco 0,yco 0,ybo],xM 9 69,xS 3 10 71] [10]) (yaa [xA 72 9 2,ych 73,xA 74 3 10,yct 75 f_334 72 73 74,xM 11 75] (ya3 [xM 76 11,yc2 77 .neq 76] 77 [xM 78 9,xM 79 11,xM 4 78,xM 5 79])) [yb5 80 .add 67,xM 67 80]
def c_298_k2:ACode:=ybj [xA 81 9 2,ych 82,xF 83 6 6,xL 84 83,yct 85 f_335 81 82 84,ybl 86 85] 86 [yb0 4,xI 5 14] (ycf yby ycw)
def c_298_k3:ACode:=yc4 2 [xF 45 2 6,xL 46 45,xM 47 46,yaq 48 47 (ycy 9 2),ybv 49 47 3 6,yaq 50 47 (ycy 2 49),ycg 51 47 f_261 [.t 48,.t 50],yc0 52 47 .eql 51 0,xV 53 47 52,xM 44 53] 44 [yb0 4,xI 5 8] (ya3 [xF 55 2 6,xL 56 55,ybl 57 56,xM 58 57,ybv 59 58 5 6,ybz 60 58 1 59,yaq 61 58 (ya5 60),yc0 62 58 .gtr 61 0,xV 63 58 62,xM 54 63] 54 [yb0 4,xI 5 11]) (ybn [xF 64 5 6,xL 65 64,xN 66 65,ybd 67] 3 c_298_l1 c_298_k2)
def c_298:AFn:=⟨2,[.tmp 4,.tmp 5],ya2 [yda 2,yby,ycw] (xQ [xF 12 6 2,xL 13 12,ych 14,xX 15 7 13 14,xA 16 7 15,yaz 6 [.str [],.fslice 1 [],yap,ybo,ybo,.fslice 3 [],ybo],xS 7 6 16] [6]) (ybj [yce 17 6,xL 18 17,xN 19 18,xK 20 .gtr 19 4,xM 21 20,yaw 22 21 5 6,ybt 23 21 22,ybb 24 21 23,ya9 25 21 .gtr 24 8,xW 26 21 25] 26 [yb0 4,xI 5 12] (ybn [yce 27 6,xL 28 27,xN 29 28,ybd 30] 0 c_298_l0 c_298_k3))⟩
def c_299:AFn:=⟨1,[.tmp 2],yaa [ybd 2] (ybr [yaz 3 [ybo],⟨none,none,.store 1 (.t 3) (.c (.int .i64 0))⟩] [ycl 4,xO 5 (.mkfunc (.func f_336) [] [.t 3]),xO 6 (.tcall f_301 [.t 4,.t 5])] (yc1 (xL 7 3) 2 7))⟩
def c_300_l0:ACode:=yc5 [xB 12 .lss 11 10] 12 0 1 (xQ [xX 13 5 9 11,xA 14 5 13,yaz 5 [ybo,ybo,.fslice 3 [],.fslice 5 [],.fslice 5 []],xS 5 5 14] [5]) (xD [xM 15 3,xF 16 3 5,xL 17 16,yb7 18 f_300 17,xF 19 4 5,xL 20 19,yb7 21 f_300 20,xO 22 (.minmax true [.t 15,.t 18,.t 21]),xM 3 22]) [yb5 23 .add 11,xM 11 23]
def c_300_k1:ACode:=yae [xM 24 3,yb5 25 .add 24,xM 2 25]
def c_300:AFn:=⟨1,[.tmp 2],ya4 [ybd 2] [ycl 6,xN 7 6,yc2 8 .eql 7] 8 [ybd 2] (ybk [ybd 3] [ycl 9,xN 10 9,ybd 11] 0 c_300_l0 c_300_k1)⟩
def c_301_l0:ACode:=yc5 [xB 10 .lss 9 8] 10 0 1 (xQ [xX 11 5 7 9,xA 12 5 11,yaz 6 [ybo,ybo,.fslice 3 [],.fslice 5 [],.fslice 5 []],xS 5 6 12] [6]) (ya3 [ych 13,xA 14 5 6,xO 15 (.tcallv (.t 13) [.t 14]),ybl 16 15,xM 17 16,yaw 18 17 3 6,ybt 19 17 18,ya1 20 17 1,yac 21 17 (.tcall f_301 [.t 19,.t 20]),yac 22 17 (ya7 21),xW 23 17 22,xM 24 23,yaw 25 24 4 6,ybt 26 24 25,ya1 27 24 1,yac 28 24 (.tcall f_301 [.t 26,.t 27]),yac 29 24 (ya7 28),xW 30 24 29] 30 [yc7]) [yb5 31 .add 9,xM 9 31]
def c_301_k1:ACode:=yc9 (xC 4 ybw)
def c_301:AFn:=⟨2,[.tmp 4],ybk [yc7] [ycl 7,xN 8 7,ybd 9] 0 c_301_l0 c_301_k1⟩
def c_302:AFn:=⟨5,[.tmp 6],yar [yda 5,ybi 6] [xA 7 9 1,xA 8 5 5,xL 9 2,yct 10 f_303 7 8 9,xS 1 3 10] (ya3 [xL 11 3,yc2 12 .neq 11] 12 [ybi 6]) (yad [xA 13 5 5,yb7 14 f_304 13] (ybu 14 (xR [xL 15 2,yce 16 5,xL 17 16,xO 18 (.bslice .imm 1 (List.replicate 1 [.int .i64 0]) [(0,(.t 17))]),ycx 19 1 8 15 18,xS 1 2 19])) (yb1 [xL 20 4,yb5 21 .add 20,xS 1 4 21] [xC 6 ybw]))⟩
def c_303_l0:ACode:=ycz [xB 30 .lss 29 28] 30 1 2 (yaa [xX 31 1 27 29,xL 32 31,xM 8 32] (ya3 [ydb 33,yce 34 4,xL 35 34,xB 36 .eql 33 35] 36 [xI 6 7])) [yb5 37 .add 29,xM 29 37]
def c_303_k1:ACode:=ya3 [yb4 38 4,xL 39 38,yb5 40 .eql 39,xM 41 40,ybv 42 41 3 4,ybz 43 41 1 42,yaq 44 41 (ya5 43),ybv 45 41 4 4,ybz 46 41 1 45,yaq 47 41 (ya5 46),ybq 48 41 .add 44 (.t 47),yc0 49 41 .gtr 48 0,xV 50 41 49] 50 [xI 6 5]
def c_303_k2:ACode:=yc9 (ybd 6)
def c_303:AFn:=⟨3,[.tmp 6],yar [yda 3,xJ 4 1,ybd 6] [yb4 11 4,xL 12 11] (.block 0 (yad [yb5 14 .eql 12,xM 13 14] (yc8 13 (xR [xK 15 .eql 12 3,xM 13 15])) (yab 13 (ybj [yce 16 4,xL 17 16,yc2 18 .lss 17,xM 19 18,yc3 20 19 4,ybt 21 19 20,yaw 22 19 5 3,ybt 23 19 22,ybb 24 19 23,ybx 25 19 .geq 21 24,xW 26 19 25] 26 [xI 6 8] (ybn [xM 27 2,xN 28 27,ybd 29] 1 c_303_l0 c_303_k1)) (ycn (xK 52 .eql 12 2) 51 52 (yab 51 (ya4 [xF 54 2 4,xL 55 54,xA 56 9 3,xO 57 (.build [.str [],.fslice 2 [],.fslice 2 [],.fslice 3 [],.fslice 3 [],.fslice 6 [],.fslice 7 [],.fslice 5 [],.fslice 1 [],.fslice 2 []] [(0,9,(.t 56))]),ybg 58 f_333 55 57,xM 53 58,xE 59 0 53,xE 60 1 53,xM 9 59,xM 10 60] [xM 61 10,yc2 62 .neq 61] 62 [xM 63 10,xM 6 63] (ya3 [xM 64 9,yb5 65 .neq 64] 65 [xI 6 10])) (yc9 (xI 6 11))))))) c_303_k2⟩
def c_304:AFn:=⟨1,[.tmp 2],yb1 [yda 1,ybi 2] [yb4 3 1,xL 4 3,yb5 5 .eql 4,ycb 6,yaw 7 6 0 1,ybt 8 6 7,ya9 9 6 .eql 8 3,xW 10 6 9,xM 2 10]⟩
def c_305:AFn:=⟨2,[.tmp 4],yb1 [yc7] [ycl 5,ych 6,ybg 7 f_337 5 6,yc2 8 .geq 7,ydb 4]⟩
def c_306:AFn:=⟨2,[.tmp 4],yaa [yda 2,xJ 3 1,yby] (yar [xF 6 2 2,xL 7 6,xM 5 7] [yb4 8 3,xL 9 8,yc2 10 .geq 9] (ybu 10 (ybj [yb4 11 3,xL 12 11,yce 13 2,xL 14 13,xN 15 14,xB 16 .geq 12 15] 16 [yby] (xR [yce 17 2,xL 18 17,yb4 19 3,xL 20 19,xX 21 2 18 20,yce 22 21,xL 23 22,xM 5 23]))) (ybj [yb4 24 3,xL 25 24,xK 26 .lss 25 (-1),xM 27 26,yc3 28 27 3,ybt 29 27 28,ya9 30 27 .lss 29 0,xW 31 27 30,xM 32 31,yc3 33 32 3,ybt 34 32 33,ya1 35 32 5,ybb 36 32 35,ybx 37 32 .geq 34 36,xW 38 32 37,xM 39 38,ya1 40 39 5,yc3 41 39 3,ybt 42 39 41,yac 43 39 (yc6 2 40 42),yc3 44 39 43,ybt 45 39 44,ya9 46 39 .lss 45 1,xW 47 39 46,xM 48 47,ya1 49 48 5,yc3 50 48 3,ybt 51 48 50,yac 52 48 (yc6 2 49 51),yc3 53 48 52,ybt 54 48 53,ya9 55 48 .gtr 54 32,xW 56 48 55] 56 [yby] (yae [ycb 57,yce 58 3,xL 59 58,xX 60 2 57 59,yce 61 60,xL 62 61,xM 4 62])))⟩
def c_307_l0:ACode:=yca [xM 7 6,ych 8,xB 9 .leq 7 8,xM 10 9,ybh 11 10 1,ycg 12 10 f_309 [.t 11],xV 13 10 12] 13 0 1 (ya3 [xM 16 6,ych 17,ybg 18 f_338 16 17,ycl 19,xB 20 .eql 18 19] 20 [xM 21 6,xM 4 21,xC 5 ybw]) [xM 14 6,yb5 15 .add 14,xM 6 15]
def c_307_k1:ACode:=ycf yby (ybi 5)
def c_307:AFn:=⟨2,[.tmp 4,.tmp 5],ybk [yby,ybi 5] [ybd 6] 0 c_307_l0 c_307_k1⟩
def c_308:AFn:=⟨1,[.tmp 2],ya4 [xC 2 (yco 0)] [ycl 3,yb7 4 f_309 3,ybl 5 4] 5 [xC 2 (yco 0)] (yae [ycl 6,yb7 7 f_310 6,xO 8 (yao .sub 7 (.c (.int .u64 1))),xO 9 (.conv .u32 (.t 8)),xM 2 9])⟩
def c_309:AFn:=⟨1,[.tmp 2],yb1 [ybi 2] [ycl 3,yb5 4 .geq 3,xM 5 4,ybh 6 5 0,yc0 7 5 .leq 6 32,xV 8 5 7,ydb 2]⟩
def c_310_l0:ACode:=yca [xM 5 4,ycl 6,xB 7 .lss 5 6] 7 0 1 (xR [xM 10 3,xO 11 (.bin .mul (.c (.int .u64 2)) (.t 10)),xM 3 11]) [xM 8 4,yb5 9 .add 8,xM 4 9]
def c_310_k1:ACode:=yc1 (xM 12 3) 2 12
def c_310:AFn:=⟨1,[.tmp 2],yaa [xC 2 (.int .u64 0)] (ybk [xC 3 (.int .u64 1)] [yby] 0 c_310_l0 c_310_k1)⟩
def c_313:AFn:=⟨1,[.tmp 2],yb1 [ybi 2] [ycl 3,xO 4 (yao .geq 3 (.c (.int .u8 97))),xM 5 4,ybh 6 5 0,ybq 7 5 .leq 6 (.c (.int .u8 122)),xV 8 5 7,ydb 9,ya1 10 9 0,yay 11 9 .geq 10 (.c (.int .u8 65)),ya1 12 9 11,ybh 13 12 0,ybq 14 12 .leq 13 (.c (.int .u8 90)),yac 15 9 (.pick (.t 12) (.t 14) (.c yap)),xW 16 9 15,xM 2 16]⟩
def c_314_l0:ACode:=ya8 [ycb 6,ycl 7,xO 8 (.slen (.t 7)),xB 9 .lss 6 8,xM 10 9,ybh 11 10 1,ybh 12 10 0,ybh 13 10 5,yaq 14 10 (.idxs (.t 12) (.t 13)),yaq 15 10 (.pcallv (.t 11) [.t 14]),xV 16 10 15] 16 0 (.block 1 (xR [ycb 17,yb5 18 .add 17,xM 5 18]))
def c_314_k1:ACode:=yc1 (ycb 19) 4 19
def c_314:AFn:=⟨2,[.tmp 4],ybr [yby] [ycw] (yaj 0 (.loop c_314_l0) c_314_k1)⟩
def c_315:AFn:=⟨1,[.tmp 2],yb1 [ybi 2] [ycl 3,yb7 4 f_313 3,xM 5 4,ya1 6 5 0,ycc 7 5 f_316 [.t 6],xW 8 5 7,ydb 9,ya1 10 9 0,yay 11 9 .eql 10 (.c (.int .u8 95)),xW 12 9 11,xM 2 12]⟩
def c_316:AFn:=⟨1,[.tmp 2],yb1 [ybi 2] [ycl 3,xO 4 (yao .geq 3 (.c (.int .u8 48))),xM 5 4,ybh 6 5 0,ybq 7 5 .leq 6 (.c (.int .u8 57)),xV 8 5 7,ydb 2]⟩
def c_317:AFn:=⟨2,[.cell 4 true 2],yaa [yaz 4 [.str [],ybo]] (ya4 [yaz 5 [.str [],ybo]] [ych 6,yc2 7 .lss 6,xM 8 7,ya1 9 8 1,ya1 10 8 0,ybb 11 8 10,ybx 12 8 .geq 9 11,xW 13 8 12] 13 [xA 14 2 5,xS 2 4 14] (yae [ycl 15,ych 16,xX 17 2 15 16,xA 18 2 17,xS 2 4 18]))⟩
def c_318:AFn:=⟨2,[.tmp 4],ya4 [yda 2,xC 4 (.fslice 2 [])] [ych 5,xK 6 .eql 5 (-1)] 6 [xF 7 2 2,xL 8 7,ydb 4] (yae [yce 9 2,xL 10 9,ych 11,ybg 12 f_339 10 11,xO 13 (.fld false 1 1 (.t 12)),xM 4 13])⟩
def c_319:AFn:=⟨2,[.tmp 4],ya4 [xC 4 (yco 0)] [ych 5,xO 6 (.bslice .imm 1 (List.replicate 1 [.int .i64 0]) [(0,(.t 5))]),yb7 7 f_248 6,ybl 8 7] 8 [xC 4 (yco 0)] (yae [ych 9,yb7 10 f_152 9,ych 11,yb7 12 f_152 11,ycl 13,xO 14 (.minmax true [.t 13,.c (.int .i64 0)]),ych 15,xO 16 (.minmax false [.t 14,.t 15]),xB 17 .shr 12 16,xB 18 .andNot 10 17,xM 4 18])⟩
def c_320:AFn:=⟨2,[.tmp 4,.tmp 5],yaa [yda 2,xJ 3 1,yby,ybi 5] (yar [xF 7 2 2,xL 8 7,ydb 6] [yb4 9 3,xL 10 9,xK 11 .neq 10 (-1)] (ybu 11 (ybj [yb4 12 3,xL 13 12,yc2 14 .lss 13,xM 15 14,yaw 16 15 0 3,ybt 17 15 16,yc3 18 15 2,ybt 19 15 18,ybb 20 15 19,ybx 21 15 .geq 17 20,xW 22 15 21] 22 [yby,ybi 5] (xR [yce 23 2,xL 24 23,yb4 25 3,xL 26 25,xX 27 2 24 26,yce 28 27,xL 29 28,xM 6 29]))) (ybj [yce 30 3,xL 31 30,yc2 32 .lss 31,xM 33 32,yc3 34 33 3,ybt 35 33 34,ya1 36 33 6,ybb 37 33 36,ybx 38 33 .geq 35 37,xW 39 33 38] 39 [yby,ybi 5] (yae [xM 40 6,yce 41 3,xL 42 41,xX 43 2 40 42,yce 44 43,xL 45 44,xM 4 45,xC 5 ybw])))⟩
def c_321:AFn:=⟨3,[.tmp 6],ycm (xJ 4 1) (ybd 6) (ya4 [ycl 10,xA 11 10 4,ybg 12 f_322 10 11,xM 9 12,xE 13 0 9,xE 14 1 9,xM 7 13,xM 8 14] [ydb 15,yc2 16 .eql 15,xM 17 16,ybh 18 17 7,ybh 19 17 2,ybq 20 17 .neq 18 (.t 19),xV 21 17 20] 21 [xI 6 10] (yc1 (ydb 22) 6 22))⟩
def c_322:AFn:=⟨2,[.tmp 4,.tmp 5],ya4 [xJ 3 1,yby,ycw] [ycl 9,xN 10 9,xK 11 .gtr 10 24] 11 [yby,xI 5 12] (yaa [ycl 13,xA 14 10 3,ycr 15 f_340 13 (yan 0) (.t 14),xM 12 15,xE 16 0 12,xE 17 1 12,xE 18 2 12,xM 6 16,xM 7 17,xM 8 18] (yc4 0 [ydb 20,yc2 21 .neq 20,xM 19 21] 19 [ydb 22,yby,xM 5 22] (ya3 [xM 24 7,ycl 25,xN 26 25,xB 27 .lss 24 26,xM 23 27] 23 [yby,xI 5 4]) (yae [xM 28 6,xM 4 28,ycw])))⟩
def c_323:AFn:=⟨2,[.tmp 4],yaa [yda 2,xJ 3 1,yby] (yar [xF 6 2 2,xL 7 6,xM 5 7] [yb4 8 3,xL 9 8,yc2 10 .geq 9] (ybu 10 (ybj [yb4 11 3,xL 12 11,yce 13 2,xL 14 13,xN 15 14,xB 16 .geq 12 15] 16 [yby] (xR [yce 17 2,xL 18 17,yb4 19 3,xL 20 19,xX 21 2 18 20,yce 22 21,xL 23 22,xM 5 23]))) (ybj [yb4 24 3,xL 25 24,xK 26 .lss 25 (-1),xM 27 26,yc3 28 27 3,ybt 29 27 28,ya9 30 27 .lss 29 0,xW 31 27 30,xM 32 31,yc3 33 32 3,ybt 34 32 33,ya1 35 32 5,ybb 36 32 35,ybx 37 32 .geq 34 36,xW 38 32 37,xM 39 38,ya1 40 39 5,yc3 41 39 3,ybt 42 39 41,yac 43 39 (yc6 2 40 42),yc3 44 39 43,ybt 45 39 44,ya9 46 39 .lss 45 1,xW 47 39 46,xM 48 47,ya1 49 48 5,yc3 50 48 3,ybt 51 48 50,yac 52 48 (yc6 2 49 51),yc3 53 48 52,ybt 54 48 53,ya9 55 48 .gtr 54 32,xW 56 48 55] 56 [yby] (yae [ycb 57,yce 58 3,xL 59 58,xX 60 2 57 59,yce 61 60,xL 62 61,xM 4 62])))⟩
def c_324_l0:ACode:=yci [ydb 19,xF 20 5 6,xL 21 20,xN 22 21,xB 23 .lss 19 22] 23 0 1 (xQ [xF 26 5 6,xL 27 26,ydb 28,xX 29 3 27 28,xA 30 3 29,yaz 9 [yco 0,yco 0,ybo],xS 3 9 30] [9]) (ybj [yb4 31 9,xL 32 31,xM 33 7,ybg 34 f_157 32 33,ybl 35 34,xM 36 35,yc3 37 36 9,ybt 38 36 37,ya1 39 36 7,ycc 40 36 f_157 [.t 38,.t 39],yac 41 36 (ya7 40),xW 42 36 41] 42 [ydb 43,xM 4 43,xI 5 9] (ybj [yb4 44 9,xL 45 44,yce 46 9,xL 47 46,xB 48 .and 45 47,yb4 49 9,xL 50 49,xB 51 .neq 48 50] 51 [ydb 52,xM 4 52,xI 5 5] (ya3 [xA 53 9 2,ych 54,xF 55 2 9,xL 56 55,yct 57 f_325 53 54 56,ybl 58 57] 58 [ydb 59,xM 4 59,xI 5 14]))) [ydb 24,yb5 25 .add 24,xM 8 25]
def c_324_k1:ACode:=ycf (yb0 4) ycw
def c_324:AFn:=⟨2,[.tmp 4,.tmp 5],ya2 [yda 2,yby,ycw] (xQ [xF 10 6 2,xL 11 10,ych 12,xX 13 7 11 12,xA 14 7 13,yaz 6 [.str [],.fslice 1 [],yap,ybo,ybo,.fslice 3 [],ybo],xS 7 6 14] [6]) (ybk [xA 15 9 2,xF 16 3 6,xA 17 2 16,ybg 18 f_323 15 17,xM 7 18] [ybd 8] 0 c_324_l0 c_324_k1)⟩
def c_325:AFn:=⟨3,[.tmp 6],yb1 [yda 3,ybi 6] [xM 7 2,xK 8 .eql 7 (-1),ydb 9,ya1 10 9 2,ya9 11 9 .eql 10 (-2),xW 12 9 11,xM 13 12,ya1 14 13 2,ya1 15 13 1,ybx 16 13 .gtr 14 15,ya1 17 13 16,ybh 18 17 2,ybv 19 17 6 3,ybz 20 17 1 19,yaq 21 17 (ya5 20),ybq 22 17 .lss 18 (.t 21),yac 23 13 (.pick (.t 17) (.t 22) (.c yap)),xW 24 13 23,xM 6 24]⟩
def c_326_l0:ACode:=yci [ycb 6,ych 7,xB 8 .lss 6 7] 8 0 1 (xD [ycl 11,ycb 12,xX 13 5 11 12,xA 14 5 13,yb7 15 f_341 14,xM 16 15,ybh 17 16 0,ybh 18 16 5,yaq 19 16 (yc6 5 17 18),ybv 20 16 1 19,ybz 21 16 1 20,ybh 22 16 0,ybh 23 16 1,yaq 24 16 (yc6 5 22 23),ybv 25 16 1 24,ybz 26 16 1 25,ybq 27 16 .eql 21 (.t 26),xV 28 16 27]) (yai 28 [xC 4 ybw]) [ycb 9,yb5 10 .add 9,xM 5 10]
def c_326_k1:ACode:=yc9 yc7
def c_326:AFn:=⟨2,[.tmp 4],ybk [yc7] [ycw] 0 c_326_l0 c_326_k1⟩
def c_328_l0:ACode:=ycz [xB 9 .lss 8 7] 9 0 1 (ycn (ydb 10) 5 10 (ya3 [ych 11,ycl 12,ycb 13,xX 14 1 12 13,xL 15 14,xB 16 .eql 11 15] 16 [ycb 17,xM 4 17])) [yb5 18 .add 8,xM 8 18]
def c_328_k1:ACode:=yc9 (yb0 4)
def c_328:AFn:=⟨2,[.tmp 4],ybk [yby] [ycl 6,xN 7 6,ybd 8] 0 c_328_l0 c_328_k1⟩
def c_329:AFn:=⟨2,[.tmp 4],yb1 [yc7] [ycl 5,ych 6,ybg 7 f_342 5 6,yc2 8 .geq 7,ydb 4]⟩
def c_330:AFn:=⟨2,[.tmp 3],yb1 [yda 2,ybi 3] [yb4 4 2,xL 5 4,yb4 6 1,xL 7 6,xB 8 .eql 5 7,ydb 3]⟩
def c_331:AFn:=⟨2,[.tmp 4,.tmp 5],yaa [yda 2,xJ 3 1,yby,ybi 5] (yar [xF 7 2 2,xL 8 7,ydb 6] [yb4 9 3,xL 10 9,xK 11 .neq 10 (-1)] (ybu 11 (ybj [yb4 12 3,xL 13 12,yc2 14 .lss 13,xM 15 14,yaw 16 15 0 3,ybt 17 15 16,yc3 18 15 2,ybt 19 15 18,ybb 20 15 19,ybx 21 15 .geq 17 20,xW 22 15 21] 22 [yby,ybi 5] (xR [yce 23 2,xL 24 23,yb4 25 3,xL 26 25,xX 27 2 24 26,yce 28 27,xL 29 28,xM 6 29]))) (ybj [yce 30 3,xL 31 30,yc2 32 .lss 31,xM 33 32,yc3 34 33 3,ybt 35 33 34,ya1 36 33 6,ybb 37 33 36,ybx 38 33 .geq 35 37,xW 39 33 38] 39 [yby,ybi 5] (yae [xM 40 6,yce 41 3,xL 42 41,xX 43 2 40 42,yce 44 43,xL 45 44,xM 4 45,xC 5 ybw])))⟩
def c_332:AFn:=⟨3,[.tmp 6],ycm (yda 3) (ybd 6) (ya4 [ych 10,yb4 11 3,xA 12 10 11,ybg 13 f_333 10 12,xM 9 13,xE 14 0 9,xE 15 1 9,xM 7 14,xM 8 15] [ydb 16,yc2 17 .eql 16,xM 18 17,ybh 19 18 7,ybh 20 18 2,ybq 21 18 .neq 19 (.t 20),xV 22 18 21] 22 [xI 6 10] (yc1 (ydb 23) 6 23))⟩
def c_333:AFn:=⟨2,[.tmp 4,.tmp 5],ya4 [xJ 3 1,yby,ycw] [ycl 7,xN 8 7,xK 9 .gtr 8 24] 9 [yby,xI 5 12] (yaa [xA 11 10 3,ycl 12,ycs 13 f_343 11 12 (yan 0),xM 10 13,xE 14 0 10,xE 15 1 10,xE 16 2 10,xM 4 14,xM 6 15,xM 5 16] (yc4 0 [ycb 18,yc2 19 .neq 18,xM 17 19] 17 [ycb 20,yby,xM 5 20] (ya3 [xM 22 6,ycl 23,xN 24 23,xB 25 .lss 22 24,xM 21 25] 21 [yby,xI 5 4]) (yae [xM 26 4,xM 4 26,ycw])))⟩
def c_334:AFn:=⟨3,[.tmp 6],ya2 [yda 3,xJ 5 2,ybd 6] (xD [xA 8 9 3,xF 9 6 3,xL 10 9,ych 11,xX 12 7 10 11,xF 13 3 12,xA 14 2 13,ybg 15 f_261 8 14,xM 7 15]) (yc4 0 [yb4 17 5,xL 18 17,xM 19 7,ybg 20 f_262 18 19,ybl 21 20,xM 22 21,yc3 23 22 5,ybt 24 22 23,ya1 25 22 7,ycc 26 22 f_262 [.t 24,.t 25],yac 27 22 (ya7 26),xW 28 22 27,xM 16 28] 16 [xI 6 9] (ybp [yb4 30 5,xL 31 30,yce 32 5,xL 33 32,xB 34 .andNot 31 33,xO 35 (yao .neq 34 (.c (yco 0))),xM 29 35] 29 [xI 6 5] (ya3 [xA 37 9 3,ych 38,xF 39 2 5,xL 40 39,yct 41 f_335 37 38 40,ybl 42 41,xM 36 42] 36 [xI 6 14])) (yc9 (ybd 6)))⟩
def c_335:AFn:=⟨3,[.tmp 6],yar [yda 3,ybi 6] [xM 7 2] (.block 0 (yaj 2 (.block 1 (.seq (yad [xK 9 .eql 7 (-1),xM 8 9] (ybu 8 (.exit 1)) (ycn (xK 11 .eql 7 (-2)) 10 11 (ybu 10 (.exit 2)))) (.exit 0))) (yad [xC 6 ybw] .ret (.exit 0)))) (yae [xM 12 2,ych 13,xB 14 .gtr 12 13,xM 15 14,ybh 16 15 2,ybv 17 15 6 3,ybz 18 15 1 17,yaq 19 15 (ya5 18),ybq 20 15 .lss 16 (.t 19),xV 21 15 20,xM 6 21])⟩
def c_336:AFn:=⟨2,[.tmp 3],ybr [yda 2,ybi 3] [xL 4 1,yb5 5 .add 4,xS 1 1 5] (yc9 (xC 3 ybw))⟩
def c_337_l0:ACode:=ycz [xB 9 .lss 8 7] 9 0 1 (ycn (ydb 10) 5 10 (ya3 [ych 11,ycl 12,ycb 13,xX 14 1 12 13,xL 15 14,xB 16 .eql 11 15] 16 [ycb 17,xM 4 17])) [yb5 18 .add 8,xM 8 18]
def c_337_k1:ACode:=yc9 (yb0 4)
def c_337:AFn:=⟨2,[.tmp 4],ybk [yby] [ycl 6,xN 7 6,ybd 8] 0 c_337_l0 c_337_k1⟩
def c_338:AFn:=⟨2,[.tmp 4],ya4 [xC 4 (yco 0)] [ych 5,yb7 6 f_309 5,ybl 7 6] 7 [xC 4 (yco 0)] (yb1 [ycl 8,xO 9 (.minmax true [.t 8,.c (.int .i64 0)]),ych 10,xO 11 (.minmax false [.t 9,.t 10]),xM 0 11] [ych 12,yb7 13 f_310 12,ych 14,ycl 15,xB 16 .sub 14 15,yb7 17 f_310 16,xB 18 .sub 13 17,xO 19 (.conv .u32 (.t 18)),xM 4 19])⟩
def c_339:AFn:=⟨2,[.cell 4 true 2],yaa [yaz 4 [.str [],.fslice 2 []]] (ya4 [yaz 5 [.str [],.fslice 2 []]] [ych 6,yc2 7 .lss 6,xM 8 7,ya1 9 8 1,ya1 10 8 0,ybb 11 8 10,ybx 12 8 .geq 9 11,xW 13 8 12] 13 [xA 14 2 5,xS 2 4 14] (yae [ycl 15,ych 16,xX 17 2 15 16,xA 18 2 17,xS 2 4 18]))⟩
def c_340_l0:ACode:=yca [xM 51 14,xM 52 9,xB 53 .lss 51 52] 53 0 1 (ya4 [ycl 57,xM 58 13,xA 59 10 5,yct 60 f_340 57 58 59,xM 56 60,xE 61 0 56,xE 62 1 56,xE 63 2 56,xM 15 61,xM 16 62,xM 17 63] [xM 64 17,yc2 65 .neq 64] 65 [xM 66 16,xM 67 17,ybd 6,xM 7 66,xM 8 67] (yaa [xM 68 12,xM 69 15,xO 70 (.bslice .imm 1 (List.replicate 1 [.int .i64 0]) [(0,(.t 69))]),ycx 71 1 8 68 70,xM 12 71] (xR [xM 72 16,xM 13 72]))) [xM 54 14,yb5 55 .add 54,xM 14 55]
def c_340_k1:ACode:=yb1 [ycl 74,ych 75,xX 76 3 74 75,xA 77 3 76,xM 78 12,ybg 79 f_346 77 78,xM 73 79,xE 80 0 73,xE 81 1 73,xM 18 80,xM 19 81] [xM 82 18,xM 83 13,xM 84 19,xM 6 82,xM 7 83,xM 8 84]
def c_340:AFn:=⟨3,[.tmp 6,.tmp 7,.tmp 8],ya4 [xJ 5 2,ybd 6,ybd 7,ybd 8] [ych 20,ycl 21,xN 22 21,xB 23 .geq 20 22] 23 [ych 24,ybd 6,xM 7 24,xI 8 3] (ya4 [ycl 25,ych 26,xX 27 3 25 26,yb4 28 27,xL 29 28,yb7 30 f_344 29,xM 9 30] [xM 31 9,yc2 32 .lss 31] 32 [ych 33,ybd 6,xM 7 33,xI 8 11] (yad [xM 34 9,yc2 35 .eql 34] (ybu 35 (ycd [ycl 37,ych 38,xX 39 3 37 38,xA 40 3 39,xA 41 10 5,ybg 42 f_345 40 41,xM 36 42,xE 43 0 36,xE 44 1 36,xM 10 43,xM 11 44] (yae [xM 45 10,ych 46,yb5 47 .add 46,xM 48 11,xM 6 45,xM 7 47,xM 8 48]))) (yaa [ycv 12 1] (ybk [ych 49,yb5 50 .add 49,xM 13 50] [ybd 14] 0 c_340_l0 c_340_k1))))⟩
def c_341:AFn:=⟨1,[.tmp 2],yb1 [yda 1,ybi 2] [yb4 3 1,xL 4 3,yb5 5 .eql 4,ycb 6,yaw 7 6 0 1,ybt 8 6 7,ya9 9 6 .eql 8 3,xW 10 6 9,xM 2 10]⟩
def c_342_l0:ACode:=ycz [xB 9 .lss 8 7] 9 0 1 (ycn (ydb 10) 5 10 (ya3 [ych 11,ycl 12,ycb 13,xX 14 2 12 13,xA 15 2 14,xO 16 (.pcallv (.t 11) [.t 15])] 16 [ycb 17,xM 4 17])) [yb5 18 .add 8,xM 8 18]
def c_342_k1:ACode:=yc9 (yb0 4)
def c_342:AFn:=⟨2,[.tmp 4],ybk [yby] [ycl 6,xN 7 6,ybd 8] 0 c_342_l0 c_342_k1⟩
def c_343_l0:ACode:=ycz [xB 45 .lss 44 43] 45 1 2 (ybr [xM 46 44,xM 11 46] [xM 48 11,xA 49 10 3,ych 50,xM 51 7,yct 52 f_343 49 50 51,xM 47 52,xE 53 0 47,xE 54 1 47,xE 55 2 47,xO 56 (ybc 1 (some 3) 10 (.t 48)),xS 1 56 53,xM 7 54,xM 8 55] (ya3 [ydb 57,yc2 58 .neq 57] 58 [ydb 59,ybd 6,ybd 7,xM 8 59])) [yb5 60 .add 44,xM 44 60]
def c_343_k1:ACode:=ycd [ych 62,xM 63 2,xX 64 3 62 63,xA 65 3 64,xA 66 3 10,ybg 67 f_349 65 66,xM 61 67,xE 68 0 61,xE 69 1 61,xM 6 68,xM 8 69] (yae [xM 70 6,xM 71 7,ydb 72,xM 6 70,xM 7 71,xM 8 72])
def c_343:AFn:=⟨3,[.tmp 6,.tmp 7,.tmp 8],ya4 [yda 3,ybd 6,ybd 7,ybd 8] [xM 12 2,ych 13,xN 14 13,xB 15 .geq 12 14] 15 [ybd 6,ybd 7,xI 8 3] (yaa [ych 16,xM 17 2,xX 18 3 16 17,yb4 19 18,xL 20 19,yb7 21 f_347 20,xM 9 21] (yc4 0 [xM 23 9,yc2 24 .lss 23,xM 22 24] 22 [ybd 6,ybd 7,xI 8 11] (yaa [xM 26 9,yc2 27 .eql 26,xM 25 27] (ybu 25 (ycd [xA 29 10 3,ych 30,xM 31 2,xX 32 3 30 31,xA 33 3 32,ybg 34 f_348 29 33,xM 28 34,xE 35 0 28,xE 36 1 28,xM 6 35,xM 8 36] (yae [xM 37 6,xM 38 2,yb5 39 .add 38,ydb 40,xM 6 37,xM 7 39,xM 8 40])))) (yaa [yaz 10 [ybo,ybo,ybo]] (ybk [xM 41 2,yb5 42 .add 41,xM 7 42] [xM 43 9,ybd 44] 1 c_343_l0 c_343_k1))))⟩
def c_344:AFn:=⟨1,[.tmp 2],yaa [ybd 2] (yc4 0 [ycl 4,yb5 5 .geq 4,ycb 6,ybh 7 6 0,yc0 8 6 .leq 7 4,xV 9 6 8,xM 3 9] 3 [ybd 2] (ybp [ycl 11,xK 12 .geq 11 5,xM 13 12,ybh 14 13 0,yc0 15 13 .leq 14 8,xV 16 13 15,xM 10 16] 10 [xI 2 1] (ybp [ycl 18,xK 19 .geq 18 9,xM 20 19,ybh 21 20 0,yc0 22 20 .leq 21 16,xV 23 20 22,xM 17 23] 17 [xI 2 2] (ya3 [ycl 25,xK 26 .eql 25 17,xM 24 26] 24 [xI 2 3]))) (yc9 (yb0 2)))⟩
def c_345:AFn:=⟨2,[.tmp 4,.tmp 5],yar [yda 2,xJ 3 1,yby,ycw] [yb4 10 2,xL 11 10] (.block 0 (ycn (yb5 13 .eql 11) 12 13 (yab 12 (ya2 [xF 15 2 2,xL 16 15,yb7 17 f_350 16,xM 14 17,xE 18 0 14,xE 19 1 14,xM 6 18,xM 7 19] (ycd [xM 20 7,yc2 21 .eql 20,xM 22 21,ybv 23 22 1 2,ybz 24 22 1 23,yc0 25 22 .lss 24 0,ybh 26 22 25,yc3 27 26 2,ybt 28 26 27,ya1 29 26 6,ycc 30 26 f_308 [.t 29],yac 31 26 (.conv .i64 (.t 30)),ybx 32 26 .gtr 28 31,yaq 33 22 (.pick (.t 26) (.c ybw) (.t 32)),xV 34 22 33] (yai 34 [yby,xI 5 9])) (yae [xM 35 6,xM 36 7,xM 4 35,xM 5 36])) (ycn (xK 38 .eql 11 2) 37 38 (yab 37 (ya4 [yb4 40 3,xA 41 9 40,yce 42 2,xL 43 42,xF 44 2 2,xL 45 44,xO 46 (.build [.int .i64 0,.int .i64 0] [(0,1,(.t 43)),(1,1,(.t 45))]),ybg 47 f_320 41 46,xM 39 47,xE 48 0 39,xE 49 1 39,xM 8 48,xM 9 49] [xM 50 9,ybl 51 50] 51 [yby,xI 5 8] (yae [ydb 52,yb7 53 f_350 52,xE 54 0 53,xE 55 1 53,xM 4 54,xM 5 55])) (ycn (xK 57 .eql 11 3) 56 57 (ybu 56 (ybj [yce 58 2,xL 59 58,yc2 60 .lss 59,xM 61 60,yc3 62 61 2,ybt 63 61 62,yaw 64 61 9 3,ybt 65 61 64,ybb 66 61 65,ybx 67 61 .geq 63 66,xW 68 61 67] 68 [yby,xI 5 8] (yae [xF 69 9 3,xL 70 69,yce 71 2,xL 72 71,xX 73 2 70 72,yce 74 73,xL 75 74,yb7 76 f_350 75,xE 77 0 76,xE 78 1 76,xM 4 77,xM 5 78]))))))))) (ybj [yce 79 2,xL 80 79,yc2 81 .lss 80,xM 82 81,yc3 83 82 2,ybt 84 82 83,yaw 85 82 0 3,yc3 86 82 85,ybt 87 82 86,ybb 88 82 87,ybx 89 82 .geq 84 88,xW 90 82 89] 90 [yby,xI 5 8] (ycf (xI 4 1) ycw))⟩
def c_346:AFn:=⟨2,[.tmp 4,.tmp 5],yar [yda 2,yby,ycw] [yb4 6 2,xL 7 6] (.block 0 (ybp [xK 9 .eql 7 5,xM 8 9] 8 [ych 10,xO 11 (yb2 1 10 (yan 0)),xL 12 11,xM 4 12,ycw] (yad [xK 14 .eql 7 6,xM 13 14] (yc8 13 (xR [xK 15 .eql 7 7,xM 13 15])) (yab 13 (ybj [yce 16 2,xL 17 16,yc2 18 .lss 17,xM 19 18,yc3 20 19 2,ybt 21 19 20,ya9 22 19 .gtr 21 31,xW 23 19 22] 23 [yby,xI 5 9] (yae [ych 24,xO 25 (yb2 1 24 (yan 0)),xL 26 25,xM 4 26,ycw])) (ycn (xK 28 .eql 7 8) 27 28 (yab 27 (yc4 1 [yce 30 2,xL 31 30,yc2 32 .lss 31,xM 29 32] 29 [yby,xI 5 9] (ycd [xF 34 2 2,xL 35 34,yb5 36 .lss 35,xM 37 36,yaw 38 37 2 2,ybt 39 37 38,ya9 40 37 .gtr 39 32,xW 41 37 40,xM 42 41,yc3 43 42 2,ybt 44 42 43,ya1 45 42 1,yac 46 42 (yb2 1 45 (yan 0)),ybt 47 42 46,yaw 48 42 2 2,ybt 49 42 48,ybx 50 42 .sub 47 49,ybx 51 42 .gtr 44 50,xW 52 42 51,xM 33 52] (yai 33 [yby,xI 5 10])) (yae [xF 53 2 2,xL 54 53,xM 4 54,ycw])) (ycn (xK 56 .eql 7 14) 55 56 (yab 55 (ycd [ych 57,xO 58 (yb2 1 57 (yan 0)),xL 59 58,ych 60,xO 61 (yb2 1 60 (yan 1)),xL 62 61,xB 63 .add 59 62,yb7 64 f_350 63,xE 65 0 64,xE 66 1 64,xM 4 65,xM 5 66] .ret) (ycn (xK 68 .eql 7 17) 67 68 (ybu 67 (.seq (ycd [ych 69,xO 70 (yb2 1 69 (yan 0)),xL 71 70,yb5 72 .neq 71,xM 73 72,ya1 74 73 1,yac 75 73 (yb2 1 74 (yan 1)),ybt 76 73 75,ya1 77 73 1,yac 78 73 (yb2 1 77 (yan 2)),ybt 79 73 78,ybx 80 73 .neq 76 79,xW 81 73 80] (yai 81 [yby,xI 5 10])) (yae [ych 82,xO 83 (yb2 1 82 (yan 1)),xL 84 83,xM 4 84,ycw])))))))))))) (yaj 2 (ycd [ych 86,xO 87 (yb2 1 86 (yan 0)),xL 88 87,ych 89,xO 90 (yb2 1 89 (yan 1)),xL 91 90,xB 92 .neq 88 91,xM 85 92] (yah 85 [yby,xI 5 10] (ya3 [yb4 94 2,xL 95 94,xK 96 .eql 95 15,xM 97 96,yaw 98 97 0 2,ybt 99 97 98,ya9 100 97 .eql 99 16,xW 101 97 100,xM 93 101] 93 [xI 4 1,ycw]))) (yae [ych 102,xO 103 (yb2 1 102 (yan 0)),xL 104 103,xM 4 104,ycw]))⟩
def c_347:AFn:=⟨1,[.tmp 2],yar [ybd 2] [ycl 3] (.block 0 (yad [yb5 5 .eql 3,ycb 4] (yc8 4 (ycn (xK 6 .eql 3 2) 4 6 (yc8 4 (ycn (xK 7 .eql 3 3) 4 7 (yc8 4 (xR [xK 8 .eql 3 4,ydb 4])))))) (yah 4 [ybd 2] (yad [xK 10 .eql 3 5,xM 9 10] (yc8 9 (ycn (xK 11 .eql 3 6) 9 11 (yc8 9 (ycn (xK 12 .eql 3 7) 9 12 (yc8 9 (xR [xK 13 .eql 3 8,xM 9 13])))))) (yah 9 [xI 2 1] (yad [xK 15 .eql 3 9,xM 14 15] (yc8 14 (ycn (xK 16 .eql 3 10) 14 16 (yc8 14 (ycn (xK 17 .eql 3 11) 14 17 (yc8 14 (ycn (xK 18 .eql 3 12) 14 18 (yc8 14 (ycn (xK 19 .eql 3 13) 14 19 (yc8 14 (ycn (xK 20 .eql 3 14) 14 20 (yc8 14 (ycn (xK 21 .eql 3 15) 14 21 (yc8 14 (xR [xK 22 .eql 3 16,xM 14 22])))))))))))))) (yah 14 [xI 2 2] (ya3 [xK 24 .eql 3 17,xM 23 24] 23 [xI 2 3])))))))) (yc9 (yb0 2))⟩
def c_348:AFn:=⟨2,[.tmp 4,.tmp 5],yar [yda 2,xJ 3 1,yby,ycw] [yb4 10 3,xL 11 10] (.block 0 (ycn (yb5 13 .eql 11) 12 13 (yab 12 (ya2 [xF 15 2 3,xL 16 15,yb7 17 f_351 16,xM 14 17,xE 18 0 14,xE 19 1 14,xM 6 18,xM 7 19] (ycd [xM 20 7,yc2 21 .eql 20,xM 22 21,ybv 23 22 1 3,ybz 24 22 1 23,yc0 25 22 .lss 24 0,ybh 26 22 25,yc3 27 26 3,ybt 28 26 27,ya1 29 26 6,ycc 30 26 f_152 [.t 29],yac 31 26 (.conv .i64 (.t 30)),ybx 32 26 .gtr 28 31,yaq 33 22 (.pick (.t 26) (.c ybw) (.t 32)),xV 34 22 33] (yai 34 [yby,xI 5 9])) (yae [xM 35 6,xM 36 7,xM 4 35,xM 5 36])) (ycn (xK 38 .eql 11 2) 37 38 (yab 37 (.seq (xQ [xA 40 10 2,yce 41 3,xL 42 41,xF 43 2 3,xL 44 43,yct 45 f_352 40 42 44,xM 39 45,xE 46 0 39,xE 47 1 39,yaz 8 [.str [],ybo],xS 2 8 46,xM 9 47] [8]) (ybj [xM 48 9,ybl 49 48] 49 [yby,xI 5 8] (yae [yce 50 8,xL 51 50,yb7 52 f_351 51,xE 53 0 52,xE 54 1 52,xM 4 53,xM 5 54]))) (ycn (xK 56 .eql 11 3) 55 56 (ybu 55 (ybj [yce 57 3,xL 58 57,yc2 59 .lss 58,xM 60 59,yc3 61 60 3,ybt 62 60 61,yaw 63 60 9 2,ybt 64 60 63,ybb 65 60 64,ybx 66 60 .geq 62 65,xW 67 60 66] 67 [yby,xI 5 8] (yae [xF 68 9 2,xL 69 68,yce 70 3,xL 71 70,xX 72 2 69 71,yce 73 72,xL 74 73,yb7 75 f_351 74,xE 76 0 75,xE 77 1 75,xM 4 76,xM 5 77]))))))))) (ybj [yce 78 3,xL 79 78,yc2 80 .lss 79,xM 81 80,yc3 82 81 3,ybt 83 81 82,yaw 84 81 0 2,yc3 85 81 84,ybt 86 81 85,ybb 87 81 86,ybx 88 81 .geq 83 87,xW 89 81 88] 89 [yby,xI 5 8] (ycf (xI 4 1) ycw))⟩
def c_349:AFn:=⟨2,[.tmp 4,.tmp 5],yar [yda 2,xJ 3 1,yby,ycw] [yb4 8 2,xL 9 8] (.block 0 (yad [xK 11 .eql 9 6,xM 10 11] (yc8 10 (xR [xK 12 .eql 9 7,xM 10 12])) (yab 10 (ya3 [yce 13 2,xL 14 13,yc2 15 .lss 14,xM 16 15,yc3 17 16 2,ybt 18 16 17,ya9 19 16 .gtr 18 31,xW 20 16 19] 20 [yby,xI 5 9]) (ycn (xK 22 .eql 9 8) 21 22 (yab 21 (ybj [yce 23 2,xL 24 23,yc2 25 .lss 24] 25 [yby,xI 5 9] (yad [xF 27 2 2,xL 28 27,yb7 29 f_351 28,xM 26 29,xE 30 0 26,xE 31 1 26,xM 6 30,xM 7 31] (ya3 [xM 32 7,yc2 33 .neq 32,xM 34 33,yc3 35 34 2,ybt 36 34 35,yac 37 34 (ybc 1 (some 3) 3 (yan 0)),ybt 38 34 37,yaw 39 34 2 2,ybt 40 34 39,ybx 41 34 .sub 38 40,ybx 42 34 .gtr 36 41,xW 43 34 42] 43 [yby,xI 5 10]) (yae [xF 44 2 2,xL 45 44,xM 4 45,ycw]))) (ybp [xK 47 .eql 9 14,xM 46 47] 46 [xO 48 (ybc 1 (some 3) 3 (yan 0)),xL 49 48,xO 50 (ybc 1 (some 3) 3 (yan 1)),xL 51 50,xB 52 .add 49 51,yb7 53 f_351 52,xE 54 0 53,xE 55 1 53,xM 4 54,xM 5 55] (ycn (xK 57 .eql 9 17) 56 57 (ybu 56 (ybj [xO 58 (ybc 1 (some 3) 3 (yan 0)),xL 59 58,yb5 60 .neq 59,xM 61 60,yac 62 61 (ybc 1 (some 3) 3 (yan 1)),ybt 63 61 62,yac 64 61 (ybc 1 (some 3) 3 (yan 2)),ybt 65 61 64,ybx 66 61 .neq 63 65,xW 67 61 66] 67 [yby,xI 5 10] (yae [xO 68 (ybc 1 (some 3) 3 (yan 1)),xL 69 68,xM 4 69,ycw])))))))))) (ybj [yb4 70 2,xL 71 70,yb7 72 f_347 71,xK 73 .eql 72 2,xM 74 73,yaq 75 74 (ybc 1 (some 3) 3 (yan 0)),ybz 76 74 1 75,yaq 77 74 (ybc 1 (some 3) 3 (yan 1)),ybz 78 74 1 77,ybq 79 74 .neq 76 (.t 78),xV 80 74 79] 80 [yby,xI 5 10] (ybj [yb4 81 2,xL 82 81,xK 83 .eql 82 15,xM 84 83,yaw 85 84 0 2,ybt 86 84 85,ya9 87 84 .eql 86 16,xW 88 84 87] 88 [xI 4 1,ycw] (yae [xO 89 (ybc 1 (some 3) 3 (yan 0)),xL 90 89,xM 4 90,ycw])))⟩
def c_350:AFn:=⟨1,[.tmp 2,.tmp 3],ya4 [ybd 2,ybd 3] [ycl 4,yb5 5 .lss 4,ycb 6,ya1 7 6 0,ya9 8 6 .gtr 7 32,xW 9 6 8] 9 [ybd 2,xI 3 10] (yae [ycl 10,xM 2 10,ybd 3])⟩
def c_351:AFn:=⟨1,[.tmp 2,.tmp 3],ya4 [ybd 2,ybd 3] [ycl 4,yb5 5 .lss 4,ycb 6,ya1 7 6 0,ya9 8 6 .gtr 7 32,xW 9 6 8] 9 [ybd 2,xI 3 10] (yae [ycl 10,xM 2 10,ybd 3])⟩
def c_352:AFn:=⟨3,[.cell 6 true 2,.tmp 7],yaa [yda 3,yaz 6 [.str [],ybo],ybi 7] (yar [yb4 9 3,xF 10 2 9,xL 11 10,xM 8 11] [ych 12,xK 13 .neq 12 (-1)] (ybu 13 (ybj [ych 14,yc2 15 .lss 14,xM 16 15,ya1 17 16 1,yaw 18 16 0 3,yc3 19 16 18,ybt 20 16 19,ybb 21 16 20,ybx 22 16 .geq 17 21,xW 23 16 22] 23 [xO 24 (.build [.str [],.int .i64 0] []),xS 2 6 24,ybi 7] (xR [yb4 25 3,yce 26 25,xL 27 26,ych 28,xX 29 2 27 28,yce 30 29,xL 31 30,xM 8 31]))) (ybj [xM 32 2,yc2 33 .lss 32,xM 34 33,ya1 35 34 2,ya1 36 34 8,ybb 37 34 36,ybx 38 34 .geq 35 37,xW 39 34 38] 39 [xO 40 (.build [.str [],.int .i64 0] []),xS 2 6 40,ybi 7] (yae [ydb 41,xM 42 2,xX 43 2 41 42,xA 44 2 43,xS 2 6 44,xC 7 ybw])))⟩
def tabL:List (Nat×AFn):=[(f_7,c_7),
  (f_8,c_8),
  (f_9,c_9),
  (f_17,c_17),
  (f_19,c_19),
  (f_31,c_31),
  (f_37,c_37),
  (f_38,c_38),
  (f_40,c_40),
  (f_41,c_41),
  (f_42,c_42),
  (f_43,c_43),
  (f_44,c_44),
  (f_45,c_45),
  (f_46,c_46),
  (f_47,c_47),
  (f_55,c_55),
  (f_64,c_64),
  (f_65,c_65),
  (f_67,c_67),
  (f_68,c_68),
  (f_69,c_69),
  (f_72,c_72),
  (f_77,c_77),
  (f_78,c_78),
  (f_79,c_79),
  (f_80,c_80),
  (f_85,c_85),
  (f_86,c_86),
  (f_87,c_87),
  (f_89,c_89),
  (f_92,c_92),
  (f_95,c_95),
  (f_96,c_96),
  (f_97,c_97),
  (f_101,c_101),
  (f_102,c_102),
  (f_103,c_103),
  (f_104,c_104),
  (f_105,c_105),
  (f_106,c_106),
  (f_107,c_107),
  (f_108,c_108),
  (f_109,c_109),
  (f_110,c_110),
  (f_111,c_111),
  (f_112,c_112),
  (f_125,c_125),
  (f_126,c_126),
  (f_127,c_127),
  (f_128,c_128),
  (f_129,c_129),
  (f_130,c_130),
  (f_131,c_131),
  (f_145,c_145),
  (f_146,c_146),
  (f_147,c_147),
  (f_148,c_148),
  (f_149,c_149),
  (f_150,c_150),
  (f_151,c_151),
  (f_152,c_152),
  (f_153,c_153),
  (f_154,c_154),
  (f_155,c_155),
  (f_156,c_156),
  (f_157,c_157),
  (f_158,c_158),
  (f_160,c_160),
  (f_164,c_164),
  (f_165,c_165),
  (f_175,c_175),
  (f_176,c_176),
  (f_177,c_177),
  (f_178,c_178),
  (f_179,c_179),
  (f_180,c_180),
  (f_181,c_181),
  (f_183,c_183),
  (f_184,c_184),
  (f_185,c_185),
  (f_186,c_186),
  (f_187,c_187),
  (f_188,c_188),
  (f_189,c_189),
  (f_190,c_190),
  (f_194,c_194),
  (f_195,c_195),
  (f_196,c_196),
  (f_197,c_197),
  (f_198,c_198),
  (f_199,c_199),
  (f_200,c_200),
  (f_201,c_201),
  (f_202,c_202),
  (f_203,c_203),
  (f_227,c_227),
  (f_228,c_228),
  (f_229,c_229),
  (f_230,c_230),
  (f_231,c_231),
  (f_232,c_232),
  (f_233,c_233),
  (f_234,c_234),
  (f_235,c_235),
  (f_236,c_236),
  (f_237,c_237),
  (f_238,c_238),
  (f_239,c_239),
  (f_240,c_240),
  (f_241,c_241),
  (f_242,c_242),
  (f_243,c_243),
  (f_244,c_244),
  (f_245,c_245),
  (f_246,c_246),
  (f_247,c_247),
  (f_248,c_248),
  (f_249,c_249),
  (f_250,c_250),
  (f_251,c_251),
  (f_252,c_252),
  (f_253,c_253),
  (f_254,c_254),
  (f_257,c_257),
  (f_258,c_258),
  (f_259,c_259),
  (f_260,c_260),
  (f_261,c_261),
  (f_262,c_262),
  (f_263,c_263),
  (f_264,c_264),
  (f_265,c_265),
  (f_266,c_266),
  (f_267,c_267),
  (f_268,c_268),
  (f_269,c_269),
  (f_270,c_270),
  (f_271,c_271),
  (f_272,c_272),
  (f_273,c_273),
  (f_274,c_274),
  (f_275,c_275),
  (f_276,c_276),
  (f_277,c_277),
  (f_278,c_278),
  (f_279,c_279),
  (f_293,c_293),
  (f_294,c_294),
  (f_295,c_295),
  (f_296,c_296),
  (f_297,c_297),
  (f_298,c_298),
  (f_299,c_299),
  (f_300,c_300),
  (f_301,c_301),
  (f_302,c_302),
  (f_303,c_303),
  (f_304,c_304),
  (f_305,c_305),
  (f_306,c_306),
  (f_307,c_307),
  (f_308,c_308),
  (f_309,c_309),
  (f_310,c_310),
  (f_313,c_313),
  (f_314,c_314),
  (f_315,c_315),
  (f_316,c_316),
  (f_317,c_317),
  (f_318,c_318),
  (f_319,c_319),
  (f_320,c_320),
  (f_321,c_321),
  (f_322,c_322),
  (f_323,c_323),
  (f_324,c_324),
  (f_325,c_325),
  (f_326,c_326),
  (f_328,c_328),
  (f_329,c_329),
  (f_330,c_330),
  (f_331,c_331),
  (f_332,c_332),
  (f_333,c_333),
  (f_334,c_334),
  (f_335,c_335),
  (f_336,c_336),
  (f_337,c_337),
  (f_338,c_338),
  (f_339,c_339),
  (f_340,c_340),
  (f_341,c_341),
  (f_342,c_342),
  (f_343,c_343),
  (f_344,c_344),
  (f_345,c_345),
  (f_346,c_346),
  (f_347,c_347),
  (f_348,c_348),
  (f_349,c_349),
  (f_350,c_350),
  (f_351,c_351),
  (f_352,c_352)]
def tabD:List (Nat×ADFn):=[(f_51,c_51),
  (f_63,c_63)]
def tabC:List CloneD:=[⟨f_161,1,4,.app⟩,⟨f_162,1,8,.row⟩,⟨f_182,2,8,.app⟩,⟨f_214,2,24,.app⟩,⟨f_215,3,32,.app⟩,⟨f_226,1,1,.app⟩,⟨f_289,3,24,.app⟩,⟨f_290,3,16,.app⟩,⟨f_291,3,24,.app⟩]
def nilL:List (Nat×Nat):=[(f_41,9),(f_51,9),(f_52,13),(f_52,17),(f_53,13),(f_53,14),(f_75,3),(f_77,13),(f_79,11),(f_101,8),(f_107,10),(f_137,6),(f_176,5),(f_188,5),(f_212,5),(f_216,5),(f_218,5),(f_220,5),(f_222,5),(f_230,5),(f_234,5),(f_237,5),(f_240,5),(f_243,5),(f_249,5),(f_278,3),(f_287,5),(f_294,3),(f_340,12)]
def thr:List Nat:=[f_18,f_23,f_24,f_26,f_28,f_29,f_32,f_33,f_34,f_35,f_36,f_51,f_57,f_58,f_66,f_76,f_81,f_82,f_88,f_91,f_93,f_94,f_117,f_118,f_133,f_134,f_135,f_136,f_141,f_205,f_207,f_208,f_209,f_211,f_281,f_282,f_285,f_286,f_292,f_301,f_327]
def thrAt:List (Nat×Nat):=[(f_140,f_226),(f_58,f_140),(f_206,f_280),(f_29,f_83),(f_83,f_168),(f_169,f_168),(f_39,f_40),(f_76,f_162),(f_39,f_21)]
def thrV:List Nat:=[f_292,f_186,f_40,f_301]
def rowAt:List (Nat×Nat):=[(f_33,112),(f_78,48),(f_80,41),(f_53,42),(f_162,7)]
def thrVAt:List (Nat×Nat):=[]
def rowF:List Nat:=[f_76,f_21]
def rowFB:List Nat:=[]
def appAt:List (Nat×Nat):=[(f_21,32),(f_76,70)]
def immAt:List (Nat×Nat):=[(f_75,27)]
def slcHL:List Nat:=[f_93]
def browAt:List (Nat×Nat):=[(f_76,39)]
def boxiAt:List (Nat×Nat):=[(f_66,2),(f_18,2),(f_18,3),(f_23,1),(f_21,1)]
def takeAt:List (Nat×Nat):=[(f_78,65)]
def boxiL:List (Nat×List Nat):=[(3,[2,3]),(4,[1]),(5,[1]),(6,[1]),(7,[3,4,5]),(8,[3,4,5]),(9,[3,4,5]),(10,[3,4,5]),(11,[3,4]),(12,[3,4]),(13,[3,4]),(14,[2]),(17,[2,3]),(19,[2,3]),(22,[1]),(27,[3,4,5]),(30,[4,5]),(37,[2,3]),(41,[3,4,5]),(44,[3,4]),(46,[2]),(48,[3,4]),(52,[3,4]),(53,[3,4]),(54,[1]),(55,[1]),(64,[5,9]),(65,[2]),(67,[4]),(68,[3,5]),(69,[2]),(73,[1]),(74,[1]),(75,[1]),(77,[4,5,7]),(78,[5,6,9]),(79,[4,5]),(80,[4,5,7]),(84,[4]),(86,[3,5]),(90,[1]),(92,[3,5]),(95,[1]),(103,[2,3]),(107,[4,5]),(109,[3,4]),(120,[3]),(122,[1]),(123,[1]),(124,[1]),(125,[1]),(126,[1]),(127,[1]),(128,[1]),(129,[1]),(130,[1]),(131,[1]),(139,[1]),(145,[1]),(146,[1]),(147,[1]),(148,[1]),(149,[1]),(150,[2]),(153,[3,5]),(154,[3]),(155,[3]),(156,[2,3]),(158,[1]),(160,[1]),(163,[1]),(164,[4]),(166,[2]),(167,[2]),(169,[5]),(170,[5]),(171,[4,6,7]),(173,[2]),(174,[4,6,7]),(175,[2]),(176,[2]),(177,[3]),(178,[2]),(179,[3]),(180,[2,3]),(184,[1]),(186,[1]),(190,[3,4,5]),(196,[1]),(198,[1]),(199,[2]),(200,[2]),(201,[1]),(202,[1]),(203,[1]),(231,[1]),(232,[1]),(235,[1]),(238,[1]),(239,[1]),(241,[1]),(242,[2]),(244,[1]),(245,[1]),(246,[1]),(247,[1]),(249,[2]),(250,[3]),(251,[2]),(252,[2]),(255,[3,5]),(256,[3,5]),(258,[2,3]),(259,[2,3]),(260,[2]),(261,[2,3]),(266,[5]),(269,[2]),(271,[3,4,5]),(272,[2]),(273,[2,3]),(274,[2,3]),(275,[2]),(279,[3]),(294,[1]),(296,[1]),(297,[2,3]),(298,[2]),(302,[5]),(303,[3,4]),(304,[1]),(306,[2,3]),(318,[2]),(320,[2,3]),(321,[4]),(322,[3]),(323,[2,3]),(324,[2]),(325,[3]),(330,[2]),(331,[2,3]),(332,[3]),(333,[3]),(334,[3,5]),(335,[3]),(336,[2]),(340,[5]),(341,[1]),(343,[3]),(345,[2,3]),(346,[2]),(348,[2,3]),(349,[2,3]),(352,[3])]
def keepL:List (Nat×List (Nat×List Nat)):=[(4,[(10,[6]),(11,[7]),(16,[12]),(17,[14])]),(5,[(14,[7])]),(6,[(9,[5])]),(8,[(3,[7])]),(10,[(6,[9])]),(11,[(3,[7]),(4,[11]),(5,[15])]),(16,[(9,[12]),(10,[14])]),(17,[(1,[5])]),(21,[(4,[5])]),(23,[(1,[4])]),(27,[(5,[9]),(8,[11]),(11,[13])]),(40,[(10,[11]),(17,[18]),(30,[22])]),(44,[(1,[10])]),(49,[(1,[1]),(2,[2]),(3,[3]),(4,[7])]),(52,[(1,[8]),(10,[15]),(20,[20]),(30,[25])]),(53,[(1,[8]),(4,[11]),(11,[16]),(29,[18])]),(56,[(1,[1]),(5,[4])]),(59,[(2,[6])]),(64,[(6,[13]),(15,[15])]),(73,[(4,[5])]),(76,[(8,[8]),(15,[10])]),(83,[(3,[10]),(4,[11])]),(86,[(9,[12])]),(94,[(3,[5])]),(95,[(21,[7])]),(98,[(1,[1])]),(101,[(4,[7]),(11,[11])]),(106,[(4,[7])]),(109,[(10,[12])]),(113,[(1,[1])]),(118,[(5,[9])]),(146,[(4,[4])]),(147,[(5,[4]),(12,[6])]),(148,[(4,[4])]),(167,[(5,[6])]),(168,[(3,[7])]),(169,[(3,[7])]),(175,[(3,[6])]),(176,[(6,[7])]),(178,[(6,[7])]),(186,[(6,[6])]),(190,[(5,[9]),(8,[11]),(11,[13])]),(196,[(11,[5])]),(199,[(3,[6])]),(200,[(3,[6])]),(212,[(4,[7])]),(216,[(4,[7])]),(218,[(4,[7])]),(220,[(4,[7])]),(222,[(4,[7])]),(230,[(4,[7])]),(232,[(9,[4])]),(234,[(4,[7])]),(237,[(4,[7])]),(240,[(4,[7])]),(242,[(3,[6]),(7,[7]),(10,[9])]),(243,[(4,[7])]),(245,[(8,[7])]),(255,[(5,[8])]),(258,[(4,[9])]),(275,[(1,[6])]),(279,[(1,[7])]),(287,[(4,[7])]),(294,[(4,[5])]),(296,[(7,[4])]),(297,[(1,[5])]),(298,[(1,[6]),(16,[10])]),(300,[(6,[5])]),(301,[(3,[6])]),(324,[(1,[6]),(6,[9])]),(348,[(8,[8])])]
def qai0:List (Nat×List Nat):=[(145,[1,2,3,4,5]),(146,[5,6,7]),(147,[1,6,7,8,13]),(148,[5,6,13,14,21,22]),(149,[2,4,6]),(151,[2]),(227,[1])]
def ann:Ann:=
  { pure:=fun fn f _=> !(qb4 f thr)&& !(thrAt.any fun p=>p.1 == fn&&p.2 == f)
    purev:=fun fn d=> !(qb4 fn thrV)&& !(match d with | some t=>thrVAt.any (fun q=>q.1 == fn&&q.2 == t) | none=>false),bmode:=fun fn d=>if qb4 fn rowFB || (match d with | some t=>browAt.any (fun q=>q.1 == fn&&q.2 == t) | none=>false) then .row else .imm,smode:=fun fn d=>match d with | some t=>if immAt.any (fun q=>q.1 == fn&&q.2 == t) then .imm else .row | none=> .row,amode:=fun fn d=>match d with | some t=>if rowAt.any (fun q=>q.1 == fn&&q.2 == t) || (qb4 fn rowF&& !(appAt.any fun q=>q.1 == fn&&q.2 == t)) then .row else .app | none=> .app
    nilapp:=fun fn d=>match d with | some t=>nilL.any (fun q=>q.1 == fn&&q.2 == t) | none=>false
    slch:=fun fn d=>(qb4 fn slcHL&&(match d with | some t=>t == 13 || t == 31 | none=>false)) || (match d with | some t=>takeAt.any (fun q=>q.1 == fn&&q.2 == t) | none=>false)
    boxi:=fun fn d=>match d with | some t=>boxiAt.any (fun q=>q.1 == fn&&q.2 == t) || (match look fn boxiL with | some l=>qb4 t l | none=>false) | none=>false
    keep:=fun fn id=>(look fn keepL).bind (look id)
    split:=fun fn id=>match look fn qai0 with | some l=>qb4 id l | none=>false }
def ktabL:List Nat:=[100,99,98,39,139,217,213,223,221,288,219,216,222,212,220,287,218,73,93,21,36,35,33,88,34,81,94,91,82,74,76,90,163,66,116,117]
def qtd (b:FuncId->Option AFun) (P:Program) (A:Ann) (l:List Nat) (f:FuncId):Option AFun:=match b f with
  | some x=>some x
  | none=>if qb4 f l then (cFn P A f).map .code else none
def Φ:FuncId->Option AFun:=qtd (qti tabL tabD tabC) Go.Proofs.Tryz.prog ann ktabL
end
end Go.Av
