/-
  The compact form of the program's functions, printed by a program.
-/
import Derived.Test.YtakklbipljodeaaGreatAvD
import Derived.Test.YtakklbipljodeaaGreatRows
set_option linter.unusedVariables false
set_option linter.unusedSimpArgs false
set_option linter.constructorNameAsVariable false
namespace Go.Av
noncomputable section
@[reducible] def xM (d s:Nat):AOper:=⟨some d,none,.mov (.t s)⟩
@[reducible] def xI (d:Nat) (n:Int):AOper:=⟨some d,none,.mov (.c (.int .i64 n))⟩
@[reducible] def xC (d:Nat) (v:AV):AOper:=⟨some d,none,.mov (.c v)⟩
@[reducible] def xF (d o s:Nat):AOper:=⟨some d,none,.faddr o (.t s)⟩
@[reducible] def xL (d s:Nat):AOper:=⟨some d,none,.load false 1 (.t s)⟩
@[reducible] def xA (d n s:Nat):AOper:=⟨some d,none,.load true n (.t s)⟩
@[reducible] def xX (d z a i:Nat):AOper:=⟨some d,none,.iaddr z none (.t a) (.t i)⟩
@[reducible] def xS (n p v:Nat):AOper:=⟨none,none,.store n (.t p) (.t v)⟩
@[reducible] def xN (d s:Nat):AOper:=⟨some d,none,.len (.t s)⟩
@[reducible] def xE (d i s:Nat):AOper:=⟨some d,none,.ext i (.t s)⟩
@[reducible] def xB (d:Nat) (p:BinOp) (a b:Nat):AOper:=⟨some d,none,.bin p (.t a) (.t b)⟩
@[reducible] def xK (d:Nat) (p:BinOp) (a:Nat) (n:Int):AOper:=⟨some d,none,.bin p (.t a) (.c (.int .i64 n))⟩
@[reducible] def xW (d a b:Nat):AOper:=⟨some d,none,.pick (.t a) (.c (.bool true)) (.t b)⟩
@[reducible] def xV (d a b:Nat):AOper:=⟨some d,none,.pick (.t a) (.t b) (.c (.bool false))⟩
@[reducible] def xJ (d s:Nat):AOper:=⟨some d,none,.boxi (.t s)⟩
@[reducible] def xO (d:Nat) (p:AOp):AOper:=⟨some d,none,p⟩
@[reducible] def xG (d g:Nat) (b:Bool) (p:AOp):AOper:=⟨some d,some (g,b),p⟩
@[reducible] def xR (l:List AOper):ACode:= .region false [] l none
@[reducible] def xD (l:List AOper):ACode:= .region true [] l none
@[reducible] def xQ (l:List AOper) (k:List Nat):ACode:= .region false [] l (some k)
@[reducible] def yaa (a:List AOper) (b:ACode):ACode:= .seq (xR a) b
@[reducible] def yab (a:Nat) (b c:ACode):ACode:= .cond (.t a) b c
@[reducible] def yac (a b:Nat) (c:AOp):AOper:=xG a b false c
@[reducible] def yad (a:List AOper):ACode:=yaa a .ret
@[reducible] def yae (a:List AOper) (b c:ACode):ACode:= .seq (yaa a b) c
@[reducible] def yaf (a b:Nat) (c:List AX):AOper:=xO a (.pcall b c)
@[reducible] def yag (a:Int):AV:= .int .i64 a
@[reducible] def yah (a:Nat) (b:List AOper) (c:ACode):ACode:=yab a (yad b) c
@[reducible] def yai (a:Nat) (b:List AOper):ACode:=yah a b .skip
@[reducible] def yaj (a:Nat) (b c:ACode):ACode:= .seq (.block a b) c
@[reducible] def yak (a b:Nat):AOp:= .faddr a (.t b)
@[reducible] def yal (a:Nat) (b:AX):AOp:= .load false a b
@[reducible] def yam (a:Nat) (b:ACode):ACode:= .block a (.loop b)
@[reducible] def yan (a b:List AOper) (c d:ACode):ACode:=yaa a (yae b c d)
@[reducible] def yao (a:Int):AX:= .c (yag a)
@[reducible] def yap:AV:= .bool false
@[reducible] def yaq (a:Nat) (b:ACode) (c:Nat):ACode:=yab a b (.exit c)
@[reducible] def yar (a:BinOp) (b:Nat) (c:AX):AOp:= .bin a (.t b) c
@[reducible] def yas (a b:Nat) (c:AOp):AOper:=xG a b true c
@[reducible] def yat (a b:Nat):AOp:=yal a (.t b)
@[reducible] def yau (a:Nat):AOp:= .mov (.t a)
@[reducible] def yav (a b c d:Nat):AOper:=yac a b (yat c d)
@[reducible] def yaw (a b c d:Nat):AOper:=yac a b (yak c d)
@[reducible] def yax (a:Nat) (b:List AV):AOper:=xO a (.alloc b)
@[reducible] def yay (a b:Nat):ACode:=yaq a .skip b
@[reducible] def yaz (a b:Nat) (c:BinOp) (d:Nat) (e:AX):AOper:=yac a b (yar c d e)
@[reducible] def ya0 (a:List AOper) (b c:ACode):ACode:=yaa a (.seq b c)
@[reducible] def ya1 (a:Nat) (b:ACode) (c:List AOper):ACode:=yaj a b (xR c)
@[reducible] def ya2 (a:List AOper) (b:Nat) (c:List AOper):ACode:=yaa a (yai b c)
@[reducible] def ya3 (a b:List AOper) (c:Nat) (d:List AOper) (e:ACode):ACode:=yan a b (yai c d) e
@[reducible] def ya4 (a b c:Nat):AOper:=yac a b (yau c)
@[reducible] def ya5 (a:Nat):AOp:= .len (.t a)
@[reducible] def ya6 (a:AX):AOp:= .un .not a
@[reducible] def ya7 (a:Nat):AOp:=ya6 (.t a)
@[reducible] def ya8 (a:Nat):AOper:=xI a 0
@[reducible] def ya9 (a:Nat) (b c:ACode) (d:List AOper):ACode:=ya1 a (.seq b c) d
@[reducible] def yba (a:List AOper) (b c:Nat) (d:ACode):ACode:=yae a (yay b c) d
@[reducible] def ybb:AV:=yag 0
@[reducible] def ybc (a b c:Nat):AOper:=yac a b (ya5 c)
@[reducible] def ybd (a:Nat):AOper:=xC a yap
@[reducible] def ybe (a b:Nat) (c d:AX):AOper:=yaf a b [c,d]
@[reducible] def ybf (a b c:Nat) (d:AX):AOper:=ybe a b (.t c) d
@[reducible] def ybg (a b c d:Nat):AOper:=ybf a b c (.t d)
@[reducible] def ybh (a:List AOper) (b:Nat) (c:List AOper) (d:ACode):ACode:=yae a (yai b c) d
@[reducible] def ybi (a:Nat) (b:Option Nat) (c:Nat) (d:AX):AOp:= .iaddr a b (.t c) d
@[reducible] def ybj (a b:List AOper) (c:Nat) (d e:ACode):ACode:=yan a b (yam c d) e
@[reducible] def ybk (a:List AOper) (b c:Nat) (d:ACode):ACode:=ya0 a (yay b c) d
@[reducible] def ybl (a b:Nat) (c:BinOp) (d:Nat) (e:Int):AOper:=yaz a b c d (yao e)
@[reducible] def ybm (a:List AOper) (b:Nat) (c:List AOper) (d:ACode):ACode:=yaa a (yah b c d)
@[reducible] def ybn (a b c:Nat):AOper:=yas a b (yau c)
@[reducible] def ybo (a b:Nat):AOper:=xO a (ya7 b)
@[reducible] def ybp (a:SM) (b c d:Nat) (e:AX):AOp:= .append a b c (.t d) e
@[reducible] def ybq (a:List AOper) (b:Nat) (c d:ACode):ACode:=yae a (yam b c) d
@[reducible] def ybr (a b c:Nat):AOper:=yav a b 1 c
@[reducible] def ybs (a b:List AOper):ACode:=yaa a (yad b)
@[reducible] def ybt (a b:Nat) (c:BinOp) (d:Nat) (e:AX):AOper:=yas a b (yar c d e)
@[reducible] def ybu (a:Nat) (b:ACode):ACode:=yab a b .skip
@[reducible] def ybv (a:Nat):AOp:= .nilchk (.t a)
@[reducible] def ybw (a b c d:Nat):AOper:=yas a b (yak c d)
@[reducible] def ybx (a b:Nat) (c:BinOp) (d e:Nat):AOper:=yaz a b c d (.t e)
@[reducible] def yby:AOper:=ya8 4
@[reducible] def ybz:AV:= .bool true
@[reducible] def yb0 (a b:List AOper) (c:ACode):ACode:=yaa a (yaa b c)
@[reducible] def yb1 (a b:Nat):AOper:=xF a 0 b
@[reducible] def yb2 (a b:Nat) (c:AX):AOper:=yaf a b [c]
@[reducible] def yb3 (a b c:Nat):AOper:=yb2 a b (.t c)
@[reducible] def yb4 (a:Nat):AOper:=xI a (-1)
@[reducible] def yb5 (a b c d:Nat):AOper:=yas a b (yat c d)
@[reducible] def yb6 (a b:AOper):ACode:=yad [a,b]
@[reducible] def yb7 (a:Nat):AOp:= .box (.t a)
@[reducible] def yb8 (a:Nat):AOper:=xM a 1
@[reducible] def yb9 (a b:Nat):AOper:=xF a 1 b
@[reducible] def yca (a:Nat) (b:BinOp) (c:Nat):AOper:=xK a b c 1
@[reducible] def ycb (a b:AOper) (c:ACode):ACode:=yaa [a,b] c
@[reducible] def ycc (a:AOper) (b c:Nat) (d:ACode):ACode:=ycb a (xM b c) d
@[reducible] def ycd (a b:Nat):AOper:=xO a (.nilapp b)
@[reducible] def yce (a:Nat):AOper:=xM a 5
@[reducible] def ycf (a b:Nat) (c d e f:AX):AOper:=yaf a b [c,d,e,f]
@[reducible] def ycg (a b:Nat) (c:AX) (d:Int) (e f:AX):AOper:=ycf a b c (yao d) e f
@[reducible] def ych (a:Nat):AOper:=xM a 0
@[reducible] def yci (a:List AOper) (b:ACode):ACode:= .seq (xD a) b
@[reducible] def ycj (a b:Nat) (c:AX):AOp:=ybi a none b c
@[reducible] def yck (a b:Nat) (c:List AX):AOper:=xO a (.tcall b c)
@[reducible] def ycl (a:SM) (b c d e:Nat):AOp:=ybp a b c d (.t e)
@[reducible] def ycm (a:Nat) (b:SM) (c d e f:Nat):AOper:=xO a (ycl b c d e f)
@[reducible] def ycn (a:List AOper) (b c d:Nat) (e:ACode) (f:List AOper):ACode:=yba a b c (ya1 d e f)
@[reducible] def yco (a b:Nat) (c:AX) (d:Int) (e:AX) (f:Int):AOper:=ycg a b c d e (yao f)
@[reducible] def ycp (a b:Nat):AOper:=xO a (yb7 b)
@[reducible] def ycq (a b:Nat) (c d e:AX):AOper:=yaf a b [c,d,e]
@[reducible] def ycr (a b c:Nat) (d e:AX):AOper:=ycq a b (.t c) d e
@[reducible] def ycs (a b c d:Nat) (e:AX):AOper:=ycr a b c (.t d) e
@[reducible] def yct (a b c d e:Nat):AOper:=ycs a b c d (.t e)
@[reducible] def ycu (a:AOper) (b c:Nat):ACode:=yb6 a (xM b c)
@[reducible] def ycv (a:Nat) (b:List AOper) (c:List Nat) (d:ACode) (e:List AOper):ACode:=ya9 a (xQ b c) d e
@[reducible] def ycw (a b c:Nat) (d:List AX):AOper:=yac a b (.pcall c d)
@[reducible] def ycx (a b c d e:Nat):AOper:=ycm a .app b c d e
@[reducible] def ycy (a:List AOper) (b c d:Nat) (e:List AOper) (f:List Nat) (g:ACode) (h:List AOper):ACode:=ybk a b c (ycv d e f g h)
@[reducible] def ycz (a:Nat) (b:List AOper) (c:Nat) (d:List AOper) (e f:ACode):ACode:=yaj a (ybm b c d e) f
@[reducible] def yc0 (a:Nat) (b:AX):AOp:= .load true a b
@[reducible] def yc1 (a b c:Nat) (d:List AX):AOper:=yas a b (.pcall c d)
@[reducible] def yc2 (a:List AOper) (b c d:Nat) (e:ACode) (f:List AOper):ACode:=ybk a b c (ya1 d e f)
@[reducible] def yc3:AOper:=ya8 5
@[reducible] def yc4 (a:AOper) (b c d:Nat) (e f:ACode):ACode:=ycc a b c (yab d e f)
@[reducible] def yc5 (a:Nat) (b c d e:AV):AOper:=yax a [b,c,d,e]
@[reducible] def yc6 (a:Int):AV:= .int .u32 a
@[reducible] def yc7 (a:Nat) (b:BinOp) (c:Nat):AOper:=xK a b c 0
@[reducible] def yc8 (a:List AOper) (b c d:Nat) (e f:ACode) (g:List AOper):ACode:=yba a b c (ya9 d e f g)
@[reducible] def yc9:AOper:=ybd 4
@[reducible] def yda (a b c:Nat):AOper:=yaw a b 1 c
@[reducible] def ydb:AOper:=ya8 6
@[reducible] def ydc (a b c:Nat):AOp:=ycj a b (.t c)
@[reducible] def ydd (a:Nat) (b:List AX):AOp:= .pcallv (.t a) b
@[reducible] def yde (a b c:Nat):AOper:=yac a b (ya7 c)
@[reducible] def ydf (a:Nat):AOper:=xJ a 0
@[reducible] def ydg (a:List AOper) (b:Nat) (c d:List AOper):ACode:=ybh a b c (yad d)
@[reducible] def ydh (a b:List AOper) (c:Nat) (d e:List AOper) (f:Nat) (g h:ACode):ACode:=ya3 a b c d (ybq e f g h)
@[reducible] def ydi (a:Nat):AOper:=xM 5 a
@[reducible] def ydj (a:Nat):AOper:=xM 4 a
@[reducible] def ydk (a b:Nat):AOper:=xA a 9 b
@[reducible] def ydl (a:Nat):AOper:=yb1 a 3
def f_13:Nat:=13
def f_17:Nat:=17
def f_18:Nat:=18
def f_19:Nat:=19
def f_21:Nat:=21
def f_23:Nat:=23
def f_24:Nat:=24
def f_26:Nat:=26
def f_28:Nat:=28
def f_29:Nat:=29
def f_31:Nat:=31
def f_32:Nat:=32
def f_33:Nat:=33
def f_34:Nat:=34
def f_35:Nat:=35
def f_36:Nat:=36
def f_37:Nat:=37
def f_38:Nat:=38
def f_39:Nat:=39
def f_40:Nat:=40
def f_41:Nat:=41
def f_42:Nat:=42
def f_43:Nat:=43
def f_44:Nat:=44
def f_45:Nat:=45
def f_48:Nat:=48
def f_49:Nat:=49
def f_51:Nat:=51
def f_52:Nat:=52
def f_53:Nat:=53
def f_55:Nat:=55
def f_57:Nat:=57
def f_58:Nat:=58
def f_63:Nat:=63
def f_64:Nat:=64
def f_65:Nat:=65
def f_66:Nat:=66
def f_67:Nat:=67
def f_68:Nat:=68
def f_69:Nat:=69
def f_72:Nat:=72
def f_74:Nat:=74
def f_75:Nat:=75
def f_76:Nat:=76
def f_77:Nat:=77
def f_78:Nat:=78
def f_79:Nat:=79
def f_80:Nat:=80
def f_81:Nat:=81
def f_82:Nat:=82
def f_83:Nat:=83
def f_85:Nat:=85
def f_86:Nat:=86
def f_87:Nat:=87
def f_88:Nat:=88
def f_89:Nat:=89
def f_90:Nat:=90
def f_91:Nat:=91
def f_92:Nat:=92
def f_93:Nat:=93
def f_94:Nat:=94
def f_95:Nat:=95
def f_96:Nat:=96
def f_97:Nat:=97
def f_101:Nat:=101
def f_107:Nat:=107
def f_109:Nat:=109
def f_110:Nat:=110
def f_111:Nat:=111
def f_115:Nat:=115
def f_116:Nat:=116
def f_117:Nat:=117
def f_118:Nat:=118
def f_119:Nat:=119
def f_120:Nat:=120
def f_125:Nat:=125
def f_126:Nat:=126
def f_127:Nat:=127
def f_128:Nat:=128
def f_129:Nat:=129
def f_130:Nat:=130
def f_131:Nat:=131
def f_133:Nat:=133
def f_134:Nat:=134
def f_135:Nat:=135
def f_136:Nat:=136
def f_137:Nat:=137
def f_139:Nat:=139
def f_140:Nat:=140
def f_141:Nat:=141
def f_144:Nat:=144
def f_145:Nat:=145
def f_146:Nat:=146
def f_147:Nat:=147
def f_148:Nat:=148
def f_149:Nat:=149
def f_150:Nat:=150
def f_151:Nat:=151
def f_152:Nat:=152
def f_153:Nat:=153
def f_154:Nat:=154
def f_155:Nat:=155
def f_156:Nat:=156
def f_157:Nat:=157
def f_158:Nat:=158
def f_160:Nat:=160
def f_161:Nat:=161
def f_162:Nat:=162
def f_163:Nat:=163
def f_164:Nat:=164
def f_165:Nat:=165
def f_168:Nat:=168
def f_169:Nat:=169
def f_175:Nat:=175
def f_176:Nat:=176
def f_177:Nat:=177
def f_178:Nat:=178
def f_179:Nat:=179
def f_180:Nat:=180
def f_181:Nat:=181
def f_182:Nat:=182
def f_183:Nat:=183
def f_184:Nat:=184
def f_185:Nat:=185
def f_186:Nat:=186
def f_187:Nat:=187
def f_188:Nat:=188
def f_190:Nat:=190
def f_191:Nat:=191
def f_192:Nat:=192
def f_193:Nat:=193
def f_194:Nat:=194
def f_195:Nat:=195
def f_196:Nat:=196
def f_197:Nat:=197
def f_198:Nat:=198
def f_199:Nat:=199
def f_200:Nat:=200
def f_201:Nat:=201
def f_202:Nat:=202
def f_203:Nat:=203
def f_205:Nat:=205
def f_206:Nat:=206
def f_207:Nat:=207
def f_208:Nat:=208
def f_209:Nat:=209
def f_211:Nat:=211
def f_212:Nat:=212
def f_213:Nat:=213
def f_214:Nat:=214
def f_215:Nat:=215
def f_216:Nat:=216
def f_217:Nat:=217
def f_218:Nat:=218
def f_219:Nat:=219
def f_220:Nat:=220
def f_221:Nat:=221
def f_222:Nat:=222
def f_223:Nat:=223
def f_226:Nat:=226
def f_227:Nat:=227
def f_228:Nat:=228
def f_229:Nat:=229
def f_230:Nat:=230
def f_231:Nat:=231
def f_232:Nat:=232
def f_233:Nat:=233
def f_234:Nat:=234
def f_235:Nat:=235
def f_236:Nat:=236
def f_237:Nat:=237
def f_238:Nat:=238
def f_239:Nat:=239
def f_240:Nat:=240
def f_241:Nat:=241
def f_242:Nat:=242
def f_243:Nat:=243
def f_244:Nat:=244
def f_245:Nat:=245
def f_246:Nat:=246
def f_247:Nat:=247
def f_248:Nat:=248
def f_249:Nat:=249
def f_250:Nat:=250
def f_251:Nat:=251
def f_252:Nat:=252
def f_253:Nat:=253
def f_254:Nat:=254
def f_257:Nat:=257
def f_258:Nat:=258
def f_259:Nat:=259
def f_260:Nat:=260
def f_261:Nat:=261
def f_262:Nat:=262
def f_263:Nat:=263
def f_265:Nat:=265
def f_267:Nat:=267
def f_268:Nat:=268
def f_269:Nat:=269
def f_270:Nat:=270
def f_271:Nat:=271
def f_272:Nat:=272
def f_273:Nat:=273
def f_274:Nat:=274
def f_275:Nat:=275
def f_276:Nat:=276
def f_277:Nat:=277
def f_278:Nat:=278
def f_279:Nat:=279
def f_280:Nat:=280
def f_281:Nat:=281
def f_282:Nat:=282
def f_285:Nat:=285
def f_286:Nat:=286
def f_287:Nat:=287
def f_288:Nat:=288
def f_289:Nat:=289
def f_290:Nat:=290
def f_291:Nat:=291
def f_292:Nat:=292
def f_293:Nat:=293
def f_294:Nat:=294
def f_295:Nat:=295
def f_296:Nat:=296
def f_297:Nat:=297
def f_298:Nat:=298
def f_299:Nat:=299
def f_300:Nat:=300
def f_301:Nat:=301
def f_302:Nat:=302
def f_303:Nat:=303
def f_304:Nat:=304
def f_305:Nat:=305
def f_306:Nat:=306
def f_307:Nat:=307
def f_308:Nat:=308
def f_309:Nat:=309
def f_310:Nat:=310
def f_313:Nat:=313
def f_314:Nat:=314
def f_315:Nat:=315
def f_316:Nat:=316
def f_317:Nat:=317
def f_318:Nat:=318
def f_319:Nat:=319
def f_320:Nat:=320
def f_321:Nat:=321
def f_322:Nat:=322
def f_323:Nat:=323
def f_324:Nat:=324
def f_325:Nat:=325
def f_326:Nat:=326
def f_327:Nat:=327
def f_328:Nat:=328
def f_329:Nat:=329
def f_330:Nat:=330
def f_331:Nat:=331
def f_332:Nat:=332
def f_333:Nat:=333
def f_334:Nat:=334
def f_335:Nat:=335
def f_336:Nat:=336
def f_337:Nat:=337
def f_338:Nat:=338
def f_339:Nat:=339
def f_340:Nat:=340
def f_341:Nat:=341
def f_342:Nat:=342
def f_343:Nat:=343
def f_344:Nat:=344
def f_345:Nat:=345
def f_346:Nat:=346
def f_347:Nat:=347
def f_348:Nat:=348
def f_349:Nat:=349
def f_350:Nat:=350
def f_351:Nat:=351
def f_352:Nat:=352
def c_13:AFn:=⟨3,[.tmp 6],ya3 [ydf 3,xJ 4 1,ybd 6] [ydk 11 3,xA 12 4 4,ybg 13 f_37 11 12,ybo 14 13,xM 15 14,ya4 16 15 2,ycw 17 15 f_43 [.t 16],yde 18 15 17,xW 19 15 18] 19 [yaf 20 f_49 [],xM 6 20] (yaa [ydk 22 3,xA 23 4 4,xM 24 2,yct 25 f_52 22 23 24,xM 21 25,xE 26 0 21,xE 27 1 21,xM 7 26,xM 8 27] (ybs [ydk 29 3,xA 30 4 4,xM 31 2,yct 32 f_53 29 30 31,xM 28 32,xE 33 0 28,xE 34 1 28,xM 9 33,xM 10 34] [xM 35 7,xM 36 9,ybg 37 f_42 35 36,xM 38 37,ybn 39 38 8,ybn 40 38 10,ybt 41 38 .eql 39 (.t 40),xV 42 38 41,xM 43 42,yc1 44 43 f_49 [],xV 45 43 44,xM 6 45]))⟩
def c_17_l0:ACode:=yc2 [xB 40 .lss 39 38] 40 0 1 (ya0 [xM 41 39,xM 7 41] (xD [ydk 42 2,xM 43 7,ydl 44,xL 45 44,xM 46 7,xX 47 1 45 46,xL 48 47,yb9 49 3,xL 50 49,xM 51 7,xX 52 1 50 51,xL 53 52,xF 54 2 3,xL 55 54,xM 56 7,xX 57 2 55 56,xA 58 2 57,yaf 59 f_64 [.t 42,.t 43,.t 48,.t 53,.t 58],xM 8 59]) (ya2 [xM 60 8,yc7 61 .neq 60] 61 [xM 62 8,ydj 62])) [yca 63 .add 39,xM 39 63]
def c_17_k1:ACode:=yad [ydk 64 2,xF 65 3 3,xL 66 65,ybg 67 f_65 64 66,ydj 67]
def c_17:AFn:=⟨2,[.tmp 4],ya0 [ydf 2,xJ 3 1,yby] (.seq (xQ [ydk 9 2,yb3 10 f_63 9,yc5 5 ybb ybb ybb ybb,xS 4 5 10] [5]) (ya2 [yb1 11 5,xL 12 11,yc7 13 .neq 12] 13 [yb1 14 5,xL 15 14,ydj 15])) (ydh [xF 16 5 2,xL 17 16,xN 18 17,xM 6 18] [ydl 19,xL 20 19,xN 21 20,xM 22 6,xB 23 .neq 21 22,xM 24 23,yda 25 24 3,ybr 26 24 25,ybc 27 24 26,ya4 28 24 6,ybx 29 24 .neq 27 28,xW 30 24 29,xM 31 30,yaw 32 31 2 3,ybr 33 31 32,ybc 34 31 33,ya4 35 31 6,ybx 36 31 .neq 34 35,xW 37 31 36] 37 [xI 4 2] [xM 38 6,ya8 39] 0 c_17_l0 c_17_k1)⟩
def c_18:AFn:=⟨2,[.tmp 4,.tmp 5],yan [ydf 2,xJ 3 1,xC 4 .nilptr,yc3] [ydk 7 2,xA 8 4 3,ybg 9 f_17 7 8,xM 6 9] (ya2 [xM 10 6,yc7 11 .neq 10] 11 [xM 12 6,xC 4 .nilptr,ydi 12]) (yad [ydk 13 2,xA 14 4 3,yck 15 f_66 [.t 13,.t 14],ydj 15,yc3])⟩
def c_19_l0:ACode:=yc8 [xM 39 6,yce 40,xB 41 .lss 39 40] 41 1 2 (xD [ydk 44 2,xM 45 6,ydl 46,xL 47 46,xM 48 6,xX 49 1 47 48,xL 50 49,yb9 51 3,xL 52 51,xM 53 6,xX 54 1 52 53,xL 55 54,ycf 56 f_67 (.t 44) (.t 45) (.t 50) (.t 55),xM 7 56]) (ybh [xM 57 7,yc7 58 .neq 57] 58 [xM 59 7,ydj 59] (yci [ydk 60 2,xM 61 6,xF 62 2 3,xL 63 62,xM 64 6,xX 65 2 63 64,xA 66 2 65,yct 67 f_68 60 61 66,xM 7 67] (ya2 [xM 68 7,yc7 69 .neq 68] 69 [xM 70 7,ydj 70]))) [xM 42 6,yca 43 .add 42,xM 6 43]
def c_19_k1:ACode:=yad [ydk 71 2,xF 72 3 3,xL 73 72,ybg 74 f_69 71 73,ydj 74]
def c_19:AFn:=⟨2,[.tmp 4],yb0 [ydf 2,xJ 3 1,yby] [xF 8 5 2,xL 9 8,xN 10 9,ydi 10] (ycz 0 [ydk 12 2,yb3 13 f_55 12,xO 14 (.fld false 0 1 (.t 13)),yc7 15 .neq 14,xM 11 15] 11 [ydk 16 2,yb3 17 f_55 16,xO 18 (.fld false 0 1 (.t 17)),ydj 18] (ya2 [ydl 20,xL 21 20,xN 22 21,yce 23,xB 24 .neq 22 23,xM 25 24,yda 26 25 3,ybr 27 25 26,ybc 28 25 27,ya4 29 25 5,ybx 30 25 .neq 28 29,xW 31 25 30,xM 32 31,yaw 33 32 2 3,ybr 34 32 33,ybc 35 32 34,ya4 36 32 5,ybx 37 32 .neq 35 36,xW 38 32 37,xM 19 38] 19 [xI 4 2]) (ybq [ydb] 1 c_19_l0 c_19_k1))⟩
def c_24:AFn:=⟨1,[.cell 2 true 4],ya3 [yc5 2 (.fslice 1 []) (.fslice 1 []) (.fslice 2 []) (.fslice 1 [])] [ych 3,xO 4 (.eqn false (.t 3) (.c .nilptr)),ydi 4,ya4 6 5 0,yac 7 5 (ybv 6),yaw 8 5 14 7,ybr 9 5 8,yde 10 5 9,xW 11 5 10] 11 [xO 12 (.build [.fslice 1 [],.fslice 1 [],.fslice 2 [],.fslice 1 []] []),xS 4 2 12] (yad [ych 13,xO 14 (ybv 13),yb1 15 14,xA 16 4 15,yck 17 f_76 [.t 16],xS 4 2 17])⟩
def c_31:AFn:=⟨2,[.tmp 4],ybs [ycp 2 0,ycp 3 1,yc9] [xA 5 4 2,xA 6 4 3,ybg 7 f_85 5 6,xM 8 7,ybw 9 8 2 2,yas 10 8 (yc0 2 (.t 9)),ybw 11 8 2 3,yas 12 8 (yc0 2 (.t 11)),yc1 13 8 f_72 [.t 10,.t 12],xV 14 8 13,ydj 14]⟩
def c_33:AFn:=⟨3,[.tmp 6,.tmp 7],yaa [ycp 5 2,ydb,ya8 7] (ycz 0 [ych 11,xO 12 (.eqn false (.t 11) (.c .nilptr)),xM 13 12,ya4 14 13 0,yac 15 13 (ybv 14),yaw 16 13 14 15,ybr 17 13 16,yde 18 13 17,xW 19 13 18,xM 10 19] 10 [ydb,xI 7 1] (ya2 [ych 21,yb8 22,yck 23 f_82 [.t 21,.t 22],ybo 24 23,xM 20 24] 20 [ydb,xI 7 8]) (.seq (yci [ych 25,xO 26 (ybv 25),xF 27 4 26,ydk 28 27,yb8 29,xA 30 4 5,yct 31 f_86 28 29 30,xM 8 31] (ya2 [xM 32 8,yc7 33 .neq 32] 33 [xM 34 8,ydb,xM 7 34])) (ybh [ych 35,xO 36 (ybv 35),yb1 37 36,yb1 38 37,xL 39 38,yb8 40,xX 41 1 39 40,xL 42 41,xO 43 (.mkfunc (.func f_88) [] [.t 5]),ybg 44 f_87 42 43] 44 [ydb,xI 7 7] (ya0 [ych 45,xO 46 (ybv 45),yb1 47 46,yb9 48 47,xL 49 48,yb8 50,xX 51 1 49 50,xL 52 51,xM 9 52] (yci [ych 53,xO 54 (ybv 53),yb1 55 54,yb1 56 55,xL 57 56,yb8 58,xX 59 1 57 58,xL 60 59,xN 61 60,ych 62,xO 63 (ybv 62),xF 64 4 63,xF 65 5 64,xL 66 65,yb8 67,xX 68 6 66 67,xF 69 5 68,xL 70 69,xB 71 .geq 61 70,xM 72 71,ya4 73 72 9,ybl 74 72 .geq 73 1073741824,xW 75 72 74] (yai 75 [ydb,xI 7 13])) (yci [ych 76,xO 77 (ybv 76),xF 78 13 77,xL 79 78,yb8 80,xX 81 1 79 80,xL 82 81,xM 83 9,ych 84,xO 85 (ybv 84),yb1 86 85,yb1 87 86,xL 88 87,yb8 89,xX 90 1 88 89,xL 91 90,xN 92 91,⟨none,none,.update .i (.t 82) (.t 83) (.t 92)⟩] (.seq (.region true [(4,19)] [⟨some 93,none,.mov (.t 0)⟩,⟨some 94,none,.nilchk (.t 93)⟩,⟨some 95,none,.faddr 0 (.t 94)⟩,⟨some 96,none,.faddr 0 (.t 95)⟩,⟨some 97,none,.load false 1 (.t 96)⟩,⟨some 98,none,.mov (.t 1)⟩,⟨some 99,none,.mov (.t 0)⟩,⟨some 100,none,.nilchk (.t 99)⟩,⟨some 101,none,.faddr 0 (.t 100)⟩,⟨some 102,none,.faddr 0 (.t 101)⟩,⟨some 103,none,.load false 1 (.t 102)⟩,⟨some 104,none,.mov (.t 1)⟩,⟨some 105,none,.iaddr 1 none (.t 103) (.t 104)⟩,⟨some 106,none,.load false 1 (.t 105)⟩,⟨some 107,none,.mov (.t 9)⟩,⟨some 108,none,.load true 4 (.t 5)⟩,⟨some 109,none,.pcall f_90 [.t 108]⟩,⟨some 110,none,.build [.int .i64 0,.fslice 2 [],.int .i64 0,.int .i64 0,.fslice 1 []] [(0,1,(.t 107)),(1,4,(.t 109))]⟩,⟨some 111,none,.bslice .imm 5 (List.replicate 1 [.int .i64 0,.fslice 2 [],.int .i64 0,.int .i64 0,.fslice 1 []]) [(0,(.t 110))]⟩,⟨some 112,none,.append .row 5 72 (.t 106) (.t 111)⟩,⟨some 113,none,.iaddr 1 none (.t 97) (.t 98)⟩,⟨none,none,.store 1 (.t 113) (.t 112)⟩] none) (ybs [ych 114,xO 115 (ybv 114),yb1 116 115,yb9 117 116,xL 118 117,yb8 119,xX 120 1 118 119,xL 121 120,yca 122 .add 121,xX 123 1 118 119,xS 1 123 122] [xM 124 9,xM 6 124,ya8 7])))))))⟩
def c_34:AFn:=⟨4,[.tmp 8],ycb (ycp 7 3) (ya8 8) (yan [ych 12,yb8 13,xM 14 2,yck 15 f_91 [.t 12,.t 13,.t 14],xM 11 15,xE 16 0 11,xE 17 1 11,xM 9 16,xM 10 17] [xM 18 10,yc7 19 .eql 18] (ybu 19 (xD [ych 20,xO 21 (ybv 20),xF 22 4 21,ydk 23 22,yb8 24,xA 25 2 7,yct 26 f_92 23 24 25,xM 10 26])) (yae [xM 27 10,yc7 28 .eql 27] (ybu 28 (xD [ych 29,xO 30 (ybv 29),yb1 31 30,yb1 32 31,xL 33 32,yb8 34,xX 35 1 33 34,xL 36 35,xM 37 9,xA 38 2 7,yb3 39 f_74 38,xX 40 5 36 37,yb9 41 40,xF 42 2 41,xS 2 42 39])) (ycu (xM 43 10) 8 43)))⟩
def c_35:AFn:=⟨3,[.tmp 6],yaa [ydb] (yan [ych 10,yb8 11,xM 12 2,yck 13 f_91 [.t 10,.t 11,.t 12],xM 9 13,xE 14 0 9,xE 15 1 9,xM 7 14,xM 8 15] [xM 16 8,yc7 17 .eql 16] (ybu 17 (.seq (.region true [(4,17)] [⟨some 18,none,.mov (.t 0)⟩,⟨some 19,none,.nilchk (.t 18)⟩,⟨some 20,none,.faddr 0 (.t 19)⟩,⟨some 21,none,.faddr 0 (.t 20)⟩,⟨some 22,none,.load false 1 (.t 21)⟩,⟨some 23,none,.mov (.t 1)⟩,⟨some 24,none,.mov (.t 0)⟩,⟨some 25,none,.nilchk (.t 24)⟩,⟨some 26,none,.faddr 0 (.t 25)⟩,⟨some 27,none,.faddr 0 (.t 26)⟩,⟨some 28,none,.load false 1 (.t 27)⟩,⟨some 29,none,.mov (.t 1)⟩,⟨some 30,none,.iaddr 1 none (.t 28) (.t 29)⟩,⟨some 31,none,.load false 1 (.t 30)⟩,⟨some 32,none,.mov (.t 7)⟩,⟨some 33,none,.mov (.t 7)⟩,⟨some 34,none,.bin .add (.t 33) (.c (.int .i64 1))⟩,⟨some 35,none,.tcall f_93 [.t 31,.t 32,.t 34]⟩,⟨some 36,none,.iaddr 1 none (.t 22) (.t 23)⟩,⟨none,none,.store 1 (.t 36) (.t 35)⟩] none) (xR [ych 37,yb8 38,yck 39 f_94 [.t 37,.t 38]]))) (ycu (xM 40 8) 6 40))⟩
def c_36:AFn:=⟨1,[.tmp 2],ya3 [xC 2 .nilptr] [ych 3,xO 4 (.eqn false (.t 3) (.c .nilptr)),ydi 4,ya4 6 5 0,yac 7 5 (ybv 6),yaw 8 5 14 7,ybr 9 5 8,yde 10 5 9,xW 11 5 10] 11 [xC 2 .nilptr] (yci [ych 12,xO 13 (ybv 12),xF 14 4 13,ydk 15 14,ych 16,xO 17 (ybv 16),yb1 18 17,xA 19 4 18,yck 20 f_66 [.t 15,.t 19],xM 2 20] .ret)⟩
def c_37:AFn:=⟨2,[.tmp 4],ybs [ydf 2,xJ 3 1,yc9] [ydk 5 2,yb3 6 f_95 5,xM 7 6,ybw 8 7 7 2,yb5 9 7 1 8,yc1 10 7 f_96 [.t 9,yao 40],xV 11 7 10,xM 12 11,yas 13 12 (yc0 4 (.t 3)),yc1 14 12 f_38 [.t 13],xV 15 12 14,ydj 15]⟩
def c_38_l0:ACode:=ycn [xM 43 4,yb1 44 1,xL 45 44,xM 46 3,xX 47 1 45 46,xL 48 47,xN 49 48,xB 50 .lss 43 49] 50 2 3 (ya2 [yb1 53 1,xL 54 53,xM 55 3,xX 56 1 54 55,xL 57 56,xM 58 4,xX 59 5 57 58,yb9 60 59,xA 61 4 60,yb3 62 f_97 61,ybo 63 62] 63 [ybd 2]) [xM 51 4,yca 52 .add 51,ydj 52]
def c_38_k1:ACode:=xR [xM 34 3,yca 35 .add 34,xM 3 35]
def c_38_l2:ACode:=yba [xM 29 3,yb1 30 1,xL 31 30,xN 32 31,xB 33 .lss 29 32] 33 0 (yaj 1 (ybh [yb1 36 1,xL 37 36,xM 38 3,xX 39 1 37 38,xL 40 39,xN 41 40,xK 42 .gtr 41 40] 42 [ybd 2] (yaa [yby] (yam 2 c_38_l0))) c_38_k1)
def c_38_l3:ACode:=ycn [yce 64,xF 65 2 1,xL 66 65,xN 67 66,xB 68 .lss 64 67] 68 4 5 (ya2 [xF 71 2 1,xL 72 71,yce 73,xX 74 2 72 73,yb9 75 74,xL 76 75,xN 77 76,xK 78 .gtr 77 10] 78 [ybd 2]) [yce 69,yca 70 .add 69,ydi 70]
def c_38_l4:ACode:=ycn [xM 79 6,xF 80 3 1,xL 81 80,xN 82 81,xB 83 .lss 79 82] 83 6 7 (ya2 [xF 86 3 1,xL 87 86,xM 88 6,xX 89 1 87 88,xL 90 89,xN 91 90,xK 92 .gtr 91 80] 92 [ybd 2]) [xM 84 6,yca 85 .add 84,xM 6 85]
def c_38_k5:ACode:=yad [xC 2 ybz]
def c_38_k6:ACode:=ybq [ydb] 6 c_38_l4 c_38_k5
def c_38_k7:ACode:=ybq [yc3] 4 c_38_l3 c_38_k6
def c_38:AFn:=⟨1,[.tmp 2],ydh [ycp 1 0,ybd 2] [yb1 7 1,xL 8 7,xN 9 8,xK 10 .gtr 9 16,xM 11 10,yda 12 11 1,ybr 13 11 12,ybc 14 11 13,ybl 15 11 .gtr 14 16,xW 16 11 15,xM 17 16,yaw 18 17 2 1,ybr 19 17 18,ybc 20 17 19,ybl 21 17 .gtr 20 16,xW 22 17 21,xM 23 22,yaw 24 23 3 1,ybr 25 23 24,ybc 26 23 25,ybl 27 23 .gtr 26 8,xW 28 23 27] 28 [ybd 2] [ya8 3] 0 c_38_l2 c_38_k7⟩
def c_42_l0:ACode:=yc8 [yce 13,ych 14,xN 15 14,xB 16 .lss 13 15] 16 0 1 (.region true [(3,8),(7,8),(3,9),(7,9),(8,9),(7,10)] [⟨some 19,none,.mov (.t 0)⟩,⟨some 20,none,.mov (.t 5)⟩,⟨some 21,none,.iaddr 9 none (.t 19) (.t 20)⟩,⟨some 22,none,.load true 9 (.t 21)⟩,⟨some 23,none,.mov (.t 1)⟩,⟨some 24,none,.mov (.t 5)⟩,⟨some 25,none,.iaddr 9 none (.t 23) (.t 24)⟩,⟨some 26,none,.load true 9 (.t 25)⟩,⟨some 6,none,.alloc [.int .i64 0,.int .i64 0,.int .i64 0,.fslice 2 [],.int .i64 0,.int .i64 0,.fslice 1 [],.int .i64 0,.fslice 1 []]⟩,⟨some 7,none,.alloc [.int .i64 0,.int .i64 0,.int .i64 0,.fslice 2 [],.int .i64 0,.int .i64 0,.fslice 1 [],.int .i64 0,.fslice 1 []]⟩,⟨none,none,.store 9 (.t 6) (.t 22)⟩,⟨none,none,.store 9 (.t 7) (.t 26)⟩] none) (ya2 [yb1 27 6,xL 28 27,yb1 29 7,xL 30 29,xB 31 .neq 28 30,xM 32 31,yda 33 32 6,ybr 34 32 33,yda 35 32 7,ybr 36 32 35,ybx 37 32 .neq 34 36,xW 38 32 37,xM 39 38,yaw 40 39 2 6,ybr 41 39 40,yaw 42 39 2 7,ybr 43 39 42,ybx 44 39 .neq 41 43,xW 45 39 44,xM 46 45,yaw 47 46 3 6,yac 48 46 (yc0 4 (.t 47)),yaw 49 46 3 7,yac 50 46 (yc0 4 (.t 49)),ycw 51 46 f_31 [.t 48,.t 50],yde 52 46 51,xW 53 46 52,xM 54 53,yaw 55 54 7 6,yac 56 54 (yc0 2 (.t 55)),yaw 57 54 7 7,yac 58 54 (yc0 2 (.t 57)),ycw 59 54 f_72 [.t 56,.t 58],yde 60 54 59,xW 61 54 60] 61 [yc9]) [yce 17,yca 18 .add 17,ydi 18]
def c_42_k1:ACode:=yad [xC 4 ybz]
def c_42:AFn:=⟨2,[.tmp 4],ydh [yc9] [ych 8,xN 9 8,yb8 10,xN 11 10,xB 12 .neq 9 11] 12 [yc9] [yc3] 0 c_42_l0 c_42_k1⟩
def c_43_l0:ACode:=ycn [xM 7 3,ych 8,xN 9 8,xB 10 .lss 7 9] 10 0 1 (ya2 [ych 13,xM 14 3,xX 15 9 13 14,xF 16 3 15,xA 17 4 16,yb3 18 f_97 17,ybo 19 18,xM 20 19,ya4 21 20 0,ya4 22 20 3,yac 23 20 (ydc 9 21 22),yaw 24 20 7 23,yda 25 20 24,ybr 26 20 25,ybc 27 20 26,ybl 28 20 .gtr 27 10,xW 29 20 28] 29 [ybd 2]) [xM 11 3,yca 12 .add 11,xM 3 12]
def c_43_k1:ACode:=yad [xC 2 ybz]
def c_43:AFn:=⟨1,[.tmp 2],ydh [ybd 2] [ych 4,xN 5 4,xK 6 .gtr 5 80] 6 [ybd 2] [ya8 3] 0 c_43_l0 c_43_k1⟩
def c_44:AFn:=⟨3,[.cell 6 true 4,.tmp 7,.tmp 8,.tmp 9],ya0 [ydf 3,xJ 4 1,yc5 6 (.fslice 1 []) (.fslice 1 []) (.fslice 2 []) (.fslice 1 []),xC 7 (.fslice 1 []),ya8 8,ya8 9] (xQ [ydk 14 3,xA 15 4 4,xM 16 2,yct 17 f_109 14 15 16,xM 13 17,xE 18 0 13,xE 19 1 13,xE 20 2 13,yax 10 [.fslice 4 [],.fslice 1 []],xS 2 10 18,xM 11 19,xM 12 20] [10]) (ybh [xM 21 12,yc7 22 .neq 21] 22 [xO 23 (.build [.fslice 1 [],.fslice 1 [],.fslice 2 [],.fslice 1 []] []),xM 24 11,xM 25 12,xS 4 6 23,xC 7 (.fslice 1 []),xM 8 24,xM 9 25] (.seq (.region true [(7,8)] [⟨some 26,none,.faddr 0 (.t 10)⟩,⟨some 27,none,.load false 1 (.t 26)⟩,⟨some 28,none,.mov (.t 2)⟩,⟨some 29,none,.len (.t 28)⟩,⟨some 30,none,.iaddr 4 none (.t 27) (.t 29)⟩,⟨some 31,none,.load true 4 (.t 30)⟩,⟨some 32,none,.faddr 1 (.t 10)⟩,⟨some 33,none,.load false 1 (.t 32)⟩,⟨none,none,.store 4 (.t 6) (.t 31)⟩,⟨some 7,none,.mov (.t 33)⟩,⟨some 8,none,.mov (.c (.int .i64 0))⟩,⟨some 9,none,.mov (.c (.int .i64 0))⟩] none) .ret))⟩
def c_45_l0:ACode:=yc8 [yce 33,yb1 34 2,xL 35 34,xN 36 35,xB 37 .lss 33 36] 37 0 1 (xD [yb1 40 2,xL 41 40,yce 42,xX 43 1 41 42,xL 44 43,ydl 45,xL 46 45,yce 47,xX 48 1 46 47,xL 49 48,ybg 50 f_110 44 49,ybo 51 50]) (yai 51 [yc9]) [yce 38,yca 39 .add 38,ydi 39]
def c_45_l1:ACode:=yc8 [xM 52 6,xF 53 2 2,xL 54 53,xN 55 54,xB 56 .lss 52 55] 56 2 3 (xD [xF 59 2 2,xL 60 59,xM 61 6,xX 62 2 60 61,xA 63 2 62,xF 64 2 3,xL 65 64,xM 66 6,xX 67 2 65 66,xA 68 2 67,ybg 69 f_72 63 68,ybo 70 69]) (yai 70 [yc9]) [xM 57 6,yca 58 .add 57,xM 6 58]
def c_45_l2:ACode:=yc8 [xM 71 7,xF 72 3 2,xL 73 72,xN 74 73,xB 75 .lss 71 74] 75 4 5 (xD [xF 78 3 2,xL 79 78,xM 80 7,xX 81 1 79 80,xL 82 81,xF 83 3 3,xL 84 83,xM 85 7,xX 86 1 84 85,xL 87 86,ybg 88 f_111 82 87,ybo 89 88]) (yai 89 [yc9]) [xM 76 7,yca 77 .add 76,xM 7 77]
def c_45_k3:ACode:=yad [xC 4 ybz]
def c_45_k4:ACode:=ybq [ya8 7] 4 c_45_l2 c_45_k3
def c_45_k5:ACode:=ybq [ydb] 2 c_45_l1 c_45_k4
def c_45:AFn:=⟨2,[.tmp 4],ydh [ycp 2 0,ycp 3 1,yc9] [yb1 8 2,xL 9 8,xN 10 9,ydl 11,xL 12 11,xN 13 12,xB 14 .neq 10 13,xM 15 14,yaw 16 15 2 2,ybr 17 15 16,ybc 18 15 17,yaw 19 15 2 3,ybr 20 15 19,ybc 21 15 20,ybx 22 15 .neq 18 21,xW 23 15 22,xM 24 23,yaw 25 24 3 2,ybr 26 24 25,ybc 27 24 26,yaw 28 24 3 3,ybr 29 24 28,ybc 30 24 29,ybx 31 24 .neq 27 30,xW 32 24 31] 32 [yc9] [yc3] 0 c_45_l0 c_45_k5⟩
def c_48:AFn:=⟨3,[.cell 6 true 4,.tmp 7,.tmp 8,.tmp 9],yaa [ydf 3,xJ 4 1,yc5 6 (.fslice 1 []) (.fslice 1 []) (.fslice 2 []) (.fslice 1 []),xC 7 (.fslice 1 []),ya8 8,ya8 9] (ya3 [ydk 12 3,xA 13 4 4,yck 14 f_18 [.t 12,.t 13],xM 11 14,xE 15 0 11,xE 16 1 11,xM 10 15,xM 9 16] [xM 17 9,yc7 18 .neq 17] 18 [xO 19 (.build [.fslice 1 [],.fslice 1 [],.fslice 2 [],.fslice 1 []] []),xM 20 9,xS 4 6 19,xC 7 (.fslice 1 []),yb4 8,xM 9 20] (ya3 [xM 22 10,xM 23 2,yck 24 f_51 [.t 22,.t 23],xM 21 24,xE 25 0 21,xE 26 1 21,xE 27 2 21,xM 7 25,xM 8 26,xM 9 27] [xM 28 9,yc7 29 .neq 28] 29 [xO 30 (.build [.fslice 1 [],.fslice 1 [],.fslice 2 [],.fslice 1 []] []),xM 31 8,xM 32 9,xS 4 6 30,xC 7 (.fslice 1 []),xM 8 31,xM 9 32] (yad [xM 33 10,yck 34 f_24 [.t 33],xM 35 7,xS 4 6 34,xM 7 35,ya8 8,ya8 9])))⟩
def c_51_l0:ACode:=yc2 [xB 37 .lss 36 35] 37 0 1 (yaa [xM 38 36,xX 39 9 34 36,ydk 40 39,yax 11 [ybb,ybb,ybb,.fslice 2 [],ybb,ybb,.fslice 1 [],ybb,.fslice 1 []],xM 10 38,xS 9 11 40] (ya3 [xL 42 2,ydk 43 11,yck 44 f_117 [.t 42,.t 43],xM 41 44,xE 45 0 41,xE 46 1 41,xM 12 45,xM 13 46] [xM 47 13,yc7 48 .neq 47] 48 [xM 49 10,xM 50 13,xC 4 (.fslice 1 []),ydi 49,xS 1 6 50] (xR [xM 51 9,xM 52 12,xO 53 (.bslice .imm 1 (List.replicate 1 [.int .i64 0]) [(0,(.t 52))]),ycx 54 1 8 51 53,xM 9 54]))) [yca 55 .add 36,xM 36 55]
def c_51_k1:ACode:=yad [xM 56 9,ydj 56,yc3,⟨none,none,.store 1 (.t 6) (.c (.int .i64 0))⟩]
def c_51:ADFn:=⟨2,[.tmp 4,.tmp 5,.cell 6 false 1],.seq (xR [xO 2 (.box (.t 0)),xC 4 (.fslice 1 []),xI 5 0,xO 6 (.alloc [.int .i64 0])]) (.seq (xR [xL 14 2,xO 15 (.tcall f_36 [.t 14]),xO 7 (.alloc [.nilptr]),xS 1 7 15]) (.seq (.seq (xR [xL 16 2,xO 17 (.build [.int .i64 0,.fslice 1 []] []),xO 18 (.tcall f_34 [.t 16,.c (.int .i64 (-1)),.c (.int .i64 0),.t 17]),xK 19 .eql 18 1,xM 20 19,xG 21 20 false (.load false 1 (.t 7)),xG 22 20 false (.eqn false (.t 21) (.c (.nilptr))),xW 23 20 22]) (.cond (.t 23) (.seq (xR [xC 4 (.fslice 1 []),xI 5 (-1),⟨none,none,.store 1 (.t 6) (.c (.int .i64 1))⟩]) (.ret)) (.skip))) (.seq (.seq (xR [xM 24 1,xN 25 24,xK 26 .gtr 25 64]) (.cond (.t 26) (.seq (xR [xC 4 (.fslice 1 []),xI 5 (-1),⟨none,none,.store 1 (.t 6) (.c (.int .i64 12))⟩]) (.ret)) (.skip))) (.dfr [⟨some 27,none,.mkfunc (.func f_116) [] [.t 6,.t 7,.t 2]⟩] 27 (.seq (xR [xM 28 1,xN 29 28,xO 30 (.mkslice .row 9 120 [.int .i64 0,.int .i64 0,.int .i64 0,.fslice 2 [],.int .i64 0,.int .i64 0,.fslice 1 [],.int .i64 0,.fslice 1 []] (.t 29) (.t 29)),xM 8 30]) (.seq (xR [xM 31 8,xM 32 1,xO 33 (.copy 9 (.t 31) (.t 32))]) (.seq (xR [xO 9 (.nilapp 1)]) (.seq (.seq (xR [xM 34 8,xN 35 34,xI 36 0]) (.block 0 (.loop c_51_l0))) c_51_k1)))))))),f_116,3,none,.seq (xR [xL 3 0,xK 4 .neq 3 0]) (.cond (.t 4) (xD [xL 5 2,xL 6 1,xO 7 (.nilchk (.t 6)),xA 8 15 7,xO 9 (.nilchk (.t 5)),xS 15 9 8]) (.skip))⟩
def c_52_l0:ACode:=ycy [xB 52 .lss 51 50] 52 0 1 [xM 53 51,xX 54 9 49 51,ydk 55 54,yax 15 [ybb,ybb,ybb,.fslice 2 [],ybb,ybb,.fslice 1 [],ybb,.fslice 1 []],xM 14 53,xS 9 15 55] [15] (.seq (.region true [(2,3),(2,7)] [⟨some 56,none,.mov (.t 13)⟩,⟨some 57,none,.mov (.t 12)⟩,⟨some 58,none,.tcall f_24 [.t 57]⟩,⟨some 59,none,.load true 9 (.t 15)⟩,⟨some 60,none,.mov (.t 9)⟩,⟨some 61,none,.mov (.t 14)⟩,⟨some 62,none,.iaddr 1 none (.t 60) (.t 61)⟩,⟨some 63,none,.load false 1 (.t 62)⟩,⟨some 64,none,.tcall f_118 [.t 58,.t 59,.t 63]⟩,⟨some 65,none,.bslice .imm 9 (List.replicate 1 [.int .i64 0,.int .i64 0,.int .i64 0,.fslice 2 [],.int .i64 0,.int .i64 0,.fslice 1 [],.int .i64 0,.fslice 1 []]) [(0,(.t 64))]⟩,⟨some 66,none,.append .app 9 120 (.t 56) (.t 65)⟩,⟨some 13,none,.mov (.t 66)⟩] none) (xR [xM 67 12,ydk 68 15,yck 69 f_117 [.t 67,.t 68]])) [yca 70 .add 51,xM 51 70]
def c_52_l1:ACode:=ycn [xM 75 18,yc7 76 .geq 75] 76 2 3 (ya0 [xM 79 13,xM 80 18,xX 81 9 79 80,ydk 82 81,yax 19 [ybb,ybb,ybb,.fslice 2 [],ybb,ybb,.fslice 1 [],ybb,.fslice 1 []],xS 9 19 82] (xQ [yb9 83 19,xL 84 83,xF 85 2 19,xL 86 85,xO 87 (.build [.int .i64 0,.int .i64 0] [(0,1,(.t 84)),(1,1,(.t 86))]),yax 20 [ybb,ybb],xS 2 20 87] [20]) (yae [xM 89 16,xA 90 2 20,xO 91 (.lookup .p (.int .i64 0) true (.t 89) (.t 90)),xM 88 91,xE 92 0 88,xE 93 1 88,xM 21 92,xM 22 93] (yaa [xM 94 22] (ybu 94 (xR [xM 95 21,xF 96 2 19,xS 1 96 95]))) (yae [yb1 97 19,xL 98 97,yca 99 .eql 98] (ybu 99 (xR [xF 100 2 19,⟨none,none,.store 1 (.t 100) (.c (.int .i64 0))⟩])) (yan [xM 102 12,ydk 103 19,yck 104 f_117 [.t 102,.t 103],xM 101 104,xE 105 0 101,xE 106 1 101,xM 23 105,xM 24 106] [yb1 107 19,xL 108 107,yca 109 .eql 108] (ybu 109 (xR [xM 110 16,xA 111 2 20,xM 112 23,⟨none,none,.update .p (.t 110) (.t 111) (.t 112)⟩])) (xR [xM 113 17,ydk 114 19,xO 115 (.bslice .imm 9 (List.replicate 1 [.int .i64 0,.int .i64 0,.int .i64 0,.fslice 2 [],.int .i64 0,.int .i64 0,.fslice 1 [],.int .i64 0,.fslice 1 []]) [(0,(.t 114))]),ycx 116 9 120 113 115,xM 17 116]))))) [xM 77 18,yca 78 .sub 77,xM 18 78]
def c_52_k2:ACode:= .seq (xQ [ydk 118 3,xA 119 4 8,xM 120 17,yct 121 f_48 118 119 120,xM 117 121,xE 122 0 117,xE 123 1 117,xE 124 2 117,xE 125 3 117,yc5 25 (.fslice 1 []) (.fslice 1 []) (.fslice 2 []) (.fslice 1 []),xS 4 25 122,xM 26 123,xM 27 124,xM 11 125] [25]) (ydg [xM 126 11,yc7 127 .neq 126,xM 128 127,yac 129 128 (yc0 4 (.t 25)),yac 130 128 (yc0 4 (.t 4)),ycw 131 128 f_115 [.t 129,.t 130],yde 132 128 131,xW 133 128 132] 133 [xC 6 (.fslice 9 []),xI 7 14] [xM 134 17,xM 6 134,ya8 7])
def c_52_k3:ACode:=ycc (xO 71 .mkmap) 16 71 (ybj [ycd 17 9] [xM 72 13,xN 73 72,yca 74 .sub 73,xM 18 74] 2 c_52_l1 c_52_k2)
def c_52:AFn:=⟨3,[.tmp 6,.tmp 7],ya0 [ydf 3,xJ 4 1,xC 6 (.fslice 9 []),ya8 7] (xQ [ydk 29 3,xA 30 4 4,xM 31 2,yct 32 f_48 29 30 31,xM 28 32,xE 33 0 28,xE 34 1 28,xE 35 2 28,xE 36 3 28,yc5 8 (.fslice 1 []) (.fslice 1 []) (.fslice 2 []) (.fslice 1 []),xS 4 8 33,xM 9 34,xM 10 35,xM 11 36] [8]) (ybh [xM 37 11,yc7 38 .neq 37] 38 [xM 39 11,xC 6 (.fslice 9 []),xM 7 39] (ya3 [ydk 41 3,xA 42 4 4,yck 43 f_18 [.t 41,.t 42],xM 40 43,xE 44 0 40,xE 45 1 40,xM 12 44,xM 11 45] [xM 46 11,yc7 47 .neq 46] 47 [xM 48 11,xC 6 (.fslice 9 []),xM 7 48] (ybj [ycd 13 9] [xM 49 2,xN 50 49,ya8 51] 0 c_52_l0 c_52_k3)))⟩
def c_53_l0:ACode:=yba [xM 46 15,yc7 47 .geq 46] 47 0 (ycv 1 [xM 50 2,xM 51 15,xX 52 9 50 51,ydk 53 52,yax 16 [ybb,ybb,ybb,.fslice 2 [],ybb,ybb,.fslice 1 [],ybb,.fslice 1 []],xS 9 16 53] [16] (yan [yb9 54 16,xL 55 54,xO 56 (.build [.int .i64 0,.int .i64 0,.int .i64 0,.fslice 2 [],.int .i64 0,.int .i64 0,.fslice 1 [],.int .i64 0,.fslice 1 []] [(1,1,(.t 55))]),yax 17 [ybb,ybb,ybb,.fslice 2 [],ybb,ybb,.fslice 1 [],ybb,.fslice 1 []],xS 9 17 56] [yb1 57 16,xL 58 57] (.block 2 (yc4 (yca 72 .eql 58) 71 72 71 (ycb (yb1 73 17) ⟨none,none,.store 1 (.t 73) (.c (.int .i64 3))⟩ (xD [xM 74 13,yb9 75 16,xL 76 75,yb9 77 8,xL 78 77,xM 79 15,xX 80 1 78 79,xL 81 80,yct 82 f_119 74 76 81,xF 83 2 17,xS 1 83 82])) (yc4 (xK 85 .eql 58 2) 84 85 84 (yb0 [yb1 86 17,⟨none,none,.store 1 (.t 86) (.c (.int .i64 2))⟩] [xM 87 13,yb9 88 16,xL 89 88,xF 90 2 16,xL 91 90,yct 92 f_119 87 89 91,xF 93 2 17,xS 1 93 92] (xD [yb1 94 8,xL 95 94,xM 96 15,xX 97 4 95 96,xA 98 4 97,yb9 99 16,xL 100 99,xF 101 2 16,xL 102 101,yct 103 f_120 98 100 102,xO 104 (.fld true 2 2 (.t 103)),xF 105 7 17,xS 2 105 104])) (yc4 (xK 107 .eql 58 3) 106 107 106 (ya0 [yb1 108 17,⟨none,none,.store 1 (.t 108) (.c (.int .i64 1))⟩] (xD [yb1 109 8,xL 110 109,xM 111 15,xX 112 4 110 111,xA 113 4 112,yb9 114 16,xL 115 114,xF 116 2 16,xL 117 116,yct 118 f_120 113 115 117,xF 119 3 17,xS 4 119 118]) (yci [xM 120 13,yb9 121 16,xL 122 121,xF 123 2 16,xL 124 123,xM 125 12,yb9 126 16,xL 127 126,xX 128 1 125 127,xL 129 128,xO 130 (.build [.int .i64 0,.int .i64 0,.int .i64 0] [(0,1,(.t 122)),(1,1,(.t 124)),(2,1,(.t 129))]),xO 131 (.bslice .imm 3 (List.replicate 1 [.int .i64 0,.int .i64 0,.int .i64 0]) [(0,(.t 130))]),ycx 132 3 24 120 131,xM 13 132] (xR [xM 133 12,yb9 134 16,xL 135 134,xX 136 1 133 135,xL 137 136,yca 138 .add 137,xX 139 1 133 135,xS 1 139 138]))) (ycb (yb1 59 17) ⟨none,none,.store 1 (.t 59) (.c (.int .i64 4))⟩ (xD [yb1 60 8,xL 61 60,xM 62 15,xX 63 4 61 62,xF 64 2 63,xL 65 64,yb9 66 16,xL 67 66,xX 68 2 65 67,xA 69 2 68,xF 70 7 17,xS 2 70 69])))))) (xR [xM 140 14,ydk 141 17,xO 142 (.bslice .imm 9 (List.replicate 1 [.int .i64 0,.int .i64 0,.int .i64 0,.fslice 2 [],.int .i64 0,.int .i64 0,.fslice 1 [],.int .i64 0,.fslice 1 []]) [(0,(.t 141))]),ycx 143 9 120 140 142,xM 14 143])) [xM 48 15,yca 49 .sub 48,xM 15 49])
def c_53_k1:ACode:= .seq (xQ [ydk 145 3,xA 146 4 11,xM 147 14,yct 148 f_44 145 146 147,xM 144 148,xE 149 0 144,xE 150 1 144,xE 151 2 144,xE 152 3 144,yc5 18 (.fslice 1 []) (.fslice 1 []) (.fslice 2 []) (.fslice 1 []),xS 4 18 149,xM 19 150,xM 20 151,xM 21 152] [18]) (ydg [xM 153 21,yc7 154 .neq 153,xM 155 154,yac 156 155 (yc0 4 (.t 18)),yac 157 155 (yc0 4 (.t 4)),ycw 158 155 f_45 [.t 156,.t 157],yde 159 155 158,xW 160 155 159] 160 [xC 6 (.fslice 9 []),xI 7 14] [xM 161 14,xM 6 161,ya8 7])
def c_53:AFn:=⟨3,[.tmp 6,.tmp 7],ya0 [ydf 3,xJ 4 1,xC 6 (.fslice 9 []),ya8 7] (xQ [ydk 23 3,xA 24 4 4,xM 25 2,yct 26 f_109 23 24 25,xM 22 26,xE 27 0 22,xE 28 1 22,xE 29 2 22,yax 8 [.fslice 4 [],.fslice 1 []],xS 2 8 27,xM 9 28,xM 10 29] [8]) (ybh [xM 30 10,yc7 31 .neq 30] 31 [xM 32 10,xC 6 (.fslice 9 []),xM 7 32] (.seq (xQ [yb1 33 8,xL 34 33,xM 35 2,xN 36 35,xX 37 4 34 36,xA 38 4 37,yc5 11 (.fslice 1 []) (.fslice 1 []) (.fslice 2 []) (.fslice 1 []),xS 4 11 38] [11]) (yb0 [xO 39 (.bslice .imm 1 [] []),yb9 40 11,xL 41 40,ycm 42 .row 1 8 39 41,xM 12 42] [ycd 13 3] (ybj [ycd 14 9] [xM 43 2,xN 44 43,yca 45 .sub 44,xM 15 45] 0 c_53_l0 c_53_k1))))⟩
def c_55:AFn:=⟨1,[.cell 2 true 4],ycb (ydf 1) (yc5 2 ybb ybb ybb ybb) (yan [ydk 4 1,yb3 5 f_125 4,yc5 3 ybb ybb ybb ybb,xS 4 3 5] [ydl 6,xL 7 6,yc7 8 .eql 7] (ybu 8 (xR [ydk 9 1,yb3 10 f_126 9,xS 4 3 10])) (yae [ydl 11,xL 12 11,yc7 13 .eql 12] (ybu 13 (xR [ydk 14 1,yb3 15 f_127 14,xS 4 3 15])) (yae [ydl 16,xL 17 16,yc7 18 .eql 17] (ybu 18 (xR [ydk 19 1,yb3 20 f_128 19,xS 4 3 20])) (yae [ydl 21,xL 22 21,yc7 23 .eql 22] (ybu 23 (xR [ydk 24 1,yb3 25 f_129 24,xS 4 3 25])) (yae [ydl 26,xL 27 26,yc7 28 .eql 27] (ybu 28 (xR [ydk 29 1,yb3 30 f_130 29,xS 4 3 30])) (yae [ydl 31,xL 32 31,yc7 33 .eql 32] (ybu 33 (xR [ydk 34 1,yb3 35 f_131 34,xS 4 3 35])) (yb6 (xA 36 4 3) (xS 4 2 36))))))))⟩
def c_63:ADFn:=⟨1,[.cell 2 true 4],.seq (xR [xO 1 (.box (.t 0)),xO 2 (.alloc [.int .i64 0,.int .i64 0,.int .i64 0,.int .i64 0])]) (.dfr [⟨some 3,none,.mkfunc (.func f_144) [] [.t 2]⟩] 3 (.seq (xR [xA 4 9 1,xO 5 (.pcall f_145 [.t 4])]) (.seq (xR [xA 6 9 1,xO 7 (.pcall f_146 [.t 6])]) (.seq (xR [xA 8 9 1,xO 9 (.pcall f_147 [.t 8])]) (.seq (xR [xA 10 9 1,xO 11 (.pcall f_148 [.t 10])]) (.seq (xR [xA 12 9 1,xO 13 (.pcall f_149 [.t 12])]) (.seq (xR [xO 14 (.build [.int .i64 0,.int .i64 0,.int .i64 0,.int .i64 0] []),xS 4 2 14]) (.ret)))))))),f_144,1,(some (4,1)),.seq (.seq (xR [xM 5 1,xO 6 (.eqs false false [] (.t 5) (.c (.niliface)))]) (.cond (.t 6) (.ret) (.skip))) (.seq (.seq (xR [xM 8 1,xO 9 (.tassert 207 true (.agg [.int .i64 0,.int .i64 0,.int .i64 0,.int .i64 0]) (.t 8)),xM 7 9,xE 10 0 7,xE 11 1 7,xO 2 (.alloc [.int .i64 0,.int .i64 0,.int .i64 0,.int .i64 0]),xS 4 2 10,xM 3 11]) (.seq (xR [xM 12 3]) (.cond (.t 12) (.seq (xR [xF 13 0 2,xA 14 4 13,xS 4 0 14]) (.ret)) (.skip)))) (xR [xM 15 1,⟨none,none,.panic (.t 15)⟩]))⟩
def c_64_l0:ACode:=ycy [xB 29 .lss 28 27] 29 0 1 [xX 30 5 26 28,xA 31 5 30,yax 13 [ybb,.fslice 2 [],ybb,ybb,.fslice 1 []],xS 5 13 31] [13] (ybh [yb1 32 13,xL 33 32,xM 34 11,xB 35 .leq 33 34] 35 [xI 10 14] (xR [yb1 36 13,xL 37 36,xM 11 37])) [yca 38 .add 28,xM 28 38]
def c_64_l1:ACode:=ycy [xB 53 .lss 52 51] 53 2 3 [xM 54 52,xX 55 5 50 52,xA 56 5 55,yax 15 [ybb,.fslice 2 [],ybb,ybb,.fslice 1 []],xM 14 54,xS 5 15 56] [15] (yae [ydk 57 5,yb8 58,yb9 59 15,xA 60 4 59,yct 61 f_86 57 58 60,xM 16 61] (ya2 [xM 62 16,yc7 63 .neq 62] 63 [xM 64 16,xM 10 64]) (ya2 [xM 65 2,xM 66 14,xO 67 (.slc 5 (.t 65) none (some (.t 66)) none),xO 68 (.mkfunc (.func f_150) [] [.t 15]),ybg 69 f_87 67 68] 69 [xI 10 7])) [yca 70 .add 52,xM 52 70]
def c_64_k2:ACode:=yad [ydk 71 5,yb8 72,xA 73 2 9,yct 74 f_92 71 72 73,xM 10 74]
def c_64_k3:ACode:=ybh [xM 39 3,xM 40 11,xB 41 .leq 39 40,xM 42 41,ya4 43 42 3,ybl 44 42 .lss 43 1,xW 45 42 44,xM 46 45,ya4 47 46 3,ybl 48 46 .gtr 47 1073741824,xW 49 46 48] 49 [xI 10 14] (ybq [xM 50 2,xN 51 50,ya8 52] 2 c_64_l1 c_64_k2)
def c_64:AFn:=⟨5,[.tmp 10],ya3 [ydf 5,xJ 9 4,ya8 10] [xM 17 2,xN 18 17,xF 19 5 5,xL 20 19,yb8 21,xX 22 6 20 21,xF 23 5 22,xL 24 23,xB 25 .gtr 18 24] 25 [xI 10 12] (ybj [ya8 11] [xM 26 2,xN 27 26,ya8 28] 0 c_64_l0 c_64_k3)⟩
def c_65_l0:ACode:=yc2 [xB 18 .lss 17 16] 18 0 1 (yaa [xM 19 17,xX 20 1 15 17,xL 21 20,ydi 19,xM 6 21] (ya2 [xM 22 6,xN 23 22,xF 24 3 2,xL 25 24,yce 26,xX 27 3 25 26,xF 28 2 27,xL 29 28,xB 30 .neq 23 29] 30 [xI 4 2])) [yca 31 .add 17,xM 17 31]
def c_65_l1:ACode:=yc2 [xB 35 .lss 34 33] 35 2 3 (ya0 [xM 36 34,xX 37 1 32 34,xL 38 37,xM 7 36,xM 8 38] (xD [xM 39 8,xN 40 39,yc7 41 .gtr 40,xM 42 41,ybn 43 42 8,yc1 44 42 f_151 [.t 43],ybw 45 42 3 2,yb5 46 42 1 45,ybn 47 42 7,yas 48 42 (ydc 3 46 47),ybw 49 42 1 48,yb5 50 42 1 49,yc1 51 42 f_152 [.t 50],ybt 52 42 .gtr 44 (.t 51),xV 53 42 52]) (yai 53 [xI 4 9])) [yca 54 .add 34,xM 34 54]
def c_65_k2:ACode:=yad [yby]
def c_65_k3:ACode:=ybq [yb8 32,xN 33 32,ya8 34] 2 c_65_l1 c_65_k2
def c_65:AFn:=⟨2,[.tmp 4],ydh [ydf 2,yby] [yb8 9,xN 10 9,xF 11 3 2,xL 12 11,xN 13 12,xB 14 .neq 10 13] 14 [xI 4 2] [yb8 15,xN 16 15,ya8 17] 0 c_65_l0 c_65_k3⟩
def c_66_l0:ACode:=yc2 [xB 30 .lss 29 28] 30 0 1 (ycc (xM 31 29) 6 31 (xR [yce 32,xM 33 6,yck 34 f_94 [.t 32,.t 33]])) [yca 35 .add 29,xM 29 35]
def c_66_k1:ACode:=ycu (yce 36) 4 36
def c_66:AFn:=⟨2,[.tmp 4],ya0 [ydf 2,ycp 3 1,xC 4 .nilptr] (.region true [(1,2)] [⟨some 7,none,.load true 4 (.t 3)⟩,⟨some 8,none,.tcall f_76 [.t 7]⟩,⟨some 9,none,.load true 9 (.t 2)⟩,⟨some 10,none,.pcall f_139 [.t 9]⟩,⟨some 11,none,.build [.fslice 1 [],.fslice 1 [],.fslice 2 [],.fslice 1 [],.str [],.fslice 2 [],.fslice 2 [],.fslice 3 [],.fslice 3 [],.fslice 6 [],.fslice 7 [],.fslice 5 [],.fslice 1 [],.fslice 1 [],.bool false] [(0,4,(.t 8)),(4,9,(.t 10)),(14,1,(.c (.bool true)))]⟩,⟨some 12,none,.box (.t 11)⟩,⟨some 5,none,.mov (.t 12)⟩] none) (ybj [yce 13,yce 14,xO 15 (ybv 14),yb1 16 15,yb1 17 16,xL 18 17,xN 19 18,xO 20 (.mkslice .row 1 8 [.nilmap] (.t 19) (.t 19)),xO 21 (ybv 13),xF 22 13 21,xS 1 22 20] [yce 23,xO 24 (ybv 23),yb1 25 24,yb1 26 25,xL 27 26,xN 28 27,ya8 29] 0 c_66_l0 c_66_k1)⟩
def c_67_l0:ACode:=ycn [xM 22 10,xM 23 2,xN 24 23,xB 25 .lss 22 24] 25 0 1 (ybh [xM 28 2,xM 29 10,xX 30 5 28 29,yb1 31 30,xL 32 31,xM 33 9,xB 34 .leq 32 33] 34 [xI 8 14] (xR [xM 35 2,xM 36 10,xX 37 5 35 36,yb1 38 37,xL 39 38,xM 9 39])) [xM 26 10,yca 27 .add 26,xM 10 27]
def c_67_l1:ACode:=yc8 [xM 47 11,xM 48 2,xN 49 48,xB 50 .lss 47 49] 50 2 3 (xD [ydk 53 4,yb8 54,xM 55 2,xM 56 11,xX 57 5 55 56,yb9 58 57,xA 59 4 58,yct 60 f_153 53 54 59,xM 12 60]) (.block 4 (ybm [xM 62 12,yc7 63 .neq 62,xM 61 63] 61 [xM 64 12,xM 8 64] (yci [xM 66 2,xM 67 11,xO 68 (.slc 5 (.t 66) none (some (.t 67)) none),xM 69 2,xM 70 11,xX 71 5 69 70,yb9 72 71,xA 73 4 72,ybg 74 f_154 68 73,xM 65 74] (yai 65 [xI 8 7])))) [xM 51 11,yca 52 .add 51,xM 11 52]
def c_67_k2:ACode:=yad [ya8 8]
def c_67_k3:ACode:=ybh [xM 40 3,xM 41 9,xB 42 .leq 40 41,xM 43 42,ya4 44 43 3,ybl 45 43 .gtr 44 1073741824,xW 46 43 45] 46 [xI 8 14] (ybq [ya8 11] 2 c_67_l1 c_67_k2)
def c_67:AFn:=⟨4,[.tmp 8],ya3 [ydf 4,ya8 8] [xM 13 2,xN 14 13,xF 15 5 4,xL 16 15,yb8 17,xX 18 6 16 17,xF 19 5 18,xL 20 19,xB 21 .gtr 14 20] 21 [xI 8 12] (ybj [ya8 9] [ya8 10] 0 c_67_l0 c_67_k3)⟩
def c_68:AFn:=⟨3,[.tmp 6],ya3 [ydf 3,xJ 5 2,ydb] [ydk 7 3,yb8 8,yb1 9 5,xL 10 9,yct 11 f_155 7 8 10,ybo 12 11] 12 [xI 6 8] (yad [ydk 13 3,xA 14 2 5,ybg 15 f_156 13 14,xM 6 15])⟩
def c_69_l0:ACode:=yc8 [yce 14,yb8 15,xN 16 15,xB 17 .lss 14 16] 17 0 1 (xD [yb8 20,yce 21,xX 22 1 20 21,xL 23 22,xN 24 23,xF 25 3 2,xL 26 25,yce 27,xX 28 3 26 27,xF 29 2 28,xL 30 29,xB 31 .neq 24 30]) (yai 31 [xI 4 2]) [yce 18,yca 19 .add 18,ydi 19]
def c_69_l1:ACode:=yc8 [xM 38 7,yb8 39,xM 40 6,xX 41 1 39 40,xL 42 41,xN 43 42,xB 44 .lss 38 43] 44 4 5 (xD [yb8 47,xM 48 6,xX 49 1 47 48,xL 50 49,xM 51 7,xX 52 1 50 51,xL 53 52,xF 54 3 2,xL 55 54,xM 56 6,xX 57 3 55 56,xA 58 3 57,yb3 59 f_158 58,ybg 60 f_157 53 59,ybo 61 60]) (yai 61 [xI 4 9]) [xM 45 7,yca 46 .add 45,xM 7 46]
def c_69_k2:ACode:=xR [xM 36 6,yca 37 .add 36,xM 6 37]
def c_69_l3:ACode:=yba [xM 32 6,yb8 33,xN 34 33,xB 35 .lss 32 34] 35 2 (yaj 3 (yaa [ya8 7] (yam 4 c_69_l1)) c_69_k2)
def c_69_k4:ACode:=yad [yby]
def c_69_k5:ACode:=ybq [ydb] 2 c_69_l3 c_69_k4
def c_69:AFn:=⟨2,[.tmp 4],ydh [ydf 2,yby] [yb8 8,xN 9 8,xF 10 3 2,xL 11 10,xN 12 11,xB 13 .neq 9 12] 13 [xI 4 2] [yc3] 0 c_69_l0 c_69_k5⟩
def c_72_l0:ACode:=yc8 [yce 20,yb9 21 2,xL 22 21,xN 23 22,xB 24 .lss 20 23] 24 0 1 (xD [yb9 27 2,xL 28 27,yce 29,xX 30 1 28 29,xL 31 30,yb9 32 3,xL 33 32,yce 34,xX 35 1 33 34,xL 36 35,xB 37 .neq 31 36]) (yai 37 [yc9]) [yce 25,yca 26 .add 25,ydi 26]
def c_72_k1:ACode:=yad [xC 4 ybz]
def c_72:AFn:=⟨2,[.tmp 4],ydh [ycp 2 0,ycp 3 1,yc9] [yb1 6 2,xL 7 6,ydl 8,xL 9 8,xB 10 .neq 7 9,xM 11 10,yda 12 11 2,ybr 13 11 12,ybc 14 11 13,yda 15 11 3,ybr 16 11 15,ybc 17 11 16,ybx 18 11 .neq 14 17,xW 19 11 18] 19 [yc9] [yc3] 0 c_72_l0 c_72_k1⟩
def c_74:AFn:=⟨1,[.cell 2 true 2],ya0 [ydf 1,yax 2 [ybb,.fslice 1 []]] (xD [yb1 3 1,xL 4 3,yb9 5 1,xL 6 5,yb3 7 f_161 6,xO 8 (.build [.int .i64 0,.fslice 1 []] [(0,1,(.t 4)),(1,1,(.t 7))]),xS 2 2 8]) .ret⟩
def c_76_l0:ACode:=ycy [xB 27 .lss 26 25] 27 2 3 [xX 28 5 24 26,xA 29 5 28,yax 8 [ybb,.fslice 2 [],ybb,ybb,.fslice 1 []],xS 5 8 29] [8] (xR [xM 30 6,xA 31 5 8,yb3 32 f_163 31,xO 33 (.bslice .imm 5 (List.replicate 1 [.int .i64 0,.fslice 2 [],.int .i64 0,.int .i64 0,.fslice 1 []]) [(0,(.t 32))]),ycm 34 .row 5 72 30 33,xM 6 34]) [yca 35 .add 26,xM 26 35]
def c_76_k1:ACode:=xR [ydl 36,xL 37 36,xM 38 6,xO 39 (.bslice .row 1 (List.replicate 1 [.fslice 5 []]) [(0,(.t 38))]),ycm 40 .row 1 24 37 39,ydl 41,xS 1 41 40]
def c_76_k2:ACode:=xR [yca 42 .add 20,xM 20 42]
def c_76_l3:ACode:=ybk [xB 21 .lss 20 19] 21 0 (yaj 1 (yaa [xX 22 1 18 20,xL 23 22,ydi 23] (ybj [xC 6 (.fslice 5 [])] [yce 24,xN 25 24,ya8 26] 2 c_76_l0 c_76_k1)) c_76_k2)
def c_76_l4:ACode:=ycy [xB 47 .lss 46 45] 47 4 5 [xX 48 2 44 46,xA 49 2 48,yax 10 [ybb,.fslice 1 []],xS 2 10 49] [10] (xD [xF 50 2 3,xL 51 50,xA 52 2 10,yb3 53 f_74 52,xO 54 (.bslice .imm 2 (List.replicate 1 [.int .i64 0,.fslice 1 []]) [(0,(.t 53))]),ycm 55 .row 2 32 51 54,xF 56 2 3,xS 1 56 55]) [yca 57 .add 46,xM 46 57]
def c_76_l5:ACode:=yc2 [xB 62 .lss 61 60] 62 6 7 (yaa [xX 63 1 59 61,xL 64 63,xM 12 64] (xD [xF 65 3 3,xL 66 65,xM 67 12,yb3 68 f_161 67,xO 69 (.bslice .imm 1 (List.replicate 1 [.fslice 1 []]) [(0,(.t 68))]),ycx 70 1 24 66 69,xF 71 3 3,xS 1 71 70])) [yca 72 .add 61,xM 61 72]
def c_76_k6:ACode:=yb6 (xA 73 4 3) (xS 4 2 73)
def c_76_k7:ACode:=ybq [xF 58 3 1,xL 59 58,xN 60 59,ya8 61] 6 c_76_l5 c_76_k6
def c_76_k8:ACode:=ybq [xF 43 2 1,xL 44 43,xN 45 44,ya8 46] 4 c_76_l4 c_76_k7
def c_76:AFn:=⟨1,[.cell 2 true 4],ycb (ycp 1 0) (yc5 2 (.fslice 1 []) (.fslice 1 []) (.fslice 2 []) (.fslice 1 [])) (ybj [yb9 13 1,xL 14 13,yck 15 f_162 [.t 14],xO 16 (.build [.fslice 1 [],.fslice 1 [],.fslice 2 [],.fslice 1 []] [(1,1,(.t 15))]),yc5 3 (.fslice 1 []) (.fslice 1 []) (.fslice 2 []) (.fslice 1 []),xS 4 3 16] [yb1 17 1,xL 18 17,xN 19 18,ya8 20] 0 c_76_l3 c_76_k8)⟩
def c_77:AFn:=⟨4,[.cell 8 true 4,.tmp 9,.tmp 10],ya3 [ydf 4,xJ 5 1,xJ 7 3,yc5 8 (.fslice 1 []) (.fslice 1 []) (.fslice 2 []) (.fslice 1 []),ya8 9,ya8 10] [xM 14 2,yc7 15 .lss 14,xM 16 15,ya4 17 16 2,yaw 18 16 5 4,ybr 19 16 18,ybc 20 16 19,ybx 21 16 .geq 17 20,xW 22 16 21] 22 [xA 23 4 5,xS 4 8 23,ya8 9,xI 10 8] (yaa [ydk 24 4,xM 25 2,xA 26 4 7,yct 27 f_153 24 25 26,xM 11 27] (ycz 0 [xM 29 11,yc7 30 .neq 29,xM 28 30] 28 [xA 31 4 5,xM 32 11,xS 4 8 31,ya8 9,xM 10 32] (yci [yb1 34 5,xL 35 34,xM 36 2,xX 37 1 35 36,xL 38 37,xA 39 4 7,ybg 40 f_154 38 39,xM 33 40] (yah 33 [xA 41 4 5,xS 4 8 41,ya8 9,xI 10 7] (yci [yb1 43 5,xL 44 43,xM 45 2,xX 46 1 44 45,xL 47 46,xN 48 47,xF 49 5 4,xL 50 49,xM 51 2,xX 52 6 50 51,xF 53 5 52,xL 54 53,xB 55 .geq 48 54,xM 56 55,yda 57 56 5,ybr 58 56 57,ya4 59 56 2,yac 60 56 (ydc 1 58 59),ybr 61 56 60,ybl 62 56 .geq 61 1073741824,xW 63 56 62,xM 42 63] (yai 42 [xA 64 4 5,xS 4 8 64,ya8 9,xI 10 13])))) (yaa [yb9 65 5,xL 66 65,xM 67 2,xX 68 1 66 67,xL 69 68,xM 12 69] (yb0 [ycd 13 5] [xM 70 13,yb1 71 5,xL 72 71,xM 73 2,xX 74 1 72 73,xL 75 74,ycx 76 5 72 70 75,xM 13 76] (ybs [xM 77 13,xM 78 12,xA 79 4 7,xO 80 (.build [.int .i64 0,.fslice 2 [],.int .i64 0,.int .i64 0,.fslice 1 []] [(0,1,(.t 78)),(1,4,(.t 79))]),xO 81 (.bslice .imm 5 (List.replicate 1 [.int .i64 0,.fslice 2 [],.int .i64 0,.int .i64 0,.fslice 1 []]) [(0,(.t 80))]),ycx 82 5 72 77 81,xM 13 82] [xA 83 4 5,xM 84 2,xM 85 13,xM 86 12,yca 87 .add 86,ycf 88 f_164 (.t 83) (.t 84) (.t 85) (.t 87),xM 89 12,xS 4 8 88,xM 9 89,ya8 10])))))⟩
def c_78:AFn:=⟨5,[.cell 10 true 4,.tmp 11],ya3 [ydf 5,xJ 6 1,xJ 9 4,yc5 10 (.fslice 1 []) (.fslice 1 []) (.fslice 2 []) (.fslice 1 []),ya8 11] [xM 14 2,yc7 15 .lss 14,xM 16 15,ya4 17 16 2,yaw 18 16 5 5,ybr 19 16 18,ybc 20 16 19,ybx 21 16 .geq 17 20,xW 22 16 21,xM 23 22,yaw 24 23 0 6,ybr 25 23 24,ya4 26 23 2,yac 27 23 (ydc 1 25 26),ybr 28 23 27,ya4 29 23 3,ycw 30 23 f_165 [.t 28,.t 29],ybl 31 23 .lss 30 0,xW 32 23 31] 32 [xA 33 4 6,xS 4 10 33,xI 11 8] (ya3 [ydk 34 5,xM 35 2,xA 36 2 9,yct 37 f_68 34 35 36,xM 12 37] [xM 38 12,yc7 39 .neq 38] 39 [xA 40 4 6,xM 41 12,xS 4 10 40,xM 11 41] (yaa [xC 13 (.fslice 5 [])] (ya0 [xM 42 13,yb1 43 6,xL 44 43,xM 45 2,xX 46 1 44 45,xL 47 46,ycm 48 .row 5 72 42 47,xM 13 48] (xD [xM 49 13,xM 50 13,xM 51 3,ybg 52 f_165 50 51,xA 53 2 9,xX 54 5 49 52,yb9 55 54,xF 56 2 55,xS 2 56 53]) (yci [xA 57 4 6,xM 58 2,xM 59 13,yb9 60 6,xL 61 60,xM 62 2,xX 63 1 61 62,xL 64 63,xO 65 (.pcallk f_164 [.t 57,.t 58,.t 59,.t 64]),xS 4 10 65,ya8 11] .ret))))⟩
def c_79:AFn:=⟨4,[.cell 8 true 4,.tmp 9],ya3 [ydf 4,xJ 5 1,yc5 8 (.fslice 1 []) (.fslice 1 []) (.fslice 2 []) (.fslice 1 []),ya8 9] [xM 12 2,yc7 13 .lss 12,xM 14 13,ya4 15 14 2,yaw 16 14 5 4,ybr 17 14 16,ybc 18 14 17,ybx 19 14 .geq 15 18,xW 20 14 19,xM 21 20,yaw 22 21 0 5,ybr 23 21 22,ya4 24 21 2,yac 25 21 (ydc 1 23 24),ybr 26 21 25,ya4 27 21 3,ycw 28 21 f_165 [.t 26,.t 27],ybl 29 21 .lss 28 0,xW 30 21 29] 30 [xA 31 4 5,xS 4 8 31,xI 9 8] (yaa [yb1 32 5,xL 33 32,xM 34 2,xX 35 1 33 34,xL 36 35,xM 37 3,ybg 38 f_165 36 37,xM 10 38] (yb0 [ycd 11 5] [xM 39 11,yb1 40 5,xL 41 40,xM 42 2,xX 43 1 41 42,xL 44 43,xM 45 10,xO 46 (.slc 5 (.t 44) none (some (.t 45)) none),ycx 47 5 72 39 46,xM 11 47] (ya0 [xM 48 11,yb1 49 5,xL 50 49,xM 51 2,xX 52 1 50 51,xL 53 52,xM 54 10,yca 55 .add 54,xO 56 (.slc 5 (.t 53) (some (.t 55)) none none),ycx 57 5 72 48 56,xM 11 57] (xD [xA 58 4 5,xM 59 2,xM 60 11,yb9 61 5,xL 62 61,xM 63 2,xX 64 1 62 63,xL 65 64,ycf 66 f_164 (.t 58) (.t 59) (.t 60) (.t 65),xS 4 8 66,ya8 9]) .ret)))⟩
def c_80:AFn:=⟨4,[.cell 8 true 4,.tmp 9],ya3 [ydf 4,xJ 5 1,xJ 7 3,yc5 8 (.fslice 1 []) (.fslice 1 []) (.fslice 2 []) (.fslice 1 []),ya8 9] [xM 12 2,yc7 13 .lss 12,xM 14 13,ya4 15 14 2,yaw 16 14 5 4,ybr 17 14 16,ybc 18 14 17,ybx 19 14 .geq 15 18,xW 20 14 19] 20 [xA 21 4 5,xS 4 8 21,xI 9 8] (ya3 [ydk 22 4,xM 23 2,xA 24 2 7,yct 25 f_68 22 23 24,xM 10 25] [xM 26 10,yc7 27 .neq 26] 27 [xA 28 4 5,xM 29 10,xS 4 8 28,xM 9 29] (yb0 [yb1 30 5,xL 31 30,yb9 32 5,xL 33 32,xF 34 3 5,xL 35 34,xO 36 (.build [.fslice 1 [],.fslice 1 [],.fslice 2 [],.fslice 1 []] [(0,1,(.t 31)),(1,1,(.t 33)),(3,1,(.t 35))]),yc5 11 (.fslice 1 []) (.fslice 1 []) (.fslice 2 []) (.fslice 1 []),xS 4 11 36] [xF 37 2 11,xL 38 37,xF 39 2 5,xL 40 39,ycm 41 .row 2 32 38 40,xF 42 2 11,xS 1 42 41] (ybs [xF 43 2 11,xL 44 43,xM 45 2,xA 46 2 7,xX 47 2 44 45,xS 2 47 46] [xA 48 4 11,xS 4 8 48,ya8 9])))⟩
def c_81:AFn:=⟨3,[.tmp 6],ycb (ycp 5 2) ydb (ycz 0 [ych 9,xO 10 (.eqn false (.t 9) (.c .nilptr)),xM 11 10,ya4 12 11 0,yac 13 11 (ybv 12),yaw 14 11 14 13,ybr 15 11 14,yde 16 11 15,xW 17 11 16,xM 8 17] 8 [xI 6 1] (ya2 [ych 19,yb8 20,yck 21 f_82 [.t 19,.t 20],ybo 22 21,xM 18 22] 18 [xI 6 8]) (yci [ych 23,xO 24 (ybv 23),xF 25 4 24,ydk 26 25,yb8 27,xA 28 2 5,yct 29 f_92 26 27 28,xM 7 29] (yae [xM 30 7,yc7 31 .eql 30] (ybu 31 (xD [ych 32,xO 33 (ybv 32),yb1 34 33,xF 35 2 34,xL 36 35,yb8 37,xA 38 2 5,yb3 39 f_74 38,xX 40 2 36 37,xS 2 40 39])) (ycu (xM 41 7) 6 41))))⟩
def c_82:AFn:=⟨2,[.tmp 4],ybs [yc9] [yb8 5,yc7 6 .geq 5,xM 7 6,ybn 8 7 1,ybn 9 7 0,yas 10 7 (ybv 9),ybw 11 7 0 10,ybw 12 7 0 11,yb5 13 7 1 12,yas 14 7 (ya5 13),ybt 15 7 .lss 8 (.t 14),xV 16 7 15,ydj 16]⟩
def c_85_l0:ACode:=yc8 [yce 20,yb1 21 2,xL 22 21,xN 23 22,xB 24 .lss 20 23] 24 0 1 (xD [yb1 27 2,xL 28 27,yce 29,xX 30 2 28 29,xA 31 2 30,ydl 32,xL 33 32,yce 34,xX 35 2 33 34,xA 36 2 35,xO 37 (.eqs true true [.i,.i] (.t 31) (.t 36))]) (yai 37 [yc9]) [yce 25,yca 26 .add 25,ydi 26]
def c_85_k1:ACode:=yad [xC 4 ybz]
def c_85:AFn:=⟨2,[.tmp 4],ydh [ycp 2 0,ycp 3 1,yc9] [yb1 6 2,xL 7 6,xN 8 7,ydl 9,xL 10 9,xN 11 10,xB 12 .neq 8 11,xM 13 12,yda 14 13 2,ybr 15 13 14,yda 16 13 3,ybr 17 13 16,ybx 18 13 .neq 15 17,xW 19 13 18] 19 [yc9] [yc3] 0 c_85_l0 c_85_k1⟩
def c_86_l0:ACode:=ycy [xB 42 .lss 41 40] 42 0 1 [xM 43 41,xX 44 2 39 41,xA 45 2 44,yax 12 [yc6 0,yc6 0],xM 11 43,xS 2 12 45] [12] (yci [xA 46 2 12,xM 47 9,xM 48 11,xX 49 3 47 48,xF 50 2 49,xL 51 50,xM 52 10,xM 53 11,xX 54 1 52 53,xL 55 54,yct 56 f_177 46 51 55,xM 13 56] (ya2 [xM 57 13,yc7 58 .neq 57] 58 [xM 59 13,xM 6 59])) [yca 60 .add 41,xM 41 60]
def c_86_k1:ACode:=ycz 2 [yb9 62 5,xL 63 62,yc7 64 .lss 63,xM 65 64,yda 66 65 5,ybr 67 65 66,ybl 68 65 .gtr 67 255,xW 69 65 68,xM 61 69] 61 [xI 6 9] (ybm [yb9 71 5,xL 72 71,yc7 73 .neq 72,xM 74 73,yas 75 74 (yc0 9 (.t 3)),ybn 76 74 1,yc1 77 74 f_178 [.t 75,.t 76],ybt 78 74 .neq 77 (yao 3),xV 79 74 78,xM 70 79] 70 [xI 6 11] (ya2 [ydk 81 3,yb8 82,xF 83 2 5,yb1 84 83,xL 85 84,yct 86 f_179 81 82 85,ybo 87 86,xM 80 87] 80 [xI 6 8])) (yad [ydk 88 3,xF 89 2 5,xA 90 2 89,ybg 91 f_180 88 90,xM 6 91])
def c_86:AFn:=⟨3,[.tmp 6],yan [ydf 3,xJ 5 2,ydb] [ydk 15 3,yb8 16,ybg 17 f_175 15 16,xM 14 17,xE 18 0 14,xE 19 1 14,xM 7 18,xM 8 19] (ya2 [xM 20 8,yc7 21 .neq 20] 21 [xM 22 8,xM 6 22]) (yci [xF 23 5 3,xL 24 23,yb8 25,xX 26 6 24 25,yb9 27 26,xL 28 27,ydk 29 3,yb8 30,ybg 31 f_176 29 30,xM 9 28,xM 10 31] (ybh [yb1 32 5,xL 33 32,xN 34 33,xM 35 9,xN 36 35,xB 37 .neq 34 36] 37 [xI 6 2] (ybq [yb1 38 5,xL 39 38,xN 40 39,ya8 41] 0 c_86_l0 c_86_k1)))⟩
def c_87:AFn:=⟨2,[.tmp 4],ybs [yc9] [ych 5,yb8 6,ybg 7 f_181 5 6,yc7 8 .geq 7,ydj 8]⟩
def c_88:AFn:=⟨2,[.tmp 3],ybs [ycp 2 0,ybd 3] [yb9 4 2,xA 5 4 4,xA 6 4 1,ybg 7 f_89 5 6,xM 3 7]⟩
def c_89_l0:ACode:=yc2 [xB 25 .lss 24 23] 25 0 1 (ya0 [xM 26 24,xX 27 2 22 24,xA 28 2 27,yax 6 [yc6 0,yc6 0],ydi 26,xS 2 6 28] (xD [xA 29 2 6,ydl 30,xL 31 30,yce 32,xX 33 2 31 32,xA 34 2 33,xO 35 (.eqs true true [.i,.i] (.t 29) (.t 34))]) (yai 35 [yc9])) [yca 36 .add 24,xM 24 36]
def c_89_k1:ACode:=yad [xC 4 ybz]
def c_89:AFn:=⟨2,[.tmp 4],ydh [ycp 2 0,ycp 3 1,yc9] [yb9 7 2,xL 8 7,yb9 9 3,xL 10 9,xB 11 .neq 8 10,xM 12 11,yaw 13 12 0 2,ybr 14 12 13,ybc 15 12 14,yaw 16 12 0 3,ybr 17 12 16,ybc 18 12 17,ybx 19 12 .neq 15 18,xW 20 12 19] 20 [yc9] [yb1 21 2,xL 22 21,xN 23 22,ya8 24] 0 c_89_l0 c_89_k1⟩
def c_90:AFn:=⟨1,[.cell 2 true 4],ya0 [ydf 1,yc5 2 (.fslice 2 []) ybb ybb (.fslice 1 [])] (xD [yb1 3 1,xL 4 3,yb3 5 f_182 4,yb9 6 1,xL 7 6,xF 8 2 1,xA 9 2 8,yb3 10 f_74 9,xO 11 (.build [.fslice 2 [],.int .i64 0,.int .i64 0,.fslice 1 []] [(0,1,(.t 5)),(1,1,(.t 7)),(2,2,(.t 10))]),xS 4 2 11]) .ret⟩
def c_91:AFn:=⟨3,[.tmp 6,.tmp 7],ycb ydb (ya8 7) (ycz 0 [ych 11,xO 12 (.eqn false (.t 11) (.c .nilptr)),xM 13 12,ya4 14 13 0,yac 15 13 (ybv 14),yaw 16 13 14 15,ybr 17 13 16,yde 18 13 17,xW 19 13 18,xM 10 19] 10 [ydb,xI 7 1] (ya2 [ych 21,yb8 22,yck 23 f_82 [.t 21,.t 22],ybo 24 23,xM 20 24] 20 [ydb,xI 7 8]) (ya3 [ych 26,xO 27 (ybv 26),xF 28 13 27,xL 29 28,yb8 30,xX 31 1 29 30,xL 32 31,xM 33 2,xO 34 (.lookup .i (.int .i64 0) true (.t 32) (.t 33)),xM 25 34,xE 35 0 25,xE 36 1 25,xM 8 35,xM 9 36] [xM 37 9,ybo 38 37] 38 [ydb,xI 7 8] (yad [xM 39 8,xM 6 39,ya8 7])))⟩
def c_92:AFn:=⟨3,[.tmp 6],ya3 [ydf 3,xJ 5 2,ydb] [ydk 7 3,yb8 8,yb1 9 5,xL 10 9,yct 11 f_179 7 8 10,ybo 12 11] 12 [xI 6 8] (yad [ydk 13 3,xA 14 2 5,ybg 15 f_180 13 14,xM 6 15])⟩
def c_93:AFn:=⟨3,[.tmp 6],yaa [xC 6 (.fslice 5 [])] (ya3 [ych 8,yb8 9,xM 10 2,ych 11,xN 12 11,xO 13 (.slcH 5 (.t 8) (some (.t 9)) (some (.t 10)) (some (.t 12)))] [yb8 14,xM 15 2,xB 16 .eql 14 15] 16 [ych 17,xM 6 17] (ya0 [ych 18,xN 19 18,xM 7 19] (xD [ych 20,yb8 21,xO 22 (.slc 5 (.t 20) none (some (.t 21)) none),ych 23,xM 24 2,xO 25 (.slc 5 (.t 23) (some (.t 24)) none none),ycx 26 5 72 22 25,xM 0 26]) (ybs [ych 27,ych 28,xN 29 28,xM 30 7,xO 31 (.slcH 5 (.t 27) (some (.t 29)) (some (.t 30)) none),⟨none,none,.clear [.int .i64 0,.fslice 2 [],.int .i64 0,.int .i64 0,.fslice 1 []] (.t 31)⟩] [ych 32,xM 6 32])))⟩
def c_94_l0:ACode:=ycy [xB 23 .lss 22 21] 23 0 1 [xM 24 22,xX 25 5 20 22,xA 26 5 25,yax 5 [ybb,.fslice 2 [],ybb,ybb,.fslice 1 []],ydj 24,xS 5 5 26] [5] (xD [ych 27,xO 28 (ybv 27),xF 29 13 28,xL 30 29,yb8 31,xX 32 1 30 31,xL 33 32,yb1 34 5,xL 35 34,xM 36 4,⟨none,none,.update .i (.t 33) (.t 35) (.t 36)⟩]) [yca 37 .add 22,xM 22 37]
def c_94:AFn:=⟨2,[],yb0 [ych 6,xO 7 (ybv 6),xF 8 13 7,xL 9 8,yb8 10,xO 11 .mkmap,xX 12 1 9 10,xS 1 12 11] [ych 13,xO 14 (ybv 13),yb1 15 14,yb1 16 15,xL 17 16,yb8 18,xX 19 1 17 18,xL 20 19,xN 21 20,ya8 22] (yam 0 c_94_l0)⟩
def c_95_l0:ACode:=ycn [xM 55 3,yb9 56 1,xL 57 56,xN 58 57,xB 59 .lss 55 58] 59 0 1 (ya2 [yb9 62 1,xL 63 62,xM 64 3,xX 65 2 63 64,yb1 66 65,xL 67 66,xO 68 (.slen (.t 67)),xK 69 .gtr 68 40,xM 70 69,yda 71 70 1,ybr 72 70 71,ya4 73 70 3,yac 74 70 (ydc 2 72 73),yda 75 70 74,ybr 76 70 75,ycw 77 70 f_183 [.t 76],yde 78 70 77,xW 79 70 78] 79 [ybd 2]) [xM 60 3,yca 61 .add 60,xM 3 61]
def c_95_l1:ACode:=ycn [xM 80 4,xF 81 3 1,xL 82 81,xN 83 82,xB 84 .lss 80 83] 84 2 3 (ya2 [xF 87 3 1,xL 88 87,xM 89 4,xX 90 3 88 89,yb1 91 90,xL 92 91,xO 93 (.slen (.t 92)),xK 94 .gtr 93 40] 94 [ybd 2]) [xM 85 4,yca 86 .add 85,ydj 86]
def c_95_l2:ACode:=ycn [yce 95,xF 96 4 1,xL 97 96,xN 98 97,xB 99 .lss 95 98] 99 4 5 (ya2 [xF 102 4 1,xL 103 102,yce 104,xX 105 3 103 104,xA 106 3 105,yb3 107 f_184 106,ybo 108 107] 108 [ybd 2]) [yce 100,yca 101 .add 100,ydi 101]
def c_95_l3:ACode:=yba [xM 109 6,xF 110 5 1,xL 111 110,xN 112 111,xB 113 .lss 109 112] 113 6 (ycv 7 [xF 116 5 1,xL 117 116,xM 118 6,xX 119 6 117 118,xA 120 6 119,yax 7 [.str [],.fslice 3 [],.fslice 1 [],ybb,.fslice 1 [],ybb],xS 6 7 120] [7] (ya2 [yb1 121 7,xL 122 121,xO 123 (.slen (.t 122)),xK 124 .gtr 123 40,xM 125 124,yda 126 125 7,ybr 127 125 126,ybc 128 125 127,ybl 129 125 .gtr 128 10,xW 130 125 129,xM 131 130,yaw 132 131 2 7,ybr 133 131 132,ybc 134 131 133,ybl 135 131 .gtr 134 24,xW 136 131 135,xM 137 136,yaw 138 137 3 7,yda 139 137 138,ybr 140 137 139,ybc 141 137 140,ybl 142 137 .gtr 141 10,xW 143 137 142] 143 [ybd 2]) [xM 114 6,yca 115 .add 114,xM 6 115])
def c_95_l4:ACode:=ycn [xM 144 8,xF 145 6 1,xL 146 145,xN 147 146,xB 148 .lss 144 147] 148 8 9 (ya2 [xF 151 6 1,xL 152 151,xM 153 8,xX 154 7 152 153,yb1 155 154,xL 156 155,xO 157 (.slen (.t 156)),xK 158 .gtr 157 40,xM 159 158,yaw 160 159 6 1,ybr 161 159 160,ya4 162 159 8,yac 163 159 (ydc 7 161 162),yda 164 159 163,ybr 165 159 164,ybc 166 159 165,ybl 167 159 .gtr 166 8,xW 168 159 167,xM 169 168,yaw 170 169 6 1,ybr 171 169 170,ya4 172 169 8,yac 173 169 (ydc 7 171 172),yaw 174 169 5 173,ybr 175 169 174,ybc 176 169 175,ybl 177 169 .gtr 176 16,xW 178 169 177] 178 [ybd 2]) [xM 149 8,yca 150 .add 149,xM 8 150]
def c_95_k5:ACode:=yad [xC 2 ybz]
def c_95_k6:ACode:=ybq [ya8 8] 8 c_95_l4 c_95_k5
def c_95_k7:ACode:=ybq [ydb] 6 c_95_l3 c_95_k6
def c_95_k8:ACode:=ybq [yc3] 4 c_95_l2 c_95_k7
def c_95_k9:ACode:=ybq [yby] 2 c_95_l1 c_95_k8
def c_95:AFn:=⟨1,[.tmp 2],ydh [ydf 1,ybd 2] [yb1 9 1,xL 10 9,xO 11 (.slen (.t 10)),xK 12 .gtr 11 40,xM 13 12,yda 14 13 1,ybr 15 13 14,ybc 16 13 15,ybl 17 13 .gtr 16 12,xW 18 13 17,xM 19 18,yaw 20 19 2 1,ybr 21 19 20,ycw 22 19 f_183 [.t 21],yde 23 19 22,xW 24 19 23,xM 25 24,yaw 26 25 3 1,ybr 27 25 26,ybc 28 25 27,ybl 29 25 .gtr 28 8,xW 30 25 29,xM 31 30,yaw 32 31 4 1,ybr 33 31 32,ybc 34 31 33,ybl 35 31 .gtr 34 20,xW 36 31 35,xM 37 36,yaw 38 37 5 1,ybr 39 37 38,ybc 40 37 39,ybl 41 37 .gtr 40 16,xW 42 37 41,xM 43 42,yaw 44 43 6 1,ybr 45 43 44,ybc 46 43 45,ybl 47 43 .gtr 46 16,xW 48 43 47,xM 49 48,yaw 50 49 8 1,ybr 51 49 50,ybc 52 49 51,ybl 53 49 .gtr 52 16,xW 54 49 53] 54 [ybd 2] [ya8 3] 0 c_95_l0 c_95_k9⟩
def c_96:AFn:=⟨2,[.tmp 4],ybs [yc9] [ych 5,yb8 6,ycs 7 f_185 5 6 (yao 12),yb8 8,xB 9 .leq 7 8,ydj 9]⟩
def c_97:AFn:=⟨1,[.tmp 2],ybs [ycp 1 0,ybd 2] [yb1 3 1,xL 4 3,xN 5 4,xK 6 .leq 5 10,xM 7 6,ybw 8 7 2 1,ybw 9 7 1 8,yb5 10 7 1 9,yas 11 7 (ya5 10),ybt 12 7 .leq 11 (yao 10),xV 13 7 12,xM 2 13]⟩
def c_109_l0:ACode:=yc8 [xM 32 11,xM 33 2,xN 34 33,xB 35 .lss 32 34] 35 0 1 (.region true [(0,15),(2,15),(5,15),(9,15),(10,15)] [⟨some 39,none,.load true 9 (.t 3)⟩,⟨some 40,none,.faddr 0 (.t 10)⟩,⟨some 41,none,.load false 1 (.t 40)⟩,⟨some 42,none,.mov (.t 11)⟩,⟨some 43,none,.iaddr 4 none (.t 41) (.t 42)⟩,⟨some 44,none,.load true 4 (.t 43)⟩,⟨some 45,none,.mov (.t 2)⟩,⟨some 46,none,.mov (.t 11)⟩,⟨some 47,none,.iaddr 9 none (.t 45) (.t 46)⟩,⟨some 48,none,.load true 9 (.t 47)⟩,⟨some 49,none,.pcall f_190 [.t 39,.t 44,.t 48]⟩,⟨some 38,none,.mov (.t 49)⟩,⟨some 50,none,.ext 0 (.t 38)⟩,⟨some 51,none,.ext 1 (.t 38)⟩,⟨some 52,none,.ext 2 (.t 38)⟩,⟨some 12,none,.alloc [.fslice 1 [],.fslice 1 [],.fslice 2 [],.fslice 1 []]⟩,⟨none,none,.store 4 (.t 12) (.t 50)⟩,⟨some 13,none,.mov (.t 51)⟩,⟨some 14,none,.mov (.t 52)⟩] (some [12])) (ybh [xM 53 14,yc7 54 .neq 53] 54 [xO 55 (.build [.fslice 4 [],.fslice 1 []] []),xM 56 11,xM 57 14,xS 2 6 55,xM 7 56,xM 8 57] (yaa [yb1 58 10,xL 59 58,xA 60 4 12,xO 61 (.bslice .imm 4 (List.replicate 1 [.fslice 1 [],.fslice 1 [],.fslice 2 [],.fslice 1 []]) [(0,(.t 60))]),ycx 62 4 96 59 61,yb1 63 10,xS 1 63 62] (xR [yb9 64 10,xL 65 64,xM 66 13,xO 67 (.bslice .imm 1 (List.replicate 1 [.int .i64 0]) [(0,(.t 66))]),ycx 68 1 8 65 67,yb9 69 10,xS 1 69 68]))) [xM 36 11,yca 37 .add 36,xM 11 37]
def c_109_k1:ACode:=yad [xA 70 2 10,xS 2 6 70,ya8 7,ya8 8]
def c_109:AFn:=⟨3,[.cell 6 true 2,.tmp 7,.tmp 8],yaa [ydf 3,xJ 4 1,yax 6 [.fslice 4 [],.fslice 1 []],ya8 7,ya8 8] (yan [ydk 15 3,xA 16 4 4,ybg 17 f_19 15 16,xM 9 17] [xM 18 9,yc7 19 .eql 18,xM 20 19,ybn 21 20 2,yas 22 20 (ya5 21),ybt 23 20 .gtr 22 (yao 64),xV 24 20 23] (ybu 24 (xR [xI 9 12])) (ybh [xM 25 9,yc7 26 .neq 25] 26 [xO 27 (.build [.fslice 4 [],.fslice 1 []] []),xM 28 9,xS 2 6 27,yb4 7,xM 8 28] (ybj [xA 29 4 4,xO 30 (.bslice .imm 4 (List.replicate 1 [.fslice 1 [],.fslice 1 [],.fslice 2 [],.fslice 1 []]) [(0,(.t 29))]),xO 31 (.build [.fslice 4 [],.fslice 1 []] [(0,1,(.t 30))]),yax 10 [.fslice 4 [],.fslice 1 []],xS 2 10 31] [ya8 11] 0 c_109_l0 c_109_k1)))⟩
def c_110_l0:ACode:=yc8 [yce 11,ych 12,xN 13 12,xB 14 .lss 11 13] 14 0 1 (xD [ych 17,yce 18,xX 19 5 17 18,yb9 20 19,xA 21 4 20,yb8 22,yce 23,xX 24 5 22 23,yb9 25 24,xA 26 4 25,ybg 27 f_31 21 26,ybo 28 27]) (yai 28 [yc9]) [yce 15,yca 16 .add 15,ydi 16]
def c_110_k1:ACode:=yad [xC 4 ybz]
def c_110:AFn:=⟨2,[.tmp 4],ydh [yc9] [ych 6,xN 7 6,yb8 8,xN 9 8,xB 10 .neq 7 9] 10 [yc9] [yc3] 0 c_110_l0 c_110_k1⟩
def c_111_l0:ACode:=yc8 [yce 11,ych 12,xN 13 12,xB 14 .lss 11 13] 14 0 1 (xD [ych 17,yce 18,xX 19 1 17 18,xL 20 19,yb8 21,yce 22,xX 23 1 21 22,xL 24 23,xB 25 .neq 20 24]) (yai 25 [yc9]) [yce 15,yca 16 .add 15,ydi 16]
def c_111_k1:ACode:=yad [xC 4 ybz]
def c_111:AFn:=⟨2,[.tmp 4],ydh [yc9] [ych 6,xN 7 6,yb8 8,xN 9 8,xB 10 .neq 7 9] 10 [yc9] [yc3] 0 c_111_l0 c_111_k1⟩
def c_115_l0:ACode:=yc2 [xB 29 .lss 28 27] 29 0 1 (yaa [xM 30 28,xX 31 1 26 28,xL 32 31,ydi 30,xM 6 32] (ya2 [xM 33 6,ydl 34,xL 35 34,yce 36,xX 37 1 35 36,xL 38 37,ybg 39 f_191 33 38,ybo 40 39] 40 [yc9])) [yca 41 .add 28,xM 28 41]
def c_115_l1:ACode:=yc2 [xB 46 .lss 45 44] 46 2 3 (ya0 [xM 47 45,xX 48 2 43 45,xA 49 2 48,yax 8 [ybb,.fslice 1 []],xM 7 47,xS 2 8 49] (xD [xA 50 2 8,xF 51 2 3,xL 52 51,xM 53 7,xX 54 2 52 53,xA 55 2 54,ybg 56 f_192 50 55,ybo 57 56]) (yai 57 [yc9])) [yca 58 .add 45,xM 45 58]
def c_115_k2:ACode:=yad [xF 59 3 2,xL 60 59,xF 61 3 3,xL 62 61,ybg 63 f_193 60 62,ydj 63]
def c_115_k3:ACode:=ybq [xF 42 2 2,xL 43 42,xN 44 43,ya8 45] 2 c_115_l1 c_115_k2
def c_115:AFn:=⟨2,[.tmp 4],ydh [ycp 2 0,ycp 3 1,yc9] [yb1 9 2,xL 10 9,xN 11 10,ydl 12,xL 13 12,xN 14 13,xB 15 .neq 11 14,xM 16 15,yaw 17 16 2 2,ybr 18 16 17,ybc 19 16 18,yaw 20 16 2 3,ybr 21 16 20,ybc 22 16 21,ybx 23 16 .neq 19 22,xW 24 16 23] 24 [yc9] [yb1 25 2,xL 26 25,xN 27 26,ya8 28] 0 c_115_l0 c_115_k3⟩
def c_117:AFn:=⟨2,[.tmp 4,.tmp 5],yan [ycp 3 1,yby,yc3] [ydl 6,xL 7 6] (.block 0 (ybm [yca 9 .eql 7,xM 8 9] 8 [ych 10,yb9 11 3,xL 12 11,xF 13 3 3,xA 14 4 13,yck 15 f_33 [.t 10,.t 12,.t 14],xE 16 0 15,xE 17 1 15,ydj 16,ydi 17] (ybm [xK 19 .eql 7 2,xM 18 19] 18 [ych 20,yb9 21 3,xL 22 21,xF 23 2 3,xL 24 23,xF 25 7 3,xA 26 2 25,yck 27 f_34 [.t 20,.t 22,.t 24,.t 26],yby,ydi 27] (ybm [xK 29 .eql 7 3,xM 28 29] 28 [ych 30,yb9 31 3,xL 32 31,xF 33 2 3,xL 34 33,yck 35 f_35 [.t 30,.t 32,.t 34],yby,ydi 35] (ya2 [xK 37 .eql 7 4,xM 36 37] 36 [ych 38,yb9 39 3,xL 40 39,xF 41 7 3,xA 42 2 41,yck 43 f_81 [.t 38,.t 40,.t 42],yby,ydi 43]))))) (yb6 yby (xI 5 11))⟩
def c_118_l0:ACode:=ycy [xB 23 .lss 22 21] 23 1 2 [xX 24 5 20 22,xA 25 5 24,yax 9 [ybb,.fslice 2 [],ybb,ybb,.fslice 1 []],xS 5 9 25] [9] (yae [yb1 26 9,xL 27 26,xF 28 2 4,xL 29 28,xB 30 .neq 27 29] (ybu 30 (.exit 2)) (yb0 [xF 31 2 4,xL 32 31,xF 33 2 7,xS 1 33 32] [yb1 34 4,xL 35 34,xK 36 .eql 35 2] (yab 36 (.region true [(2,4)] [⟨some 37,none,.faddr 1 (.t 9)⟩,⟨some 38,none,.faddr 2 (.t 37)⟩,⟨some 39,none,.load true 2 (.t 38)⟩,⟨some 40,none,.faddr 0 (.t 7)⟩,⟨none,none,.store 1 (.t 40) (.c (.int .i64 2))⟩,⟨some 41,none,.faddr 7 (.t 7)⟩,⟨none,none,.store 2 (.t 41) (.t 39)⟩] none) (.region true [(1,3)] [⟨some 42,none,.faddr 1 (.t 9)⟩,⟨some 43,none,.load true 4 (.t 42)⟩,⟨some 44,none,.faddr 0 (.t 7)⟩,⟨none,none,.store 1 (.t 44) (.c (.int .i64 1))⟩,⟨some 45,none,.faddr 3 (.t 7)⟩,⟨none,none,.store 4 (.t 45) (.t 43)⟩] none)))) [yca 46 .add 22,xM 22 46]
def c_118_k1:ACode:=yb6 (ydk 62 7) (xS 9 6 62)
def c_118:AFn:=⟨3,[.cell 6 true 9],yaa [ycp 3 0,ycp 4 1,yax 6 [ybb,ybb,ybb,.fslice 2 [],ybb,ybb,.fslice 1 [],ybb,.fslice 1 []]] (yan [yb9 10 4,xL 11 10,xO 12 (.build [.int .i64 0,.int .i64 0,.int .i64 0,.fslice 2 [],.int .i64 0,.int .i64 0,.fslice 1 [],.int .i64 0,.fslice 1 []] [(1,1,(.t 11))]),yax 7 [ybb,ybb,ybb,.fslice 2 [],ybb,ybb,.fslice 1 [],ybb,.fslice 1 []],xS 9 7 12] [yb1 13 4,xL 14 13] (.block 0 (yc4 (yca 48 .eql 14) 47 48 47 (xR [xM 49 2,yb1 50 7,⟨none,none,.store 1 (.t 50) (.c (.int .i64 3))⟩,xF 51 2 7,xS 1 51 49]) (yc4 (xK 53 .eql 14 4) 52 53 52 (.region true [(1,7),(3,7),(5,7)] [⟨some 54,none,.faddr 2 (.t 3)⟩,⟨some 55,none,.load false 1 (.t 54)⟩,⟨some 56,none,.faddr 1 (.t 4)⟩,⟨some 57,none,.load false 1 (.t 56)⟩,⟨some 58,none,.iaddr 2 none (.t 55) (.t 57)⟩,⟨some 59,none,.load true 2 (.t 58)⟩,⟨some 60,none,.faddr 0 (.t 7)⟩,⟨none,none,.store 1 (.t 60) (.c (.int .i64 4))⟩,⟨some 61,none,.faddr 7 (.t 7)⟩,⟨none,none,.store 2 (.t 61) (.t 59)⟩] none) (yaa [ydl 15,xL 16 15,yb9 17 4,xL 18 17,xX 19 1 16 18,xL 20 19,xN 21 20,ya8 22] (yam 1 c_118_l0))))) c_118_k1)⟩
def c_119_l0:ACode:=ycn [xM 11 7,yc7 12 .geq 11] 12 0 1 (ya2 [ych 15,xM 16 7,xX 17 3 15 16,yb1 18 17,xL 19 18,yb8 20,xB 21 .eql 19 20,xM 22 21,ybn 23 22 0,ybn 24 22 7,yas 25 22 (ydc 3 23 24),ybw 26 22 1 25,yb5 27 22 1 26,ybn 28 22 2,ybt 29 22 .eql 27 (.t 28),xV 30 22 29] 30 [ych 31,xM 32 7,xX 33 3 31 32,xF 34 2 33,xL 35 34,xM 6 35]) [xM 13 7,yca 14 .sub 13,xM 7 14]
def c_119_k1:ACode:=ycu (xM 36 2) 6 36
def c_119:AFn:=⟨3,[.tmp 6],ybj [ydb] [ych 8,xN 9 8,yca 10 .sub 9,xM 7 10] 0 c_119_l0 c_119_k1⟩
def c_120_l0:ACode:=ycn [xM 14 8,xM 15 7,xN 16 15,xB 17 .lss 14 16] 17 0 1 (ya2 [xM 20 7,xM 21 8,xX 22 5 20 21,yb1 23 22,xL 24 23,xM 25 2,xB 26 .eql 24 25] 26 [xM 27 7,xM 28 8,xX 29 5 27 28,yb9 30 29,xA 31 4 30,xS 4 6 31]) [xM 18 8,yca 19 .add 18,xM 8 19]
def c_120_k1:ACode:=yb6 (xO 32 (.build [.fslice 2 [],.int .i64 0,.int .i64 0,.fslice 1 []] [])) (xS 4 6 32)
def c_120:AFn:=⟨3,[.cell 6 true 4],ycb (ydf 3) (yc5 6 (.fslice 2 []) ybb ybb (.fslice 1 [])) (ybj [ydl 9,xL 10 9,yb8 11,xX 12 1 10 11,xL 13 12,xM 7 13] [ya8 8] 0 c_120_l0 c_120_k1)⟩
def c_125:AFn:=⟨1,[.cell 2 true 4],ycb (ydf 1) (yc5 2 ybb ybb ybb ybb) (ycz 0 [yb1 4 1,xL 5 4,yb3 6 f_194 5,ybo 7 6,xM 3 7] 3 [yco 8 f_195 (yao 6) 0 (yao 0) 0,xS 4 2 8] (ybm [yb9 10 1,xL 11 10,xN 12 11,xK 13 .gtr 12 8,xM 9 13] 9 [yco 14 f_195 (yao 12) 0 (yao 1) 0,xS 4 2 14] (ybm [xF 16 3 1,xL 17 16,xN 18 17,xK 19 .gtr 18 4,xM 15 19] 15 [yco 20 f_195 (yao 12) 0 (yao 3) 0,xS 4 2 20] (ybm [xF 22 4 1,xL 23 22,xN 24 23,xK 25 .gtr 24 16,xM 21 25] 21 [yco 26 f_195 (yao 12) 0 (yao 4) 0,xS 4 2 26] (ya2 [xF 28 5 1,xL 29 28,xN 30 29,xK 31 .gtr 30 12,xM 27 31] 27 [yco 32 f_195 (yao 12) 0 (yao 5) 0,xS 4 2 32])))) (yb6 (xO 33 (.build [.int .i64 0,.int .i64 0,.int .i64 0,.int .i64 0] [])) (xS 4 2 33)))⟩
def c_126_l0:ACode:=yc8 [yce 30,xM 31 3,xB 32 .lss 30 31,xM 33 32,ybn 34 33 4,ybt 35 33 .eql 34 (yao 0),xV 36 33 35] 36 2 3 (xD [yb9 39 1,xL 40 39,yce 41,xX 42 2 40 41,yb1 43 42,xL 44 43,yb9 45 1,xL 46 45,xM 47 3,xX 48 2 46 47,yb1 49 48,xL 50 49,xB 51 .eql 44 50]) (ybu 51 (xR [xI 4 7])) [yce 37,yca 38 .add 37,ydi 38]
def c_126_k1:ACode:=ya2 [xM 52 4,yc7 53 .neq 52] 53 [xM 54 4,xM 55 3,yco 56 f_195 (.t 54) 1 (.t 55) 0,xS 4 2 56]
def c_126_k2:ACode:=xR [xM 11 3,yca 12 .add 11,xM 3 12]
def c_126_l3:ACode:=yba [xM 6 3,yb9 7 1,xL 8 7,xN 9 8,xB 10 .lss 6 9] 10 0 (yaj 1 (yan [yb9 13 1,xL 14 13,xM 15 3,xX 16 2 14 15,xA 17 2 16,yb3 18 f_196 17,ydj 18] [xM 19 4,yc7 20 .eql 19,xM 21 20,ybw 22 21 1 1,yb5 23 21 1 22,ybn 24 21 3,yas 25 21 (ydc 2 23 24),ybw 26 21 0 25,yb5 27 21 1 26,ybt 28 21 .eql 27 (.c (.str [109,101,116,97])),xV 29 21 28] (ybu 29 (xR [xI 4 6])) (ybq [yc3] 2 c_126_l0 c_126_k1)) c_126_k2)
def c_126_k4:ACode:=yb6 (xO 57 (.build [.int .i64 0,.int .i64 0,.int .i64 0,.int .i64 0] [])) (xS 4 2 57)
def c_126:AFn:=⟨1,[.cell 2 true 4],ybj [ydf 1,yc5 2 ybb ybb ybb ybb] [ya8 3] 0 c_126_l3 c_126_k4⟩
def c_127_l0:ACode:=ycn [xM 12 3,xF 13 2 1,xL 14 13,xN 15 14,xB 16 .lss 12 15] 16 0 1 (yaa [xF 19 2 1,xL 20 19,xM 21 3,ybg 22 f_197 20 21,ydj 22] (ya2 [xM 23 4,yc7 24 .neq 23] 24 [xM 25 4,xM 26 3,yco 27 f_195 (.t 25) 2 (.t 26) 0,xS 4 2 27])) [xM 17 3,yca 18 .add 17,xM 3 18]
def c_127_l1:ACode:=yc8 [xM 32 6,yce 33,xN 34 33,xB 35 .lss 32 34] 35 2 3 (xD [xM 38 6,xF 39 2 1,xL 40 39,xN 41 40,xB 42 .geq 38 41,xM 43 42,yaw 44 43 2 1,ybr 45 43 44,ya4 46 43 6,yac 47 43 (ydc 2 45 46),yac 48 43 (yc0 2 (.t 47)),ya4 49 43 5,ya4 50 43 6,yac 51 43 (ydc 2 49 50),yac 52 43 (yc0 2 (.t 51)),yac 53 43 (.eqs true true [.s,.i] (.t 48) (.t 52)),xW 54 43 53]) (yai 54 [xM 55 6,yco 56 f_195 (yao 5) 2 (.t 55) 0,xS 4 2 56]) [xM 36 6,yca 37 .add 36,xM 6 37]
def c_127_k2:ACode:=yb6 (xO 57 (.build [.int .i64 0,.int .i64 0,.int .i64 0,.int .i64 0] [])) (xS 4 2 57)
def c_127_k3:ACode:=ybj [xO 28 (.build [.str [],.int .i64 0] [(0,1,(.c (.str [105,110]))),(1,1,(.c (.int .i64 8)))]),xO 29 (.build [.str [],.int .i64 0] [(0,1,(.c (.str [111,117,116]))),(1,1,(.c (.int .i64 8)))]),xO 30 (.build [.str [],.int .i64 0] [(0,1,(.c (.str [100,114,111,112]))),(1,1,(.c (.int .i64 1)))]),xO 31 (.bslice .imm 2 (List.replicate 3 [.str [],.int .i64 0]) [(0,(.t 28)),(1,(.t 29)),(2,(.t 30))]),ydi 31] [ydb] 2 c_127_l1 c_127_k2
def c_127:AFn:=⟨1,[.cell 2 true 4],ydh [ydf 1,yc5 2 ybb ybb ybb ybb] [xF 7 2 1,xL 8 7,xN 9 8,xK 10 .gtr 9 12] 10 [yco 11 f_195 (yao 12) 2 (yao 0) 0,xS 4 2 11] [ya8 3] 0 c_127_l0 c_127_k3⟩
def c_128_l0:ACode:=yc8 [yce 19,xM 20 3,xB 21 .lss 19 20,xM 22 21,ybn 23 22 4,ybt 24 22 .eql 23 (yao 0),xV 25 22 24] 25 2 3 (xD [xF 28 3 1,xL 29 28,yce 30,xX 31 3 29 30,yb1 32 31,xL 33 32,xF 34 3 1,xL 35 34,xM 36 3,xX 37 3 35 36,yb1 38 37,xL 39 38,xB 40 .eql 33 39]) (ybu 40 (xR [xI 4 7])) [yce 26,yca 27 .add 26,ydi 27]
def c_128_k1:ACode:=ya2 [xM 41 4,yc7 42 .neq 41] 42 [xM 43 4,xM 44 3,yco 45 f_195 (.t 43) 3 (.t 44) 0,xS 4 2 45]
def c_128_k2:ACode:=xR [xM 11 3,yca 12 .add 11,xM 3 12]
def c_128_l3:ACode:=yba [xM 6 3,xF 7 3 1,xL 8 7,xN 9 8,xB 10 .lss 6 9] 10 0 (yaj 1 (ybj [xF 13 3 1,xL 14 13,xM 15 3,xX 16 3 14 15,xA 17 3 16,yb3 18 f_198 17,ydj 18] [yc3] 2 c_128_l0 c_128_k1) c_128_k2)
def c_128_k4:ACode:=yb6 (xO 46 (.build [.int .i64 0,.int .i64 0,.int .i64 0,.int .i64 0] [])) (xS 4 2 46)
def c_128:AFn:=⟨1,[.cell 2 true 4],ybj [ydf 1,yc5 2 ybb ybb ybb ybb] [ya8 3] 0 c_128_l3 c_128_k4⟩
def c_129_l0:ACode:=yc8 [xM 26 6,xM 27 3,xB 28 .lss 26 27] 28 2 3 (xD [xF 31 4 1,xL 32 31,xM 33 6,xX 34 3 32 33,yb1 35 34,xL 36 35,xF 37 4 1,xL 38 37,xM 39 3,xX 40 3 38 39,yb1 41 40,xL 42 41,xB 43 .eql 36 42]) (yai 43 [xM 44 3,yco 45 f_195 (yao 7) 4 (.t 44) 0,xS 4 2 45]) [xM 29 6,yca 30 .add 29,xM 6 30]
def c_129_k1:ACode:=xR [xM 12 3,yca 13 .add 12,xM 3 13]
def c_129_l2:ACode:=yba [xM 7 3,xF 8 4 1,xL 9 8,xN 10 9,xB 11 .lss 7 10] 11 0 (yaj 1 (ya3 [ydk 15 1,xM 16 3,ybg 17 f_199 15 16,xM 14 17,xE 18 0 14,xE 19 1 14,ydj 18,ydi 19] [yce 20,yc7 21 .neq 20] 21 [yce 22,xM 23 3,xM 24 4,ycg 25 f_195 (.t 22) 4 (.t 23) (.t 24),xS 4 2 25] (yaa [ydb] (yam 2 c_129_l0))) c_129_k1)
def c_129_k3:ACode:=yb6 (xO 46 (.build [.int .i64 0,.int .i64 0,.int .i64 0,.int .i64 0] [])) (xS 4 2 46)
def c_129:AFn:=⟨1,[.cell 2 true 4],ybj [ydf 1,yc5 2 ybb ybb ybb ybb] [ya8 3] 0 c_129_l2 c_129_k3⟩
def c_130_l0:ACode:=yc8 [xM 26 6,xM 27 3,xB 28 .lss 26 27] 28 2 3 (xD [xF 31 5 1,xL 32 31,xM 33 6,xX 34 6 32 33,yb1 35 34,xL 36 35,xF 37 5 1,xL 38 37,xM 39 3,xX 40 6 38 39,yb1 41 40,xL 42 41,xB 43 .eql 36 42]) (yai 43 [xM 44 3,yco 45 f_195 (yao 7) 5 (.t 44) 0,xS 4 2 45]) [xM 29 6,yca 30 .add 29,xM 6 30]
def c_130_k1:ACode:=xR [xM 12 3,yca 13 .add 12,xM 3 13]
def c_130_l2:ACode:=yba [xM 7 3,xF 8 5 1,xL 9 8,xN 10 9,xB 11 .lss 7 10] 11 0 (yaj 1 (ya3 [ydk 15 1,xM 16 3,ybg 17 f_200 15 16,xM 14 17,xE 18 0 14,xE 19 1 14,ydj 18,ydi 19] [yce 20,yc7 21 .neq 20] 21 [yce 22,xM 23 3,xM 24 4,ycg 25 f_195 (.t 22) 5 (.t 23) (.t 24),xS 4 2 25] (yaa [ydb] (yam 2 c_130_l0))) c_130_k1)
def c_130_k3:ACode:=yb6 (xO 46 (.build [.int .i64 0,.int .i64 0,.int .i64 0,.int .i64 0] [])) (xS 4 2 46)
def c_130:AFn:=⟨1,[.cell 2 true 4],ybj [ydf 1,yc5 2 ybb ybb ybb ybb] [ya8 3] 0 c_130_l2 c_130_k3⟩
def c_131:AFn:=⟨1,[.cell 2 true 4],ycb (ydf 1) (yc5 2 ybb ybb ybb ybb) (ya3 [ydk 7 1,yb3 8 f_201 7,xM 6 8,xE 9 0 6,xE 10 1 6,xE 11 2 6,xM 3 9,ydj 10,ydi 11] [yce 12,yc7 13 .neq 12] 13 [yce 14,xM 15 3,xM 16 4,ycg 17 f_195 (.t 14) 6 (.t 15) (.t 16),xS 4 2 17] (ya3 [ydk 19 1,yb3 20 f_202 19,xM 18 20,xE 21 0 18,xE 22 1 18,xM 3 21,ydi 22] [yce 23,yc7 24 .neq 23] 24 [yce 25,xM 26 3,yco 27 f_195 (.t 25) 7 (.t 26) 0,xS 4 2 27] (ya3 [ydk 29 1,yb3 30 f_203 29,xM 28 30,xE 31 0 28,xE 32 1 28,xM 3 31,ydi 32] [yce 33,yc7 34 .neq 33] 34 [yce 35,xM 36 3,yco 37 f_195 (.t 35) 8 (.t 36) 0,xS 4 2 37] (yb6 (xO 38 (.build [.int .i64 0,.int .i64 0,.int .i64 0,.int .i64 0] [])) (xS 4 2 38)))))⟩
def c_139:AFn:=⟨1,[.cell 2 true 9],ya0 [ydf 1,yax 2 [.str [],.fslice 2 [],.fslice 2 [],.fslice 3 [],.fslice 3 [],.fslice 6 [],.fslice 7 [],.fslice 5 [],.fslice 1 []]] (xD [yb1 3 1,xL 4 3,yb9 5 1,xL 6 5,ybf 7 f_212 6 (.c (.func (.func f_213) [] [])),xF 8 2 1,xL 9 8,yb3 10 f_214 9,xF 11 3 1,xL 12 11,yb3 13 f_215 12,xF 14 4 1,xL 15 14,ybf 16 f_216 15 (.c (.func (.func f_217) [] [])),xF 17 5 1,xL 18 17,ybf 19 f_218 18 (.c (.func (.func f_219) [] [])),xF 20 6 1,xL 21 20,ybf 22 f_220 21 (.c (.func (.func f_221) [] [])),xF 23 7 1,xL 24 23,ybf 25 f_222 24 (.c (.func (.func f_223) [] [])),xF 26 8 1,xL 27 26,yb3 28 f_162 27,xO 29 (.build [.str [],.fslice 2 [],.fslice 2 [],.fslice 3 [],.fslice 3 [],.fslice 6 [],.fslice 7 [],.fslice 5 [],.fslice 1 []] [(0,1,(.t 4)),(1,1,(.t 7)),(2,1,(.t 10)),(3,1,(.t 13)),(4,1,(.t 16)),(5,1,(.t 19)),(6,1,(.t 22)),(7,1,(.t 25)),(8,1,(.t 28))]),xS 9 2 29]) .ret⟩
def c_145:AFn:=⟨1,[],yaa [ydf 1] (yb0 [yb1 2 1,xL 3 2,yb3 4 f_229 3,ybf 5 f_228 4 (yao 6),yco 6 f_227 (.t 5) 0 (yao 0) 0] [yb9 7 1,xL 8 7,xN 9 8,xK 10 .gtr 9 8,ybf 11 f_228 10 (yao 12),yco 12 f_227 (.t 11) 0 (yao 1) 0] (yb0 [xF 13 3 1,xL 14 13,xN 15 14,xK 16 .gtr 15 4,ybf 17 f_228 16 (yao 12),yco 18 f_227 (.t 17) 0 (yao 3) 0] [xF 19 4 1,xL 20 19,xN 21 20,xK 22 .gtr 21 16,ybf 23 f_228 22 (yao 12),yco 24 f_227 (.t 23) 0 (yao 4) 0] (xR [xF 25 5 1,xL 26 25,xN 27 26,xK 28 .gtr 27 12,ybf 29 f_228 28 (yao 12),yco 30 f_227 (.t 29) 0 (yao 5) 0])))⟩
def c_146_l0:ACode:=ycy [xB 12 .lss 11 10] 12 0 1 [xM 13 11,xX 14 2 9 11,xA 15 2 14,yax 4 [.str [],.fslice 2 []],xM 3 13,xS 2 4 15] [4] (yb0 [xA 16 2 4,yb3 17 f_232 16,xM 18 3,yco 19 f_227 (.t 17) 1 (.t 18) 0] [yb1 20 4,xL 21 20,xO 22 (yar .eql 21 (.c (.str [109,101,116,97]))),ybf 23 f_228 22 (yao 6),xM 24 3,yco 25 f_227 (.t 23) 1 (.t 24) 0] (xR [xM 26 2,xM 27 3,ybg 28 f_233 26 27,ybf 29 f_228 28 (yao 7),xM 30 3,yco 31 f_227 (.t 29) 1 (.t 30) 0])) [yca 32 .add 11,xM 11 32]
def c_146:AFn:=⟨1,[],yaa [ydf 1] (yb0 [yb9 5 1,xL 6 5,ybf 7 f_230 6 (.c (.func (.func f_231) [] [])),xM 2 7] [yb9 8 1,xL 9 8,xN 10 9,ya8 11] (yam 0 c_146_l0))⟩
def c_147_l0:ACode:=ycy [xB 20 .lss 19 18] 20 0 1 [xM 21 19,xX 22 2 17 19,xA 23 2 22,yax 4 [.str [],ybb],xM 3 21,xS 2 4 23] [4] (yb0 [yb1 24 4,xL 25 24,yb3 26 f_229 25,ybf 27 f_228 26 (yao 6),xM 28 3,yco 29 f_227 (.t 27) 2 (.t 28) 0] [yb9 30 4,xL 31 30,yb3 32 f_236 31,ybf 33 f_228 32 (yao 10),xM 34 3,yco 35 f_227 (.t 33) 2 (.t 34) 0] (xR [xM 36 2,xM 37 3,ybg 38 f_233 36 37,ybf 39 f_228 38 (yao 7),xM 40 3,yco 41 f_227 (.t 39) 2 (.t 40) 0])) [yca 42 .add 19,xM 19 42]
def c_147_l1:ACode:=ycy [xK 48 .lss 47 3] 48 2 3 [xM 49 47,xO 50 (.idxa true 3 2 (.t 46) (.t 47)),yax 6 [.str [],ybb],ydi 49,xS 2 6 50] [6] (yci [yce 51,xF 52 2 1,xL 53 52,xN 54 53,xB 55 .geq 51 54,xM 56 55,yaw 57 56 2 1,ybr 58 56 57,ya4 59 56 5,yac 60 56 (ydc 2 58 59),yac 61 56 (yc0 2 (.t 60)),yac 62 56 (yc0 2 (.t 6)),yac 63 56 (.eqs true true [.s,.i] (.t 61) (.t 62)),xW 64 56 63,ybf 65 f_228 64 (yao 5),yce 66] (xR [yco 67 f_227 (.t 65) 2 (.t 66) 0])) [yca 68 .add 47,xM 47 68]
def c_147_k2:ACode:=yaa [xO 43 (.build [.str [],.int .i64 0] [(0,1,(.c (.str [105,110]))),(1,1,(.c (.int .i64 8)))]),xO 44 (.build [.str [],.int .i64 0] [(0,1,(.c (.str [111,117,116]))),(1,1,(.c (.int .i64 8)))]),xO 45 (.build [.str [],.int .i64 0] [(0,1,(.c (.str [100,114,111,112]))),(1,1,(.c (.int .i64 1)))]),xO 46 (.build [.str [],.int .i64 0,.str [],.int .i64 0,.str [],.int .i64 0] [(0,2,(.t 43)),(2,2,(.t 44)),(4,2,(.t 45))]),ya8 47] (yam 2 c_147_l1)
def c_147:AFn:=⟨1,[],yb0 [ydf 1] [xF 7 2 1,xL 8 7,xN 9 8,xK 10 .gtr 9 12,ybf 11 f_228 10 (yao 12),yco 12 f_227 (.t 11) 2 (yao 0) 0] (ybj [xF 13 2 1,xL 14 13,ybf 15 f_234 14 (.c (.func (.func f_235) [] [])),xM 2 15] [xF 16 2 1,xL 17 16,xN 18 17,ya8 19] 0 c_147_l0 c_147_k2)⟩
def c_148_l0:ACode:=ycy [xB 18 .lss 17 16] 18 0 1 [xM 19 17,xX 20 3 15 17,xA 21 3 20,yax 4 [.str [],ybb,ybb],xM 3 19,xS 3 4 21] [4] (yaa [xA 22 3 4,yb3 23 f_239 22,xM 24 3,yco 25 f_227 (.t 23) 3 (.t 24) 0] (xR [xM 26 2,xM 27 3,ybg 28 f_233 26 27,ybf 29 f_228 28 (yao 7),xM 30 3,yco 31 f_227 (.t 29) 3 (.t 30) 0])) [yca 32 .add 17,xM 17 32]
def c_148_l1:ACode:=yc2 [xB 40 .lss 39 38] 40 2 3 (ycc (xM 41 39) 5 41 (yb0 [ydk 43 1,yce 44,ybg 45 f_242 43 44,xM 42 45,xE 46 0 42,xE 47 1 42,xM 6 46,xM 7 47] [xM 48 7,yce 49,xM 50 6,ycg 51 f_227 (.t 48) 4 (.t 49) (.t 50)] (xR [xM 52 2,yce 53,ybg 54 f_233 52 53,ybf 55 f_228 54 (yao 7),yce 56,yco 57 f_227 (.t 55) 4 (.t 56) 0]))) [yca 58 .add 39,xM 39 58]
def c_148_l2:ACode:=yc2 [xB 66 .lss 65 64] 66 4 5 (ycc (xM 67 65) 8 67 (yb0 [ydk 69 1,xM 70 8,ybg 71 f_175 69 70,xM 68 71,xE 72 0 68,xE 73 1 68,xM 9 72,xM 10 73] [xM 74 10,xM 75 8,xM 76 9,ycg 77 f_227 (.t 74) 5 (.t 75) (.t 76)] (xR [xM 78 2,xM 79 8,ybg 80 f_233 78 79,ybf 81 f_228 80 (yao 7),xM 82 8,yco 83 f_227 (.t 81) 5 (.t 82) 0]))) [yca 84 .add 65,xM 65 84]
def c_148_k3:ACode:=yb0 [xF 59 5 1,xL 60 59,ybf 61 f_243 60 (.c (.func (.func f_244) [] [])),xM 2 61] [xF 62 5 1,xL 63 62,xN 64 63,ya8 65] (yam 4 c_148_l2)
def c_148_k4:ACode:=ybj [xF 33 4 1,xL 34 33,ybf 35 f_240 34 (.c (.func (.func f_241) [] [])),xM 2 35] [xF 36 4 1,xL 37 36,xN 38 37,ya8 39] 2 c_148_l1 c_148_k3
def c_148:AFn:=⟨1,[],yaa [ydf 1] (ybj [xF 11 3 1,xL 12 11,ybf 13 f_237 12 (.c (.func (.func f_238) [] [])),xM 2 13] [xF 14 3 1,xL 15 14,xN 16 15,ya8 17] 0 c_148_l0 c_148_k4)⟩
def c_149:AFn:=⟨1,[],yb0 [ydf 1] [ydk 7 1,yb3 8 f_245 7,xM 6 8,xE 9 0 6,xE 10 1 6,xE 11 2 6,xM 2 9,xM 3 10,ydj 11] (yb0 [xM 12 4,xM 13 2,xM 14 3,ycg 15 f_227 (.t 12) 6 (.t 13) (.t 14)] [ydk 17 1,yb3 18 f_246 17,xM 16 18,xE 19 0 16,xE 20 1 16,ydi 19,ydj 20] (yb0 [xM 21 4,yce 22,yco 23 f_227 (.t 21) 7 (.t 22) 0] [ydk 25 1,yb3 26 f_247 25,xM 24 26,xE 27 0 24,xE 28 1 24,ydi 27,ydj 28] (xR [xM 29 4,yce 30,yco 31 f_227 (.t 29) 8 (.t 30) 0])))⟩
def c_150:AFn:=⟨2,[.tmp 3],ybs [ydf 2,ybd 3] [yb9 4 2,xA 5 4 4,yb9 6 1,xA 7 4 6,ybg 8 f_89 5 7,xM 3 8]⟩
def c_151_l0:ACode:=ycn [xM 12 4,ych 13,xN 14 13,xB 15 .lss 12 14] 15 0 1 (xR [xM 18 3,ych 19,xM 20 4,xX 21 1 19 20,xL 22 21,xO 23 (.minmax true [.t 18,.t 22]),xM 3 23]) [xM 16 4,yca 17 .add 16,ydj 17]
def c_151_k1:ACode:=ycu (xM 24 3) 2 24
def c_151:AFn:=⟨1,[.tmp 2],yan [xC 2 (yc6 0)] [ych 5,xN 6 5,yca 7 .lss 6] (ybu 7 (xR [xO 8 (.mkiface 9 (.c (.str [115,108,105,99,101,115,46,77,97,120,58,32,101,109,112,116,121,32,108,105,115,116]))),⟨none,none,.panic (.t 8)⟩])) (ybj [ych 9,xO 10 (ycj 1 9 (yao 0)),xL 11 10,xM 3 11] [xI 4 1] 0 c_151_l0 c_151_k1)⟩
def c_152:AFn:=⟨1,[.tmp 2],ya3 [xC 2 (yc6 0)] [ych 3,xO 4 (.bslice .imm 1 (List.replicate 1 [.int .i64 0]) [(0,(.t 3))]),yb3 5 f_248 4,ybo 6 5] 6 [xC 2 (yc6 0)] (yad [ych 7,xO 8 (.bin .sub (yao 32) (.t 7)),xO 9 (.bin .shr (.c (yc6 4294967295)) (.t 8)),xM 2 9])⟩
def c_153_l0:ACode:=yc8 [xM 29 10,xM 30 9,xN 31 30,xB 32 .lss 29 31] 32 0 1 (xD [yb1 35 5,xL 36 35,xM 37 10,xX 38 2 36 37,xA 39 2 38,xM 40 9,xM 41 10,xX 42 1 40 41,xL 43 42,xF 44 5 3,xL 45 44,yb8 46,xX 47 6 45 46,yb9 48 47,xL 49 48,xM 50 10,xX 51 3 49 50,xF 52 2 51,xL 53 52,yct 54 f_250 39 43 53,xM 8 54]) (ya2 [xM 55 8,yc7 56 .neq 55] 56 [xM 57 8,xM 6 57]) [xM 33 10,yca 34 .add 33,xM 10 34]
def c_153_k1:ACode:=ycz 2 [yb9 59 5,xL 60 59,yc7 61 .lss 60,xM 62 61,yda 63 62 5,ybr 64 62 63,ybl 65 62 .gtr 64 255,xW 66 62 65,xM 58 66] 58 [xI 6 9] (ybm [yb9 68 5,xL 69 68,yc7 70 .gtr 69,xM 71 70,yas 72 71 (yc0 9 (.t 3)),ybn 73 71 1,yc1 74 71 f_251 [.t 72,.t 73],ybt 75 71 .neq 74 (yao 3),xV 76 71 75,xM 67 76] 67 [xI 6 11] (ya2 [ydk 78 3,yb8 79,xF 80 2 5,yb1 81 80,xL 82 81,yct 83 f_155 78 79 82,ybo 84 83,xM 77 84] 77 [xI 6 8])) (yad [ydk 85 3,xF 86 2 5,xA 87 2 86,ybg 88 f_156 85 87,xM 6 88])
def c_153:AFn:=⟨3,[.tmp 6],yaa [ydf 3,xJ 5 2,ydb] (ya3 [ydk 12 3,yb8 13,ybg 14 f_200 12 13,xM 11 14,xE 15 0 11,xE 16 1 11,xM 7 15,xM 8 16] [xM 17 8,yc7 18 .neq 17] 18 [xM 19 8,xM 6 19] (ydh [ydk 20 3,yb8 21,ybg 22 f_249 20 21,xM 9 22] [yb1 23 5,xL 24 23,xN 25 24,xM 26 9,xN 27 26,xB 28 .neq 25 27] 28 [xI 6 2] [ya8 10] 0 c_153_l0 c_153_k1))⟩
def c_154_l0:ACode:=yc8 [yce 6,ych 7,xN 8 7,xB 9 .lss 6 8] 9 0 1 (xD [ych 12,yce 13,xX 14 5 12 13,yb9 15 14,xA 16 4 15,xA 17 4 3,ybg 18 f_85 16 17]) (yai 18 [xC 4 ybz]) [yce 10,yca 11 .add 10,ydi 11]
def c_154_k1:ACode:=yad [yc9]
def c_154:AFn:=⟨2,[.tmp 4],ybj [xJ 3 1,yc9] [yc3] 0 c_154_l0 c_154_k1⟩
def c_155:AFn:=⟨3,[.tmp 6],ybs [ydf 3,ybd 6] [ydk 7 3,yb8 8,ybg 9 f_252 7 8,xM 10 9,ybw 11 10 5 3,yb5 12 10 1 11,ybn 13 10 1,yas 14 10 (ydc 6 12 13),ybw 15 10 2 14,yb5 16 10 1 15,ybn 17 10 2,yc1 18 10 f_253 [.t 16,.t 17],ybt 19 10 .geq 18 (yao 0),xV 20 10 19,xM 6 20]⟩
def c_156_l0:ACode:=yc8 [xM 31 6,yce 32,xN 33 32,xB 34 .lss 31 33] 34 0 1 (xD [yb9 37 3,xL 38 37,xM 39 6,xX 40 1 38 39,xL 41 40,yce 42,xM 43 6,xX 44 2 42 43,yb9 45 44,xL 46 45,ybg 47 f_254 41 46,ybo 48 47]) (yai 48 [xI 4 9]) [xM 35 6,yca 36 .add 35,xM 6 36]
def c_156_k1:ACode:=yad [yby]
def c_156:AFn:=⟨2,[.tmp 4],ya3 [ydf 2,xJ 3 1,yby] [ydl 7,xL 8 7,yc7 9 .lss 8,xM 10 9,yaw 11 10 0 3,ybr 12 10 11,yaw 13 10 4 2,ybr 14 10 13,ybc 15 10 14,ybx 16 10 .geq 12 15,xW 17 10 16] 17 [xI 4 8] (ydh [xF 18 4 2,xL 19 18,ydl 20,xL 21 20,xX 22 3 19 21,yb9 23 22,xL 24 23,ydi 24] [yb9 25 3,xL 26 25,xN 27 26,yce 28,xN 29 28,xB 30 .neq 27 29] 30 [xI 4 2] [ydb] 0 c_156_l0 c_156_k1)⟩
def c_157_l0:ACode:=ycn [xM 7 6,yb8 8,xB 9 .lss 7 8] 9 0 1 (xR [yce 12,xO 13 (.bin .mul (.c (.int .u64 2)) (.t 12)),ydi 13]) [xM 10 6,yca 11 .add 10,xM 6 11]
def c_157_k1:ACode:=yad [ych 14,xO 15 (.conv .u64 (.t 14)),yce 16,xB 17 .lss 15 16,ydj 17]
def c_157:AFn:=⟨2,[.tmp 4],yaa [yc9] (ybj [xC 5 (.int .u64 1)] [ydb] 0 c_157_l0 c_157_k1)⟩
def c_158:AFn:=⟨1,[.tmp 2],ya3 [ydf 1,ya8 2] [yb9 3 1,xL 4 3,yca 5 .lss 4,yce 6,yda 7 6 1,ybr 8 6 7,ybl 9 6 .gtr 8 32,xW 10 6 9] 10 [ya8 2] (yad [yb9 11 1,xL 12 11,xM 2 12])⟩
def c_160:AFn:=⟨1,[.tmp 2],ybs [ydf 1,ybd 2] [xF 3 2 1,xL 4 3,yca 5 .geq 4,yce 6,ybw 7 6 2 1,yb5 8 6 1 7,ybt 9 6 .leq 8 (yao 64),xV 10 6 9,xM 2 10]⟩
def c_163:AFn:=⟨1,[.cell 2 true 5],ya0 [ydf 1,yax 2 [ybb,.fslice 2 [],ybb,ybb,.fslice 1 []]] (xD [yb1 3 1,xL 4 3,yb9 5 1,xA 6 4 5,yb3 7 f_90 6,xO 8 (.build [.int .i64 0,.fslice 2 [],.int .i64 0,.int .i64 0,.fslice 1 []] [(0,1,(.t 4)),(1,4,(.t 7))]),xS 5 2 8]) .ret⟩
def c_164_l0:ACode:=ycn [xM 16 10,yb1 17 4,xL 18 17,xN 19 18,xB 20 .lss 16 19] 20 0 1 (yaa [xM 23 10,yb8 24,xB 25 .eql 23 24] (yab 25 (yaa [yb1 26 9,xL 27 26,xM 28 2,xO 29 (.bslice .imm 1 (List.replicate 1 [.fslice 5 []]) [(0,(.t 28))]),ycx 30 1 24 27 29,yb1 31 9,xS 1 31 30] (xR [yb9 32 9,xL 33 32,xM 34 3,xO 35 (.bslice .imm 1 (List.replicate 1 [.int .i64 0]) [(0,(.t 34))]),ycx 36 1 8 33 35,yb9 37 9,xS 1 37 36])) (yci [yb1 38 9,xL 39 38,yb1 40 4,xL 41 40,xM 42 10,xX 43 1 41 42,xL 44 43,xO 45 (.bslice .imm 1 (List.replicate 1 [.fslice 5 []]) [(0,(.t 44))]),ycx 46 1 24 39 45,yb1 47 9,xS 1 47 46] (xD [yb9 48 9,xL 49 48,yb9 50 4,xL 51 50,xM 52 10,xX 53 1 51 52,xL 54 53,xO 55 (.bslice .imm 1 (List.replicate 1 [.int .i64 0]) [(0,(.t 54))]),ycx 56 1 8 49 55,yb9 57 9,xS 1 57 56])))) [xM 21 10,yca 22 .add 21,xM 10 22]
def c_164_k1:ACode:=yb6 (xA 58 4 9) (xS 4 8 58)
def c_164:AFn:=⟨4,[.cell 8 true 4],ycb (ydf 4) (yc5 8 (.fslice 1 []) (.fslice 1 []) (.fslice 2 []) (.fslice 1 [])) (ybj [xF 11 2 4,xL 12 11,xF 13 3 4,xL 14 13,xO 15 (.build [.fslice 1 [],.fslice 1 [],.fslice 2 [],.fslice 1 []] [(2,1,(.t 12)),(3,1,(.t 14))]),yc5 9 (.fslice 1 []) (.fslice 1 []) (.fslice 2 []) (.fslice 1 []),xS 4 9 15] [ya8 10] 0 c_164_l0 c_164_k1)⟩
def c_165_l0:ACode:=ycn [yce 6,ych 7,xN 8 7,xB 9 .lss 6 8] 9 0 1 (ya2 [ych 12,yce 13,xX 14 5 12 13,yb1 15 14,xL 16 15,yb8 17,xB 18 .eql 16 17] 18 [yce 19,ydj 19]) [yce 10,yca 11 .add 10,ydi 11]
def c_165_k1:ACode:=yad [yb4 4]
def c_165:AFn:=⟨2,[.tmp 4],ybj [yby] [yc3] 0 c_165_l0 c_165_k1⟩
def c_175:AFn:=⟨2,[.tmp 4,.tmp 5],ya3 [ydf 2,yby,yc3] [yb8 7,yc7 8 .lss 7,xM 9 8,ya4 10 9 1,yaw 11 9 5 2,ybr 12 9 11,ybc 13 9 12,ybx 14 9 .geq 10 13,xW 15 9 14] 15 [yb4 4,xI 5 8] (.seq (xQ [xF 16 5 2,xL 17 16,yb8 18,xX 19 6 17 18,xA 20 6 19,yax 6 [.str [],.fslice 3 [],.fslice 1 [],ybb,.fslice 1 [],ybb],xS 6 6 20] [6]) (ycz 0 [yb1 22 6,xL 23 22,yb3 24 f_257 23,ybo 25 24,xM 21 25] 21 [yb4 4,xI 5 6] (ybm [yb9 27 6,xL 28 27,xN 29 28,xK 30 .gtr 29 6,xM 31 30,yaw 32 31 2 6,ybr 33 31 32,ybc 34 31 33,ybl 35 31 .gtr 34 16,xW 36 31 35,xM 26 36] 26 [yb4 4,xI 5 12] (ya2 [xF 38 5 6,xL 39 38,yca 40 .lss 39,xM 41 40,yaw 42 41 5 6,ybr 43 41 42,ybl 44 41 .gtr 43 256,xW 45 41 44,xM 37 45] 37 [yb4 4,xI 5 9])) (yae [ydk 47 2,xA 48 6 6,ybg 49 f_258 47 48,xM 46 49,xE 50 0 46,xE 51 1 46,ydj 50,ydi 51] (ya2 [yce 52,yc7 53 .neq 52] 53 [xM 54 4,yce 55,ydj 54,ydi 55]) (yae [ydk 56 2,xA 57 6 6,ybg 58 f_259 56 57,ydi 58] (ya2 [yce 59,yc7 60 .neq 59] 60 [yce 61,xI 4 (-3),ydi 61]) (yb6 yby yc3)))))⟩
def c_176_l0:ACode:=ycy [xB 20 .lss 19 18] 20 0 1 [xX 21 3 17 19,xA 22 3 21,yax 7 [ybb,ybb,ybb],xS 3 7 22] [7] (xR [yce 23,ydk 24 2,yb1 25 7,xA 26 2 25,ybg 27 f_261 24 26,xO 28 (.bslice .imm 1 (List.replicate 1 [.int .i64 0]) [(0,(.t 27))]),ycx 29 1 8 23 28,ydi 29]) [yca 30 .add 19,xM 19 30]
def c_176_k1:ACode:=ycu (yce 31) 4 31
def c_176:AFn:=⟨2,[.tmp 4],ya3 [ydf 2,xC 4 (.fslice 1 [])] [ydk 8 2,yb8 9,ybg 10 f_260 8 9,ybo 11 10] 11 [xC 4 (.fslice 1 [])] (ybj [ycd 5 1] [xF 12 5 2,xL 13 12,yb8 14,xX 15 6 13 14,yb9 16 15,xL 17 16,xN 18 17,ya8 19] 0 c_176_l0 c_176_k1)⟩
def c_177:AFn:=⟨3,[.tmp 6],ycb (ydf 3) ydb (ycz 0 [ydl 10,xL 11 10,xM 12 2,ybg 13 f_262 11 12,ybo 14 13,xM 15 14,yda 16 15 3,ybr 17 15 16,ya4 18 15 2,ycw 19 15 f_262 [.t 17,.t 18],yde 20 15 19,xW 21 15 20,xM 9 21] 9 [xI 6 9] (ybm [ydl 23,xL 24 23,yb9 25 3,xL 26 25,xB 27 .andNot 24 26,xO 28 (yar .neq 27 (.c (yc6 0))),xM 22 28] 22 [xI 6 5] (yci [yb8 30,yca 31 .eql 30,xM 32 31,ybw 33 32 1 3,yb5 34 32 1 33,ybn 35 32 2,yc1 36 32 f_152 [.t 35],ybt 37 32 .neq 34 (.t 36),xV 38 32 37,xM 29 38] (yai 29 [xI 6 11]))) (yae [yb8 39,xK 40 .eql 39 2] (ybu 40 (yaa [yb9 42 3,xL 43 42,xM 44 2,ybg 45 f_263 43 44,xM 41 45,xE 46 0 41,xE 47 1 41,xM 7 46,xM 8 47] (ya2 [xM 48 8,ybo 49 48] 49 [xI 6 11]))) (yad [ydb])))⟩
def c_178_l0:ACode:=ycy [xB 20 .lss 19 18] 20 0 1 [xX 21 3 17 19,xA 22 3 21,yax 7 [ybb,ybb,ybb],xS 3 7 22] [7] (.block 2 (ybm [xF 24 2 7,xL 25 24,xK 26 .eql 25 3,xM 23 26] 23 [xI 4 3] (yaa [xF 28 2 7,xL 29 28,xK 30 .eql 29 2,xM 27 30] (ybu 27 (xR [xI 5 2]))))) [yca 31 .add 19,xM 19 31]
def c_178_k1:ACode:=ycu (yce 32) 4 32
def c_178:AFn:=⟨2,[.tmp 4],ya3 [ydf 2,yby] [ydk 8 2,yb8 9,ybg 10 f_260 8 9,ybo 11 10] 11 [yby] (ybj [xI 5 1] [xF 12 5 2,xL 13 12,yb8 14,xX 15 6 13 14,yb9 16 15,xL 17 16,xN 18 17,ya8 19] 0 c_178_l0 c_178_k1)⟩
def c_179_l0:ACode:=yc2 [xB 21 .lss 20 19] 21 0 1 (yaa [xX 22 1 18 20,xL 23 22,xM 8 23] (ya2 [xM 24 8,xM 25 2,xB 26 .eql 24 25] 26 [xC 6 ybz])) [yca 27 .add 20,xM 20 27]
def c_179_k1:ACode:=yad [ybd 6]
def c_179:AFn:=⟨3,[.tmp 6],ydh [ydf 3,ybd 6] [ydk 9 3,yb8 10,ybg 11 f_260 9 10,ybo 12 11] 12 [ybd 6] [xF 13 5 3,xL 14 13,yb8 15,xX 16 6 14 15,xF 17 2 16,xL 18 17,xN 19 18,ya8 20] 0 c_179_l0 c_179_k1⟩
def c_180_l0:ACode:=yc2 [xB 36 .lss 35 34] 36 0 1 (yaa [xM 37 35,xX 38 1 33 35,xL 39 38,xM 6 37,xM 7 39] (ya2 [xM 40 7,yce 41,xM 42 6,xX 43 2 41 42,yb9 44 43,xL 45 44,ybg 46 f_262 40 45,ybo 47 46] 47 [xI 4 9])) [yca 48 .add 35,xM 35 48]
def c_180_k1:ACode:=yad [yby]
def c_180:AFn:=⟨2,[.tmp 4],ya3 [ydf 2,xJ 3 1,yby] [ydl 8,xL 9 8,yc7 10 .lss 9,xM 11 10,yaw 12 11 0 3,ybr 13 11 12,yaw 14 11 4 2,ybr 15 11 14,ybc 16 11 15,ybx 17 11 .geq 13 16,xW 18 11 17] 18 [xI 4 8] (ydh [xF 19 4 2,xL 20 19,ydl 21,xL 22 21,xX 23 3 20 22,yb9 24 23,xL 25 24,ydi 25] [yb9 26 3,xL 27 26,xN 28 27,yce 29,xN 30 29,xB 31 .neq 28 30] 31 [xI 4 2] [yb9 32 3,xL 33 32,xN 34 33,ya8 35] 0 c_180_l0 c_180_k1)⟩
def c_181_l0:ACode:=yc2 [xB 9 .lss 8 7] 9 0 1 (ycc (xM 10 8) 5 10 (ya2 [yb8 11,ych 12,yce 13,xX 14 5 12 13,xA 15 5 14,xO 16 (ydd 11 [.t 15])] 16 [yce 17,ydj 17])) [yca 18 .add 8,xM 8 18]
def c_181_k1:ACode:=yad [yb4 4]
def c_181:AFn:=⟨2,[.tmp 4],ybj [yby] [ych 6,xN 7 6,ya8 8] 0 c_181_l0 c_181_k1⟩
def c_183_l0:ACode:=ycn [xM 7 3,ych 8,xN 9 8,xB 10 .lss 7 9] 10 0 1 (ya2 [ych 13,xM 14 3,xX 15 2 13 14,yb1 16 15,xL 17 16,xO 18 (.slen (.t 17)),xK 19 .gtr 18 40] 19 [ybd 2]) [xM 11 3,yca 12 .add 11,xM 3 12]
def c_183_k1:ACode:=yad [xC 2 ybz]
def c_183:AFn:=⟨1,[.tmp 2],ydh [ybd 2] [ych 4,xN 5 4,xK 6 .gtr 5 16] 6 [ybd 2] [ya8 3] 0 c_183_l0 c_183_k1⟩
def c_184_l0:ACode:=ycn [xM 20 3,xF 21 2 1,xL 22 21,xN 23 22,xB 24 .lss 20 23] 24 0 1 (ya2 [xF 27 2 1,xL 28 27,xM 29 3,xX 30 7 28 29,xF 31 5 30,xL 32 31,xN 33 32,xK 34 .gtr 33 40,xM 35 34,yaw 36 35 2 1,ybr 37 35 36,ya4 38 35 3,yac 39 35 (ydc 7 37 38),yaw 40 35 6 39,ybr 41 35 40,ybc 42 35 41,ybl 43 35 .gtr 42 40,xW 44 35 43] 44 [ybd 2]) [xM 25 3,yca 26 .add 25,xM 3 26]
def c_184_k1:ACode:=yad [xC 2 ybz]
def c_184:AFn:=⟨1,[.tmp 2],ydh [ydf 1,ybd 2] [yb1 4 1,xL 5 4,xO 6 (.slen (.t 5)),xK 7 .gtr 6 40,xM 8 7,yda 9 8 1,ybr 10 8 9,ycw 11 8 f_183 [.t 10],yde 12 8 11,xW 13 8 12,xM 14 13,yaw 15 14 2 1,ybr 16 14 15,ybc 17 14 16,ybl 18 14 .gtr 17 16,xW 19 14 18] 19 [ybd 2] [ya8 3] 0 c_184_l0 c_184_k1⟩
def c_185_l0:ACode:=ycn [xM 9 8,ych 10,xN 11 10,xB 12 .lss 9 11,xM 13 12,ybn 14 13 7,ybn 15 13 1,ybt 16 13 .leq 14 (.t 15),xV 17 13 16] 17 0 1 (ya3 [xM 20 7,yca 21 .add 20,xM 7 21] [ych 22,xM 23 8,xX 24 5 22 23,xF 25 2 24,xL 26 25,xN 27 26,xK 28 .gtr 27 40,xM 29 28,ya4 30 29 2,ybl 31 29 .eql 30 0,xW 32 29 31] 32 [yb8 33,yca 34 .add 33,xM 6 34] (yb0 [xM 35 7,ych 36,xM 37 8,xX 38 5 36 37,xF 39 3 38,xL 40 39,yb8 41,xM 42 7,xB 43 .sub 41 42,xM 44 2,yca 45 .sub 44,yct 46 f_185 40 43 45,xB 47 .add 35 46,xM 7 47] [xM 48 7,yb8 49,xB 50 .leq 48 49] (ybu 50 (xR [xM 51 7,ych 52,xM 53 8,xX 54 5 52 53,xF 55 4 54,xL 56 55,yb8 57,xM 58 7,xB 59 .sub 57 58,xM 60 2,yca 61 .sub 60,yct 62 f_185 56 59 61,xB 63 .add 51 62,xM 7 63])))) [xM 18 8,yca 19 .add 18,xM 8 19]
def c_185_k1:ACode:=ycu (xM 64 7) 6 64
def c_185:AFn:=⟨3,[.tmp 6],yaa [ydb] (ybj [ya8 7] [ya8 8] 0 c_185_l0 c_185_k1)⟩
def c_187:AFn:=⟨2,[.tmp 4],ybs [ycp 2 0,ycp 3 1,yc9] [xA 5 4 2,xA 6 4 3,ybg 7 f_89 5 6,xM 8 7,ybw 9 8 2 2,ybw 10 8 0 9,yb5 11 8 1 10,ybw 12 8 2 3,ybw 13 8 0 12,yb5 14 8 1 13,ybt 15 8 .eql 11 (.t 14),xV 16 8 15,xM 17 16,ybw 18 17 2 2,ybw 19 17 1 18,yb5 20 17 1 19,ybw 21 17 2 3,ybw 22 17 1 21,yb5 23 17 1 22,yc1 24 17 f_265 [.t 20,.t 23],xV 25 17 24,ydj 25]⟩
def c_190:AFn:=⟨3,[.cell 6 true 4,.tmp 7,.tmp 8],yan [ydf 3,xJ 4 1,xJ 5 2,yc5 6 (.fslice 1 []) (.fslice 1 []) (.fslice 2 []) (.fslice 1 []),ya8 7,ya8 8] [yb1 15 5,xL 16 15] (.block 0 (ybm [yca 18 .eql 16,xM 17 18] 17 [ydk 19 3,xA 20 4 4,yb9 21 5,xL 22 21,xF 23 3 5,xA 24 4 23,ycf 25 f_77 (.t 19) (.t 20) (.t 22) (.t 24),xE 26 0 25,xE 27 1 25,xE 28 2 25,xS 4 6 26,xM 7 27,xM 8 28] (yc4 (xK 30 .eql 16 2) 29 30 29 (.seq (xQ [ydk 32 3,xA 33 4 4,yb9 34 5,xL 35 34,xF 36 2 5,xL 37 36,xF 38 7 5,xA 39 2 38,yaf 40 f_78 [.t 32,.t 33,.t 35,.t 37,.t 39],xM 31 40,xE 41 0 31,xE 42 1 31,yc5 9 (.fslice 1 []) (.fslice 1 []) (.fslice 2 []) (.fslice 1 []),xS 4 9 41,xM 10 42] [9]) (yad [xA 43 4 9,xM 44 10,xS 4 6 43,ya8 7,xM 8 44])) (yc4 (xK 46 .eql 16 3) 45 46 45 (.seq (xQ [ydk 48 3,xA 49 4 4,yb9 50 5,xL 51 50,xF 52 2 5,xL 53 52,ycf 54 f_79 (.t 48) (.t 49) (.t 51) (.t 53),xM 47 54,xE 55 0 47,xE 56 1 47,yc5 11 (.fslice 1 []) (.fslice 1 []) (.fslice 2 []) (.fslice 1 []),xS 4 11 55,xM 12 56] [11]) (yad [xA 57 4 11,xM 58 12,xS 4 6 57,ya8 7,xM 8 58])) (ycc (xK 60 .eql 16 4) 59 60 (ybu 59 (.seq (xQ [ydk 62 3,xA 63 4 4,yb9 64 5,xL 65 64,xF 66 7 5,xA 67 2 66,ycf 68 f_80 (.t 62) (.t 63) (.t 65) (.t 67),xM 61 68,xE 69 0 61,xE 70 1 61,yc5 13 (.fslice 1 []) (.fslice 1 []) (.fslice 2 []) (.fslice 1 []),xS 4 13 69,xM 14 70] [13]) (yad [xA 71 4 13,xM 72 14,xS 4 6 71,ya8 7,xM 8 72])))))))) (yad [xA 73 4 4,xS 4 6 73,ya8 7,xI 8 11])⟩
def c_191_l0:ACode:=yc2 [xB 15 .lss 14 13] 15 0 1 (ya0 [xM 16 14,xX 17 5 12 14,xA 18 5 17,yax 6 [ybb,.fslice 2 [],ybb,ybb,.fslice 1 []],ydi 16,xS 5 6 18] (xD [yb9 19 6,xA 20 4 19,yb8 21,yce 22,xX 23 5 21 22,yb9 24 23,xA 25 4 24,ybg 26 f_187 20 25,ybo 27 26]) (yai 27 [yc9])) [yca 28 .add 14,xM 14 28]
def c_191_k1:ACode:=yad [xC 4 ybz]
def c_191:AFn:=⟨2,[.tmp 4],ydh [yc9] [ych 7,xN 8 7,yb8 9,xN 10 9,xB 11 .neq 8 10] 11 [yc9] [ych 12,xN 13 12,ya8 14] 0 c_191_l0 c_191_k1⟩
def c_192:AFn:=⟨2,[.tmp 4],ybs [ycp 2 0,ycp 3 1,yc9] [xA 5 2 2,xO 6 (.build [.fslice 2 [],.int .i64 0,.int .i64 0,.fslice 1 []] [(2,2,(.t 5))]),xA 7 2 3,xO 8 (.build [.fslice 2 [],.int .i64 0,.int .i64 0,.fslice 1 []] [(2,2,(.t 7))]),ybg 9 f_187 6 8,ydj 9]⟩
def c_193_l0:ACode:=yc2 [xB 32 .lss 31 30] 32 2 3 (yaa [xM 33 31,xX 34 1 29 31,xL 35 34,xM 7 33,xM 8 35] (ya2 [xM 36 8,yb8 37,yce 38,xX 39 1 37 38,xL 40 39,xM 41 7,xX 42 1 40 41,xL 43 42,xB 44 .neq 36 43] 44 [yc9])) [yca 45 .add 31,xM 31 45]
def c_193_k1:ACode:=xR [yca 46 .add 16,xM 16 46]
def c_193_l2:ACode:=ybk [xB 17 .lss 16 15] 17 0 (yaj 1 (ya3 [xM 18 16,xX 19 1 14 16,xL 20 19,ydi 18,xM 6 20] [xM 21 6,xN 22 21,yb8 23,yce 24,xX 25 1 23 24,xL 26 25,xN 27 26,xB 28 .neq 22 27] 28 [yc9] (yaa [xM 29 6,xN 30 29,ya8 31] (yam 2 c_193_l0))) c_193_k1)
def c_193_k3:ACode:=yad [xC 4 ybz]
def c_193:AFn:=⟨2,[.tmp 4],ydh [yc9] [ych 9,xN 10 9,yb8 11,xN 12 11,xB 13 .neq 10 12] 13 [yc9] [ych 14,xN 15 14,ya8 16] 0 c_193_l2 c_193_k3⟩
def c_194_l0:ACode:=ycn [xM 17 3,ych 18,xO 19 (.slen (.t 18)),xB 20 .lss 17 19] 20 0 1 (ya2 [ych 23,xM 24 3,xO 25 (.idxs (.t 23) (.t 24)),yb3 26 f_267 25,ybo 27 26,xM 28 27,ybn 29 28 0,ybn 30 28 3,yas 31 28 (.idxs (.t 29) (.t 30)),yc1 32 28 f_268 [.t 31],yas 33 28 (ya7 32),xV 34 28 33,xM 35 34,ybn 36 35 0,ybn 37 35 3,yas 38 35 (.idxs (.t 36) (.t 37)),ybt 39 35 .neq 38 (.c (.int .u8 95)),xV 40 35 39] 40 [ybd 2]) [xM 21 3,yca 22 .add 21,xM 3 22]
def c_194_k1:ACode:=yad [xC 2 ybz]
def c_194:AFn:=⟨1,[.tmp 2],ydh [ybd 2] [ych 4,xO 5 (yar .eql 4 (.c (.str []))),yce 6,ya4 7 6 0,yac 8 6 (.slen (.t 7)),ybl 9 6 .gtr 8 16,xW 10 6 9,xM 11 10,ya4 12 11 0,yac 13 11 (.idxs (.t 12) (yao 0)),ycw 14 11 f_267 [.t 13],yde 15 11 14,xW 16 11 15] 16 [ybd 2] [ya8 3] 0 c_194_l0 c_194_k1⟩
def c_195:AFn:=⟨4,[.cell 8 true 4],ybs [yc5 8 ybb ybb ybb ybb] [ych 9,yb8 10,xM 11 2,xM 12 3,xO 13 (.build [.int .i64 0,.int .i64 0,.int .i64 0,.int .i64 0] [(0,1,(.t 9)),(1,1,(.t 10)),(2,1,(.t 11)),(3,1,(.t 12))]),xS 4 8 13]⟩
def c_196_l0:ACode:=yba [xM 23 4,yb9 24 1,xL 25 24,xN 26 25,xB 27 .lss 23 26] 27 1 (ycv 2 [yb9 30 1,xL 31 30,xM 32 4,xX 33 2 31 32,xA 34 2 33,yax 5 [.str [],ybb],xS 2 5 34] [5] (yaa [xA 36 2 1,yb1 37 5,xL 38 37,ybg 39 f_269 36 38,xM 35 39,xE 40 0 35,xE 41 1 35,xM 6 40,xM 7 41] (ya1 3 (ybm [yb1 43 5,xL 44 43,yb3 45 f_194 44,ybo 46 45,xM 42 46] 42 [xI 2 6] (ybm [yb9 48 5,xL 49 48,yca 50 .lss 49,xM 51 50,yda 52 51 5,ybr 53 51 52,ybl 54 51 .gtr 53 32,xW 55 51 54,xM 47 55] 47 [xI 2 10] (ya2 [xM 57 6,xM 58 4,xB 59 .lss 57 58,xM 56 59] 56 [xI 2 7]))) [xM 60 3,yb9 61 5,xL 62 61,xB 63 .add 60 62,xM 3 63])) [xM 28 4,yca 29 .add 28,ydj 29])
def c_196_k1:ACode:=ydg [xM 64 3,xK 65 .rem 64 8,yc7 66 .neq 65] 66 [xI 2 10] [ya8 2]
def c_196:AFn:=⟨1,[.tmp 2],ycb (ydf 1) (ya8 2) (ycz 0 [yb1 9 1,xL 10 9,yb3 11 f_194 10,ybo 12 11,xM 8 12] 8 [xI 2 6] (ybm [yb9 14 1,xL 15 14,xN 16 15,yc7 17 .eql 16,xM 13 17] 13 [xI 2 8] (ya2 [yb9 19 1,xL 20 19,xN 21 20,xK 22 .gtr 21 12,xM 18 22] 18 [xI 2 12])) (ybj [ya8 3] [yby] 1 c_196_l0 c_196_k1))⟩
def c_197_l0:ACode:=yc8 [yce 27,yb8 28,xB 29 .lss 27 28] 29 0 1 (xD [ych 32,yce 33,xX 34 2 32 33,yb1 35 34,xL 36 35,ych 37,yb8 38,xX 39 2 37 38,yb1 40 39,xL 41 40,xB 42 .eql 36 41]) (yai 42 [xI 4 7]) [yce 30,yca 31 .add 30,ydi 31]
def c_197_k1:ACode:=yad [yby]
def c_197:AFn:=⟨2,[.tmp 4],ya3 [yby] [ych 6,yb8 7,xX 8 2 6 7,yb1 9 8,xL 10 9,yb3 11 f_194 10,ybo 12 11] 12 [xI 4 6] (ybh [ych 13,yb8 14,xX 15 2 13 14,yb9 16 15,xL 17 16,yca 18 .lss 17,xM 19 18,ya4 20 19 0,ya4 21 19 1,yac 22 19 (ydc 2 20 21),yda 23 19 22,ybr 24 19 23,ybl 25 19 .gtr 24 32,xW 26 19 25] 26 [xI 4 10] (ybq [yc3] 0 c_197_l0 c_197_k1))⟩
def c_198:AFn:=⟨1,[.tmp 2],ya3 [ydf 1,ya8 2] [yb1 3 1,xL 4 3,yb3 5 f_194 4,ybo 6 5] 6 [xI 2 6] (ybh [yb9 7 1,xL 8 7,yca 9 .lss 8,xM 10 9,yda 11 10 1,ybr 12 10 11,ybl 13 10 .gtr 12 32,xW 14 10 13] 14 [xI 2 10] (ydg [xF 15 2 1,xL 16 15,yca 17 .lss 16,xM 18 17,yaw 19 18 2 1,ybr 20 18 19,ybl 21 18 .gtr 20 64,xW 22 18 21] 22 [xI 2 9] [ya8 2]))⟩
def c_199_l0:ACode:=yc8 [xM 47 7,xF 48 2 6,xL 49 48,xN 50 49,xB 51 .lss 47 50] 51 1 2 (xD [ydk 54 2,xF 55 2 6,xL 56 55,xM 57 7,xX 58 7 56 57,xA 59 7 58,ydk 60 2,yb8 61,ybg 62 f_272 60 61,yct 63 f_271 54 59 62,xM 8 63]) (ya2 [xM 64 8,yc7 65 .neq 64] 65 [xM 66 7,xM 67 8,ydj 66,ydi 67]) [xM 52 7,yca 53 .add 52,xM 7 53]
def c_199_k1:ACode:=yb6 yby yc3
def c_199:AFn:=⟨2,[.tmp 4,.tmp 5],ya3 [ydf 2,yby,yc3] [yb8 9,yc7 10 .lss 9,xM 11 10,ya4 12 11 1,yaw 13 11 4 2,ybr 14 11 13,ybc 15 11 14,ybx 16 11 .geq 12 15,xW 17 11 16] 17 [yb4 4,xI 5 8] (.seq (xQ [xF 18 4 2,xL 19 18,yb8 20,xX 21 3 19 20,xA 22 3 21,yax 6 [.str [],.fslice 2 [],.fslice 7 []],xS 3 6 22] [6]) (ycz 0 [yb1 24 6,xL 25 24,yb3 26 f_194 25,ybo 27 26,xM 23 27] 23 [yb4 4,xI 5 6] (ybm [yb9 29 6,xL 30 29,xN 31 30,xK 32 .gtr 31 4,xM 33 32,yaw 34 33 2 6,ybr 35 33 34,ybc 36 33 35,ybl 37 33 .gtr 36 12,xW 38 33 37,xM 28 38] 28 [yb4 4,xI 5 12] (ya2 [yb9 40 6,xL 41 40,yb3 42 f_270 41,yc7 43 .neq 42,xM 39 43] 39 [yb9 44 6,xL 45 44,yb3 46 f_270 45,yb4 4,ydi 46])) (ybq [ya8 7] 1 c_199_l0 c_199_k1)))⟩
def c_200:AFn:=⟨2,[.tmp 4,.tmp 5],ya3 [ydf 2,yby,yc3] [yb8 9,yc7 10 .lss 9,xM 11 10,ya4 12 11 1,yaw 13 11 5 2,ybr 14 11 13,ybc 15 11 14,ybx 16 11 .geq 12 15,xW 17 11 16] 17 [yb4 4,xI 5 8] (.seq (xQ [xF 18 5 2,xL 19 18,yb8 20,xX 21 6 19 20,xA 22 6 21,yax 6 [.str [],.fslice 3 [],.fslice 1 [],ybb,.fslice 1 [],ybb],xS 6 6 22] [6]) (ycz 0 [yb1 24 6,xL 25 24,yb3 26 f_194 25,ybo 27 26,xM 23 27] 23 [yb4 4,xI 5 6] (ybm [yb9 29 6,xL 30 29,xN 31 30,xK 32 .gtr 31 6,xM 33 32,yaw 34 33 2 6,ybr 35 33 34,ybc 36 33 35,ybl 37 33 .gtr 36 16,xW 38 33 37,xM 28 38] 28 [yb4 4,xI 5 12] (ya2 [xF 40 5 6,xL 41 40,yca 42 .lss 41,xM 43 42,yaw 44 43 5 6,ybr 45 43 44,ybl 46 43 .gtr 45 256,xW 47 43 46,xM 39 47] 39 [yb4 4,xI 5 9])) (ya3 [ydk 49 2,xA 50 6 6,ybg 51 f_273 49 50,xM 48 51,xE 52 0 48,xE 53 1 48,xM 7 52,xM 8 53] [xM 54 8,yc7 55 .neq 54] 55 [xM 56 7,xM 57 8,ydj 56,ydi 57] (ya3 [ydk 58 2,xA 59 6 6,ybg 60 f_274 58 59,xM 8 60] [xM 61 8,yc7 62 .neq 61] 62 [xM 63 8,xI 4 (-3),ydi 63] (yb6 yby yc3)))))⟩
def c_201_l0:ACode:=ycn [yce 16,xF 17 6 1,xL 18 17,xN 19 18,xB 20 .lss 16 19] 20 0 1 (yaa [ydk 24 1,yce 25,ybg 26 f_275 24 25,xM 23 26,xE 27 0 23,xE 28 1 23,xM 6 27,xM 7 28] (ya2 [xM 29 7,yc7 30 .neq 29] 30 [yce 31,xM 32 6,xM 33 7,xM 2 31,xM 3 32,ydj 33])) [yce 21,yca 22 .add 21,ydi 22]
def c_201_k1:ACode:=yad [ya8 2,ya8 3,yby]
def c_201:AFn:=⟨1,[.tmp 2,.tmp 3,.tmp 4],ya3 [ydf 1,ya8 2,ya8 3,yby] [xF 8 6 1,xL 9 8,xN 10 9,yc7 11 .eql 10] 11 [yb4 2,yb4 3,xI 4 8] (ybh [xF 12 6 1,xL 13 12,xN 14 13,xK 15 .gtr 14 12] 15 [yb4 2,yb4 3,xI 4 12] (ybq [yc3] 0 c_201_l0 c_201_k1))⟩
def c_202_l0:ACode:=ycn [yce 20,xM 21 4,xN 22 21,xB 23 .lss 20 22] 23 1 2 (yaa [ydk 26 1,xM 27 4,yce 28,yct 29 f_279 26 27 28,xM 6 29] (ya2 [xM 30 6,yc7 31 .neq 30] 31 [yce 32,xM 33 6,xM 2 32,xM 3 33])) [yce 24,yca 25 .add 24,ydi 25]
def c_202_k1:ACode:=yb6 (ya8 2) (ya8 3)
def c_202:AFn:=⟨1,[.tmp 2,.tmp 3],yaa [ydf 1,ya8 2,ya8 3] (ycz 0 [xF 8 7 1,xL 9 8,yb3 10 f_276 9,xK 11 .gtr 10 24,xM 7 11] 7 [yb4 2,xI 3 12] (ya2 [xF 13 7 1,xL 14 13,yb3 15 f_277 14,xK 16 .gtr 15 6,xM 12 16] 12 [yb4 2,xI 3 14]) (ybj [xF 17 7 1,xL 18 17,yb3 19 f_278 18,ydj 19] [yc3] 1 c_202_l0 c_202_k1))⟩
def c_203_l0:ACode:=yc8 [yce 35,xM 36 4,xB 37 .lss 35 36] 37 2 3 (xD [xF 40 8 1,xL 41 40,yce 42,xX 43 1 41 42,xL 44 43,xF 45 8 1,xL 46 45,xM 47 4,xX 48 1 46 47,xL 49 48,xB 50 .eql 44 49]) (yai 50 [xM 51 4,xM 2 51,xI 3 7]) [yce 38,yca 39 .add 38,ydi 39]
def c_203_k1:ACode:=xR [xM 15 4,yca 16 .add 15,ydj 16]
def c_203_l2:ACode:=yba [xM 10 4,xF 11 8 1,xL 12 11,xN 13 12,xB 14 .lss 10 13] 14 0 (yaj 1 (.seq (yci [xF 17 8 1,xL 18 17,xM 19 4,xX 20 1 18 19,xL 21 20,yc7 22 .lss 21,xM 23 22,yaw 24 23 8 1,ybr 25 23 24,ya4 26 23 4,yac 27 23 (ydc 1 25 26),ybr 28 23 27,yda 29 23 1,ybr 30 23 29,ybc 31 23 30,ybx 32 23 .geq 28 31,xW 33 23 32] (yai 33 [xM 34 4,xM 2 34,xI 3 8])) (yaa [yc3] (yam 2 c_203_l0))) c_203_k1)
def c_203_k3:ACode:=yb6 (ya8 2) (ya8 3)
def c_203:AFn:=⟨1,[.tmp 2,.tmp 3],ydh [ydf 1,ya8 2,ya8 3] [xF 6 8 1,xL 7 6,xN 8 7,xK 9 .gtr 8 8] 9 [yb4 2,xI 3 12] [yby] 0 c_203_l2 c_203_k3⟩
def c_212_l0:ACode:=ycy [xB 11 .lss 10 9] 11 0 1 [xX 12 2 8 10,xA 13 2 12,yax 7 [.str [],.fslice 2 []],xS 2 7 13] [7] (xR [yce 14,yb8 15,xA 16 2 7,xO 17 (ydd 15 [.t 16]),xO 18 (.bslice .imm 2 (List.replicate 1 [.str [],.fslice 2 []]) [(0,(.t 17))]),ycx 19 2 40 14 18,ydi 19]) [yca 20 .add 10,xM 10 20]
def c_212_k1:ACode:=ycu (yce 21) 4 21
def c_212:AFn:=⟨2,[.tmp 4],yaa [xC 4 (.fslice 2 [])] (ybj [ycd 5 2] [ych 8,xN 9 8,ya8 10] 0 c_212_l0 c_212_k1)⟩
def c_213:AFn:=⟨1,[.cell 2 true 2],ycb (ycp 1 0) (yax 2 [.str [],.fslice 2 []]) (ybs [yb9 3 1,xL 4 3,yb3 5 f_214 4,yb9 6 1,xS 1 6 5] [xA 7 2 1,xS 2 2 7])⟩
def c_216_l0:ACode:=ycy [xB 11 .lss 10 9] 11 0 1 [xX 12 3 8 10,xA 13 3 12,yax 7 [.str [],.fslice 2 [],.fslice 7 []],xS 3 7 13] [7] (xR [yce 14,yb8 15,xA 16 3 7,xO 17 (ydd 15 [.t 16]),xO 18 (.bslice .imm 3 (List.replicate 1 [.str [],.fslice 2 [],.fslice 7 []]) [(0,(.t 17))]),ycx 19 3 64 14 18,ydi 19]) [yca 20 .add 10,xM 10 20]
def c_216_k1:ACode:=ycu (yce 21) 4 21
def c_216:AFn:=⟨2,[.tmp 4],yaa [xC 4 (.fslice 3 [])] (ybj [ycd 5 3] [ych 8,xN 9 8,ya8 10] 0 c_216_l0 c_216_k1)⟩
def c_217:AFn:=⟨1,[.cell 2 true 3],ya0 [ycp 1 0,yax 2 [.str [],.fslice 2 [],.fslice 7 []]] (xD [yb9 3 1,xL 4 3,yb3 5 f_214 4,xF 6 2 1,xL 7 6,ybf 8 f_287 7 (.c (.func (.func f_288) [] [])),yb9 9 1,xS 1 9 5,xF 10 2 1,xS 1 10 8]) (yb6 (xA 11 3 1) (xS 3 2 11))⟩
def c_218_l0:ACode:=ycy [xB 11 .lss 10 9] 11 0 1 [xX 12 6 8 10,xA 13 6 12,yax 7 [.str [],.fslice 3 [],.fslice 1 [],ybb,.fslice 1 [],ybb],xS 6 7 13] [7] (xR [yce 14,yb8 15,xA 16 6 7,xO 17 (ydd 15 [.t 16]),xO 18 (.bslice .imm 6 (List.replicate 1 [.str [],.fslice 3 [],.fslice 1 [],.int .i64 0,.fslice 1 [],.int .i64 0]) [(0,(.t 17))]),ycx 19 6 104 14 18,ydi 19]) [yca 20 .add 10,xM 10 20]
def c_218_k1:ACode:=ycu (yce 21) 4 21
def c_218:AFn:=⟨2,[.tmp 4],yaa [xC 4 (.fslice 6 [])] (ybj [ycd 5 6] [ych 8,xN 9 8,ya8 10] 0 c_218_l0 c_218_k1)⟩
def c_219:AFn:=⟨1,[.cell 2 true 6],ya0 [ycp 1 0,yax 2 [.str [],.fslice 3 [],.fslice 1 [],ybb,.fslice 1 [],ybb]] (xD [yb9 3 1,xL 4 3,yb3 5 f_289 4,xF 6 2 1,xL 7 6,yb3 8 f_162 7,xF 9 3 1,yb9 10 9,xL 11 10,yb3 12 f_161 11,yb9 13 1,xS 1 13 5,xF 14 2 1,xS 1 14 8,xF 15 3 1,yb9 16 15,xS 1 16 12]) (yb6 (xA 17 6 1) (xS 6 2 17))⟩
def c_220_l0:ACode:=ycy [xB 11 .lss 10 9] 11 0 1 [xX 12 7 8 10,xA 13 7 12,yax 7 [.str [],.fslice 1 [],yap,ybb,ybb,.fslice 3 [],ybb],xS 7 7 13] [7] (xR [yce 14,yb8 15,xA 16 7 7,xO 17 (ydd 15 [.t 16]),xO 18 (.bslice .imm 7 (List.replicate 1 [.str [],.fslice 1 [],.bool false,.int .i64 0,.int .i64 0,.fslice 3 [],.int .i64 0]) [(0,(.t 17))]),ycx 19 7 96 14 18,ydi 19]) [yca 20 .add 10,xM 10 20]
def c_220_k1:ACode:=ycu (yce 21) 4 21
def c_220:AFn:=⟨2,[.tmp 4],yaa [xC 4 (.fslice 7 [])] (ybj [ycd 5 7] [ych 8,xN 9 8,ya8 10] 0 c_220_l0 c_220_k1)⟩
def c_221:AFn:=⟨1,[.cell 2 true 7],ya0 [ycp 1 0,yax 2 [.str [],.fslice 1 [],yap,ybb,ybb,.fslice 3 [],ybb]] (xD [yb9 3 1,xL 4 3,yb3 5 f_162 4,xF 6 5 1,xL 7 6,yb3 8 f_290 7,yb9 9 1,xS 1 9 5,xF 10 5 1,xS 1 10 8]) (yb6 (xA 11 7 1) (xS 7 2 11))⟩
def c_222_l0:ACode:=ycy [xB 11 .lss 10 9] 11 0 1 [xX 12 5 8 10,xA 13 5 12,yax 7 [ybb,ybb,.fslice 3 [],.fslice 5 [],.fslice 5 []],xS 5 7 13] [7] (xR [yce 14,yb8 15,xA 16 5 7,xO 17 (ydd 15 [.t 16]),xO 18 (.bslice .imm 5 (List.replicate 1 [.int .i64 0,.int .i64 0,.fslice 3 [],.fslice 5 [],.fslice 5 []]) [(0,(.t 17))]),ycx 19 5 88 14 18,ydi 19]) [yca 20 .add 10,xM 10 20]
def c_222_k1:ACode:=ycu (yce 21) 4 21
def c_222:AFn:=⟨2,[.tmp 4],yaa [xC 4 (.fslice 5 [])] (ybj [ycd 5 5] [ych 8,xN 9 8,ya8 10] 0 c_222_l0 c_222_k1)⟩
def c_223:AFn:=⟨1,[.cell 2 true 5],ya0 [ycp 1 0,yax 2 [ybb,ybb,.fslice 3 [],.fslice 5 [],.fslice 5 []]] (xD [xF 3 2 1,xL 4 3,yb3 5 f_291 4,xF 6 3 1,xL 7 6,ybf 8 f_222 7 (.c (.func (.func f_223) [] [])),xF 9 4 1,xL 10 9,ybf 11 f_222 10 (.c (.func (.func f_223) [] [])),xF 12 2 1,xS 1 12 5,xF 13 3 1,xS 1 13 8,xF 14 4 1,xS 1 14 11]) (yb6 (xA 15 5 1) (xS 5 2 15))⟩
def c_227:AFn:=⟨4,[],ycb (ych 8) (yc7 9 .neq 8) (ybu 9 (xR [ych 10,yb8 11,xM 12 2,xM 13 3,xO 14 (.build [.int .i64 0,.int .i64 0,.int .i64 0,.int .i64 0] [(0,1,(.t 10)),(1,1,(.t 11)),(2,1,(.t 12)),(3,1,(.t 13))]),xO 15 (.build [.int .i64 0,.int .i64 0,.int .i64 0,.int .i64 0] [(0,4,(.t 14))]),xO 16 (.mkiface 207 (.t 15)),⟨none,none,.panic (.t 16)⟩]))⟩
def c_228:AFn:=⟨2,[.tmp 4],ya3 [yby] [ych 5] 5 [yb8 6,ydj 6] (yad [yby])⟩
def c_229:AFn:=⟨1,[.tmp 2],ybs [ybd 2] [ych 3,yb3 4 f_257 3,ybo 5 4,yce 2]⟩
def c_230_l0:ACode:=ycy [xB 11 .lss 10 9] 11 0 1 [xX 12 2 8 10,xA 13 2 12,yax 7 [.str [],.fslice 2 []],xS 2 7 13] [7] (xR [yce 14,yb8 15,xA 16 2 7,xO 17 (ydd 15 [.t 16]),xO 18 (.bslice .imm 1 (List.replicate 1 [.str []]) [(0,(.t 17))]),ycx 19 1 16 14 18,ydi 19]) [yca 20 .add 10,xM 10 20]
def c_230_k1:ACode:=ycu (yce 21) 4 21
def c_230:AFn:=⟨2,[.tmp 4],yaa [xC 4 (.fslice 1 [])] (ybj [ycd 5 1] [ych 8,xN 9 8,ya8 10] 0 c_230_l0 c_230_k1)⟩
def c_231:AFn:=⟨1,[.tmp 2],ybs [ydf 1,xC 2 (.str [])] [yb1 3 1,xL 4 3,xM 2 4]⟩
def c_232_l0:ACode:=yc2 [xB 48 .lss 47 46] 48 3 4 (yb0 [xX 49 2 45 47,xA 50 2 49,yax 6 [.str [],ybb],xS 2 6 50] [yb9 51 4,xL 52 51,yb9 53 6,xS 1 53 52] (ya2 [xA 54 2 6,xA 55 2 4,xO 56 (.eqs false true [.s,.i] (.t 54) (.t 55))] 56 [xI 2 7])) [yca 57 .add 47,xM 47 57]
def c_232_k1:ACode:=xR [yca 58 .add 25,xM 25 58]
def c_232_l2:ACode:=ybk [xB 26 .lss 25 24] 26 1 (yaj 2 (.seq (xQ [xM 27 25,xX 28 2 23 25,xA 29 2 28,yax 4 [.str [],ybb],xM 3 27,xS 2 4 29] [4]) (ybh [yb1 30 4,xL 31 30,yb3 32 f_257 31,ybo 33 32] 33 [xI 2 6] (ybh [yb9 34 4,xL 35 34,yca 36 .lss 35,xM 37 36,yda 38 37 4,ybr 39 37 38,ybl 40 37 .gtr 39 32,xW 41 37 40] 41 [xI 2 10] (yaa [yb9 42 1,xL 43 42,xM 44 3,xO 45 (.slc 2 (.t 43) none (some (.t 44)) none),xN 46 45,ya8 47] (yam 3 c_232_l0))))) c_232_k1)
def c_232_k3:ACode:=ydg [xA 59 2 1,yb3 60 f_294 59,yb3 61 f_293 60,xK 62 .rem 61 8,yc7 63 .neq 62] 63 [xI 2 10] [ya8 2]
def c_232:AFn:=⟨1,[.tmp 2],ycb (ydf 1) (ya8 2) (ycz 0 [yb1 8 1,xL 9 8,yb3 10 f_257 9,ybo 11 10,xM 7 11] 7 [xI 2 6] (ybm [yb9 13 1,xL 14 13,xN 15 14,yc7 16 .eql 15,xM 12 16] 12 [xI 2 8] (ya2 [yb9 18 1,xL 19 18,xN 20 19,xK 21 .gtr 20 12,xM 17 21] 17 [xI 2 12])) (ybq [yb9 22 1,xL 23 22,xN 24 23,ya8 25] 1 c_232_l2 c_232_k3))⟩
def c_233:AFn:=⟨2,[.tmp 4],ya0 [yc9] (xD [ych 5,yb8 6,xO 7 (.slc 1 (.t 5) none (some (.t 6)) none),ych 8,yb8 9,xX 10 1 8 9,xL 11 10,ybg 12 f_295 7 11,ydj 12]) .ret⟩
def c_234_l0:ACode:=ycy [xB 11 .lss 10 9] 11 0 1 [xX 12 2 8 10,xA 13 2 12,yax 7 [.str [],ybb],xS 2 7 13] [7] (xR [yce 14,yb8 15,xA 16 2 7,xO 17 (ydd 15 [.t 16]),xO 18 (.bslice .imm 1 (List.replicate 1 [.str []]) [(0,(.t 17))]),ycx 19 1 16 14 18,ydi 19]) [yca 20 .add 10,xM 10 20]
def c_234_k1:ACode:=ycu (yce 21) 4 21
def c_234:AFn:=⟨2,[.tmp 4],yaa [xC 4 (.fslice 1 [])] (ybj [ycd 5 1] [ych 8,xN 9 8,ya8 10] 0 c_234_l0 c_234_k1)⟩
def c_235:AFn:=⟨1,[.tmp 2],ybs [ydf 1,xC 2 (.str [])] [yb1 3 1,xL 4 3,xM 2 4]⟩
def c_236:AFn:=⟨1,[.tmp 2],ybs [ybd 2] [ych 3,yca 4 .lss 3,ydi 4,ya4 6 5 0,ybl 7 5 .gtr 6 32,xW 8 5 7,xM 2 8]⟩
def c_237_l0:ACode:=ycy [xB 11 .lss 10 9] 11 0 1 [xX 12 3 8 10,xA 13 3 12,yax 7 [.str [],ybb,ybb],xS 3 7 13] [7] (xR [yce 14,yb8 15,xA 16 3 7,xO 17 (ydd 15 [.t 16]),xO 18 (.bslice .imm 1 (List.replicate 1 [.str []]) [(0,(.t 17))]),ycx 19 1 16 14 18,ydi 19]) [yca 20 .add 10,xM 10 20]
def c_237_k1:ACode:=ycu (yce 21) 4 21
def c_237:AFn:=⟨2,[.tmp 4],yaa [xC 4 (.fslice 1 [])] (ybj [ycd 5 1] [ych 8,xN 9 8,ya8 10] 0 c_237_l0 c_237_k1)⟩
def c_238:AFn:=⟨1,[.tmp 2],ybs [ydf 1,xC 2 (.str [])] [yb1 3 1,xL 4 3,xM 2 4]⟩
def c_239:AFn:=⟨1,[.tmp 2],ycb (ydf 1) (ya8 2) (ycz 0 [yb1 4 1,xL 5 4,yb3 6 f_257 5,ybo 7 6,xM 3 7] 3 [xI 2 6] (ybm [yb9 9 1,xL 10 9,yb3 11 f_152 10,xO 12 (yar .eql 11 (.c (yc6 0))),xM 8 12] 8 [xI 2 10] (ya2 [xA 14 3 1,yb3 15 f_160 14,ybo 16 15,xM 13 16] 13 [xI 2 9])) (yad [ya8 2]))⟩
def c_240_l0:ACode:=ycy [xB 11 .lss 10 9] 11 0 1 [xX 12 3 8 10,xA 13 3 12,yax 7 [.str [],.fslice 2 [],.fslice 7 []],xS 3 7 13] [7] (xR [yce 14,yb8 15,xA 16 3 7,xO 17 (ydd 15 [.t 16]),xO 18 (.bslice .imm 1 (List.replicate 1 [.str []]) [(0,(.t 17))]),ycx 19 1 16 14 18,ydi 19]) [yca 20 .add 10,xM 10 20]
def c_240_k1:ACode:=ycu (yce 21) 4 21
def c_240:AFn:=⟨2,[.tmp 4],yaa [xC 4 (.fslice 1 [])] (ybj [ycd 5 1] [ych 8,xN 9 8,ya8 10] 0 c_240_l0 c_240_k1)⟩
def c_241:AFn:=⟨1,[.tmp 2],ybs [ydf 1,xC 2 (.str [])] [yb1 3 1,xL 4 3,xM 2 4]⟩
def c_242_l0:ACode:=ycy [xB 38 .lss 37 36] 38 0 1 [xM 39 37,xX 40 7 35 37,xA 41 7 40,yax 9 [ybb,ybb,ybb,ybb,ybb,.fslice 3 [],.fslice 3 []],xM 8 39,xS 7 9 41] [9] (yaa [xA 42 10 7,xA 43 7 9,ybg 44 f_297 42 43,ydi 44] (ya2 [yce 45,yc7 46 .neq 45] 46 [xM 47 8,yce 48,ydj 47,ydi 48])) [yca 49 .add 37,xM 37 49]
def c_242_k1:ACode:=yb6 yby yc3
def c_242:AFn:=⟨2,[.tmp 4,.tmp 5],ya3 [ydf 2,yby,yc3] [yb8 10,yc7 11 .lss 10,xM 12 11,ya4 13 12 1,yaw 14 12 4 2,ybr 15 12 14,ybc 16 12 15,ybx 17 12 .geq 13 16,xW 18 12 17] 18 [yb4 4,xI 5 8] (.seq (xQ [xF 19 4 2,xL 20 19,yb8 21,xX 22 3 20 21,xA 23 3 22,yax 6 [.str [],.fslice 2 [],.fslice 7 []],xS 3 6 23] [6]) (yae [xA 24 3 6,yb3 25 f_296 24,ydi 25] (ya2 [yce 26,yc7 27 .neq 26] 27 [yce 28,yb4 4,ydi 28]) (.seq (xQ [ydk 29 2,yb9 30 6,xL 31 30,xO 32 (.build [.str [],.fslice 2 [],.fslice 2 [],.fslice 3 [],.fslice 3 [],.fslice 6 [],.fslice 7 [],.fslice 5 [],.fslice 1 [],.fslice 2 []] [(0,9,(.t 29)),(9,1,(.t 31))]),xO 33 (.build [.str [],.fslice 2 [],.fslice 2 [],.fslice 3 [],.fslice 3 [],.fslice 6 [],.fslice 7 [],.fslice 5 [],.fslice 1 [],.fslice 2 []] [(0,10,(.t 32))]),yax 7 [.str [],.fslice 2 [],.fslice 2 [],.fslice 3 [],.fslice 3 [],.fslice 6 [],.fslice 7 [],.fslice 5 [],.fslice 1 [],.fslice 2 []],xS 10 7 33] [7]) (ybq [xF 34 2 6,xL 35 34,xN 36 35,ya8 37] 0 c_242_l0 c_242_k1))))⟩
def c_243_l0:ACode:=ycy [xB 11 .lss 10 9] 11 0 1 [xX 12 6 8 10,xA 13 6 12,yax 7 [.str [],.fslice 3 [],.fslice 1 [],ybb,.fslice 1 [],ybb],xS 6 7 13] [7] (xR [yce 14,yb8 15,xA 16 6 7,xO 17 (ydd 15 [.t 16]),xO 18 (.bslice .imm 1 (List.replicate 1 [.str []]) [(0,(.t 17))]),ycx 19 1 16 14 18,ydi 19]) [yca 20 .add 10,xM 10 20]
def c_243_k1:ACode:=ycu (yce 21) 4 21
def c_243:AFn:=⟨2,[.tmp 4],yaa [xC 4 (.fslice 1 [])] (ybj [ycd 5 1] [ych 8,xN 9 8,ya8 10] 0 c_243_l0 c_243_k1)⟩
def c_244:AFn:=⟨1,[.tmp 2],ybs [ydf 1,xC 2 (.str [])] [yb1 3 1,xL 4 3,xM 2 4]⟩
def c_245_l0:ACode:=ycy [xB 25 .lss 24 23] 25 1 2 [xM 26 24,xX 27 7 22 24,xA 28 7 27,yax 7 [.str [],.fslice 1 [],yap,ybb,ybb,.fslice 3 [],ybb],xM 6 26,xS 7 7 28] [7] (ycz 3 [yb1 30 7,xL 31 30,yb3 32 f_257 31,ybo 33 32,xM 29 33] 29 [xM 34 6,xM 2 34,yb4 3,xI 4 6] (ya2 [yce 36,yb1 37 7,xL 38 37,xO 39 (.lookup .s (.bool false) false (.t 36) (.t 38)),xM 35 39] 35 [xM 40 6,xM 2 40,yb4 3,xI 4 7]) (yb0 [yce 41,yb1 42 7,xL 43 42,⟨none,none,.update .s (.t 41) (.t 43) (.c (.bool true))⟩] [ydk 45 1,xM 46 6,ybg 47 f_298 45 46,xM 44 47,xE 48 0 44,xE 49 1 44,xM 8 48,xM 9 49] (ya2 [xM 50 9,yc7 51 .neq 50] 51 [xM 52 6,xM 53 8,xM 54 9,xM 2 52,xM 3 53,ydj 54]))) [yca 55 .add 24,xM 24 55]
def c_245_k1:ACode:=yad [ya8 2,ya8 3,yby]
def c_245:AFn:=⟨1,[.tmp 2,.tmp 3,.tmp 4],yaa [ydf 1,ya8 2,ya8 3,yby] (ycz 0 [xF 11 6 1,xL 12 11,xN 13 12,yc7 14 .eql 13,xM 10 14] 10 [yb4 2,yb4 3,xI 4 8] (ya2 [xF 16 6 1,xL 17 16,xN 18 17,xK 19 .gtr 18 12,xM 15 19] 15 [yb4 2,yb4 3,xI 4 12]) (ybj [xO 20 .mkmap,ydi 20] [xF 21 6 1,xL 22 21,xN 23 22,ya8 24] 1 c_245_l0 c_245_k1))⟩
def c_246:AFn:=⟨1,[.tmp 2,.cell 3 false 1],ya3 [ydf 1,ya8 2,yax 3 [ybb]] [xF 6 7 1,xL 7 6,yb3 8 f_299 7,xK 9 .gtr 8 24] 9 [yb4 2,⟨none,none,.store 1 (.t 3) (.c (.int .i64 12))⟩] (ybh [xF 10 7 1,xL 11 10,yb3 12 f_300 11,xK 13 .gtr 12 6] 13 [yb4 2,⟨none,none,.store 1 (.t 3) (.c (.int .i64 14))⟩] (yb0 [yax 4 [ybb],⟨none,none,.store 1 (.t 4) (.c (.int .i64 0))⟩] [yax 5 [.fslice 1 []]] (yan [xF 14 7 1,xL 15 14,xO 16 (.mkfunc (.func f_302) [] [.t 1,.t 5,.t 3,.t 4]),yck 17 f_301 [.t 15,.t 16]] [xL 18 3,yc7 19 .neq 18] (ybu 19 (yci [xL 20 4,xL 21 3,xM 2 20,xS 1 3 21] .ret)) (yb6 (ya8 2) ⟨none,none,.store 1 (.t 3) (.c (.int .i64 0))⟩))))⟩
def c_247_l0:ACode:=yc2 [xB 14 .lss 13 12] 14 0 1 (yaa [xM 15 13,xX 16 1 11 13,xL 17 16,ydj 15,ydi 17] (.block 2 (ybm [yce 19,yc7 20 .lss 19,xM 21 20,ya4 22 21 5,yda 23 21 1,ybr 24 21 23,ybc 25 21 24,ybx 26 21 .geq 22 25,xW 27 21 26,xM 18 27] 18 [xM 28 4,xM 2 28,xI 3 8] (ya2 [xF 30 8 1,xL 31 30,xM 32 4,xO 33 (.slc 1 (.t 31) none (some (.t 32)) none),yce 34,ybg 35 f_305 33 34,xM 29 35] 29 [xM 36 4,xM 2 36,xI 3 7])))) [yca 37 .add 13,xM 13 37]
def c_247_k1:ACode:=yb6 (ya8 2) (ya8 3)
def c_247:AFn:=⟨1,[.tmp 2,.tmp 3],ydh [ydf 1,ya8 2,ya8 3] [xF 6 8 1,xL 7 6,xN 8 7,xK 9 .gtr 8 8] 9 [yb4 2,xI 3 12] [xF 10 8 1,xL 11 10,xN 12 11,ya8 13] 0 c_247_l0 c_247_k1⟩
def c_248_l0:ACode:=yc2 [xB 8 .lss 7 6] 8 0 1 (yaa [xX 9 1 5 7,xL 10 9,ydj 10] (ya2 [xM 11 4,yca 12 .lss 11,xM 13 12,ya4 14 13 4,ybl 15 13 .gtr 14 32,xW 16 13 15] 16 [ybd 2])) [yca 17 .add 7,xM 7 17]
def c_248_k1:ACode:=yad [xC 2 ybz]
def c_248:AFn:=⟨1,[.tmp 2],ybj [ybd 2] [ych 5,xN 6 5,ya8 7] 0 c_248_l0 c_248_k1⟩
def c_249_l0:ACode:=ycn [xM 11 6,xF 12 5 2,xL 13 12,yb8 14,xX 15 6 13 14,yb9 16 15,xL 17 16,xN 18 17,xB 19 .lss 11 18] 19 0 1 (xD [yce 22,ydk 23 2,xF 24 5 2,xL 25 24,yb8 26,xX 27 6 25 26,yb9 28 27,xL 29 28,xM 30 6,xX 31 3 29 30,yb1 32 31,xA 33 2 32,ybg 34 f_306 23 33,xO 35 (.bslice .imm 1 (List.replicate 1 [.int .i64 0]) [(0,(.t 34))]),ycx 36 1 8 22 35,ydi 36]) [xM 20 6,yca 21 .add 20,xM 6 21]
def c_249_k1:ACode:=ycu (yce 37) 4 37
def c_249:AFn:=⟨2,[.tmp 4],ya3 [ydf 2,xC 4 (.fslice 1 [])] [ydk 7 2,yb8 8,ybg 9 f_252 7 8,ybo 10 9] 10 [xC 4 (.fslice 1 [])] (ybj [ycd 5 1] [ydb] 0 c_249_l0 c_249_k1)⟩
def c_250:AFn:=⟨3,[.tmp 6],yb0 [ydf 3,ydb] [yb9 10 3,xL 11 10,yb8 12,ybg 13 f_307 11 12,xM 9 13,xE 14 0 9,xE 15 1 9,xM 7 14,xM 8 15] (ycz 0 [ydl 17,xL 18 17,yb8 19,ybg 20 f_254 18 19,ybo 21 20,xM 22 21,yda 23 22 3,ybr 24 22 23,ya4 25 22 1,ycw 26 22 f_254 [.t 24,.t 25],yde 27 22 26,xW 28 22 27,xM 16 28] 16 [xI 6 9] (ybm [ydl 30,xL 31 30,yb9 32 3,xL 33 32,xB 34 .and 31 33,ydl 35,xL 36 35,xB 37 .neq 34 36,xM 29 37] 29 [xI 6 5] (yci [xM 39 2,yca 40 .eql 39,xM 41 40,ybw 42 41 1 3,yb5 43 41 1 42,ybn 44 41 1,yc1 45 41 f_308 [.t 44],ybt 46 41 .neq 43 (.t 45),xV 47 41 46,xM 48 47,ya4 49 48 2,ybl 50 48 .eql 49 2,ya4 51 48 50,ybn 52 51 8,yas 53 51 (ya7 52),yac 54 48 (.pick (.t 51) (.t 53) (.c yap)),xW 55 48 54,xM 38 55] (yai 38 [xI 6 11]))) (yad [ydb]))⟩
def c_251_l0:ACode:=ycn [xM 11 6,xF 12 5 2,xL 13 12,yb8 14,xX 15 6 13 14,yb9 16 15,xL 17 16,xN 18 17,xB 19 .lss 11 18] 19 0 1 (xR [yce 22,xF 23 5 2,xL 24 23,yb8 25,xX 26 6 24 25,yb9 27 26,xL 28 27,xM 29 6,xX 30 3 28 29,xF 31 2 30,xL 32 31,xO 33 (.minmax true [.t 22,.t 32]),ydi 33]) [xM 20 6,yca 21 .add 20,xM 6 21]
def c_251_k1:ACode:=ycu (yce 34) 4 34
def c_251:AFn:=⟨2,[.tmp 4],ya3 [ydf 2,yby] [ydk 7 2,yb8 8,ybg 9 f_252 7 8,ybo 10 9] 10 [yby] (ybj [xI 5 1] [ydb] 0 c_251_l0 c_251_k1)⟩
def c_252:AFn:=⟨2,[.tmp 4],ycb (ydf 2) yc9 (ybs [ydk 8 2,yb8 9,ybg 10 f_200 8 9,xM 7 10,xE 11 0 7,xE 12 1 7,ydi 11,xM 6 12] [xM 13 6,yc7 14 .eql 13,ydj 14])⟩
def c_253_l0:ACode:=ycn [yce 6,ych 7,xN 8 7,xB 9 .lss 6 8] 9 0 1 (ya2 [ych 12,yce 13,xX 14 1 12 13,xL 15 14,yb8 16,xB 17 .eql 15 16] 17 [yce 18,ydj 18]) [yce 10,yca 11 .add 10,ydi 11]
def c_253_k1:ACode:=yad [yb4 4]
def c_253:AFn:=⟨2,[.tmp 4],ybj [yby] [yc3] 0 c_253_l0 c_253_k1⟩
def c_254:AFn:=⟨2,[.tmp 4],ybs [yc9] [yb8 5,yb3 6 f_309 5,xM 7 6,ybn 8 7 0,yas 9 7 (.conv .u64 (.t 8)),ybn 10 7 1,yc1 11 7 f_310 [.t 10],ybt 12 7 .lss 9 (.t 11),xV 13 7 12,ydj 13]⟩
def c_257:AFn:=⟨1,[.tmp 2],ya3 [ybd 2] [ych 3,xO 4 (.slen (.t 3)),yc7 5 .eql 4,yce 6,ya4 7 6 0,yac 8 6 (.slen (.t 7)),ybl 9 6 .gtr 8 16,xW 10 6 9,xM 11 10,ya4 12 11 0,yac 13 11 (.idxs (.t 12) (yao 0)),ycw 14 11 f_313 [.t 13],yde 15 11 14,xW 16 11 15] 16 [ybd 2] (yad [ych 17,ybf 18 f_314 17 (.c (.func (.func f_315) [] [])),ych 19,xO 20 (.slen (.t 19)),xB 21 .eql 18 20,xM 2 21])⟩
def c_258_l0:ACode:=ycy [xB 15 .lss 14 13] 15 0 1 [xM 16 14,xX 17 3 12 14,xA 18 3 17,yax 9 [ybb,ybb,ybb],xM 8 16,xS 3 9 18] [9] (ya3 [ydk 19 2,yb1 20 9,xA 21 2 20,ybg 22 f_261 19 21,xM 10 22] [xM 23 10,yc7 24 .eql 23] 24 [xM 25 8,ydj 25,xI 5 8] (yae [xF 26 2 9,xL 27 26] (.block 2 (yc4 (xK 30 .eql 27 2) 29 30 29 (xR [xM 31 6,yca 32 .add 31,xM 6 32]) (yae [yca 34 .eql 27,xM 33 34] (yab 33 .skip (xR [xK 35 .eql 27 3,xM 33 35])) (yab 33 .skip (yad [xM 28 8,ydj 28,xI 5 11]))))) (xR [xM 36 7,xM 37 10,xB 38 .add 36 37,xM 7 38]))) [yca 39 .add 14,xM 14 39]
def c_258_k1:ACode:=ybh [xM 40 6,yca 41 .gtr 40] 41 [xI 4 (-2),xI 5 7] (ybh [xM 42 7,xK 43 .gtr 42 64] 43 [xI 4 (-2),xI 5 10] (yb6 yby yc3))
def c_258:AFn:=⟨2,[.tmp 4,.tmp 5],yaa [ydf 2,xJ 3 1,yby,yc3] (ybj [ydb,ya8 7] [yb9 11 3,xL 12 11,xN 13 12,ya8 14] 0 c_258_l0 c_258_k1)⟩
def c_259_l0:ACode:=yc2 [xB 13 .lss 12 11] 13 0 1 (ya3 [xX 14 1 10 12,xL 15 14,xM 7 15] [xM 16 7,yc7 17 .lss 16,xM 18 17,ya4 19 18 7,yaw 20 18 4 2,ybr 21 18 20,ybc 22 18 21,ybx 23 18 .geq 19 22,xW 24 18 23] 24 [xI 4 8] (ybh [yce 25,xM 26 7,xO 27 (.lookup .i (.bool false) false (.t 25) (.t 26))] 27 [xI 4 7] (xR [yce 28,xM 29 7,⟨none,none,.update .i (.t 28) (.t 29) (.c (.bool true))⟩]))) [yca 30 .add 12,xM 12 30]
def c_259_k1:ACode:=ydg [yce 31,xF 32 3 3,yb1 33 32,xL 34 33,xO 35 (.lookup .i (.bool false) false (.t 31) (.t 34)),ybo 36 35] 36 [xI 4 8] [ydk 37 2,xF 38 3 3,xA 39 2 38,ybg 40 f_180 37 39,ydj 40]
def c_259:AFn:=⟨2,[.tmp 4],yaa [ydf 2,xJ 3 1,yby] (ybj [xO 8 .mkmap,ydi 8] [xF 9 2 3,xL 10 9,xN 11 10,ya8 12] 0 c_259_l0 c_259_k1)⟩
def c_260:AFn:=⟨2,[.tmp 4],ycb (ydf 2) yc9 (ybs [ydk 8 2,yb8 9,ybg 10 f_175 8 9,xM 7 10,xE 11 0 7,xE 12 1 7,ydi 11,xM 6 12] [xM 13 6,yc7 14 .eql 13,ydj 14])⟩
def c_261:AFn:=⟨2,[.tmp 4],ya0 [ydf 2,xJ 3 1,yby] (xD [ydk 6 2,ydl 7,xL 8 7,ybg 9 f_318 6 8,yb9 10 3,xL 11 10,ybg 12 f_317 9 11,xO 13 (.fld false 1 1 (.t 12)),ydi 13]) (ybh [yce 14,yb3 15 f_152 14,xO 16 (yar .eql 15 (.c (yc6 0)))] 16 [yby] (ycu (yce 17) 4 17))⟩
def c_262:AFn:=⟨2,[.tmp 4],ybs [yc9] [yb8 5,xO 6 (.bslice .imm 1 (List.replicate 1 [.int .i64 0]) [(0,(.t 5))]),yb3 7 f_248 6,xM 8 7,ybn 9 8 0,ybn 10 8 1,yc1 11 8 f_152 [.t 10],ybt 12 8 .leq 9 (.t 11),xV 13 8 12,ydj 13]⟩
def c_263_l0:ACode:=yc2 [xB 14 .lss 13 12] 14 0 1 (ycc (xM 15 13) 6 15 (ya2 [xM 16 6,yb8 17,ybg 18 f_319 16 17,ych 19,xB 20 .eql 18 19] 20 [xM 21 6,ydj 21,xC 5 ybz])) [yca 22 .add 13,xM 13 22]
def c_263_k1:ACode:=yb6 yby (ybd 5)
def c_263:AFn:=⟨2,[.tmp 4,.tmp 5],ydh [yby,ybd 5] [yb8 7,xO 8 (.bslice .imm 1 (List.replicate 1 [.int .i64 0]) [(0,(.t 7))]),yb3 9 f_248 8,ybo 10 9] 10 [yby,ybd 5] [yb8 11,yca 12 .add 11,ya8 13] 0 c_263_l0 c_263_k1⟩
def c_265_l0:ACode:=yc2 [xB 15 .lss 14 13] 15 0 1 (yaa [xM 16 14,xX 17 1 12 14,xL 18 17,ydi 16,xM 6 18] (ya2 [xM 19 6,yb8 20,yce 21,xX 22 1 20 21,xL 23 22,xB 24 .neq 19 23] 24 [yc9])) [yca 25 .add 14,xM 14 25]
def c_265_k1:ACode:=yad [xC 4 ybz]
def c_265:AFn:=⟨2,[.tmp 4],ydh [yc9] [ych 7,xN 8 7,yb8 9,xN 10 9,xB 11 .neq 8 10] 11 [yc9] [ych 12,xN 13 12,ya8 14] 0 c_265_l0 c_265_k1⟩
def c_267:AFn:=⟨1,[.tmp 2],ybs [ybd 2] [ych 3,xO 4 (yar .geq 3 (.c (.int .u8 97))),ydi 4,ybn 6 5 0,ybt 7 5 .leq 6 (.c (.int .u8 122)),xV 8 5 7,xM 9 8,ya4 10 9 0,yaz 11 9 .geq 10 (.c (.int .u8 65)),ya4 12 9 11,ybn 13 12 0,ybt 14 12 .leq 13 (.c (.int .u8 90)),yac 15 9 (.pick (.t 12) (.t 14) (.c yap)),xW 16 9 15,xM 2 16]⟩
def c_268:AFn:=⟨1,[.tmp 2],ybs [ybd 2] [ych 3,xO 4 (yar .geq 3 (.c (.int .u8 48))),ydi 4,ybn 6 5 0,ybt 7 5 .leq 6 (.c (.int .u8 57)),xV 8 5 7,xM 2 8]⟩
def c_269_l0:ACode:=ycn [xM 7 6,yb9 8 2,xL 9 8,xN 10 9,xB 11 .lss 7 10] 11 0 1 (ya2 [yb9 14 2,xL 15 14,xM 16 6,xX 17 2 15 16,yb1 18 17,xL 19 18,yb8 20,xB 21 .eql 19 20] 21 [xM 22 6,ydj 22,xC 5 ybz]) [xM 12 6,yca 13 .add 12,xM 6 13]
def c_269_k1:ACode:=yb6 yby (ybd 5)
def c_269:AFn:=⟨2,[.tmp 4,.tmp 5],ybj [ydf 2,yby,ybd 5] [ydb] 0 c_269_l0 c_269_k1⟩
def c_270_l0:ACode:=yc8 [xM 34 4,xM 35 3,xB 36 .lss 34 35] 36 3 4 (xD [ych 39,xM 40 4,xX 41 2 39 40,yb1 42 41,xL 43 42,ych 44,xM 45 3,xX 46 2 44 45,yb1 47 46,xL 48 47,xB 49 .eql 43 48]) (yai 49 [xI 2 7]) [xM 37 4,yca 38 .add 37,ydj 38]
def c_270_k1:ACode:=xR [xM 9 3,yca 10 .add 9,xM 3 10]
def c_270_l2:ACode:=yba [ydi 3,ych 6,xN 7 6,xB 8 .lss 5 7] 8 0 (yaj 1 (ycz 2 [ych 12,xM 13 3,xX 14 2 12 13,yb1 15 14,xL 16 15,yb3 17 f_194 16,ybo 18 17,xM 11 18] 11 [xI 2 6] (ya2 [ych 20,xM 21 3,xX 22 2 20 21,yb9 23 22,xL 24 23,yca 25 .lss 24,xM 26 25,ya4 27 26 0,ya4 28 26 3,yac 29 26 (ydc 2 27 28),yda 30 26 29,ybr 31 26 30,ybl 32 26 .gtr 31 32,xW 33 26 32,xM 19 33] 19 [xI 2 10]) (yaa [yby] (yam 3 c_270_l0))) c_270_k1)
def c_270_k3:ACode:=yad [ya8 2]
def c_270:AFn:=⟨1,[.tmp 2],ybj [ya8 2] [ya8 3] 0 c_270_l2 c_270_k3⟩
def c_271:AFn:=⟨3,[.tmp 6],yb0 [ydf 3,xJ 4 1,xJ 5 2,ydb] [ydk 15 3,yb9 16 4,xA 17 2 16,ybg 18 f_320 15 17,xM 14 18,xE 19 0 14,xE 20 1 14,xM 7 19,xM 8 20] (yan [xF 21 3 4,xL 22 21,yc7 23 .geq 22,xM 24 23,ybw 25 24 3 4,yb5 26 24 1 25,ybw 27 24 3 3,yb5 28 24 1 27,yas 29 24 (ya5 28),ybt 30 24 .lss 26 (.t 29),xV 31 24 30,xM 9 31] [yb1 32 4,xL 33 32] (.block 0 (yc4 (yca 35 .eql 33) 34 35 34 (ydg [xM 36 8,ybo 37 36] 37 [xI 6 8] [xF 38 6 4,xL 39 38,xA 40 10 5,xM 41 7,yct 42 f_321 39 40 41,xM 6 42]) (yae [xK 44 .eql 33 2,xM 43 44] (yab 43 .skip (xR [xK 45 .eql 33 3,xM 43 45])) (yab 43 (ydg [xF 46 4 4,xL 47 46,yc7 48 .lss 47,xM 49 48,yaw 50 49 4 4,ybr 51 49 50,yda 52 49 3,ybr 53 49 52,ybc 54 49 53,ybx 55 49 .geq 51 54,xW 56 49 55] 56 [xI 6 8] [ydb]) (yc4 (xK 58 .eql 33 4) 57 58 57 (ybh [xM 59 8,ybo 60 59,xM 61 60,ya4 62 61 9,yde 63 61 62,xW 64 61 63] 64 [xI 6 8] (ya3 [xF 66 5 4,xL 67 66,xA 68 10 5,ybg 69 f_322 67 68,xM 65 69,xE 70 0 65,xE 71 1 65,xM 10 70,xM 11 71] [xM 72 11,yc7 73 .eql 72,xM 74 73,ybn 75 74 7,ybw 76 74 3 3,yb5 77 74 1 76,ybw 78 74 3 4,yb5 79 74 1 78,yas 80 74 (ydc 3 77 79),ybw 81 74 1 80,yb5 82 74 1 81,ybt 83 74 .neq 75 (.t 82),xV 84 74 83] 84 [xI 6 10] (ycu (xM 85 11) 6 85))) (ycc (xK 87 .eql 33 5) 86 87 (ybu 86 (ybh [xM 88 9,ybo 89 88] 89 [xI 6 8] (ya3 [xF 91 5 4,xL 92 91,xA 93 10 5,ybg 94 f_322 92 93,xM 90 94,xE 95 0 90,xE 96 1 90,xM 12 95,xM 13 96] [xM 97 13,yc7 98 .neq 97] 98 [xM 99 13,xM 6 99] (yci [xF 100 6 4,xL 101 100,xA 102 10 5,xF 103 3 3,xL 104 103,xF 105 3 4,xL 106 105,xX 107 3 104 106,yb9 108 107,xL 109 108,yct 110 f_321 101 102 109,xM 6 110] .ret)))))))))) (yad [xI 6 11]))⟩
def c_272:AFn:=⟨2,[.cell 4 true 10],ya0 [ydf 2,yax 4 [.str [],.fslice 2 [],.fslice 2 [],.fslice 3 [],.fslice 3 [],.fslice 6 [],.fslice 7 [],.fslice 5 [],.fslice 1 [],.fslice 2 []]] (xD [ydk 5 2,xF 6 4 2,xL 7 6,yb8 8,xX 9 3 7 8,yb9 10 9,xL 11 10,xO 12 (.build [.str [],.fslice 2 [],.fslice 2 [],.fslice 3 [],.fslice 3 [],.fslice 6 [],.fslice 7 [],.fslice 5 [],.fslice 1 [],.fslice 2 []] [(0,9,(.t 5)),(9,1,(.t 11))]),xS 10 4 12]) .ret⟩
def c_273_l0:ACode:=yc8 [xM 11 8,yb9 12 3,xL 13 12,xN 14 13,xB 15 .lss 11 14] 15 0 1 (xD [ydk 18 2,yb9 19 3,xL 20 19,xM 21 8,xX 22 3 20 21,yb1 23 22,xA 24 2 23,ybg 25 f_306 18 24,xM 9 25]) (yaa [yb9 26 3,xL 27 26,xM 28 8,xX 29 3 27 28,xF 30 2 29,xL 31 30,xM 10 31] (ya1 2 (ybm [xM 33 9,yc7 34 .eql 33,xM 32 34] 32 [xM 35 8,ydj 35,xI 5 8] (ybm [xM 37 10,yca 38 .neq 37,xM 39 38,ybn 40 39 10,ybt 41 39 .neq 40 (yao 2),xV 42 39 41,xM 43 42,ybn 44 43 10,ybt 45 43 .neq 44 (yao 3),xV 46 43 45,xM 36 46] 36 [xM 47 8,ydj 47,xI 5 11] (yaa [xM 49 10,xK 50 .eql 49 2,xM 48 50] (ybu 48 (xR [xM 51 7,yca 52 .add 51,xM 7 52]))))) [xM 53 6,xM 54 9,xB 55 .add 53 54,xM 6 55])) [xM 16 8,yca 17 .add 16,xM 8 17]
def c_273_k1:ACode:=ycz 3 [xM 57 7,yca 58 .gtr 57,xM 56 58] 56 [xI 4 (-2),xI 5 7] (ya2 [xM 60 6,xK 61 .gtr 60 64,xM 59 61] 59 [xI 4 (-2),xI 5 10]) (yb6 yby yc3)
def c_273:AFn:=⟨2,[.tmp 4,.tmp 5],yb0 [ydf 2,xJ 3 1,yby,yc3] [ydb] (ybj [ya8 7] [ya8 8] 0 c_273_l0 c_273_k1)⟩
def c_274_l0:ACode:=ycn [yce 6,xF 7 2 3,xL 8 7,xN 9 8,xB 10 .lss 6 9] 10 0 1 (.block 2 (yci [xF 14 2 3,xL 15 14,yce 16,xX 17 1 15 16,xL 18 17,yc7 19 .lss 18,xM 20 19,yaw 21 20 2 3,ybr 22 20 21,ya4 23 20 5,yac 24 20 (ydc 1 22 23),ybr 25 20 24,yaw 26 20 4 2,ybr 27 20 26,ybc 28 20 27,ybx 29 20 .geq 25 28,xW 30 20 29,xM 13 30] (yah 13 [xI 4 8] (yci [xF 32 2 3,xL 33 32,xF 34 2 3,xL 35 34,yce 36,xX 37 1 35 36,xL 38 37,ybg 39 f_253 33 38,yce 40,xB 41 .lss 39 40,xM 31 41] (yai 31 [xI 4 7]))))) [yce 11,yca 12 .add 11,ydi 12]
def c_274_k1:ACode:=ydg [xF 42 2 3,xL 43 42,xF 44 3 3,yb1 45 44,xL 46 45,ybg 47 f_253 43 46,yc7 48 .lss 47] 48 [xI 4 8] [ydk 49 2,xF 50 3 3,xA 51 2 50,ybg 52 f_156 49 51,ydj 52]
def c_274:AFn:=⟨2,[.tmp 4],ybj [ydf 2,xJ 3 1,yby] [yc3] 0 c_274_l0 c_274_k1⟩
def c_275_l0:ACode:=yc8 [xM 20 7,yb8 21,xB 22 .lss 20 21] 22 0 1 (xD [xF 25 6 2,xL 26 25,xM 27 7,xX 28 7 26 27,yb1 29 28,xL 30 29,yb1 31 6,xL 32 31,xB 33 .eql 30 32]) (yai 33 [yb4 4,xI 5 7]) [xM 23 7,yca 24 .add 23,xM 7 24]
def c_275_l1:ACode:=yc8 [xM 44 8,yb9 45 6,xL 46 45,xN 47 46,xB 48 .lss 44 47] 48 2 3 (xD [yb9 51 6,xL 52 51,xM 53 8,xX 54 1 52 53,xL 55 54,yc7 56 .lss 55,xM 57 56,yda 58 57 6,ybr 59 57 58,ya4 60 57 8,yac 61 57 (ydc 1 59 60),ybr 62 57 61,yda 63 57 2,ybr 64 57 63,ybc 65 57 64,ybx 66 57 .geq 62 65,xW 67 57 66]) (yai 67 [yb4 4,xI 5 8]) [xM 49 8,yca 50 .add 49,xM 8 50]
def c_275_k2:ACode:=ybh [xF 68 2 6,xL 69 68,xM 70 69,yas 71 70 (yc0 9 (.t 2)),ybw 72 70 3 6,yas 73 70 (yc0 2 (.t 72)),yc1 74 70 f_323 [.t 71,.t 73],ybt 75 70 .eql 74 (yao 0),xV 76 70 75] 76 [yb4 4,xI 5 8] (ybh [xF 77 2 6,xL 78 77,ybo 79 78,xM 80 79,ybw 81 80 5 6,yb5 82 80 1 81,yas 83 80 (ya5 82),ybt 84 80 .gtr 83 (yao 0),xV 85 80 84] 85 [yb4 4,xI 5 11] (ya3 [ydk 87 2,yb8 88,ybg 89 f_324 87 88,xM 86 89,xE 90 0 86,xE 91 1 86,xM 9 90,xM 10 91] [xM 92 10,yc7 93 .neq 92] 93 [xM 94 9,xM 95 10,ydj 94,ydi 95] (ybh [ydk 96 2,yb8 97,xF 98 6 6,xL 99 98,yct 100 f_325 96 97 99,ybo 101 100] 101 [yb4 4,xI 5 14] (yb6 yby yc3))))
def c_275_k3:ACode:=ybh [yb9 34 6,xL 35 34,xN 36 35,xK 37 .gtr 36 4,xM 38 37,yaw 39 38 5 6,ybr 40 38 39,ybc 41 38 40,ybl 42 38 .gtr 41 8,xW 43 38 42] 43 [yb4 4,xI 5 12] (ybq [ya8 8] 2 c_275_l1 c_275_k2)
def c_275:AFn:=⟨2,[.tmp 4,.tmp 5],ya0 [ydf 2,yby,yc3] (xQ [xF 11 6 2,xL 12 11,yb8 13,xX 14 7 12 13,xA 15 7 14,yax 6 [.str [],.fslice 1 [],yap,ybb,ybb,.fslice 3 [],ybb],xS 7 6 15] [6]) (ybh [yb1 16 6,xL 17 16,yb3 18 f_194 17,ybo 19 18] 19 [yb4 4,xI 5 6] (ybq [ya8 7] 0 c_275_l0 c_275_k3))⟩
def c_276_l0:ACode:=ycn [ydi 4,ych 6,xN 7 6,xB 8 .lss 5 7] 8 0 1 (xD [xM 11 3,ych 12,xM 13 4,xX 14 5 12 13,xF 15 3 14,xL 16 15,yb3 17 f_276 16,xO 18 (.bin .add (yao 1) (.t 17)),ych 19,xM 20 4,xX 21 5 19 20,xF 22 4 21,xL 23 22,yb3 24 f_276 23,xB 25 .add 18 24,xB 26 .add 11 25,xM 3 26]) [xM 9 4,yca 10 .add 9,ydj 10]
def c_276_k1:ACode:=ycu (xM 27 3) 2 27
def c_276:AFn:=⟨1,[.tmp 2],yaa [ya8 2] (ybj [ya8 3] [yby] 0 c_276_l0 c_276_k1)⟩
def c_277_l0:ACode:=ycn [ydi 4,ych 6,xN 7 6,xB 8 .lss 5 7] 8 0 1 (xD [xM 11 3,ych 12,xM 13 4,xX 14 5 12 13,xF 15 3 14,xL 16 15,yb3 17 f_277 16,xO 18 (.bin .add (yao 1) (.t 17)),ych 19,xM 20 4,xX 21 5 19 20,xF 22 4 21,xL 23 22,yb3 24 f_277 23,xO 25 (.bin .add (yao 1) (.t 24)),xO 26 (.minmax true [.t 11,.t 18,.t 25]),xM 3 26]) [xM 9 4,yca 10 .add 9,ydj 10]
def c_277_k1:ACode:=ycu (xM 27 3) 2 27
def c_277:AFn:=⟨1,[.tmp 2],yaa [ya8 2] (ybj [ya8 3] [yby] 0 c_277_l0 c_277_k1)⟩
def c_278_l0:ACode:=ycn [ydi 4,ych 6,xN 7 6,xB 8 .lss 5 7] 8 0 1 (yb0 [xM 11 3,ych 12,xM 13 4,xX 14 5 12 13,xA 15 5 14,xO 16 (.bslice .imm 5 (List.replicate 1 [.int .i64 0,.int .i64 0,.fslice 3 [],.fslice 5 [],.fslice 5 []]) [(0,(.t 15))]),ycx 17 5 88 11 16,xM 3 17] [xM 18 3,ych 19,xM 20 4,xX 21 5 19 20,xF 22 3 21,xL 23 22,yb3 24 f_278 23,ycx 25 5 88 18 24,xM 3 25] (xR [xM 26 3,ych 27,xM 28 4,xX 29 5 27 28,xF 30 4 29,xL 31 30,yb3 32 f_278 31,ycx 33 5 88 26 32,xM 3 33])) [xM 9 4,yca 10 .add 9,ydj 10]
def c_278_k1:ACode:=ycu (xM 34 3) 2 34
def c_278:AFn:=⟨1,[.tmp 2],yaa [xC 2 (.fslice 5 [])] (ybj [ycd 3 5] [yby] 0 c_278_l0 c_278_k1)⟩
def c_279:AFn:=⟨3,[.tmp 6],ya0 [ydf 3,ydb] (xQ [yb8 10,xM 11 2,xX 12 5 10 11,xA 13 5 12,yax 7 [ybb,ybb,.fslice 3 [],.fslice 5 [],.fslice 5 []],xS 5 7 13] [7]) (ycz 0 [yb1 15 7,xL 16 15,yca 17 .lss 16,xM 18 17,yaw 19 18 0 7,ybr 20 18 19,ybl 21 18 .gtr 20 3,xW 22 18 21,xM 14 22] 14 [xI 6 11] (yaa [yb1 24 7,xL 25 24,xK 26 .eql 25 2,xM 23 26] (yab 23 (yan [xF 28 2 7,xL 29 28,ydk 30 3,xO 31 (.build [.str [],.fslice 2 [],.fslice 2 [],.fslice 3 [],.fslice 3 [],.fslice 6 [],.fslice 7 [],.fslice 5 [],.fslice 1 [],.fslice 2 []] [(0,9,(.t 30))]),ybg 32 f_322 29 31,xM 27 32,xE 33 0 27,xE 34 1 27,xM 8 33,xM 9 34] [xM 35 9,yc7 36 .eql 35,xM 37 36,ybn 38 37 8,ybt 39 37 .neq 38 (yao 1),xV 40 37 39] (ybu 40 (xR [xI 9 10])) (ycu (xM 41 9) 6 41)) (ybm [yb9 43 7,xL 44 43,yc7 45 .lss 44,xM 46 45,yda 47 46 7,ybr 48 46 47,yaw 49 46 5 3,ybr 50 46 49,ybc 51 46 50,ybx 52 46 .geq 48 51,xW 53 46 52,xM 42 53] 42 [xI 6 8] (ybm [yb8 55,xM 56 2,ybg 57 f_326 55 56,xM 54 57] 54 [xI 6 7] (ya2 [yb1 59 7,xL 60 59,yca 61 .eql 60,xM 62 61,ybw 63 62 3 7,yb5 64 62 1 63,yas 65 62 (ya5 64),ybw 66 62 4 7,yb5 67 62 1 66,yas 68 62 (ya5 67),ybt 69 62 .add 65 (.t 68),ybt 70 62 .gtr 69 (yao 0),xV 71 62 70,xM 58 71] 58 [xI 6 5]))))) (yad [ydb]))⟩
def c_287_l0:ACode:=ycy [xB 11 .lss 10 9] 11 0 1 [xX 12 7 8 10,xA 13 7 12,yax 7 [ybb,ybb,ybb,ybb,ybb,.fslice 3 [],.fslice 3 []],xS 7 7 13] [7] (xR [yce 14,yb8 15,xA 16 7 7,xO 17 (ydd 15 [.t 16]),xO 18 (.bslice .imm 7 (List.replicate 1 [.int .i64 0,.int .i64 0,.int .i64 0,.int .i64 0,.int .i64 0,.fslice 3 [],.fslice 3 []]) [(0,(.t 17))]),ycx 19 7 88 14 18,ydi 19]) [yca 20 .add 10,xM 10 20]
def c_287_k1:ACode:=ycu (yce 21) 4 21
def c_287:AFn:=⟨2,[.tmp 4],yaa [xC 4 (.fslice 7 [])] (ybj [ycd 5 7] [ych 8,xN 9 8,ya8 10] 0 c_287_l0 c_287_k1)⟩
def c_288:AFn:=⟨1,[.cell 2 true 7],ya0 [ycp 1 0,yax 2 [ybb,ybb,ybb,ybb,ybb,.fslice 3 [],.fslice 3 []]] (xD [xF 3 5 1,xL 4 3,yb3 5 f_291 4,xF 6 6 1,xL 7 6,yb3 8 f_291 7,xF 9 5 1,xS 1 9 5,xF 10 6 1,xS 1 10 8]) (yb6 (xA 11 7 1) (xS 7 2 11))⟩
def c_293_l0:ACode:=yc2 [xB 9 .lss 8 7] 9 0 1 (yaa [xX 10 1 6 8,xL 11 10,ydi 11] (xR [xM 12 3,yce 13,xB 14 .add 12 13,xM 3 14])) [yca 15 .add 8,xM 8 15]
def c_293_k1:ACode:=ycu (xM 16 3) 2 16
def c_293:AFn:=⟨1,[.tmp 2],yaa [ya8 2] (ybj [ya8 3] [ych 6,xN 7 6,ya8 8] 0 c_293_l0 c_293_k1)⟩
def c_294_l0:ACode:=ycy [xB 10 .lss 9 8] 10 0 1 [xX 11 2 7 9,xA 12 2 11,yax 5 [.str [],ybb],xS 2 5 12] [5] (xR [xM 13 3,yb9 14 5,xL 15 14,xO 16 (.bslice .imm 1 (List.replicate 1 [.int .i64 0]) [(0,(.t 15))]),ycx 17 1 8 13 16,xM 3 17]) [yca 18 .add 9,xM 9 18]
def c_294_k1:ACode:=ycu (xM 19 3) 2 19
def c_294:AFn:=⟨1,[.tmp 2],ycb (ydf 1) (xC 2 (.fslice 1 [])) (ybj [ycd 3 1] [yb9 6 1,xL 7 6,xN 8 7,ya8 9] 0 c_294_l0 c_294_k1)⟩
def c_295:AFn:=⟨2,[.tmp 4],ybs [yc9] [ych 5,yb8 6,ybg 7 f_328 5 6,yc7 8 .geq 7,ydj 8]⟩
def c_296_l0:ACode:=ycy [xB 25 .lss 24 23] 25 1 2 [xM 26 24,xX 27 2 22 24,xA 28 2 27,yax 4 [.str [],ybb],xM 3 26,xS 2 4 28] [4] (.block 3 (ybm [yb1 30 4,xL 31 30,yb3 32 f_257 31,ybo 33 32,xM 29 33] 29 [xI 2 6] (ybm [yb9 35 4,xL 36 35,yca 37 .lss 36,xM 38 37,yda 39 38 4,ybr 40 38 39,ybl 41 38 .gtr 40 32,xW 42 38 41,xM 34 42] 34 [xI 2 10] (ya2 [yb9 44 1,xL 45 44,xM 46 3,xO 47 (.slc 2 (.t 45) none (some (.t 46)) none),xO 48 (.mkfunc (.func f_330) [] [.t 4]),ybg 49 f_329 47 48,xM 43 49] 43 [xI 2 7])))) [yca 50 .add 24,xM 24 50]
def c_296_k1:ACode:=yad [ya8 2]
def c_296:AFn:=⟨1,[.tmp 2],ycb (ydf 1) (ya8 2) (ycz 0 [yb1 6 1,xL 7 6,yb3 8 f_257 7,ybo 9 8,ydi 9] 5 [xI 2 6] (ya2 [yb9 11 1,xL 12 11,xN 13 12,xK 14 .gtr 13 4,xM 15 14,yaw 16 15 2 1,ybr 17 15 16,ybc 18 15 17,ybl 19 15 .gtr 18 12,xW 20 15 19,xM 10 20] 10 [xI 2 12]) (ybq [yb9 21 1,xL 22 21,xN 23 22,ya8 24] 1 c_296_l0 c_296_k1))⟩
def c_297:AFn:=⟨2,[.tmp 4],ya0 [ydf 2,xJ 3 1,yby] (xQ [yb1 11 2,yb1 12 11,ydk 13 12,yax 5 [.str [],.fslice 2 [],.fslice 2 [],.fslice 3 [],.fslice 3 [],.fslice 6 [],.fslice 7 [],.fslice 5 [],.fslice 1 []],xS 9 5 13] [5]) (yaa [ydk 15 5,yb9 16 3,xA 17 2 16,ybg 18 f_331 15 17,xM 14 18,xE 19 0 14,xE 20 1 14,xM 6 19,xM 7 20] (yan [xF 21 3 3,xL 22 21,yc7 23 .geq 22,xM 24 23,ybw 25 24 3 3,yb5 26 24 1 25,ybw 27 24 3 5,yb5 28 24 1 27,yas 29 24 (ya5 28),ybt 30 24 .lss 26 (.t 29),xV 31 24 30,xM 8 31] [ydl 32,xL 33 32] (.block 0 (yc4 (yca 35 .eql 33) 34 35 34 (ydg [xM 36 7,ybo 37 36] 37 [xI 4 8] [xA 38 10 2,xF 39 6 3,xL 40 39,xM 41 6,yct 42 f_332 38 40 41,ydj 42]) (yae [xK 44 .eql 33 2,xM 43 44] (yab 43 .skip (xR [xK 45 .eql 33 3,xM 43 45])) (yab 43 (ydg [xF 46 4 3,xL 47 46,yc7 48 .lss 47,xM 49 48,yaw 50 49 4 3,ybr 51 49 50,yda 52 49 5,ybr 53 49 52,ybc 54 49 53,ybx 55 49 .geq 51 54,xW 56 49 55] 56 [xI 4 8] [yby]) (yae [xK 58 .eql 33 4,xM 57 58] (yab 57 .skip (xR [xK 59 .eql 33 5,xM 57 59])) (ybu 57 (ybh [xM 60 8,ybo 61 60,xM 62 61,yaw 63 62 0 3,ybr 64 62 63,ybl 65 62 .eql 64 4,ya4 66 62 65,ybn 67 66 7,yas 68 66 (ya7 67),yac 69 62 (.pick (.t 66) (.t 68) (.c yap)),xW 70 62 69] 70 [xI 4 8] (yae [xF 72 5 3,xL 73 72,yb1 74 2,xA 75 10 74,ybg 76 f_333 73 75,xM 71 76,xE 77 0 71,xE 78 1 71,xM 9 77,xM 10 78] (ya2 [xM 79 10,yc7 80 .neq 79] 80 [xM 81 10,ydj 81]) (yae [ydl 82,xL 83 82,xK 84 .eql 83 5] (ybu 84 (yci [xA 85 10 2,xF 86 6 3,xL 87 86,xF 88 3 5,xL 89 88,xF 90 3 3,xL 91 90,xX 92 3 89 91,yb9 93 92,xL 94 93,yct 95 f_332 85 87 94,ydj 95] .ret)) (ydg [xM 96 6,xF 97 3 5,xL 98 97,xF 99 3 3,xL 100 99,xX 101 3 98 100,yb9 102 101,xL 103 102,xB 104 .neq 96 103] 104 [xI 4 10] [yby])))))))))) (yad [xI 4 11])))⟩
def c_298_l0:ACode:=yc2 [xB 31 .lss 30 29] 31 0 1 (yaa [xX 32 1 28 30,xL 33 32,xM 8 33] (ya2 [xM 34 8,yc7 35 .lss 34,xM 36 35,ya4 37 36 8,yda 38 36 2,ybr 39 36 38,ybc 40 36 39,ybx 41 36 .geq 37 40,xW 42 36 41] 42 [yb4 4,xI 5 8])) [yca 43 .add 30,xM 30 43]
def c_298_l1:ACode:=ycy [xB 68 .lss 67 66] 68 3 4 [xM 69 67,xX 70 3 65 67,xA 71 3 70,yax 10 [yc6 0,yc6 0,ybb],xM 9 69,xS 3 10 71] [10] (yaa [ydk 72 2,yb8 73,xA 74 3 10,yct 75 f_334 72 73 74,xM 11 75] (ya2 [xM 76 11,yc7 77 .neq 76] 77 [xM 78 9,xM 79 11,ydj 78,ydi 79])) [yca 80 .add 67,xM 67 80]
def c_298_k2:ACode:=ybh [ydk 81 2,yb8 82,xF 83 6 6,xL 84 83,yct 85 f_335 81 82 84,ybo 86 85] 86 [yb4 4,xI 5 14] (yb6 yby yc3)
def c_298_k3:ACode:=ycz 2 [xF 45 2 6,xL 46 45,xM 47 46,yas 48 47 (yc0 9 (.t 2)),ybw 49 47 3 6,yas 50 47 (yc0 2 (.t 49)),yc1 51 47 f_261 [.t 48,.t 50],ybt 52 47 .eql 51 (yao 0),xV 53 47 52,xM 44 53] 44 [yb4 4,xI 5 8] (ya2 [xF 55 2 6,xL 56 55,ybo 57 56,xM 58 57,ybw 59 58 5 6,yb5 60 58 1 59,yas 61 58 (ya5 60),ybt 62 58 .gtr 61 (yao 0),xV 63 58 62,xM 54 63] 54 [yb4 4,xI 5 11]) (ybq [xF 64 5 6,xL 65 64,xN 66 65,ya8 67] 3 c_298_l1 c_298_k2)
def c_298:AFn:=⟨2,[.tmp 4,.tmp 5],ya0 [ydf 2,yby,yc3] (xQ [xF 12 6 2,xL 13 12,yb8 14,xX 15 7 13 14,xA 16 7 15,yax 6 [.str [],.fslice 1 [],yap,ybb,ybb,.fslice 3 [],ybb],xS 7 6 16] [6]) (ybh [yb9 17 6,xL 18 17,xN 19 18,xK 20 .gtr 19 4,xM 21 20,yaw 22 21 5 6,ybr 23 21 22,ybc 24 21 23,ybl 25 21 .gtr 24 8,xW 26 21 25] 26 [yb4 4,xI 5 12] (ybq [yb9 27 6,xL 28 27,xN 29 28,ya8 30] 0 c_298_l0 c_298_k3))⟩
def c_299:AFn:=⟨1,[.tmp 2],yb0 [ya8 2] [yax 3 [ybb],⟨none,none,.store 1 (.t 3) (.c (.int .i64 0))⟩] (ybs [ych 4,xO 5 (.mkfunc (.func f_336) [] [.t 3]),yck 6 f_301 [.t 4,.t 5]] [xL 7 3,xM 2 7])⟩
def c_300_l0:ACode:=ycy [xB 12 .lss 11 10] 12 0 1 [xX 13 5 9 11,xA 14 5 13,yax 5 [ybb,ybb,.fslice 3 [],.fslice 5 [],.fslice 5 []],xS 5 5 14] [5] (xD [xM 15 3,xF 16 3 5,xL 17 16,yb3 18 f_300 17,xF 19 4 5,xL 20 19,yb3 21 f_300 20,xO 22 (.minmax true [.t 15,.t 18,.t 21]),xM 3 22]) [yca 23 .add 11,xM 11 23]
def c_300_k1:ACode:=yad [xM 24 3,yca 25 .add 24,xM 2 25]
def c_300:AFn:=⟨1,[.tmp 2],ya3 [ya8 2] [ych 6,xN 7 6,yc7 8 .eql 7] 8 [ya8 2] (ybj [ya8 3] [ych 9,xN 10 9,ya8 11] 0 c_300_l0 c_300_k1)⟩
def c_301_l0:ACode:=ycy [xB 10 .lss 9 8] 10 0 1 [xX 11 5 7 9,xA 12 5 11,yax 6 [ybb,ybb,.fslice 3 [],.fslice 5 [],.fslice 5 []],xS 5 6 12] [6] (ya2 [yb8 13,xA 14 5 6,xO 15 (.tcallv (.t 13) [.t 14]),ybo 16 15,xM 17 16,yaw 18 17 3 6,ybr 19 17 18,ya4 20 17 1,yac 21 17 (.tcall f_301 [.t 19,.t 20]),yde 22 17 21,xW 23 17 22,xM 24 23,yaw 25 24 4 6,ybr 26 24 25,ya4 27 24 1,yac 28 24 (.tcall f_301 [.t 26,.t 27]),yde 29 24 28,xW 30 24 29] 30 [yc9]) [yca 31 .add 9,xM 9 31]
def c_301_k1:ACode:=yad [xC 4 ybz]
def c_301:AFn:=⟨2,[.tmp 4],ybj [yc9] [ych 7,xN 8 7,ya8 9] 0 c_301_l0 c_301_k1⟩
def c_302:AFn:=⟨5,[.tmp 6],yan [ydf 5,ybd 6] [ydk 7 1,xA 8 5 5,xL 9 2,yct 10 f_303 7 8 9,xS 1 3 10] (ya2 [xL 11 3,yc7 12 .neq 11] 12 [ybd 6]) (yae [xA 13 5 5,yb3 14 f_304 13] (ybu 14 (xR [xL 15 2,yb9 16 5,xL 17 16,xO 18 (.bslice .imm 1 (List.replicate 1 [.int .i64 0]) [(0,(.t 17))]),ycx 19 1 8 15 18,xS 1 2 19])) (ybs [xL 20 4,yca 21 .add 20,xS 1 4 21] [xC 6 ybz]))⟩
def c_303_l0:ACode:=yc2 [xB 30 .lss 29 28] 30 1 2 (yaa [xX 31 1 27 29,xL 32 31,xM 8 32] (ya2 [xM 33 8,yb9 34 4,xL 35 34,xB 36 .eql 33 35] 36 [xI 6 7])) [yca 37 .add 29,xM 29 37]
def c_303_k1:ACode:=ya2 [yb1 38 4,xL 39 38,yca 40 .eql 39,xM 41 40,ybw 42 41 3 4,yb5 43 41 1 42,yas 44 41 (ya5 43),ybw 45 41 4 4,yb5 46 41 1 45,yas 47 41 (ya5 46),ybt 48 41 .add 44 (.t 47),ybt 49 41 .gtr 48 (yao 0),xV 50 41 49] 50 [xI 6 5]
def c_303_k2:ACode:=yad [ydb]
def c_303:AFn:=⟨3,[.tmp 6],yan [ydf 3,xJ 4 1,ydb] [yb1 11 4,xL 12 11] (.block 0 (yae [yca 14 .eql 12,xM 13 14] (yab 13 .skip (xR [xK 15 .eql 12 3,xM 13 15])) (yab 13 (ybh [yb9 16 4,xL 17 16,yc7 18 .lss 17,xM 19 18,yda 20 19 4,ybr 21 19 20,yaw 22 19 5 3,ybr 23 19 22,ybc 24 19 23,ybx 25 19 .geq 21 24,xW 26 19 25] 26 [xI 6 8] (ybq [xM 27 2,xN 28 27,ya8 29] 1 c_303_l0 c_303_k1)) (yc4 (xK 52 .eql 12 2) 51 52 51 (ya3 [xF 54 2 4,xL 55 54,ydk 56 3,xO 57 (.build [.str [],.fslice 2 [],.fslice 2 [],.fslice 3 [],.fslice 3 [],.fslice 6 [],.fslice 7 [],.fslice 5 [],.fslice 1 [],.fslice 2 []] [(0,9,(.t 56))]),ybg 58 f_333 55 57,xM 53 58,xE 59 0 53,xE 60 1 53,xM 9 59,xM 10 60] [xM 61 10,yc7 62 .neq 61] 62 [xM 63 10,xM 6 63] (ya2 [xM 64 9,yca 65 .neq 64] 65 [xI 6 10])) (yad [xI 6 11]))))) c_303_k2⟩
def c_304:AFn:=⟨1,[.tmp 2],ybs [ydf 1,ybd 2] [yb1 3 1,xL 4 3,yca 5 .eql 4,yce 6,yaw 7 6 0 1,ybr 8 6 7,ybl 9 6 .eql 8 3,xW 10 6 9,xM 2 10]⟩
def c_305:AFn:=⟨2,[.tmp 4],ybs [yc9] [ych 5,yb8 6,ybg 7 f_337 5 6,yc7 8 .geq 7,ydj 8]⟩
def c_306:AFn:=⟨2,[.tmp 4],yaa [ydf 2,xJ 3 1,yby] (yan [xF 6 2 2,xL 7 6,ydi 7] [ydl 8,xL 9 8,yc7 10 .geq 9] (ybu 10 (ybh [ydl 11,xL 12 11,yb9 13 2,xL 14 13,xN 15 14,xB 16 .geq 12 15] 16 [yby] (xR [yb9 17 2,xL 18 17,ydl 19,xL 20 19,xX 21 2 18 20,yb9 22 21,xL 23 22,ydi 23]))) (ydg [ydl 24,xL 25 24,xK 26 .lss 25 (-1),xM 27 26,yda 28 27 3,ybr 29 27 28,ybl 30 27 .lss 29 0,xW 31 27 30,xM 32 31,yda 33 32 3,ybr 34 32 33,ya4 35 32 5,ybc 36 32 35,ybx 37 32 .geq 34 36,xW 38 32 37,xM 39 38,ya4 40 39 5,yda 41 39 3,ybr 42 39 41,yac 43 39 (ydc 2 40 42),yda 44 39 43,ybr 45 39 44,ybl 46 39 .lss 45 1,xW 47 39 46,xM 48 47,ya4 49 48 5,yda 50 48 3,ybr 51 48 50,yac 52 48 (ydc 2 49 51),yda 53 48 52,ybr 54 48 53,ybl 55 48 .gtr 54 32,xW 56 48 55] 56 [yby] [yce 57,yb9 58 3,xL 59 58,xX 60 2 57 59,yb9 61 60,xL 62 61,ydj 62]))⟩
def c_307_l0:ACode:=ycn [xM 7 6,yb8 8,xB 9 .leq 7 8,xM 10 9,ybn 11 10 1,yc1 12 10 f_309 [.t 11],xV 13 10 12] 13 0 1 (ya2 [xM 16 6,yb8 17,ybg 18 f_338 16 17,ych 19,xB 20 .eql 18 19] 20 [xM 21 6,ydj 21,xC 5 ybz]) [xM 14 6,yca 15 .add 14,xM 6 15]
def c_307_k1:ACode:=yb6 yby (ybd 5)
def c_307:AFn:=⟨2,[.tmp 4,.tmp 5],ybj [yby,ybd 5] [ydb] 0 c_307_l0 c_307_k1⟩
def c_308:AFn:=⟨1,[.tmp 2],ya3 [xC 2 (yc6 0)] [ych 3,yb3 4 f_309 3,ybo 5 4] 5 [xC 2 (yc6 0)] (yad [ych 6,yb3 7 f_310 6,xO 8 (yar .sub 7 (.c (.int .u64 1))),xO 9 (.conv .u32 (.t 8)),xM 2 9])⟩
def c_309:AFn:=⟨1,[.tmp 2],ybs [ybd 2] [ych 3,yca 4 .geq 3,ydi 4,ybn 6 5 0,ybt 7 5 .leq 6 (yao 32),xV 8 5 7,xM 2 8]⟩
def c_310_l0:ACode:=ycn [ydi 4,ych 6,xB 7 .lss 5 6] 7 0 1 (xR [xM 10 3,xO 11 (.bin .mul (.c (.int .u64 2)) (.t 10)),xM 3 11]) [xM 8 4,yca 9 .add 8,ydj 9]
def c_310_k1:ACode:=ycu (xM 12 3) 2 12
def c_310:AFn:=⟨1,[.tmp 2],yaa [xC 2 (.int .u64 0)] (ybj [xC 3 (.int .u64 1)] [yby] 0 c_310_l0 c_310_k1)⟩
def c_313:AFn:=⟨1,[.tmp 2],ybs [ybd 2] [ych 3,xO 4 (yar .geq 3 (.c (.int .u8 97))),ydi 4,ybn 6 5 0,ybt 7 5 .leq 6 (.c (.int .u8 122)),xV 8 5 7,xM 9 8,ya4 10 9 0,yaz 11 9 .geq 10 (.c (.int .u8 65)),ya4 12 9 11,ybn 13 12 0,ybt 14 12 .leq 13 (.c (.int .u8 90)),yac 15 9 (.pick (.t 12) (.t 14) (.c yap)),xW 16 9 15,xM 2 16]⟩
def c_314_l0:ACode:=yba [yce 6,ych 7,xO 8 (.slen (.t 7)),xB 9 .lss 6 8,xM 10 9,ybn 11 10 1,ybn 12 10 0,ybn 13 10 5,yas 14 10 (.idxs (.t 12) (.t 13)),yas 15 10 (ydd 11 [.t 14]),xV 16 10 15] 16 0 (.block 1 (xR [yce 17,yca 18 .add 17,ydi 18]))
def c_314_k1:ACode:=ycu (yce 19) 4 19
def c_314:AFn:=⟨2,[.tmp 4],yb0 [yby] [yc3] (yaj 0 (.loop c_314_l0) c_314_k1)⟩
def c_315:AFn:=⟨1,[.tmp 2],ybs [ybd 2] [ych 3,yb3 4 f_313 3,ydi 4,ya4 6 5 0,ycw 7 5 f_316 [.t 6],xW 8 5 7,xM 9 8,ya4 10 9 0,yaz 11 9 .eql 10 (.c (.int .u8 95)),xW 12 9 11,xM 2 12]⟩
def c_316:AFn:=⟨1,[.tmp 2],ybs [ybd 2] [ych 3,xO 4 (yar .geq 3 (.c (.int .u8 48))),ydi 4,ybn 6 5 0,ybt 7 5 .leq 6 (.c (.int .u8 57)),xV 8 5 7,xM 2 8]⟩
def c_317:AFn:=⟨2,[.cell 4 true 2],yaa [yax 4 [.str [],ybb]] (ya3 [yax 5 [.str [],ybb]] [yb8 6,yc7 7 .lss 6,xM 8 7,ya4 9 8 1,ya4 10 8 0,ybc 11 8 10,ybx 12 8 .geq 9 11,xW 13 8 12] 13 [xA 14 2 5,xS 2 4 14] (yad [ych 15,yb8 16,xX 17 2 15 16,xA 18 2 17,xS 2 4 18]))⟩
def c_318:AFn:=⟨2,[.tmp 4],ya3 [ydf 2,xC 4 (.fslice 2 [])] [yb8 5,xK 6 .eql 5 (-1)] 6 [xF 7 2 2,xL 8 7,ydj 8] (yad [yb9 9 2,xL 10 9,yb8 11,ybg 12 f_339 10 11,xO 13 (.fld false 1 1 (.t 12)),ydj 13])⟩
def c_319:AFn:=⟨2,[.tmp 4],ya3 [xC 4 (yc6 0)] [yb8 5,xO 6 (.bslice .imm 1 (List.replicate 1 [.int .i64 0]) [(0,(.t 5))]),yb3 7 f_248 6,ybo 8 7] 8 [xC 4 (yc6 0)] (yad [yb8 9,yb3 10 f_152 9,yb8 11,yb3 12 f_152 11,ych 13,xO 14 (.minmax true [.t 13,.c (.int .i64 0)]),yb8 15,xO 16 (.minmax false [.t 14,.t 15]),xB 17 .shr 12 16,xB 18 .andNot 10 17,ydj 18])⟩
def c_320:AFn:=⟨2,[.tmp 4,.tmp 5],yaa [ydf 2,xJ 3 1,yby,ybd 5] (yan [xF 7 2 2,xL 8 7,xM 6 8] [ydl 9,xL 10 9,xK 11 .neq 10 (-1)] (ybu 11 (ybh [ydl 12,xL 13 12,yc7 14 .lss 13,xM 15 14,yaw 16 15 0 3,ybr 17 15 16,yda 18 15 2,ybr 19 15 18,ybc 20 15 19,ybx 21 15 .geq 17 20,xW 22 15 21] 22 [yby,ybd 5] (xR [yb9 23 2,xL 24 23,ydl 25,xL 26 25,xX 27 2 24 26,yb9 28 27,xL 29 28,xM 6 29]))) (ydg [yb9 30 3,xL 31 30,yc7 32 .lss 31,xM 33 32,yda 34 33 3,ybr 35 33 34,ya4 36 33 6,ybc 37 33 36,ybx 38 33 .geq 35 37,xW 39 33 38] 39 [yby,ybd 5] [xM 40 6,yb9 41 3,xL 42 41,xX 43 2 40 42,yb9 44 43,xL 45 44,ydj 45,xC 5 ybz]))⟩
def c_321:AFn:=⟨3,[.tmp 6],ycb (xJ 4 1) ydb (ya3 [ych 10,xA 11 10 4,ybg 12 f_322 10 11,xM 9 12,xE 13 0 9,xE 14 1 9,xM 7 13,xM 8 14] [xM 15 8,yc7 16 .eql 15,xM 17 16,ybn 18 17 7,ybn 19 17 2,ybt 20 17 .neq 18 (.t 19),xV 21 17 20] 21 [xI 6 10] (ycu (xM 22 8) 6 22))⟩
def c_322:AFn:=⟨2,[.tmp 4,.tmp 5],ya3 [xJ 3 1,yby,yc3] [ych 9,xN 10 9,xK 11 .gtr 10 24] 11 [yby,xI 5 12] (yaa [ych 13,xA 14 10 3,ycr 15 f_340 13 (yao 0) (.t 14),xM 12 15,xE 16 0 12,xE 17 1 12,xE 18 2 12,xM 6 16,xM 7 17,xM 8 18] (ycz 0 [xM 20 8,yc7 21 .neq 20,xM 19 21] 19 [xM 22 8,yby,ydi 22] (ya2 [xM 24 7,ych 25,xN 26 25,xB 27 .lss 24 26,xM 23 27] 23 [yby,xI 5 4]) (yad [xM 28 6,ydj 28,yc3])))⟩
def c_323:AFn:=⟨2,[.tmp 4],yaa [ydf 2,xJ 3 1,yby] (yan [xF 6 2 2,xL 7 6,ydi 7] [ydl 8,xL 9 8,yc7 10 .geq 9] (ybu 10 (ybh [ydl 11,xL 12 11,yb9 13 2,xL 14 13,xN 15 14,xB 16 .geq 12 15] 16 [yby] (xR [yb9 17 2,xL 18 17,ydl 19,xL 20 19,xX 21 2 18 20,yb9 22 21,xL 23 22,ydi 23]))) (ydg [ydl 24,xL 25 24,xK 26 .lss 25 (-1),xM 27 26,yda 28 27 3,ybr 29 27 28,ybl 30 27 .lss 29 0,xW 31 27 30,xM 32 31,yda 33 32 3,ybr 34 32 33,ya4 35 32 5,ybc 36 32 35,ybx 37 32 .geq 34 36,xW 38 32 37,xM 39 38,ya4 40 39 5,yda 41 39 3,ybr 42 39 41,yac 43 39 (ydc 2 40 42),yda 44 39 43,ybr 45 39 44,ybl 46 39 .lss 45 1,xW 47 39 46,xM 48 47,ya4 49 48 5,yda 50 48 3,ybr 51 48 50,yac 52 48 (ydc 2 49 51),yda 53 48 52,ybr 54 48 53,ybl 55 48 .gtr 54 32,xW 56 48 55] 56 [yby] [yce 57,yb9 58 3,xL 59 58,xX 60 2 57 59,yb9 61 60,xL 62 61,ydj 62]))⟩
def c_324_l0:ACode:=yba [xM 19 8,xF 20 5 6,xL 21 20,xN 22 21,xB 23 .lss 19 22] 23 0 (ycv 1 [xF 26 5 6,xL 27 26,xM 28 8,xX 29 3 27 28,xA 30 3 29,yax 9 [yc6 0,yc6 0,ybb],xS 3 9 30] [9] (ybh [yb1 31 9,xL 32 31,xM 33 7,ybg 34 f_157 32 33,ybo 35 34,xM 36 35,yda 37 36 9,ybr 38 36 37,ya4 39 36 7,ycw 40 36 f_157 [.t 38,.t 39],yde 41 36 40,xW 42 36 41] 42 [xM 43 8,ydj 43,xI 5 9] (ybh [yb1 44 9,xL 45 44,yb9 46 9,xL 47 46,xB 48 .and 45 47,yb1 49 9,xL 50 49,xB 51 .neq 48 50] 51 [xM 52 8,ydj 52,xI 5 5] (ya2 [ydk 53 2,yb8 54,xF 55 2 9,xL 56 55,yct 57 f_325 53 54 56,ybo 58 57] 58 [xM 59 8,ydj 59,xI 5 14]))) [xM 24 8,yca 25 .add 24,xM 8 25])
def c_324_k1:ACode:=yb6 (yb4 4) yc3
def c_324:AFn:=⟨2,[.tmp 4,.tmp 5],ya0 [ydf 2,yby,yc3] (xQ [xF 10 6 2,xL 11 10,yb8 12,xX 13 7 11 12,xA 14 7 13,yax 6 [.str [],.fslice 1 [],yap,ybb,ybb,.fslice 3 [],ybb],xS 7 6 14] [6]) (ybj [ydk 15 2,xF 16 3 6,xA 17 2 16,ybg 18 f_323 15 17,xM 7 18] [ya8 8] 0 c_324_l0 c_324_k1)⟩
def c_325:AFn:=⟨3,[.tmp 6],ybs [ydf 3,ybd 6] [xM 7 2,xK 8 .eql 7 (-1),xM 9 8,ya4 10 9 2,ybl 11 9 .eql 10 (-2),xW 12 9 11,xM 13 12,ya4 14 13 2,ya4 15 13 1,ybx 16 13 .gtr 14 15,ya4 17 13 16,ybn 18 17 2,ybw 19 17 6 3,yb5 20 17 1 19,yas 21 17 (ya5 20),ybt 22 17 .lss 18 (.t 21),yac 23 13 (.pick (.t 17) (.t 22) (.c yap)),xW 24 13 23,xM 6 24]⟩
def c_326_l0:ACode:=yc8 [yce 6,yb8 7,xB 8 .lss 6 7] 8 0 1 (xD [ych 11,yce 12,xX 13 5 11 12,xA 14 5 13,yb3 15 f_341 14,xM 16 15,ybn 17 16 0,ybn 18 16 5,yas 19 16 (ydc 5 17 18),ybw 20 16 1 19,yb5 21 16 1 20,ybn 22 16 0,ybn 23 16 1,yas 24 16 (ydc 5 22 23),ybw 25 16 1 24,yb5 26 16 1 25,ybt 27 16 .eql 21 (.t 26),xV 28 16 27]) (yai 28 [xC 4 ybz]) [yce 9,yca 10 .add 9,ydi 10]
def c_326_k1:ACode:=yad [yc9]
def c_326:AFn:=⟨2,[.tmp 4],ybj [yc9] [yc3] 0 c_326_l0 c_326_k1⟩
def c_328_l0:ACode:=yc2 [xB 9 .lss 8 7] 9 0 1 (ycc (xM 10 8) 5 10 (ya2 [yb8 11,ych 12,yce 13,xX 14 1 12 13,xL 15 14,xB 16 .eql 11 15] 16 [yce 17,ydj 17])) [yca 18 .add 8,xM 8 18]
def c_328_k1:ACode:=yad [yb4 4]
def c_328:AFn:=⟨2,[.tmp 4],ybj [yby] [ych 6,xN 7 6,ya8 8] 0 c_328_l0 c_328_k1⟩
def c_329:AFn:=⟨2,[.tmp 4],ybs [yc9] [ych 5,yb8 6,ybg 7 f_342 5 6,yc7 8 .geq 7,ydj 8]⟩
def c_330:AFn:=⟨2,[.tmp 3],ybs [ydf 2,ybd 3] [yb1 4 2,xL 5 4,yb1 6 1,xL 7 6,xB 8 .eql 5 7,xM 3 8]⟩
def c_331:AFn:=⟨2,[.tmp 4,.tmp 5],yaa [ydf 2,xJ 3 1,yby,ybd 5] (yan [xF 7 2 2,xL 8 7,xM 6 8] [ydl 9,xL 10 9,xK 11 .neq 10 (-1)] (ybu 11 (ybh [ydl 12,xL 13 12,yc7 14 .lss 13,xM 15 14,yaw 16 15 0 3,ybr 17 15 16,yda 18 15 2,ybr 19 15 18,ybc 20 15 19,ybx 21 15 .geq 17 20,xW 22 15 21] 22 [yby,ybd 5] (xR [yb9 23 2,xL 24 23,ydl 25,xL 26 25,xX 27 2 24 26,yb9 28 27,xL 29 28,xM 6 29]))) (ydg [yb9 30 3,xL 31 30,yc7 32 .lss 31,xM 33 32,yda 34 33 3,ybr 35 33 34,ya4 36 33 6,ybc 37 33 36,ybx 38 33 .geq 35 37,xW 39 33 38] 39 [yby,ybd 5] [xM 40 6,yb9 41 3,xL 42 41,xX 43 2 40 42,yb9 44 43,xL 45 44,ydj 45,xC 5 ybz]))⟩
def c_332:AFn:=⟨3,[.tmp 6],ycb (ydf 3) ydb (ya3 [yb8 10,ydl 11,xA 12 10 11,ybg 13 f_333 10 12,xM 9 13,xE 14 0 9,xE 15 1 9,xM 7 14,xM 8 15] [xM 16 8,yc7 17 .eql 16,xM 18 17,ybn 19 18 7,ybn 20 18 2,ybt 21 18 .neq 19 (.t 20),xV 22 18 21] 22 [xI 6 10] (ycu (xM 23 8) 6 23))⟩
def c_333:AFn:=⟨2,[.tmp 4,.tmp 5],ya3 [xJ 3 1,yby,yc3] [ych 7,xN 8 7,xK 9 .gtr 8 24] 9 [yby,xI 5 12] (yaa [xA 11 10 3,ych 12,ycs 13 f_343 11 12 (yao 0),xM 10 13,xE 14 0 10,xE 15 1 10,xE 16 2 10,ydj 14,xM 6 15,ydi 16] (ycz 0 [yce 18,yc7 19 .neq 18,xM 17 19] 17 [yce 20,yby,ydi 20] (ya2 [xM 22 6,ych 23,xN 24 23,xB 25 .lss 22 24,xM 21 25] 21 [yby,xI 5 4]) (yad [xM 26 4,ydj 26,yc3])))⟩
def c_334:AFn:=⟨3,[.tmp 6],ya0 [ydf 3,xJ 5 2,ydb] (xD [ydk 8 3,xF 9 6 3,xL 10 9,yb8 11,xX 12 7 10 11,xF 13 3 12,xA 14 2 13,ybg 15 f_261 8 14,xM 7 15]) (ycz 0 [yb1 17 5,xL 18 17,xM 19 7,ybg 20 f_262 18 19,ybo 21 20,xM 22 21,yda 23 22 5,ybr 24 22 23,ya4 25 22 7,ycw 26 22 f_262 [.t 24,.t 25],yde 27 22 26,xW 28 22 27,xM 16 28] 16 [xI 6 9] (ybm [yb1 30 5,xL 31 30,yb9 32 5,xL 33 32,xB 34 .andNot 31 33,xO 35 (yar .neq 34 (.c (yc6 0))),xM 29 35] 29 [xI 6 5] (ya2 [ydk 37 3,yb8 38,xF 39 2 5,xL 40 39,yct 41 f_335 37 38 40,ybo 42 41,xM 36 42] 36 [xI 6 14])) (yad [ydb]))⟩
def c_335:AFn:=⟨3,[.tmp 6],yan [ydf 3,ybd 6] [xM 7 2] (.block 0 (yaj 2 (.block 1 (.seq (yae [xK 9 .eql 7 (-1),xM 8 9] (ybu 8 (.exit 1)) (ycc (xK 11 .eql 7 (-2)) 10 11 (ybu 10 (.exit 2)))) (.exit 0))) (.seq (yad [xC 6 ybz]) (.exit 0)))) (yad [xM 12 2,yb8 13,xB 14 .gtr 12 13,xM 15 14,ybn 16 15 2,ybw 17 15 6 3,yb5 18 15 1 17,yas 19 15 (ya5 18),ybt 20 15 .lss 16 (.t 19),xV 21 15 20,xM 6 21])⟩
def c_336:AFn:=⟨2,[.tmp 3],ycb (ydf 2) (ybd 3) (ybs [xL 4 1,yca 5 .add 4,xS 1 1 5] [xC 3 ybz])⟩
def c_337_l0:ACode:=yc2 [xB 9 .lss 8 7] 9 0 1 (ycc (xM 10 8) 5 10 (ya2 [yb8 11,ych 12,yce 13,xX 14 1 12 13,xL 15 14,xB 16 .eql 11 15] 16 [yce 17,ydj 17])) [yca 18 .add 8,xM 8 18]
def c_337_k1:ACode:=yad [yb4 4]
def c_337:AFn:=⟨2,[.tmp 4],ybj [yby] [ych 6,xN 7 6,ya8 8] 0 c_337_l0 c_337_k1⟩
def c_338:AFn:=⟨2,[.tmp 4],ya3 [xC 4 (yc6 0)] [yb8 5,yb3 6 f_309 5,ybo 7 6] 7 [xC 4 (yc6 0)] (ybs [ych 8,xO 9 (.minmax true [.t 8,.c (.int .i64 0)]),yb8 10,xO 11 (.minmax false [.t 9,.t 10]),xM 0 11] [yb8 12,yb3 13 f_310 12,yb8 14,ych 15,xB 16 .sub 14 15,yb3 17 f_310 16,xB 18 .sub 13 17,xO 19 (.conv .u32 (.t 18)),ydj 19])⟩
def c_339:AFn:=⟨2,[.cell 4 true 2],yaa [yax 4 [.str [],.fslice 2 []]] (ya3 [yax 5 [.str [],.fslice 2 []]] [yb8 6,yc7 7 .lss 6,xM 8 7,ya4 9 8 1,ya4 10 8 0,ybc 11 8 10,ybx 12 8 .geq 9 11,xW 13 8 12] 13 [xA 14 2 5,xS 2 4 14] (yad [ych 15,yb8 16,xX 17 2 15 16,xA 18 2 17,xS 2 4 18]))⟩
def c_340_l0:ACode:=ycn [xM 51 14,xM 52 9,xB 53 .lss 51 52] 53 0 1 (ya3 [ych 57,xM 58 13,xA 59 10 5,yct 60 f_340 57 58 59,xM 56 60,xE 61 0 56,xE 62 1 56,xE 63 2 56,xM 15 61,xM 16 62,xM 17 63] [xM 64 17,yc7 65 .neq 64] 65 [xM 66 16,xM 67 17,ydb,xM 7 66,xM 8 67] (yaa [xM 68 12,xM 69 15,xO 70 (.bslice .imm 1 (List.replicate 1 [.int .i64 0]) [(0,(.t 69))]),ycx 71 1 8 68 70,xM 12 71] (xR [xM 72 16,xM 13 72]))) [xM 54 14,yca 55 .add 54,xM 14 55]
def c_340_k1:ACode:=ybs [ych 74,yb8 75,xX 76 3 74 75,xA 77 3 76,xM 78 12,ybg 79 f_346 77 78,xM 73 79,xE 80 0 73,xE 81 1 73,xM 18 80,xM 19 81] [xM 82 18,xM 83 13,xM 84 19,xM 6 82,xM 7 83,xM 8 84]
def c_340:AFn:=⟨3,[.tmp 6,.tmp 7,.tmp 8],ya3 [xJ 5 2,ydb,ya8 7,ya8 8] [yb8 20,ych 21,xN 22 21,xB 23 .geq 20 22] 23 [yb8 24,ydb,xM 7 24,xI 8 3] (ya3 [ych 25,yb8 26,xX 27 3 25 26,yb1 28 27,xL 29 28,yb3 30 f_344 29,xM 9 30] [xM 31 9,yc7 32 .lss 31] 32 [yb8 33,ydb,xM 7 33,xI 8 11] (yae [xM 34 9,yc7 35 .eql 34] (ybu 35 (yci [ych 37,yb8 38,xX 39 3 37 38,xA 40 3 39,xA 41 10 5,ybg 42 f_345 40 41,xM 36 42,xE 43 0 36,xE 44 1 36,xM 10 43,xM 11 44] (yad [xM 45 10,yb8 46,yca 47 .add 46,xM 48 11,xM 6 45,xM 7 47,xM 8 48]))) (yaa [ycd 12 1] (ybj [yb8 49,yca 50 .add 49,xM 13 50] [ya8 14] 0 c_340_l0 c_340_k1))))⟩
def c_341:AFn:=⟨1,[.tmp 2],ybs [ydf 1,ybd 2] [yb1 3 1,xL 4 3,yca 5 .eql 4,yce 6,yaw 7 6 0 1,ybr 8 6 7,ybl 9 6 .eql 8 3,xW 10 6 9,xM 2 10]⟩
def c_342_l0:ACode:=yc2 [xB 9 .lss 8 7] 9 0 1 (ycc (xM 10 8) 5 10 (ya2 [yb8 11,ych 12,yce 13,xX 14 2 12 13,xA 15 2 14,xO 16 (ydd 11 [.t 15])] 16 [yce 17,ydj 17])) [yca 18 .add 8,xM 8 18]
def c_342_k1:ACode:=yad [yb4 4]
def c_342:AFn:=⟨2,[.tmp 4],ybj [yby] [ych 6,xN 7 6,ya8 8] 0 c_342_l0 c_342_k1⟩
def c_343_l0:ACode:=yc2 [xB 45 .lss 44 43] 45 1 2 (yb0 [xM 46 44,xM 11 46] [xM 48 11,xA 49 10 3,yb8 50,xM 51 7,yct 52 f_343 49 50 51,xM 47 52,xE 53 0 47,xE 54 1 47,xE 55 2 47,xO 56 (ybi 1 (some 3) 10 (.t 48)),xS 1 56 53,xM 7 54,xM 8 55] (ya2 [xM 57 8,yc7 58 .neq 57] 58 [xM 59 8,ydb,ya8 7,xM 8 59])) [yca 60 .add 44,xM 44 60]
def c_343_k1:ACode:=yci [yb8 62,xM 63 2,xX 64 3 62 63,xA 65 3 64,xA 66 3 10,ybg 67 f_349 65 66,xM 61 67,xE 68 0 61,xE 69 1 61,xM 6 68,xM 8 69] (yad [xM 70 6,xM 71 7,xM 72 8,xM 6 70,xM 7 71,xM 8 72])
def c_343:AFn:=⟨3,[.tmp 6,.tmp 7,.tmp 8],ya3 [ydf 3,ydb,ya8 7,ya8 8] [xM 12 2,yb8 13,xN 14 13,xB 15 .geq 12 14] 15 [ydb,ya8 7,xI 8 3] (yaa [yb8 16,xM 17 2,xX 18 3 16 17,yb1 19 18,xL 20 19,yb3 21 f_347 20,xM 9 21] (ycz 0 [xM 23 9,yc7 24 .lss 23,xM 22 24] 22 [ydb,ya8 7,xI 8 11] (yaa [xM 26 9,yc7 27 .eql 26,xM 25 27] (ybu 25 (yci [xA 29 10 3,yb8 30,xM 31 2,xX 32 3 30 31,xA 33 3 32,ybg 34 f_348 29 33,xM 28 34,xE 35 0 28,xE 36 1 28,xM 6 35,xM 8 36] (yad [xM 37 6,xM 38 2,yca 39 .add 38,xM 40 8,xM 6 37,xM 7 39,xM 8 40])))) (yaa [yax 10 [ybb,ybb,ybb]] (ybj [xM 41 2,yca 42 .add 41,xM 7 42] [xM 43 9,ya8 44] 1 c_343_l0 c_343_k1))))⟩
def c_344:AFn:=⟨1,[.tmp 2],yaa [ya8 2] (ycz 0 [ych 4,yca 5 .geq 4,yce 6,ybn 7 6 0,ybt 8 6 .leq 7 (yao 4),xV 9 6 8,xM 3 9] 3 [ya8 2] (ybm [ych 11,xK 12 .geq 11 5,xM 13 12,ybn 14 13 0,ybt 15 13 .leq 14 (yao 8),xV 16 13 15,xM 10 16] 10 [xI 2 1] (ybm [ych 18,xK 19 .geq 18 9,xM 20 19,ybn 21 20 0,ybt 22 20 .leq 21 (yao 16),xV 23 20 22,xM 17 23] 17 [xI 2 2] (ya2 [ych 25,xK 26 .eql 25 17,xM 24 26] 24 [xI 2 3]))) (yad [yb4 2]))⟩
def c_345:AFn:=⟨2,[.tmp 4,.tmp 5],yan [ydf 2,xJ 3 1,yby,yc3] [yb1 10 2,xL 11 10] (.block 0 (yc4 (yca 13 .eql 11) 12 13 12 (ya0 [xF 15 2 2,xL 16 15,yb3 17 f_350 16,xM 14 17,xE 18 0 14,xE 19 1 14,xM 6 18,xM 7 19] (yci [xM 20 7,yc7 21 .eql 20,xM 22 21,ybw 23 22 1 2,yb5 24 22 1 23,ybt 25 22 .lss 24 (yao 0),ybn 26 22 25,yda 27 26 2,ybr 28 26 27,ya4 29 26 6,ycw 30 26 f_308 [.t 29],yac 31 26 (.conv .i64 (.t 30)),ybx 32 26 .gtr 28 31,yas 33 22 (.pick (.t 26) (.c ybz) (.t 32)),xV 34 22 33] (yai 34 [yby,xI 5 9])) (yad [xM 35 6,xM 36 7,ydj 35,ydi 36])) (yc4 (xK 38 .eql 11 2) 37 38 37 (ya3 [ydl 40,ydk 41 40,yb9 42 2,xL 43 42,xF 44 2 2,xL 45 44,xO 46 (.build [.int .i64 0,.int .i64 0] [(0,1,(.t 43)),(1,1,(.t 45))]),ybg 47 f_320 41 46,xM 39 47,xE 48 0 39,xE 49 1 39,xM 8 48,xM 9 49] [xM 50 9,ybo 51 50] 51 [yby,xI 5 8] (yad [xM 52 8,yb3 53 f_350 52,xE 54 0 53,xE 55 1 53,ydj 54,ydi 55])) (ycc (xK 57 .eql 11 3) 56 57 (ybu 56 (ydg [yb9 58 2,xL 59 58,yc7 60 .lss 59,xM 61 60,yda 62 61 2,ybr 63 61 62,yaw 64 61 9 3,ybr 65 61 64,ybc 66 61 65,ybx 67 61 .geq 63 66,xW 68 61 67] 68 [yby,xI 5 8] [xF 69 9 3,xL 70 69,yb9 71 2,xL 72 71,xX 73 2 70 72,yb9 74 73,xL 75 74,yb3 76 f_350 75,xE 77 0 76,xE 78 1 76,ydj 77,ydi 78])))))) (ybh [yb9 79 2,xL 80 79,yc7 81 .lss 80,xM 82 81,yda 83 82 2,ybr 84 82 83,yaw 85 82 0 3,yda 86 82 85,ybr 87 82 86,ybc 88 82 87,ybx 89 82 .geq 84 88,xW 90 82 89] 90 [yby,xI 5 8] (yb6 (xI 4 1) yc3))⟩
def c_346:AFn:=⟨2,[.tmp 4,.tmp 5],yan [ydf 2,yby,yc3] [yb1 6 2,xL 7 6] (.block 0 (ybm [xK 9 .eql 7 5,xM 8 9] 8 [yb8 10,xO 11 (ycj 1 10 (yao 0)),xL 12 11,ydj 12,yc3] (yae [xK 14 .eql 7 6,xM 13 14] (yab 13 .skip (xR [xK 15 .eql 7 7,xM 13 15])) (yab 13 (ydg [yb9 16 2,xL 17 16,yc7 18 .lss 17,xM 19 18,yda 20 19 2,ybr 21 19 20,ybl 22 19 .gtr 21 31,xW 23 19 22] 23 [yby,xI 5 9] [yb8 24,xO 25 (ycj 1 24 (yao 0)),xL 26 25,ydj 26,yc3]) (yc4 (xK 28 .eql 7 8) 27 28 27 (ycz 1 [yb9 30 2,xL 31 30,yc7 32 .lss 31,xM 29 32] 29 [yby,xI 5 9] (yci [xF 34 2 2,xL 35 34,yca 36 .lss 35,xM 37 36,yaw 38 37 2 2,ybr 39 37 38,ybl 40 37 .gtr 39 32,xW 41 37 40,xM 42 41,yda 43 42 2,ybr 44 42 43,ya4 45 42 1,yac 46 42 (ycj 1 45 (yao 0)),ybr 47 42 46,yaw 48 42 2 2,ybr 49 42 48,ybx 50 42 .sub 47 49,ybx 51 42 .gtr 44 50,xW 52 42 51,xM 33 52] (yai 33 [yby,xI 5 10])) (yad [xF 53 2 2,xL 54 53,ydj 54,yc3])) (yc4 (xK 56 .eql 7 14) 55 56 55 (yci [yb8 57,xO 58 (ycj 1 57 (yao 0)),xL 59 58,yb8 60,xO 61 (ycj 1 60 (yao 1)),xL 62 61,xB 63 .add 59 62,yb3 64 f_350 63,xE 65 0 64,xE 66 1 64,ydj 65,ydi 66] .ret) (ycc (xK 68 .eql 7 17) 67 68 (ybu 67 (.seq (yci [yb8 69,xO 70 (ycj 1 69 (yao 0)),xL 71 70,yca 72 .neq 71,xM 73 72,ya4 74 73 1,yac 75 73 (ycj 1 74 (yao 1)),ybr 76 73 75,ya4 77 73 1,yac 78 73 (ycj 1 77 (yao 2)),ybr 79 73 78,ybx 80 73 .neq 76 79,xW 81 73 80] (yai 81 [yby,xI 5 10])) (yad [yb8 82,xO 83 (ycj 1 82 (yao 1)),xL 84 83,ydj 84,yc3])))))))))) (yaj 2 (yci [yb8 86,xO 87 (ycj 1 86 (yao 0)),xL 88 87,yb8 89,xO 90 (ycj 1 89 (yao 1)),xL 91 90,xB 92 .neq 88 91,xM 85 92] (yah 85 [yby,xI 5 10] (ya2 [yb1 94 2,xL 95 94,xK 96 .eql 95 15,xM 97 96,yaw 98 97 0 2,ybr 99 97 98,ybl 100 97 .eql 99 16,xW 101 97 100,xM 93 101] 93 [xI 4 1,yc3]))) (yad [yb8 102,xO 103 (ycj 1 102 (yao 0)),xL 104 103,ydj 104,yc3]))⟩
def c_347:AFn:=⟨1,[.tmp 2],yan [ya8 2] [ych 3] (.block 0 (yae [yca 5 .eql 3,yce 4] (yab 4 .skip (yc4 (xK 6 .eql 3 2) 4 6 4 .skip (yc4 (xK 7 .eql 3 3) 4 7 4 .skip (xR [xK 8 .eql 3 4,ydj 8])))) (yah 4 [ya8 2] (yae [xK 10 .eql 3 5,xM 9 10] (yab 9 .skip (yc4 (xK 11 .eql 3 6) 9 11 9 .skip (yc4 (xK 12 .eql 3 7) 9 12 9 .skip (xR [xK 13 .eql 3 8,xM 9 13])))) (yah 9 [xI 2 1] (yae [xK 15 .eql 3 9,xM 14 15] (yab 14 .skip (yc4 (xK 16 .eql 3 10) 14 16 14 .skip (yc4 (xK 17 .eql 3 11) 14 17 14 .skip (yc4 (xK 18 .eql 3 12) 14 18 14 .skip (yc4 (xK 19 .eql 3 13) 14 19 14 .skip (yc4 (xK 20 .eql 3 14) 14 20 14 .skip (yc4 (xK 21 .eql 3 15) 14 21 14 .skip (xR [xK 22 .eql 3 16,xM 14 22])))))))) (yah 14 [xI 2 2] (ya2 [xK 24 .eql 3 17,xM 23 24] 23 [xI 2 3])))))))) (yad [yb4 2])⟩
def c_348:AFn:=⟨2,[.tmp 4,.tmp 5],yan [ydf 2,xJ 3 1,yby,yc3] [ydl 10,xL 11 10] (.block 0 (yc4 (yca 13 .eql 11) 12 13 12 (ya0 [xF 15 2 3,xL 16 15,yb3 17 f_351 16,xM 14 17,xE 18 0 14,xE 19 1 14,xM 6 18,xM 7 19] (yci [xM 20 7,yc7 21 .eql 20,xM 22 21,ybw 23 22 1 3,yb5 24 22 1 23,ybt 25 22 .lss 24 (yao 0),ybn 26 22 25,yda 27 26 3,ybr 28 26 27,ya4 29 26 6,ycw 30 26 f_152 [.t 29],yac 31 26 (.conv .i64 (.t 30)),ybx 32 26 .gtr 28 31,yas 33 22 (.pick (.t 26) (.c ybz) (.t 32)),xV 34 22 33] (yai 34 [yby,xI 5 9])) (yad [xM 35 6,xM 36 7,ydj 35,ydi 36])) (yc4 (xK 38 .eql 11 2) 37 38 37 (.seq (xQ [xA 40 10 2,yb9 41 3,xL 42 41,xF 43 2 3,xL 44 43,yct 45 f_352 40 42 44,xM 39 45,xE 46 0 39,xE 47 1 39,yax 8 [.str [],ybb],xS 2 8 46,xM 9 47] [8]) (ydg [xM 48 9,ybo 49 48] 49 [yby,xI 5 8] [yb9 50 8,xL 51 50,yb3 52 f_351 51,xE 53 0 52,xE 54 1 52,ydj 53,ydi 54])) (ycc (xK 56 .eql 11 3) 55 56 (ybu 55 (ydg [yb9 57 3,xL 58 57,yc7 59 .lss 58,xM 60 59,yda 61 60 3,ybr 62 60 61,yaw 63 60 9 2,ybr 64 60 63,ybc 65 60 64,ybx 66 60 .geq 62 65,xW 67 60 66] 67 [yby,xI 5 8] [xF 68 9 2,xL 69 68,yb9 70 3,xL 71 70,xX 72 2 69 71,yb9 73 72,xL 74 73,yb3 75 f_351 74,xE 76 0 75,xE 77 1 75,ydj 76,ydi 77])))))) (ybh [yb9 78 3,xL 79 78,yc7 80 .lss 79,xM 81 80,yda 82 81 3,ybr 83 81 82,yaw 84 81 0 2,yda 85 81 84,ybr 86 81 85,ybc 87 81 86,ybx 88 81 .geq 83 87,xW 89 81 88] 89 [yby,xI 5 8] (yb6 (xI 4 1) yc3))⟩
def c_349:AFn:=⟨2,[.tmp 4,.tmp 5],yan [ydf 2,xJ 3 1,yby,yc3] [yb1 8 2,xL 9 8] (.block 0 (yae [xK 11 .eql 9 6,xM 10 11] (yab 10 .skip (xR [xK 12 .eql 9 7,xM 10 12])) (yab 10 (ya2 [yb9 13 2,xL 14 13,yc7 15 .lss 14,xM 16 15,yda 17 16 2,ybr 18 16 17,ybl 19 16 .gtr 18 31,xW 20 16 19] 20 [yby,xI 5 9]) (yc4 (xK 22 .eql 9 8) 21 22 21 (ybh [yb9 23 2,xL 24 23,yc7 25 .lss 24] 25 [yby,xI 5 9] (yae [xF 27 2 2,xL 28 27,yb3 29 f_351 28,xM 26 29,xE 30 0 26,xE 31 1 26,xM 6 30,xM 7 31] (ya2 [xM 32 7,yc7 33 .neq 32,xM 34 33,yda 35 34 2,ybr 36 34 35,yac 37 34 (ybi 1 (some 3) 3 (yao 0)),ybr 38 34 37,yaw 39 34 2 2,ybr 40 34 39,ybx 41 34 .sub 38 40,ybx 42 34 .gtr 36 41,xW 43 34 42] 43 [yby,xI 5 10]) (yad [xF 44 2 2,xL 45 44,ydj 45,yc3]))) (ybm [xK 47 .eql 9 14,xM 46 47] 46 [xO 48 (ybi 1 (some 3) 3 (yao 0)),xL 49 48,xO 50 (ybi 1 (some 3) 3 (yao 1)),xL 51 50,xB 52 .add 49 51,yb3 53 f_351 52,xE 54 0 53,xE 55 1 53,ydj 54,ydi 55] (ycc (xK 57 .eql 9 17) 56 57 (ybu 56 (ydg [xO 58 (ybi 1 (some 3) 3 (yao 0)),xL 59 58,yca 60 .neq 59,xM 61 60,yac 62 61 (ybi 1 (some 3) 3 (yao 1)),ybr 63 61 62,yac 64 61 (ybi 1 (some 3) 3 (yao 2)),ybr 65 61 64,ybx 66 61 .neq 63 65,xW 67 61 66] 67 [yby,xI 5 10] [xO 68 (ybi 1 (some 3) 3 (yao 1)),xL 69 68,ydj 69,yc3])))))))) (ybh [yb1 70 2,xL 71 70,yb3 72 f_347 71,xK 73 .eql 72 2,xM 74 73,yas 75 74 (ybi 1 (some 3) 3 (yao 0)),yb5 76 74 1 75,yas 77 74 (ybi 1 (some 3) 3 (yao 1)),yb5 78 74 1 77,ybt 79 74 .neq 76 (.t 78),xV 80 74 79] 80 [yby,xI 5 10] (ydg [yb1 81 2,xL 82 81,xK 83 .eql 82 15,xM 84 83,yaw 85 84 0 2,ybr 86 84 85,ybl 87 84 .eql 86 16,xW 88 84 87] 88 [xI 4 1,yc3] [xO 89 (ybi 1 (some 3) 3 (yao 0)),xL 90 89,ydj 90,yc3]))⟩
def c_350:AFn:=⟨1,[.tmp 2,.tmp 3],ya3 [ya8 2,ya8 3] [ych 4,yca 5 .lss 4,yce 6,ya4 7 6 0,ybl 8 6 .gtr 7 32,xW 9 6 8] 9 [ya8 2,xI 3 10] (yad [ych 10,xM 2 10,ya8 3])⟩
def c_351:AFn:=⟨1,[.tmp 2,.tmp 3],ya3 [ya8 2,ya8 3] [ych 4,yca 5 .lss 4,yce 6,ya4 7 6 0,ybl 8 6 .gtr 7 32,xW 9 6 8] 9 [ya8 2,xI 3 10] (yad [ych 10,xM 2 10,ya8 3])⟩
def c_352:AFn:=⟨3,[.cell 6 true 2,.tmp 7],yaa [ydf 3,yax 6 [.str [],ybb],ybd 7] (yan [ydl 9,xF 10 2 9,xL 11 10,xM 8 11] [yb8 12,xK 13 .neq 12 (-1)] (ybu 13 (ybh [yb8 14,yc7 15 .lss 14,xM 16 15,ya4 17 16 1,yaw 18 16 0 3,yda 19 16 18,ybr 20 16 19,ybc 21 16 20,ybx 22 16 .geq 17 21,xW 23 16 22] 23 [xO 24 (.build [.str [],.int .i64 0] []),xS 2 6 24,ybd 7] (xR [ydl 25,yb9 26 25,xL 27 26,yb8 28,xX 29 2 27 28,yb9 30 29,xL 31 30,xM 8 31]))) (ydg [xM 32 2,yc7 33 .lss 32,xM 34 33,ya4 35 34 2,ya4 36 34 8,ybc 37 34 36,ybx 38 34 .geq 35 37,xW 39 34 38] 39 [xO 40 (.build [.str [],.int .i64 0] []),xS 2 6 40,ybd 7] [xM 41 8,xM 42 2,xX 43 2 41 42,xA 44 2 43,xS 2 6 44,xC 7 ybz]))⟩
def tabL:List (Nat×AFn):=[(f_13,c_13),
  (f_17,c_17),
  (f_18,c_18),
  (f_19,c_19),
  (f_24,c_24),
  (f_31,c_31),
  (f_33,c_33),
  (f_34,c_34),
  (f_35,c_35),
  (f_36,c_36),
  (f_37,c_37),
  (f_38,c_38),
  (f_42,c_42),
  (f_43,c_43),
  (f_44,c_44),
  (f_45,c_45),
  (f_48,c_48),
  (f_52,c_52),
  (f_53,c_53),
  (f_55,c_55),
  (f_64,c_64),
  (f_65,c_65),
  (f_66,c_66),
  (f_67,c_67),
  (f_68,c_68),
  (f_69,c_69),
  (f_72,c_72),
  (f_74,c_74),
  (f_76,c_76),
  (f_77,c_77),
  (f_78,c_78),
  (f_79,c_79),
  (f_80,c_80),
  (f_81,c_81),
  (f_82,c_82),
  (f_85,c_85),
  (f_86,c_86),
  (f_87,c_87),
  (f_88,c_88),
  (f_89,c_89),
  (f_90,c_90),
  (f_91,c_91),
  (f_92,c_92),
  (f_93,c_93),
  (f_94,c_94),
  (f_95,c_95),
  (f_96,c_96),
  (f_97,c_97),
  (f_109,c_109),
  (f_110,c_110),
  (f_111,c_111),
  (f_115,c_115),
  (f_117,c_117),
  (f_118,c_118),
  (f_119,c_119),
  (f_120,c_120),
  (f_125,c_125),
  (f_126,c_126),
  (f_127,c_127),
  (f_128,c_128),
  (f_129,c_129),
  (f_130,c_130),
  (f_131,c_131),
  (f_139,c_139),
  (f_145,c_145),
  (f_146,c_146),
  (f_147,c_147),
  (f_148,c_148),
  (f_149,c_149),
  (f_150,c_150),
  (f_151,c_151),
  (f_152,c_152),
  (f_153,c_153),
  (f_154,c_154),
  (f_155,c_155),
  (f_156,c_156),
  (f_157,c_157),
  (f_158,c_158),
  (f_160,c_160),
  (f_163,c_163),
  (f_164,c_164),
  (f_165,c_165),
  (f_175,c_175),
  (f_176,c_176),
  (f_177,c_177),
  (f_178,c_178),
  (f_179,c_179),
  (f_180,c_180),
  (f_181,c_181),
  (f_183,c_183),
  (f_184,c_184),
  (f_185,c_185),
  (f_187,c_187),
  (f_190,c_190),
  (f_191,c_191),
  (f_192,c_192),
  (f_193,c_193),
  (f_194,c_194),
  (f_195,c_195),
  (f_196,c_196),
  (f_197,c_197),
  (f_198,c_198),
  (f_199,c_199),
  (f_200,c_200),
  (f_201,c_201),
  (f_202,c_202),
  (f_203,c_203),
  (f_212,c_212),
  (f_213,c_213),
  (f_216,c_216),
  (f_217,c_217),
  (f_218,c_218),
  (f_219,c_219),
  (f_220,c_220),
  (f_221,c_221),
  (f_222,c_222),
  (f_223,c_223),
  (f_227,c_227),
  (f_228,c_228),
  (f_229,c_229),
  (f_230,c_230),
  (f_231,c_231),
  (f_232,c_232),
  (f_233,c_233),
  (f_234,c_234),
  (f_235,c_235),
  (f_236,c_236),
  (f_237,c_237),
  (f_238,c_238),
  (f_239,c_239),
  (f_240,c_240),
  (f_241,c_241),
  (f_242,c_242),
  (f_243,c_243),
  (f_244,c_244),
  (f_245,c_245),
  (f_246,c_246),
  (f_247,c_247),
  (f_248,c_248),
  (f_249,c_249),
  (f_250,c_250),
  (f_251,c_251),
  (f_252,c_252),
  (f_253,c_253),
  (f_254,c_254),
  (f_257,c_257),
  (f_258,c_258),
  (f_259,c_259),
  (f_260,c_260),
  (f_261,c_261),
  (f_262,c_262),
  (f_263,c_263),
  (f_265,c_265),
  (f_267,c_267),
  (f_268,c_268),
  (f_269,c_269),
  (f_270,c_270),
  (f_271,c_271),
  (f_272,c_272),
  (f_273,c_273),
  (f_274,c_274),
  (f_275,c_275),
  (f_276,c_276),
  (f_277,c_277),
  (f_278,c_278),
  (f_279,c_279),
  (f_287,c_287),
  (f_288,c_288),
  (f_293,c_293),
  (f_294,c_294),
  (f_295,c_295),
  (f_296,c_296),
  (f_297,c_297),
  (f_298,c_298),
  (f_299,c_299),
  (f_300,c_300),
  (f_301,c_301),
  (f_302,c_302),
  (f_303,c_303),
  (f_304,c_304),
  (f_305,c_305),
  (f_306,c_306),
  (f_307,c_307),
  (f_308,c_308),
  (f_309,c_309),
  (f_310,c_310),
  (f_313,c_313),
  (f_314,c_314),
  (f_315,c_315),
  (f_316,c_316),
  (f_317,c_317),
  (f_318,c_318),
  (f_319,c_319),
  (f_320,c_320),
  (f_321,c_321),
  (f_322,c_322),
  (f_323,c_323),
  (f_324,c_324),
  (f_325,c_325),
  (f_326,c_326),
  (f_328,c_328),
  (f_329,c_329),
  (f_330,c_330),
  (f_331,c_331),
  (f_332,c_332),
  (f_333,c_333),
  (f_334,c_334),
  (f_335,c_335),
  (f_336,c_336),
  (f_337,c_337),
  (f_338,c_338),
  (f_339,c_339),
  (f_340,c_340),
  (f_341,c_341),
  (f_342,c_342),
  (f_343,c_343),
  (f_344,c_344),
  (f_345,c_345),
  (f_346,c_346),
  (f_347,c_347),
  (f_348,c_348),
  (f_349,c_349),
  (f_350,c_350),
  (f_351,c_351),
  (f_352,c_352)]
def tabD:List (Nat×ADFn):=[(f_51,c_51),
  (f_63,c_63)]
def tabC:List CloneD:=[⟨f_161,1,4,.app⟩,⟨f_162,1,8,.row⟩,⟨f_182,2,8,.app⟩,⟨f_214,2,24,.app⟩,⟨f_215,3,32,.app⟩,⟨f_226,1,1,.app⟩,⟨f_289,3,24,.app⟩,⟨f_290,3,16,.app⟩,⟨f_291,3,24,.app⟩]
def nilL:List (Nat×Nat):=[(f_41,9),(f_51,9),(f_52,13),(f_52,17),(f_53,13),(f_53,14),(f_75,3),(f_77,13),(f_79,11),(f_101,8),(f_107,10),(f_137,6),(f_176,5),(f_188,5),(f_212,5),(f_216,5),(f_218,5),(f_220,5),(f_222,5),(f_230,5),(f_234,5),(f_237,5),(f_240,5),(f_243,5),(f_249,5),(f_278,3),(f_287,5),(f_294,3),(f_340,12)]
def thr:List Nat:=[f_18,f_23,f_24,f_26,f_28,f_29,f_32,f_33,f_34,f_35,f_36,f_51,f_57,f_58,f_66,f_76,f_81,f_82,f_88,f_91,f_93,f_94,f_117,f_118,f_133,f_134,f_135,f_136,f_141,f_205,f_207,f_208,f_209,f_211,f_281,f_282,f_285,f_286,f_292,f_301,f_327]
def thrAt:List (Nat×Nat):=[(f_140,f_226),(f_58,f_140),(f_206,f_280),(f_29,f_83),(f_83,f_168),(f_169,f_168),(f_39,f_40),(f_76,f_162),(f_39,f_21)]
def thrV:List Nat:=[f_292,f_186,f_40,f_301]
def rowAt:List (Nat×Nat):=[(f_33,112),(f_78,48),(f_80,41),(f_53,42),(f_162,7)]
def thrVAt:List (Nat×Nat):=[]
def rowF:List Nat:=[f_76,f_21]
def rowFB:List Nat:=[]
def appAt:List (Nat×Nat):=[(f_21,32),(f_76,70)]
def immAt:List (Nat×Nat):=[(f_75,27)]
def slcHL:List Nat:=[f_93]
def browAt:List (Nat×Nat):=[(f_76,39)]
def boxiAt:List (Nat×Nat):=[(f_66,2),(f_18,2),(f_18,3),(f_23,1),(f_21,1)]
def takeAt:List (Nat×Nat):=[(f_78,65)]
def boxiL:List (Nat×List Nat):=[(3,[2,3]),(4,[1]),(5,[1]),(6,[1]),(7,[3,4,5]),(8,[3,4,5]),(9,[3,4,5]),(10,[3,4,5]),(11,[3,4]),(12,[3,4]),(13,[3,4]),(14,[2]),(17,[2,3]),(19,[2,3]),(22,[1]),(27,[3,4,5]),(30,[4,5]),(37,[2,3]),(41,[3,4,5]),(44,[3,4]),(46,[2]),(48,[3,4]),(52,[3,4]),(53,[3,4]),(54,[1]),(55,[1]),(64,[5,9]),(65,[2]),(67,[4]),(68,[3,5]),(69,[2]),(73,[1]),(74,[1]),(75,[1]),(77,[4,5,7]),(78,[5,6,9]),(79,[4,5]),(80,[4,5,7]),(84,[4]),(86,[3,5]),(90,[1]),(92,[3,5]),(95,[1]),(103,[2,3]),(107,[4,5]),(109,[3,4]),(120,[3]),(122,[1]),(123,[1]),(124,[1]),(125,[1]),(126,[1]),(127,[1]),(128,[1]),(129,[1]),(130,[1]),(131,[1]),(139,[1]),(145,[1]),(146,[1]),(147,[1]),(148,[1]),(149,[1]),(150,[2]),(153,[3,5]),(154,[3]),(155,[3]),(156,[2,3]),(158,[1]),(160,[1]),(163,[1]),(164,[4]),(166,[2]),(167,[2]),(169,[5]),(170,[5]),(171,[4,6,7]),(173,[2]),(174,[4,6,7]),(175,[2]),(176,[2]),(177,[3]),(178,[2]),(179,[3]),(180,[2,3]),(184,[1]),(186,[1]),(190,[3,4,5]),(196,[1]),(198,[1]),(199,[2]),(200,[2]),(201,[1]),(202,[1]),(203,[1]),(231,[1]),(232,[1]),(235,[1]),(238,[1]),(239,[1]),(241,[1]),(242,[2]),(244,[1]),(245,[1]),(246,[1]),(247,[1]),(249,[2]),(250,[3]),(251,[2]),(252,[2]),(255,[3,5]),(256,[3,5]),(258,[2,3]),(259,[2,3]),(260,[2]),(261,[2,3]),(266,[5]),(269,[2]),(271,[3,4,5]),(272,[2]),(273,[2,3]),(274,[2,3]),(275,[2]),(279,[3]),(294,[1]),(296,[1]),(297,[2,3]),(298,[2]),(302,[5]),(303,[3,4]),(304,[1]),(306,[2,3]),(318,[2]),(320,[2,3]),(321,[4]),(322,[3]),(323,[2,3]),(324,[2]),(325,[3]),(330,[2]),(331,[2,3]),(332,[3]),(333,[3]),(334,[3,5]),(335,[3]),(336,[2]),(340,[5]),(341,[1]),(343,[3]),(345,[2,3]),(346,[2]),(348,[2,3]),(349,[2,3]),(352,[3])]
def keepL:List (Nat×List (Nat×List Nat)):=[(4,[(10,[6]),(11,[7]),(16,[12]),(17,[14])]),(5,[(14,[7])]),(6,[(9,[5])]),(8,[(3,[7])]),(10,[(6,[9])]),(11,[(3,[7]),(4,[11]),(5,[15])]),(16,[(9,[12]),(10,[14])]),(17,[(1,[5])]),(21,[(4,[5])]),(23,[(1,[4])]),(27,[(5,[9]),(8,[11]),(11,[13])]),(40,[(10,[11]),(17,[18]),(30,[22])]),(44,[(1,[10])]),(49,[(1,[1]),(2,[2]),(3,[3]),(4,[7])]),(52,[(1,[8]),(10,[15]),(20,[20]),(30,[25])]),(53,[(1,[8]),(4,[11]),(11,[16]),(29,[18])]),(56,[(1,[1]),(5,[4])]),(59,[(2,[6])]),(64,[(6,[13]),(15,[15])]),(73,[(4,[5])]),(76,[(8,[8]),(15,[10])]),(83,[(3,[10]),(4,[11])]),(86,[(9,[12])]),(94,[(3,[5])]),(95,[(21,[7])]),(98,[(1,[1])]),(101,[(4,[7]),(11,[11])]),(106,[(4,[7])]),(109,[(10,[12])]),(113,[(1,[1])]),(118,[(5,[9])]),(146,[(4,[4])]),(147,[(5,[4]),(12,[6])]),(148,[(4,[4])]),(167,[(5,[6])]),(168,[(3,[7])]),(169,[(3,[7])]),(175,[(3,[6])]),(176,[(6,[7])]),(178,[(6,[7])]),(186,[(6,[6])]),(190,[(5,[9]),(8,[11]),(11,[13])]),(196,[(11,[5])]),(199,[(3,[6])]),(200,[(3,[6])]),(212,[(4,[7])]),(216,[(4,[7])]),(218,[(4,[7])]),(220,[(4,[7])]),(222,[(4,[7])]),(230,[(4,[7])]),(232,[(9,[4])]),(234,[(4,[7])]),(237,[(4,[7])]),(240,[(4,[7])]),(242,[(3,[6]),(7,[7]),(10,[9])]),(243,[(4,[7])]),(245,[(8,[7])]),(255,[(5,[8])]),(258,[(4,[9])]),(275,[(1,[6])]),(279,[(1,[7])]),(287,[(4,[7])]),(294,[(4,[5])]),(296,[(7,[4])]),(297,[(1,[5])]),(298,[(1,[6]),(16,[10])]),(300,[(6,[5])]),(301,[(3,[6])]),(324,[(1,[6]),(6,[9])]),(348,[(8,[8])])]
def qajb:List (Nat×List Nat):=[(145,[1,2,3,4,5]),(146,[5,6,7]),(147,[1,6,7,8,13]),(148,[5,6,13,14,21,22]),(149,[2,4,6]),(151,[2]),(227,[1])]
def ann:Ann:=
  { pure:=fun fn f _=> !(qb7 f thr)&& !(thrAt.any fun p=>p.1 == fn&&p.2 == f)
    purev:=fun fn d=> !(qb7 fn thrV)&& !(match d with | some t=>thrVAt.any (fun q=>q.1 == fn&&q.2 == t) | none=>false),bmode:=fun fn d=>if qb7 fn rowFB || (match d with | some t=>browAt.any (fun q=>q.1 == fn&&q.2 == t) | none=>false) then .row else .imm,smode:=fun fn d=>match d with | some t=>if immAt.any (fun q=>q.1 == fn&&q.2 == t) then .imm else .row | none=> .row,amode:=fun fn d=>match d with | some t=>if rowAt.any (fun q=>q.1 == fn&&q.2 == t) || (qb7 fn rowF&& !(appAt.any fun q=>q.1 == fn&&q.2 == t)) then .row else .app | none=> .app
    nilapp:=fun fn d=>match d with | some t=>nilL.any (fun q=>q.1 == fn&&q.2 == t) | none=>false
    slch:=fun fn d=>(qb7 fn slcHL&&(match d with | some t=>t == 13 || t == 31 | none=>false)) || (match d with | some t=>takeAt.any (fun q=>q.1 == fn&&q.2 == t) | none=>false)
    boxi:=fun fn d=>match d with | some t=>boxiAt.any (fun q=>q.1 == fn&&q.2 == t) || (match look fn boxiL with | some l=>qb7 t l | none=>false) | none=>false
    keep:=fun fn id=>(look fn keepL).bind (look id)
    split:=fun fn id=>match look fn qajb with | some l=>qb7 id l | none=>false }
def ktabL:List Nat:=[114,113,49,50,73,21,116]
def qr7 (b:FuncId->Option AFun) (P:Program) (A:Ann) (l:List Nat) (f:FuncId):Option AFun:=match b f with
  | some x=>some x
  | none=>if qb7 f l then (cFn P A f).map .code else none
def Φ:FuncId->Option AFun:=qr7 (qsc tabL tabD tabC) Go.Proofs.Tryz.prog ann ktabL
end
end Go.Av
