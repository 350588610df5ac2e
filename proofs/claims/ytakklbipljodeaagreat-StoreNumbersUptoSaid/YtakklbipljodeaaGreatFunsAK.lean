/-
  The compact form of the program's functions, printed by a program.
-/
import Derived.Test.YtakklbipljodeaaGreatAvD
import Derived.Test.YtakklbipljodeaaGreatRows
set_option linter.unusedVariables false
set_option linter.unusedSimpArgs false
set_option linter.constructorNameAsVariable false
namespace Go.Av
noncomputable section
@[reducible] def xM (d s:Nat):AOper:=⟨some d,none,.mov (.t s)⟩
@[reducible] def xI (d:Nat) (n:Int):AOper:=⟨some d,none,.mov (.c (.int .i64 n))⟩
@[reducible] def xC (d:Nat) (v:AV):AOper:=⟨some d,none,.mov (.c v)⟩
@[reducible] def xF (d o s:Nat):AOper:=⟨some d,none,.faddr o (.t s)⟩
@[reducible] def xL (d s:Nat):AOper:=⟨some d,none,.load false 1 (.t s)⟩
@[reducible] def xA (d n s:Nat):AOper:=⟨some d,none,.load true n (.t s)⟩
@[reducible] def xX (d z a i:Nat):AOper:=⟨some d,none,.iaddr z none (.t a) (.t i)⟩
@[reducible] def xS (n p v:Nat):AOper:=⟨none,none,.store n (.t p) (.t v)⟩
@[reducible] def xN (d s:Nat):AOper:=⟨some d,none,.len (.t s)⟩
@[reducible] def xE (d i s:Nat):AOper:=⟨some d,none,.ext i (.t s)⟩
@[reducible] def xB (d:Nat) (p:BinOp) (a b:Nat):AOper:=⟨some d,none,.bin p (.t a) (.t b)⟩
@[reducible] def xK (d:Nat) (p:BinOp) (a:Nat) (n:Int):AOper:=⟨some d,none,.bin p (.t a) (.c (.int .i64 n))⟩
@[reducible] def xW (d a b:Nat):AOper:=⟨some d,none,.pick (.t a) (.c (.bool true)) (.t b)⟩
@[reducible] def xV (d a b:Nat):AOper:=⟨some d,none,.pick (.t a) (.t b) (.c (.bool false))⟩
@[reducible] def xJ (d s:Nat):AOper:=⟨some d,none,.boxi (.t s)⟩
@[reducible] def xO (d:Nat) (p:AOp):AOper:=⟨some d,none,p⟩
@[reducible] def xG (d g:Nat) (b:Bool) (p:AOp):AOper:=⟨some d,some (g,b),p⟩
@[reducible] def xR (l:List AOper):ACode:= .region false [] l none
@[reducible] def xD (l:List AOper):ACode:= .region true [] l none
@[reducible] def xQ (l:List AOper) (k:List Nat):ACode:= .region false [] l (some k)
@[reducible] def yaa (a:List AOper) (b:ACode):ACode:= .seq (xR a) b
@[reducible] def yab (a b:Nat) (c:AOp):AOper:=xG a b false c
@[reducible] def yac (a:Nat) (b c:ACode):ACode:= .cond (.t a) b c
@[reducible] def yad (a:List AOper):ACode:=yaa a .ret
@[reducible] def yae (a:List AOper) (b c:ACode):ACode:= .seq (yaa a b) c
@[reducible] def yaf (a b:Nat) (c:List AX):AOper:=xO a (.pcall b c)
@[reducible] def yag (a:Int):AV:= .int .i64 a
@[reducible] def yah (a:Nat) (b:List AOper) (c:ACode):ACode:=yac a (yad b) c
@[reducible] def yai (a b:Nat):AOp:= .faddr a (.t b)
@[reducible] def yaj (a:Nat) (b:List AOper):ACode:=yah a b .skip
@[reducible] def yak (a:Nat) (b:AX):AOp:= .load false a b
@[reducible] def yal (a:Nat) (b c:ACode):ACode:= .seq (.block a b) c
@[reducible] def yam (a:Nat) (b:ACode):ACode:= .block a (.loop b)
@[reducible] def yan:AV:= .bool false
@[reducible] def yao (a:BinOp) (b:Nat) (c:AX):AOp:= .bin a (.t b) c
@[reducible] def yap (a b:List AOper) (c d:ACode):ACode:=yaa a (yae b c d)
@[reducible] def yaq (a:Int):AX:= .c (yag a)
@[reducible] def yar (a:Nat):AOp:= .mov (.t a)
@[reducible] def yas (a b c d:Nat):AOper:=yab a b (yai c d)
@[reducible] def yat (a:Nat) (b:ACode) (c:Nat):ACode:=yac a b (.exit c)
@[reducible] def yau (a b:Nat):AOp:=yak a (.t b)
@[reducible] def yav (a b c d:Nat):AOper:=yab a b (yau c d)
@[reducible] def yaw (a b:Nat) (c:AOp):AOper:=xG a b true c
@[reducible] def yax (a:Nat) (b:List AV):AOper:=xO a (.alloc b)
@[reducible] def yay (a b:Nat):ACode:=yat a .skip b
@[reducible] def yaz (a b:Nat) (c:BinOp) (d:Nat) (e:AX):AOper:=yab a b (yao c d e)
@[reducible] def ya0 (a b c:Nat):AOper:=yab a b (yar c)
@[reducible] def ya1 (a:List AOper) (b c:ACode):ACode:=yaa a (.seq b c)
@[reducible] def ya2 (a:Nat) (b:ACode) (c:List AOper):ACode:=yal a b (xR c)
@[reducible] def ya3 (a b:List AOper) (c:Nat) (d:List AOper) (e:ACode):ACode:=yap a b (yaj c d) e
@[reducible] def ya4 (a:List AOper) (b:Nat) (c:List AOper):ACode:=yaa a (yaj b c)
@[reducible] def ya5 (a:Nat):AOp:= .len (.t a)
@[reducible] def ya6 (a:AX):AOp:= .un .not a
@[reducible] def ya7 (a:Nat):AOp:=ya6 (.t a)
@[reducible] def ya8 (a:Nat) (b:Option Nat) (c:Nat) (d:AX):AOp:= .iaddr a b (.t c) d
@[reducible] def ya9 (a:Nat) (b c:ACode) (d:List AOper):ACode:=ya2 a (.seq b c) d
@[reducible] def yba (a:Nat):AOper:=xI a 0
@[reducible] def ybb (a:List AOper) (b c:Nat) (d:ACode):ACode:=yae a (yay b c) d
@[reducible] def ybc (a b c:Nat):AOper:=yab a b (ya5 c)
@[reducible] def ybd (a:Nat):AOper:=xC a yan
@[reducible] def ybe (a b:Nat) (c:BinOp) (d:Nat) (e:Int):AOper:=yaz a b c d (yaq e)
@[reducible] def ybf:AV:=yag 0
@[reducible] def ybg (a b:List AOper) (c:Nat) (d e:ACode):ACode:=yap a b (yam c d) e
@[reducible] def ybh (a b:Nat) (c d:AX):AOper:=yaf a b [c,d]
@[reducible] def ybi (a b c:Nat) (d:AX):AOper:=ybh a b (.t c) d
@[reducible] def ybj (a b c d:Nat):AOper:=ybi a b c (.t d)
@[reducible] def ybk (a:List AOper) (b:Nat) (c:List AOper) (d:ACode):ACode:=yae a (yaj b c) d
@[reducible] def ybl (a:List AOper) (b:Nat) (c:List AOper) (d:ACode):ACode:=yaa a (yah b c d)
@[reducible] def ybm (a b c:Nat):AOper:=yaw a b (yar c)
@[reducible] def ybn (a b:Nat):AOper:=xO a (ya7 b)
@[reducible] def ybo (a b c:Nat):AOper:=yav a b 1 c
@[reducible] def ybp (a:List AOper) (b c:Nat) (d:ACode):ACode:=ya1 a (yay b c) d
@[reducible] def ybq (a:List AOper) (b:Nat) (c d:ACode):ACode:=yae a (yam b c) d
@[reducible] def ybr (a:Nat):AOp:= .nilchk (.t a)
@[reducible] def ybs (a b:Nat) (c:BinOp) (d:Nat) (e:AX):AOper:=yaw a b (yao c d e)
@[reducible] def ybt (a b:List AOper):ACode:=yaa a (yad b)
@[reducible] def ybu (a:SM) (b c d:Nat) (e:AX):AOp:= .append a b c (.t d) e
@[reducible] def ybv (a b:Nat) (c:BinOp) (d e:Nat):AOper:=yaz a b c d (.t e)
@[reducible] def ybw (a:Nat) (b:ACode):ACode:=yac a b .skip
@[reducible] def ybx (a b:Nat) (c:List AX):AOper:=xO a (.tcall b c)
@[reducible] def yby:AOper:=yba 4
@[reducible] def ybz (a b:Nat) (c:AX):AOp:=ya8 a none b c
@[reducible] def yb0:AV:= .bool true
@[reducible] def yb1 (a b:Nat) (c:AX):AOper:=yaf a b [c]
@[reducible] def yb2 (a b c:Nat):AOper:=yb1 a b (.t c)
@[reducible] def yb3 (a b:Nat):AOper:=xF a 0 b
@[reducible] def yb4 (a b:Nat):AOper:=xF a 1 b
@[reducible] def yb5 (a b:List AOper) (c:ACode):ACode:=yaa a (yaa b c)
@[reducible] def yb6 (a b c d:Nat):AOper:=yaw a b (yai c d)
@[reducible] def yb7 (a b c:Nat) (d:List AX):AOper:=yab a b (.pcall c d)
@[reducible] def yb8 (a:Nat) (b:AX):AOp:= .load true a b
@[reducible] def yb9 (a b:AOper):ACode:=yad [a,b]
@[reducible] def yca (a b c d:Nat):AOper:=yaw a b (yau c d)
@[reducible] def ycb (a:Nat):AOper:=xI a (-1)
@[reducible] def ycc (a:Nat):AOper:=xM a 1
@[reducible] def ycd (a:List AOper) (b:ACode):ACode:= .seq (xD a) b
@[reducible] def yce (a:Nat):AOper:=xM a 5
@[reducible] def ycf (a:Nat):AOp:= .box (.t a)
@[reducible] def ycg (a b:Nat) (c d e f:AX):AOper:=yaf a b [c,d,e,f]
@[reducible] def ych (a b:Nat) (c:AX) (d:Int) (e f:AX):AOper:=ycg a b c (yaq d) e f
@[reducible] def yci (a:Nat):AOper:=xM a 0
@[reducible] def ycj (a:Nat) (b:BinOp) (c:Nat):AOper:=xK a b c 1
@[reducible] def yck (a b c d:Nat) (e:AX):AOper:=yab a b (ybz c d e)
@[reducible] def ycl (a:Int):AV:= .int .u32 a
@[reducible] def ycm (a:AOper) (b c:Nat):ACode:=yb9 a (xM b c)
@[reducible] def ycn (a b:AOper) (c:ACode):ACode:=yaa [a,b] c
@[reducible] def yco (a:AOper) (b c:Nat) (d:ACode):ACode:=ycn a (xM b c) d
@[reducible] def ycp (a:Nat) (b:List AOper) (c:List Nat) (d:ACode) (e:List AOper):ACode:=ya9 a (xQ b c) d e
@[reducible] def ycq (a b:Nat) (c:AX) (d:Int) (e:AX) (f:Int):AOper:=ych a b c d e (yaq f)
@[reducible] def ycr (a b:Nat):AOper:=xO a (ycf b)
@[reducible] def ycs (a b:Nat):AOper:=xO a (.nilapp b)
@[reducible] def yct (a:List AOper) (b c d:Nat) (e:ACode) (f:List AOper):ACode:=ybb a b c (ya2 d e f)
@[reducible] def ycu (a:List AOper) (b c d:Nat) (e:List AOper) (f:List Nat) (g:ACode) (h:List AOper):ACode:=ybp a b c (ycp d e f g h)
@[reducible] def ycv (a b:Nat):AOp:=yb8 a (.t b)
@[reducible] def ycw (a b c:Nat):AOper:=yab a b (ya7 c)
@[reducible] def ycx (a:Nat) (b:List AOper) (c:Nat) (d:List AOper) (e f:ACode):ACode:=yal a (ybl b c d e) f
@[reducible] def ycy (a:Nat) (b:List AX):AOp:= .pcallv (.t a) b
@[reducible] def ycz:AOper:=yba 5
@[reducible] def yc0 (a b c:Nat):AOper:=yas a b 1 c
@[reducible] def yc1 (a:SM) (b c d e:Nat):AOp:=ybu a b c d (.t e)
@[reducible] def yc2:AOper:=yba 6
@[reducible] def yc3 (a:List AOper) (b c d:Nat) (e f:ACode) (g:List AOper):ACode:=ybb a b c (ya9 d e f g)
@[reducible] def yc4 (a:Nat) (b:SM) (c d e f:Nat):AOper:=xO a (yc1 b c d e f)
@[reducible] def yc5 (a b:Nat) (c d e:AX):AOper:=yaf a b [c,d,e]
@[reducible] def yc6 (a b c:Nat) (d e:AX):AOper:=yc5 a b (.t c) d e
@[reducible] def yc7 (a b c d:Nat) (e:AX):AOper:=yc6 a b c (.t d) e
@[reducible] def yc8 (a b c d e:Nat):AOper:=yc7 a b c d (.t e)
@[reducible] def yc9 (a b c d e:Nat):AOper:=yck a b c d (.t e)
@[reducible] def yda (a:Nat) (b:BinOp) (c:Nat):AOper:=xK a b c 0
@[reducible] def ydb (a:Nat):AOper:=xJ a 0
@[reducible] def ydc (a b:Nat) (c:BinOp) (d:Nat) (e:Int):AOper:=ybs a b c d (yaq e)
@[reducible] def ydd (a b:List AOper) (c:Nat) (d e:List AOper) (f:Nat) (g h:ACode):ACode:=ya3 a b c d (ybq e f g h)
@[reducible] def yde (a:Nat) (b:ACode):ACode:=yac a .skip b
@[reducible] def ydf (a b:Nat):AOper:=xO a (ybr b)
@[reducible] def ydg (a:Nat):AOper:=xM 5 a
@[reducible] def ydh:AOper:=ybd 4
@[reducible] def ydi (a:List AOper) (b:Nat) (c d:List AOper):ACode:=ybk a b c (yad d)
@[reducible] def ydj (a:Nat) (b c d e:AV):AOper:=yax a [b,c,d,e]
@[reducible] def ydk (a b c d e:Nat):AOper:=yc4 a .app b c d e
@[reducible] def ydl (a:Nat):AOper:=xM a 3
@[reducible] def ydm (a b c:Nat) (d:List AX):AOper:=yaw a b (.pcall c d)
@[reducible] def ydn (a:Nat):AOper:=yb3 a 3
@[reducible] def ydo (a b c:List AOper) (d:Nat) (e f:ACode):ACode:=yaa a (ybg b c d e f)
@[reducible] def ydp (a:Nat):AOper:=xM 4 a
def f_4:Nat:=4
def f_5:Nat:=5
def f_6:Nat:=6
def f_15:Nat:=15
def f_16:Nat:=16
def f_17:Nat:=17
def f_18:Nat:=18
def f_19:Nat:=19
def f_20:Nat:=20
def f_21:Nat:=21
def f_23:Nat:=23
def f_24:Nat:=24
def f_25:Nat:=25
def f_26:Nat:=26
def f_27:Nat:=27
def f_28:Nat:=28
def f_29:Nat:=29
def f_30:Nat:=30
def f_31:Nat:=31
def f_32:Nat:=32
def f_33:Nat:=33
def f_34:Nat:=34
def f_35:Nat:=35
def f_36:Nat:=36
def f_39:Nat:=39
def f_40:Nat:=40
def f_41:Nat:=41
def f_50:Nat:=50
def f_51:Nat:=51
def f_52:Nat:=52
def f_53:Nat:=53
def f_55:Nat:=55
def f_57:Nat:=57
def f_58:Nat:=58
def f_60:Nat:=60
def f_63:Nat:=63
def f_64:Nat:=64
def f_65:Nat:=65
def f_66:Nat:=66
def f_67:Nat:=67
def f_68:Nat:=68
def f_69:Nat:=69
def f_70:Nat:=70
def f_71:Nat:=71
def f_72:Nat:=72
def f_74:Nat:=74
def f_75:Nat:=75
def f_76:Nat:=76
def f_77:Nat:=77
def f_78:Nat:=78
def f_79:Nat:=79
def f_80:Nat:=80
def f_81:Nat:=81
def f_82:Nat:=82
def f_83:Nat:=83
def f_84:Nat:=84
def f_85:Nat:=85
def f_86:Nat:=86
def f_87:Nat:=87
def f_88:Nat:=88
def f_89:Nat:=89
def f_90:Nat:=90
def f_91:Nat:=91
def f_92:Nat:=92
def f_93:Nat:=93
def f_94:Nat:=94
def f_101:Nat:=101
def f_107:Nat:=107
def f_117:Nat:=117
def f_118:Nat:=118
def f_125:Nat:=125
def f_126:Nat:=126
def f_127:Nat:=127
def f_128:Nat:=128
def f_129:Nat:=129
def f_130:Nat:=130
def f_131:Nat:=131
def f_133:Nat:=133
def f_134:Nat:=134
def f_135:Nat:=135
def f_136:Nat:=136
def f_137:Nat:=137
def f_139:Nat:=139
def f_140:Nat:=140
def f_141:Nat:=141
def f_142:Nat:=142
def f_143:Nat:=143
def f_144:Nat:=144
def f_145:Nat:=145
def f_146:Nat:=146
def f_147:Nat:=147
def f_148:Nat:=148
def f_149:Nat:=149
def f_150:Nat:=150
def f_151:Nat:=151
def f_152:Nat:=152
def f_153:Nat:=153
def f_154:Nat:=154
def f_155:Nat:=155
def f_156:Nat:=156
def f_157:Nat:=157
def f_158:Nat:=158
def f_159:Nat:=159
def f_160:Nat:=160
def f_161:Nat:=161
def f_162:Nat:=162
def f_163:Nat:=163
def f_164:Nat:=164
def f_165:Nat:=165
def f_166:Nat:=166
def f_167:Nat:=167
def f_168:Nat:=168
def f_169:Nat:=169
def f_170:Nat:=170
def f_171:Nat:=171
def f_172:Nat:=172
def f_173:Nat:=173
def f_174:Nat:=174
def f_175:Nat:=175
def f_176:Nat:=176
def f_177:Nat:=177
def f_178:Nat:=178
def f_179:Nat:=179
def f_180:Nat:=180
def f_181:Nat:=181
def f_182:Nat:=182
def f_186:Nat:=186
def f_188:Nat:=188
def f_194:Nat:=194
def f_195:Nat:=195
def f_196:Nat:=196
def f_197:Nat:=197
def f_198:Nat:=198
def f_199:Nat:=199
def f_200:Nat:=200
def f_201:Nat:=201
def f_202:Nat:=202
def f_203:Nat:=203
def f_205:Nat:=205
def f_206:Nat:=206
def f_207:Nat:=207
def f_208:Nat:=208
def f_209:Nat:=209
def f_211:Nat:=211
def f_212:Nat:=212
def f_213:Nat:=213
def f_214:Nat:=214
def f_215:Nat:=215
def f_216:Nat:=216
def f_217:Nat:=217
def f_218:Nat:=218
def f_219:Nat:=219
def f_220:Nat:=220
def f_221:Nat:=221
def f_222:Nat:=222
def f_223:Nat:=223
def f_226:Nat:=226
def f_227:Nat:=227
def f_228:Nat:=228
def f_229:Nat:=229
def f_230:Nat:=230
def f_231:Nat:=231
def f_232:Nat:=232
def f_233:Nat:=233
def f_234:Nat:=234
def f_235:Nat:=235
def f_236:Nat:=236
def f_237:Nat:=237
def f_238:Nat:=238
def f_239:Nat:=239
def f_240:Nat:=240
def f_241:Nat:=241
def f_242:Nat:=242
def f_243:Nat:=243
def f_244:Nat:=244
def f_245:Nat:=245
def f_246:Nat:=246
def f_247:Nat:=247
def f_248:Nat:=248
def f_249:Nat:=249
def f_250:Nat:=250
def f_251:Nat:=251
def f_252:Nat:=252
def f_253:Nat:=253
def f_254:Nat:=254
def f_255:Nat:=255
def f_256:Nat:=256
def f_257:Nat:=257
def f_258:Nat:=258
def f_259:Nat:=259
def f_260:Nat:=260
def f_261:Nat:=261
def f_262:Nat:=262
def f_263:Nat:=263
def f_267:Nat:=267
def f_268:Nat:=268
def f_269:Nat:=269
def f_270:Nat:=270
def f_271:Nat:=271
def f_272:Nat:=272
def f_273:Nat:=273
def f_274:Nat:=274
def f_275:Nat:=275
def f_276:Nat:=276
def f_277:Nat:=277
def f_278:Nat:=278
def f_279:Nat:=279
def f_280:Nat:=280
def f_281:Nat:=281
def f_282:Nat:=282
def f_285:Nat:=285
def f_286:Nat:=286
def f_287:Nat:=287
def f_288:Nat:=288
def f_289:Nat:=289
def f_290:Nat:=290
def f_291:Nat:=291
def f_292:Nat:=292
def f_293:Nat:=293
def f_294:Nat:=294
def f_295:Nat:=295
def f_296:Nat:=296
def f_297:Nat:=297
def f_298:Nat:=298
def f_299:Nat:=299
def f_300:Nat:=300
def f_301:Nat:=301
def f_302:Nat:=302
def f_303:Nat:=303
def f_304:Nat:=304
def f_305:Nat:=305
def f_306:Nat:=306
def f_307:Nat:=307
def f_308:Nat:=308
def f_309:Nat:=309
def f_310:Nat:=310
def f_311:Nat:=311
def f_312:Nat:=312
def f_313:Nat:=313
def f_314:Nat:=314
def f_315:Nat:=315
def f_316:Nat:=316
def f_317:Nat:=317
def f_318:Nat:=318
def f_319:Nat:=319
def f_320:Nat:=320
def f_321:Nat:=321
def f_322:Nat:=322
def f_323:Nat:=323
def f_324:Nat:=324
def f_325:Nat:=325
def f_326:Nat:=326
def f_327:Nat:=327
def f_328:Nat:=328
def f_329:Nat:=329
def f_330:Nat:=330
def f_331:Nat:=331
def f_332:Nat:=332
def f_333:Nat:=333
def f_334:Nat:=334
def f_335:Nat:=335
def f_336:Nat:=336
def f_337:Nat:=337
def f_338:Nat:=338
def f_339:Nat:=339
def f_340:Nat:=340
def f_341:Nat:=341
def f_342:Nat:=342
def f_343:Nat:=343
def f_344:Nat:=344
def f_345:Nat:=345
def f_346:Nat:=346
def f_347:Nat:=347
def f_348:Nat:=348
def f_349:Nat:=349
def f_350:Nat:=350
def f_351:Nat:=351
def f_352:Nat:=352
def c_4_l0:ACode:=ybb [yce 44,xF 45 13 1,xL 46 45,xN 47 46,xB 48 .lss 44 47] 48 0 (ycp 1 [xF 51 13 1,xL 52 51,yce 53,xX 54 10 52 53,xA 55 10 54,yax 6 [ybf,ybf,ybf,.fslice 2 [],ybf,ybf,.fslice 1 [],ybf,.fslice 1 [],.fslice 1 []],xS 10 6 55] [6] (.seq (xQ [yb3 57 1,xA 58 9 57,xA 59 4 4,xA 60 10 6,yc8 61 f_27 58 59 60,xM 56 61,xE 62 0 56,xE 63 1 56,xE 64 2 56,ydj 7 (.fslice 1 []) (.fslice 1 []) (.fslice 2 []) (.fslice 1 []),xS 4 7 62,xM 8 63,xM 9 64] [7]) (yaa [ydl 66,xA 67 10 6,ybx 68 f_28 [.t 66,.t 67],xM 65 68,xE 69 0 65,xE 70 1 65,xM 10 69,xM 11 70] (ya3 [xA 71 4 7,xS 4 4 71] [xM 72 10,xM 73 8,xB 74 .neq 72 73,xM 75 74,ya0 76 75 11,ya0 77 75 9,ybv 78 75 .neq 76 77,xW 79 75 78] 79 [ybd 2] (.seq (xQ [ydl 81,yb4 82 6,xL 83 82,xF 84 9 6,xL 85 84,ybx 86 f_29 [.t 81,.t 83,.t 85],xM 80 86,xE 87 0 80,xE 88 1 80,yax 12 [ybf,.fslice 2 [],ybf,ybf,.fslice 1 []],xS 5 12 87,xM 13 88] [12]) (.seq (xQ [yb3 90 1,xA 91 9 90,xA 92 4 4,yb4 93 6,xL 94 93,xF 95 9 6,xL 96 95,ycg 97 f_30 (.t 91) (.t 92) (.t 94) (.t 96),xM 89 97,xE 98 0 89,xE 99 1 89,yax 14 [ybf,.fslice 2 [],ybf,ybf,.fslice 1 []],xS 5 14 98,xM 15 99] [14]) (ybk [yb3 100 12,xL 101 100,yb3 102 14,xL 103 102,xB 104 .neq 101 103,xM 105 104,ya0 106 105 13,ya0 107 105 15,yab 108 105 (.eqs true false [.b] (.t 106) (.t 107)),xW 109 105 108,xM 110 109,yc0 111 110 12,yab 112 110 (ycv 4 111),yc0 113 110 14,yab 114 110 (ycv 4 113),yb7 115 110 f_31 [.t 112,.t 114],ycw 116 110 115,xW 117 110 116] 117 [ybd 2] (yap [yba 16] [yb4 118 6,xL 119 118,yda 120 .geq 119,xM 121 120,yb6 122 121 1 6,yca 123 121 1 122,yb6 124 121 0 4,yca 125 121 1 124,yaw 126 121 (ya5 125),ybs 127 121 .lss 123 (.t 126),xV 128 121 127] (ybw 128 (xR [yb3 129 4,xL 130 129,yb4 131 6,xL 132 131,xX 133 1 130 132,xL 134 133,xN 135 134,xM 16 135])) (ya4 [ydl 136,yb4 137 6,xL 138 137,ybx 139 f_32 [.t 136,.t 138],xM 140 16,xB 141 .neq 139 140] 141 [ybd 2])))))))) [yce 49,ycj 50 .add 49,ydg 50])
def c_4_k1:ACode:= .seq (.region true [(1,2),(6,8)] [⟨some 142,none,.mov (.t 3)⟩,⟨some 143,none,.tcall f_24 [.t 142]⟩,⟨some 144,none,.load true 4 (.t 4)⟩,⟨some 145,none,.pcall f_20 [.t 143,.t 144]⟩,⟨some 146,none,.mov (.t 145)⟩,⟨some 147,some (146,true),.faddr 0 (.t 1)⟩,⟨some 148,some (146,true),.load true 9 (.t 147)⟩,⟨some 149,some (146,true),.mov (.t 3)⟩,⟨some 150,some (146,true),.tcall f_24 [.t 149]⟩,⟨some 151,some (146,true),.pcall f_17 [.t 148,.t 150]⟩,⟨some 152,some (146,true),.bin .eql (.t 151) (.c (.int .i64 0))⟩,⟨some 153,none,.pick (.t 146) (.t 152) (.c (.bool false))⟩,⟨some 154,none,.mov (.t 153)⟩,⟨some 155,some (154,true),.pcall f_16 []⟩,⟨some 156,none,.pick (.t 154) (.t 155) (.c (.bool false))⟩,⟨some 2,none,.mov (.t 156)⟩] none) .ret
def c_4:AFn:=⟨1,[.tmp 2],ya3 [ydb 1,ybd 2] [yb3 17 1,xA 18 9 17,xF 19 9 1,xA 20 4 19,ybj 21 f_15 18 20,ybn 22 21,xM 23 22,yas 24 23 13 1,ybo 25 23 24,yb7 26 23 f_25 [.t 25],ycw 27 23 26,xW 28 23 27,xM 29 28,yas 30 29 0 1,yab 31 29 (ycv 9 30),yas 32 29 9 1,yab 33 29 (ycv 4 32),yb7 34 29 f_19 [.t 31,.t 33],ybe 35 29 .neq 34 0,xW 36 29 35] 36 [yaf 37 f_16 [],xM 2 37] (ya3 [xA 38 14 1,ybx 39 f_26 [.t 38],xM 3 39] [ydl 40,xO 41 (.eqn false (.t 40) (.c .nilptr))] 41 [ybd 2] (ybg [xF 42 9 1,xA 43 4 42,ydj 4 (.fslice 1 []) (.fslice 1 []) (.fslice 2 []) (.fslice 1 []),xS 4 4 43] [ycz] 0 c_4_l0 c_4_k1))⟩
def c_5_l0:ACode:=yct [yce 49,xM 50 4,xN 51 50,xB 52 .lss 49 51] 52 0 1 (xR [xM 55 4,yce 56,xF 57 9 1,yb4 58 57,xL 59 58,yce 60,xX 61 1 59 60,xL 62 61,ycj 63 .sub 62,xX 64 1 55 56,xS 1 64 63]) [yce 53,ycj 54 .add 53,ydg 54]
def c_5_l1:ACode:=ybb [xM 65 6,xF 66 13 1,xL 67 66,xN 68 67,xB 69 .lss 65 68] 69 2 (ycp 3 [xF 72 13 1,xL 73 72,xM 74 6,xX 75 10 73 74,xA 76 10 75,yax 7 [ybf,ybf,ybf,.fslice 2 [],ybf,ybf,.fslice 1 [],ybf,.fslice 1 [],.fslice 1 []],xS 10 7 76] [7] (yaa [yb3 77 7,xL 78 77,yda 79 .eql 78] (yac 79 (yap [ydl 81,yb4 82 7,xL 83 82,xF 84 3 7,xA 85 4 84,ybx 86 f_33 [.t 81,.t 83,.t 85],xM 80 86,xE 87 0 80,xE 88 1 80,xM 8 87,xM 9 88] [xM 89 9,yda 90 .neq 89] (ybw 90 (.exit 3)) (ybk [yb4 91 7,xL 92 91,yda 93 .lss 92,xM 94 93,yc0 95 94 7,ybo 96 94 95,ya0 97 94 4,ybc 98 94 97,ybv 99 94 .geq 96 98,xW 100 94 99,xM 101 100,ya0 102 101 8,ya0 103 101 4,yc0 104 101 7,ybo 105 101 104,yc9 106 101 1 103 105,ybo 107 101 106,ybv 108 101 .leq 102 107,xW 109 101 108,xM 110 109,ya0 111 110 3,yc0 112 110 7,ybo 113 110 112,ya0 114 110 8,yas 115 110 3 7,yas 116 110 2 115,yab 117 110 (ycv 2 116),yab 118 110 (.tcall f_34 [.t 111,.t 113,.t 114,.t 117]),ybe 119 110 .neq 118 0,xW 120 110 119] 120 [ybd 2] (xR [xM 121 4,yb4 122 7,xL 123 122,xM 124 8,xX 125 1 121 123,xS 1 125 124]))) (yaa [ydl 127,xA 128 10 7,ybx 129 f_28 [.t 127,.t 128],xM 126 129,xE 130 0 126,xE 131 1 126,xM 10 130,xM 11 131] (ya4 [xM 132 11,yda 133 .eql 132,xM 134 133,yb6 135 134 0 7,yca 136 134 1 135,ydc 137 134 .eql 136 2,xV 138 134 137,xM 139 138,ybm 140 139 3,yb6 141 139 1 7,yca 142 139 1 141,yb6 143 139 2 7,yca 144 139 1 143,yaw 145 139 (.tcall f_35 [.t 140,.t 142,.t 144]),ydc 146 139 .neq 145 8,xV 147 139 146] 147 [ybd 2])))) [xM 70 6,ycj 71 .add 70,xM 6 71])
def c_5_k2:ACode:=ycm (yaf 148 f_16 []) 2 148
def c_5_k3:ACode:=ybq [yc2] 2 c_5_l1 c_5_k2
def c_5:AFn:=⟨1,[.tmp 2],ya3 [ydb 1,ybd 2] [yb3 12 1,xA 13 9 12,xF 14 9 1,xA 15 4 14,ybj 16 f_15 13 15,ybn 17 16,xM 18 17,yas 19 18 13 1,ybo 20 18 19,yb7 21 18 f_25 [.t 20],ycw 22 18 21,xW 23 18 22,xM 24 23,yas 25 24 0 1,yab 26 24 (ycv 9 25),yas 27 24 9 1,yab 28 24 (ycv 4 27),yb7 29 24 f_19 [.t 26,.t 28],ybe 30 24 .neq 29 0,xW 31 24 30,xM 32 31,yas 33 32 0 1,yas 34 32 5 33,ybo 35 32 34,ybc 36 32 35,ybe 37 32 .gtr 36 12,xW 38 32 37] 38 [yaf 39 f_16 [],xM 2 39] (ya3 [xA 40 14 1,ybx 41 f_26 [.t 40],xM 3 41] [ydl 42,xO 43 (.eqn false (.t 42) (.c .nilptr))] 43 [ybd 2] (ybg [yb3 44 1,xF 45 5 44,xL 46 45,xN 47 46,xO 48 (.mkslice .row 1 8 [.int .i64 0] (.t 47) (.t 47)),ydp 48] [ycz] 0 c_5_l0 c_5_k3))⟩
def c_6_l0:ACode:=ybb [xM 36 4,xF 37 13 1,xL 38 37,xN 39 38,xB 40 .lss 36 39] 40 0 (ycp 1 [ydl 43,ybx 44 f_24 [.t 43],ydj 5 (.fslice 1 []) (.fslice 1 []) (.fslice 2 []) (.fslice 1 []),xS 4 5 44] [5] (ya3 [ydl 45,ybx 46 f_36 [.t 45],xM 6 46] [xM 47 6,xO 48 (.eqn false (.t 47) (.c .nilptr))] 48 [ybd 2] (ya1 [xM 50 6,xF 51 13 1,xL 52 51,xM 53 4,xX 54 10 52 53,xA 55 10 54,ybx 56 f_28 [.t 50,.t 55],xM 49 56,xE 57 0 49,xE 58 1 49,xM 7 57,xM 8 58] (.seq (.region true [(4,5),(11,12)] [⟨some 59,none,.mov (.t 8)⟩,⟨some 60,none,.bin .neq (.t 59) (.c (.int .i64 0))⟩,⟨some 61,none,.mov (.t 60)⟩,⟨some 62,some (61,true),.mov (.t 6)⟩,⟨some 63,some (61,true),.tcall f_24 [.t 62]⟩,⟨some 64,some (61,true),.load true 4 (.t 5)⟩,⟨some 65,some (61,true),.pcall f_20 [.t 63,.t 64]⟩,⟨some 66,some (61,true),.un .not (.t 65)⟩,⟨some 67,none,.pick (.t 61) (.t 66) (.c (.bool false))⟩,⟨some 68,none,.mov (.t 67)⟩,⟨some 69,some (68,false),.mov (.t 3)⟩,⟨some 70,some (68,false),.tcall f_24 [.t 69]⟩,⟨some 71,some (68,false),.load true 4 (.t 5)⟩,⟨some 72,some (68,false),.pcall f_20 [.t 70,.t 71]⟩,⟨some 73,some (68,false),.un .not (.t 72)⟩,⟨some 74,none,.pick (.t 68) (.c (.bool true)) (.t 73)⟩] none) (yaj 74 [ybd 2])) (yaa [ydl 76,xF 77 13 1,xL 78 77,xM 79 4,xX 80 10 78 79,xA 81 10 80,ybx 82 f_28 [.t 76,.t 81],xM 75 82,xE 83 0 75,xE 84 1 75,xM 9 83,xM 10 84] (ya4 [xM 85 10,xM 86 8,xB 87 .neq 85 86,xM 88 87,ya0 89 88 3,yab 90 88 (.tcall f_24 [.t 89]),ya0 91 88 6,yab 92 88 (.tcall f_24 [.t 91]),yb7 93 88 f_20 [.t 90,.t 92],ycw 94 88 93,xW 95 88 94] 95 [ybd 2])))) [xM 41 4,ycj 42 .add 41,ydp 42])
def c_6_k1:ACode:=ycm (yaf 96 f_16 []) 2 96
def c_6:AFn:=⟨1,[.tmp 2],ya3 [ydb 1,ybd 2] [yb3 11 1,xA 12 9 11,xF 13 9 1,xA 14 4 13,ybj 15 f_15 12 14,ybn 16 15,xM 17 16,yas 18 17 13 1,ybo 19 17 18,yb7 20 17 f_25 [.t 19],ycw 21 17 20,xW 22 17 21,xM 23 22,yas 24 23 0 1,yab 25 23 (ycv 9 24),yas 26 23 9 1,yab 27 23 (ycv 4 26),yb7 28 23 f_19 [.t 25,.t 27],ybe 29 23 .neq 28 0,xW 30 23 29] 30 [yaf 31 f_16 [],xM 2 31] (ydd [xA 32 14 1,ybx 33 f_26 [.t 32],xM 3 33] [ydl 34,xO 35 (.eqn false (.t 34) (.c .nilptr))] 35 [ybd 2] [yby] 0 c_6_l0 c_6_k1)⟩
def c_15_l0:ACode:=yct [xM 51 7,ydn 52,xL 53 52,xM 54 6,xX 55 1 53 54,xL 56 55,xN 57 56,xB 58 .lss 51 57,xM 59 58,ybm 60 59 7,ydc 61 59 .lss 60 300,xV 62 59 61] 62 2 3 (ya4 [ydn 65,xL 66 65,xM 67 6,xX 68 1 66 67,xL 69 68,xM 70 7,xX 71 5 69 70,yb4 72 71,yb3 73 72,xL 74 73,xN 75 74,xK 76 .gtr 75 30,xM 77 76,yas 78 77 0 3,ybo 79 77 78,ya0 80 77 6,yc9 81 77 1 79 80,ybo 82 77 81,ya0 83 77 7,yc9 84 77 5 82 83,yc0 85 77 84,yas 86 77 2 85,yc0 87 77 86,ybo 88 77 87,ybc 89 77 88,ybe 90 77 .gtr 89 30,xW 91 77 90] 91 [ydh]) [xM 63 7,ycj 64 .add 63,xM 7 64]
def c_15_k1:ACode:=xR [xM 41 6,ycj 42 .add 41,xM 6 42]
def c_15_l2:ACode:=ybb [xM 36 6,ydn 37,xL 38 37,xN 39 38,xB 40 .lss 36 39] 40 0 (yal 1 (yb5 [yce 43,ydn 44,xL 45 44,xM 46 6,xX 47 1 45 46,xL 48 47,xN 49 48,xB 50 .add 43 49,ydg 50] [yba 7] (yam 2 c_15_l0)) c_15_k1)
def c_15_l3:ACode:=yct [xM 92 8,xF 93 3 3,xL 94 93,xN 95 94,xB 96 .lss 92 95] 96 4 5 (ya4 [xF 99 3 3,xL 100 99,xM 101 8,xX 102 1 100 101,xL 103 102,xN 104 103,xK 105 .gtr 104 300] 105 [ydh]) [xM 97 8,ycj 98 .add 97,xM 8 98]
def c_15_k4:ACode:=yad [yce 106,xK 107 .leq 106 300,ydp 107]
def c_15_k5:ACode:=ybq [yba 8] 4 c_15_l3 c_15_k4
def c_15:AFn:=⟨2,[.tmp 4],ya3 [ycr 2 0,ycr 3 1,ydh] [xA 9 9 2,yb2 10 f_60 9,ybn 11 10,xM 12 11,yas 13 12 0 3,ybo 14 12 13,ybc 15 12 14,ybe 16 12 .gtr 15 30,xW 17 12 16,xM 18 17,yas 19 18 3 3,ybo 20 18 19,ybc 21 18 20,ybe 22 18 .gtr 21 30,xW 23 18 22,xM 24 23,yas 25 24 2 3,ybo 26 24 25,ybc 27 24 26,ybe 28 24 .gtr 27 30,xW 29 24 28,xM 30 29,yc0 31 30 3,ybo 32 30 31,ybc 33 30 32,ybe 34 30 .gtr 33 60,xW 35 30 34] 35 [ydh] (ybg [ycz] [yc2] 0 c_15_l2 c_15_k5)⟩
def c_17_l0:ACode:=ybp [xB 40 .lss 39 38] 40 0 (ya2 1 (ya1 [xM 41 39,xM 7 41] (xD [xA 42 9 2,xM 43 7,ydn 44,xL 45 44,xM 46 7,xX 47 1 45 46,xL 48 47,yb4 49 3,xL 50 49,xM 51 7,xX 52 1 50 51,xL 53 52,xF 54 2 3,xL 55 54,xM 56 7,xX 57 2 55 56,xA 58 2 57,yaf 59 f_64 [.t 42,.t 43,.t 48,.t 53,.t 58],xM 8 59]) (ya4 [xM 60 8,yda 61 .neq 60] 61 [xM 62 8,ydp 62])) [ycj 63 .add 39,xM 39 63])
def c_17_k1:ACode:=yad [xA 64 9 2,xF 65 3 3,xL 66 65,ybj 67 f_65 64 66,ydp 67]
def c_17:AFn:=⟨2,[.tmp 4],ya1 [ydb 2,xJ 3 1,yby] (.seq (xQ [xA 9 9 2,yb2 10 f_63 9,ydj 5 ybf ybf ybf ybf,xS 4 5 10] [5]) (ya4 [yb3 11 5,xL 12 11,yda 13 .neq 12] 13 [yb3 14 5,xL 15 14,ydp 15])) (ydd [xF 16 5 2,xL 17 16,xN 18 17,xM 6 18] [ydn 19,xL 20 19,xN 21 20,xM 22 6,xB 23 .neq 21 22,xM 24 23,yc0 25 24 3,ybo 26 24 25,ybc 27 24 26,ya0 28 24 6,ybv 29 24 .neq 27 28,xW 30 24 29,xM 31 30,yas 32 31 2 3,ybo 33 31 32,ybc 34 31 33,ya0 35 31 6,ybv 36 31 .neq 34 35,xW 37 31 36] 37 [xI 4 2] [xM 38 6,yba 39] 0 c_17_l0 c_17_k1)⟩
def c_18:AFn:=⟨2,[.tmp 4,.tmp 5],yap [ydb 2,xJ 3 1,xC 4 .nilptr,ycz] [xA 7 9 2,xA 8 4 3,ybj 9 f_17 7 8,xM 6 9] (ya4 [xM 10 6,yda 11 .neq 10] 11 [xM 12 6,xC 4 .nilptr,ydg 12]) (yad [xA 13 9 2,xA 14 4 3,ybx 15 f_66 [.t 13,.t 14],ydp 15,ycz])⟩
def c_19_l0:ACode:=yc3 [xM 39 6,yce 40,xB 41 .lss 39 40] 41 1 2 (xD [xA 44 9 2,xM 45 6,ydn 46,xL 47 46,xM 48 6,xX 49 1 47 48,xL 50 49,yb4 51 3,xL 52 51,xM 53 6,xX 54 1 52 53,xL 55 54,ycg 56 f_67 (.t 44) (.t 45) (.t 50) (.t 55),xM 7 56]) (ybk [xM 57 7,yda 58 .neq 57] 58 [xM 59 7,ydp 59] (ycd [xA 60 9 2,xM 61 6,xF 62 2 3,xL 63 62,xM 64 6,xX 65 2 63 64,xA 66 2 65,yc8 67 f_68 60 61 66,xM 7 67] (ya4 [xM 68 7,yda 69 .neq 68] 69 [xM 70 7,ydp 70]))) [xM 42 6,ycj 43 .add 42,xM 6 43]
def c_19_k1:ACode:=yad [xA 71 9 2,xF 72 3 3,xL 73 72,ybj 74 f_69 71 73,ydp 74]
def c_19:AFn:=⟨2,[.tmp 4],yb5 [ydb 2,xJ 3 1,yby] [xF 8 5 2,xL 9 8,xN 10 9,ydg 10] (ycx 0 [xA 12 9 2,yb2 13 f_55 12,xO 14 (.fld false 0 1 (.t 13)),yda 15 .neq 14,xM 11 15] 11 [xA 16 9 2,yb2 17 f_55 16,xO 18 (.fld false 0 1 (.t 17)),ydp 18] (ya4 [ydn 20,xL 21 20,xN 22 21,yce 23,xB 24 .neq 22 23,xM 25 24,yc0 26 25 3,ybo 27 25 26,ybc 28 25 27,ya0 29 25 5,ybv 30 25 .neq 28 29,xW 31 25 30,xM 32 31,yas 33 32 2 3,ybo 34 32 33,ybc 35 32 34,ya0 36 32 5,ybv 37 32 .neq 35 36,xW 38 32 37,xM 19 38] 19 [xI 4 2]) (ybq [yc2] 1 c_19_l0 c_19_k1))⟩
def c_20_l0:ACode:=yc3 [yce 39,yb3 40 2,xL 41 40,xN 42 41,xB 43 .lss 39 42] 43 0 1 (xD [yb3 46 2,xL 47 46,yce 48,xX 49 1 47 48,xL 50 49,ydn 51,xL 52 51,yce 53,xX 54 1 52 53,xL 55 54,ybj 56 f_71 50 55,ybn 57 56]) (yaj 57 [ydh]) [yce 44,ycj 45 .add 44,ydg 45]
def c_20_l1:ACode:=yc3 [xM 58 6,xF 59 2 2,xL 60 59,xN 61 60,xB 62 .lss 58 61] 62 2 3 (xD [xF 65 2 2,xL 66 65,xM 67 6,xX 68 2 66 67,xA 69 2 68,xF 70 2 3,xL 71 70,xM 72 6,xX 73 2 71 72,xA 74 2 73,ybj 75 f_72 69 74,ybn 76 75]) (yaj 76 [ydh]) [xM 63 6,ycj 64 .add 63,xM 6 64]
def c_20_k2:ACode:=yad [xC 4 yb0]
def c_20_k3:ACode:=ybq [yc2] 2 c_20_l1 c_20_k2
def c_20:AFn:=⟨2,[.tmp 4],ydd [ycr 2 0,ycr 3 1,ydh] [yb3 7 2,xL 8 7,xN 9 8,ydn 10,xL 11 10,xN 12 11,xB 13 .neq 9 12,xM 14 13,yc0 15 14 2,ybo 16 14 15,yc0 17 14 3,ybo 18 14 17,yb7 19 14 f_50 [.t 16,.t 18],ycw 20 14 19,xW 21 14 20,xM 22 21,yas 23 22 2 2,ybo 24 22 23,ybc 25 22 24,yas 26 22 2 3,ybo 27 22 26,ybc 28 22 27,ybv 29 22 .neq 25 28,xW 30 22 29,xM 31 30,yas 32 31 3 2,ybo 33 31 32,yas 34 31 3 3,ybo 35 31 34,yb7 36 31 f_70 [.t 33,.t 35],ycw 37 31 36,xW 38 31 37] 38 [ydh] [ycz] 0 c_20_l0 c_20_k3⟩
def c_24:AFn:=⟨1,[.cell 2 true 4],ya3 [ydj 2 (.fslice 1 []) (.fslice 1 []) (.fslice 2 []) (.fslice 1 [])] [yci 3,xO 4 (.eqn false (.t 3) (.c .nilptr)),ydg 4,ya0 6 5 0,yab 7 5 (ybr 6),yas 8 5 14 7,ybo 9 5 8,ycw 10 5 9,xW 11 5 10] 11 [xO 12 (.build [.fslice 1 [],.fslice 1 [],.fslice 2 [],.fslice 1 []] []),xS 4 2 12] (yad [yci 13,ydf 14 13,yb3 15 14,xA 16 4 15,ybx 17 f_76 [.t 16],xS 4 2 17])⟩
def c_25_l0:ACode:=yct [ydl 7,yci 8,xN 9 8,xB 10 .lss 7 9] 10 0 1 (ya4 [yci 13,ydl 14,xX 15 10 13 14,xF 16 3 15,yb3 17 16,xL 18 17,xN 19 18,xK 20 .gtr 19 30,xM 21 20,ya0 22 21 0,ya0 23 21 3,yc9 24 21 10 22 23,yas 25 21 3 24,yas 26 21 2 25,yc0 27 21 26,ybo 28 21 27,ybc 29 21 28,ybe 30 21 .gtr 29 30,xW 31 21 30,xM 32 31,ya0 33 32 0,ya0 34 32 3,yc9 35 32 10 33 34,yas 36 32 7 35,yc0 37 32 36,ybo 38 32 37,ybc 39 32 38,ybe 40 32 .gtr 39 30,xW 41 32 40,xM 42 41,ya0 43 42 0,ya0 44 42 3,yc9 45 42 10 43 44,yas 46 42 9 45,ybo 47 42 46,ybc 48 42 47,ybe 49 42 .gtr 48 30,xW 50 42 49] 50 [ybd 2]) [ydl 11,ycj 12 .add 11,xM 3 12]
def c_25_k1:ACode:=yad [xC 2 yb0]
def c_25:AFn:=⟨1,[.tmp 2],ydd [ybd 2] [yci 4,xN 5 4,xK 6 .gtr 5 60] 6 [ybd 2] [yba 3] 0 c_25_l0 c_25_k1⟩
def c_26:AFn:=⟨1,[.tmp 2],ya3 [ycr 1 0,xC 2 .nilptr] [yb3 5 1,xA 6 9 5,xF 7 9 1,xA 8 4 7,ybj 9 f_15 6 8,ybn 10 9,xM 11 10,yas 12 11 13 1,ybo 13 11 12,yb7 14 11 f_25 [.t 13],ycw 15 11 14,xW 16 11 15,xM 17 16,yas 18 17 0 1,yab 19 17 (ycv 9 18),yas 20 17 9 1,yab 21 17 (ycv 4 20),yb7 22 17 f_19 [.t 19,.t 21],ybe 23 17 .neq 22 0,xW 24 17 23] 24 [xC 2 .nilptr] (ybt [yb3 26 1,xA 27 9 26,xF 28 9 1,xA 29 4 28,ybx 30 f_18 [.t 27,.t 29],xM 25 30,xE 31 0 25,xE 32 1 25,xM 3 31,ydp 32] [ydl 33,xM 2 33])⟩
def c_27:AFn:=⟨3,[.cell 6 true 4,.tmp 7,.tmp 8],yap [ydb 3,xJ 4 1,xJ 5 2,ydj 6 (.fslice 1 []) (.fslice 1 []) (.fslice 2 []) (.fslice 1 []),yba 7,yba 8] [yb3 15 5,xL 16 15] (.block 0 (ybl [yda 18 .eql 16,xM 17 18] 17 [xA 19 9 3,xA 20 4 4,yb4 21 5,xL 22 21,xF 23 3 5,xA 24 4 23,ycg 25 f_77 (.t 19) (.t 20) (.t 22) (.t 24),xE 26 0 25,xE 27 1 25,xE 28 2 25,xS 4 6 26,xM 7 27,xM 8 28] (yco (ycj 30 .eql 16) 29 30 (yac 29 (.seq (xQ [xA 32 9 3,xA 33 4 4,yb4 34 5,xL 35 34,xF 36 2 5,xL 37 36,xF 38 7 5,xA 39 2 38,yaf 40 f_78 [.t 32,.t 33,.t 35,.t 37,.t 39],xM 31 40,xE 41 0 31,xE 42 1 31,ydj 9 (.fslice 1 []) (.fslice 1 []) (.fslice 2 []) (.fslice 1 []),xS 4 9 41,xM 10 42] [9]) (yad [xA 43 4 9,xM 44 10,xS 4 6 43,yba 7,xM 8 44])) (yco (xK 46 .eql 16 2) 45 46 (yac 45 (.seq (xQ [xA 48 9 3,xA 49 4 4,yb4 50 5,xL 51 50,xF 52 2 5,xL 53 52,ycg 54 f_79 (.t 48) (.t 49) (.t 51) (.t 53),xM 47 54,xE 55 0 47,xE 56 1 47,ydj 11 (.fslice 1 []) (.fslice 1 []) (.fslice 2 []) (.fslice 1 []),xS 4 11 55,xM 12 56] [11]) (yad [xA 57 4 11,xM 58 12,xS 4 6 57,yba 7,xM 8 58])) (yco (xK 60 .eql 16 3) 59 60 (ybw 59 (.seq (xQ [xA 62 9 3,xA 63 4 4,yb4 64 5,xL 65 64,xF 66 7 5,xA 67 2 66,ycg 68 f_80 (.t 62) (.t 63) (.t 65) (.t 67),xM 61 68,xE 69 0 61,xE 70 1 61,ydj 13 (.fslice 1 []) (.fslice 1 []) (.fslice 2 []) (.fslice 1 []),xS 4 13 69,xM 14 70] [13]) (yad [xA 71 4 13,xM 72 14,xS 4 6 71,yba 7,xM 8 72])))))))))) (yad [xA 73 4 4,xS 4 6 73,yba 7,yba 8])⟩
def c_28:AFn:=⟨2,[.tmp 4,.tmp 5],yap [ycr 3 1,yby,ycz] [ydn 6,xL 7 6] (.block 0 (ybl [yda 9 .eql 7,xM 8 9] 8 [yci 10,yb4 11 3,xL 12 11,xF 13 3 3,xA 14 4 13,ybx 15 f_33 [.t 10,.t 12,.t 14],xE 16 0 15,xE 17 1 15,ydp 16,ydg 17] (ybl [ycj 19 .eql 7,xM 18 19] 18 [yci 20,yb4 21 3,xL 22 21,xF 23 2 3,xL 24 23,xF 25 7 3,xA 26 2 25,ybx 27 f_34 [.t 20,.t 22,.t 24,.t 26],yby,ydg 27] (ybl [xK 29 .eql 7 2,xM 28 29] 28 [yci 30,yb4 31 3,xL 32 31,xF 33 2 3,xL 34 33,ybx 35 f_35 [.t 30,.t 32,.t 34],yby,ydg 35] (ya4 [xK 37 .eql 7 3,xM 36 37] 36 [yci 38,yb4 39 3,xL 40 39,xF 41 7 3,xA 42 2 41,ybx 43 f_81 [.t 38,.t 40,.t 42],yby,ydg 43]))))) (yb9 yby ycz)⟩
def c_29:AFn:=⟨3,[.cell 6 true 5,.tmp 7],ya3 [yax 6 [ybf,.fslice 2 [],ybf,ybf,.fslice 1 []],ybd 7] [yci 8,xO 9 (.eqn false (.t 8) (.c .nilptr)),xM 10 9,ya0 11 10 0,yab 12 10 (ybr 11),yas 13 10 14 12,ybo 14 10 13,ycw 15 10 14,xW 16 10 15,xM 17 16,ya0 18 17 0,ya0 19 17 1,yab 20 17 (.tcall f_82 [.t 18,.t 19]),ycw 21 17 20,xW 22 17 21] 22 [xO 23 (.build [.int .i64 0,.fslice 2 [],.int .i64 0,.int .i64 0,.fslice 1 []] []),xS 5 6 23,ybd 7] (ycd [yci 24,ydf 25 24,xF 26 4 25,xA 27 9 26,ycc 28,yci 29,ydf 30 29,yb3 31 30,yb3 32 31,xL 33 32,ycc 34,xX 35 1 33 34,xL 36 35,xM 37 2,ybx 38 f_83 [.t 27,.t 28,.t 36,.t 37],xE 39 0 38,xE 40 1 38,xS 5 6 39,xM 7 40] .ret)⟩
def c_30:AFn:=⟨4,[.cell 8 true 5,.tmp 9],ya3 [ydb 4,xJ 5 1,yax 8 [ybf,.fslice 2 [],ybf,ybf,.fslice 1 []],ybd 9] [xM 10 2,yda 11 .lss 10,xM 12 11,ya0 13 12 2,yas 14 12 5 4,ybo 15 12 14,ybc 16 12 15,ybv 17 12 .geq 13 16,xW 18 12 17] 18 [xO 19 (.build [.int .i64 0,.fslice 2 [],.int .i64 0,.int .i64 0,.fslice 1 []] []),xS 5 8 19,ybd 9] (ycd [xA 20 9 4,xM 21 2,yb3 22 5,xL 23 22,xM 24 2,xX 25 1 23 24,xL 26 25,ydl 27,ycg 28 f_84 (.t 20) (.t 21) (.t 26) (.t 27),xE 29 0 28,xE 30 1 28,xS 5 8 29,xM 9 30] .ret)⟩
def c_31:AFn:=⟨2,[.tmp 4],ybt [ycr 2 0,ycr 3 1,ydh] [xA 5 4 2,xA 6 4 3,ybj 7 f_85 5 6,xM 8 7,yb6 9 8 2 2,yaw 10 8 (ycv 2 9),yb6 11 8 2 3,yaw 12 8 (ycv 2 11),ydm 13 8 f_72 [.t 10,.t 12],xV 14 8 13,ydp 14]⟩
def c_32:AFn:=⟨2,[.tmp 4],ya3 [yby] [yci 5,xO 6 (.eqn false (.t 5) (.c .nilptr)),xM 7 6,ya0 8 7 0,yab 9 7 (ybr 8),yas 10 7 14 9,ybo 11 7 10,ycw 12 7 11,xW 13 7 12,xM 14 13,ya0 15 14 0,ya0 16 14 1,yab 17 14 (.tcall f_82 [.t 15,.t 16]),ycw 18 14 17,xW 19 14 18] 19 [yby] (yad [yci 20,ydf 21 20,yb3 22 21,yb3 23 22,xL 24 23,ycc 25,xX 26 1 24 25,xL 27 26,xN 28 27,ydp 28])⟩
def c_33:AFn:=⟨3,[.tmp 6,.tmp 7],yaa [ycr 5 2,yc2,yba 7] (ycx 0 [yci 11,xO 12 (.eqn false (.t 11) (.c .nilptr)),xM 13 12,ya0 14 13 0,yab 15 13 (ybr 14),yas 16 13 14 15,ybo 17 13 16,ycw 18 13 17,xW 19 13 18,xM 10 19] 10 [yc2,xI 7 1] (ya4 [yci 21,ycc 22,ybx 23 f_82 [.t 21,.t 22],ybn 24 23,xM 20 24] 20 [yc2,xI 7 8]) (.seq (ycd [yci 25,ydf 26 25,xF 27 4 26,xA 28 9 27,ycc 29,xA 30 4 5,yc8 31 f_86 28 29 30,xM 8 31] (ya4 [xM 32 8,yda 33 .neq 32] 33 [xM 34 8,yc2,xM 7 34])) (ybk [yci 35,ydf 36 35,yb3 37 36,yb3 38 37,xL 39 38,ycc 40,xX 41 1 39 40,xL 42 41,xO 43 (.mkfunc (.func f_88) [] [.t 5]),ybj 44 f_87 42 43] 44 [yc2,xI 7 7] (ya1 [yci 45,ydf 46 45,yb3 47 46,yb4 48 47,xL 49 48,ycc 50,xX 51 1 49 50,xL 52 51,xM 9 52] (ycd [yci 53,ydf 54 53,yb3 55 54,yb3 56 55,xL 57 56,ycc 58,xX 59 1 57 58,xL 60 59,xN 61 60,yci 62,ydf 63 62,xF 64 4 63,xF 65 5 64,xL 66 65,ycc 67,xX 68 6 66 67,xF 69 5 68,xL 70 69,xB 71 .geq 61 70,xM 72 71,ya0 73 72 9,ybe 74 72 .geq 73 1073741824,xW 75 72 74] (yaj 75 [yc2,xI 7 13])) (ycd [yci 76,ydf 77 76,xF 78 13 77,xL 79 78,ycc 80,xX 81 1 79 80,xL 82 81,xM 83 9,yci 84,ydf 85 84,yb3 86 85,yb3 87 86,xL 88 87,ycc 89,xX 90 1 88 89,xL 91 90,xN 92 91,⟨none,none,.update .i (.t 82) (.t 83) (.t 92)⟩] (.seq (.region true [(4,19)] [⟨some 93,none,.mov (.t 0)⟩,⟨some 94,none,.nilchk (.t 93)⟩,⟨some 95,none,.faddr 0 (.t 94)⟩,⟨some 96,none,.faddr 0 (.t 95)⟩,⟨some 97,none,.load false 1 (.t 96)⟩,⟨some 98,none,.mov (.t 1)⟩,⟨some 99,none,.mov (.t 0)⟩,⟨some 100,none,.nilchk (.t 99)⟩,⟨some 101,none,.faddr 0 (.t 100)⟩,⟨some 102,none,.faddr 0 (.t 101)⟩,⟨some 103,none,.load false 1 (.t 102)⟩,⟨some 104,none,.mov (.t 1)⟩,⟨some 105,none,.iaddr 1 none (.t 103) (.t 104)⟩,⟨some 106,none,.load false 1 (.t 105)⟩,⟨some 107,none,.mov (.t 9)⟩,⟨some 108,none,.load true 4 (.t 5)⟩,⟨some 109,none,.pcall f_90 [.t 108]⟩,⟨some 110,none,.build [.int .i64 0,.fslice 2 [],.int .i64 0,.int .i64 0,.fslice 1 []] [(0,1,(.t 107)),(1,4,(.t 109))]⟩,⟨some 111,none,.bslice .imm 5 (List.replicate 1 [.int .i64 0,.fslice 2 [],.int .i64 0,.int .i64 0,.fslice 1 []]) [(0,(.t 110))]⟩,⟨some 112,none,.append .row 5 72 (.t 106) (.t 111)⟩,⟨some 113,none,.iaddr 1 none (.t 97) (.t 98)⟩,⟨none,none,.store 1 (.t 113) (.t 112)⟩] none) (ybt [yci 114,ydf 115 114,yb3 116 115,yb4 117 116,xL 118 117,ycc 119,xX 120 1 118 119,xL 121 120,ycj 122 .add 121,xX 123 1 118 119,xS 1 123 122] [xM 124 9,xM 6 124,yba 7])))))))⟩
def c_34:AFn:=⟨4,[.tmp 8],ycn (ycr 7 3) (yba 8) (yap [yci 12,ycc 13,xM 14 2,ybx 15 f_91 [.t 12,.t 13,.t 14],xM 11 15,xE 16 0 11,xE 17 1 11,xM 9 16,xM 10 17] [xM 18 10,yda 19 .eql 18] (ybw 19 (xD [yci 20,ydf 21 20,xF 22 4 21,xA 23 9 22,ycc 24,xA 25 2 7,yc8 26 f_92 23 24 25,xM 10 26])) (yae [xM 27 10,yda 28 .eql 27] (ybw 28 (xD [yci 29,ydf 30 29,yb3 31 30,yb3 32 31,xL 33 32,ycc 34,xX 35 1 33 34,xL 36 35,xM 37 9,xA 38 2 7,yb2 39 f_74 38,xX 40 5 36 37,yb4 41 40,xF 42 2 41,xS 2 42 39])) (ycm (xM 43 10) 8 43)))⟩
def c_35:AFn:=⟨3,[.tmp 6],yaa [yc2] (yap [yci 10,ycc 11,xM 12 2,ybx 13 f_91 [.t 10,.t 11,.t 12],xM 9 13,xE 14 0 9,xE 15 1 9,xM 7 14,xM 8 15] [xM 16 8,yda 17 .eql 16] (ybw 17 (.seq (.region true [(4,17)] [⟨some 18,none,.mov (.t 0)⟩,⟨some 19,none,.nilchk (.t 18)⟩,⟨some 20,none,.faddr 0 (.t 19)⟩,⟨some 21,none,.faddr 0 (.t 20)⟩,⟨some 22,none,.load false 1 (.t 21)⟩,⟨some 23,none,.mov (.t 1)⟩,⟨some 24,none,.mov (.t 0)⟩,⟨some 25,none,.nilchk (.t 24)⟩,⟨some 26,none,.faddr 0 (.t 25)⟩,⟨some 27,none,.faddr 0 (.t 26)⟩,⟨some 28,none,.load false 1 (.t 27)⟩,⟨some 29,none,.mov (.t 1)⟩,⟨some 30,none,.iaddr 1 none (.t 28) (.t 29)⟩,⟨some 31,none,.load false 1 (.t 30)⟩,⟨some 32,none,.mov (.t 7)⟩,⟨some 33,none,.mov (.t 7)⟩,⟨some 34,none,.bin .add (.t 33) (.c (.int .i64 1))⟩,⟨some 35,none,.tcall f_93 [.t 31,.t 32,.t 34]⟩,⟨some 36,none,.iaddr 1 none (.t 22) (.t 23)⟩,⟨none,none,.store 1 (.t 36) (.t 35)⟩] none) (xR [yci 37,ycc 38,ybx 39 f_94 [.t 37,.t 38]]))) (ycm (xM 40 8) 6 40))⟩
def c_36:AFn:=⟨1,[.tmp 2],ya3 [xC 2 .nilptr] [yci 3,xO 4 (.eqn false (.t 3) (.c .nilptr)),ydg 4,ya0 6 5 0,yab 7 5 (ybr 6),yas 8 5 14 7,ybo 9 5 8,ycw 10 5 9,xW 11 5 10] 11 [xC 2 .nilptr] (ycd [yci 12,ydf 13 12,xF 14 4 13,xA 15 9 14,yci 16,ydf 17 16,yb3 18 17,xA 19 4 18,ybx 20 f_66 [.t 15,.t 19],xM 2 20] .ret)⟩
def c_50_l0:ACode:=yc3 [yce 11,yci 12,xN 13 12,xB 14 .lss 11 13] 14 0 1 (xD [yci 17,yce 18,xX 19 1 17 18,xL 20 19,ycc 21,yce 22,xX 23 1 21 22,xL 24 23,xB 25 .neq 20 24]) (yaj 25 [ydh]) [yce 15,ycj 16 .add 15,ydg 16]
def c_50_k1:ACode:=yad [xC 4 yb0]
def c_50:AFn:=⟨2,[.tmp 4],ydd [ydh] [yci 6,xN 7 6,ycc 8,xN 9 8,xB 10 .neq 7 9] 10 [ydh] [ycz] 0 c_50_l0 c_50_k1⟩
def c_55:AFn:=⟨1,[.cell 2 true 4],ycn (ydb 1) (ydj 2 ybf ybf ybf ybf) (yap [xA 4 9 1,yb2 5 f_125 4,ydj 3 ybf ybf ybf ybf,xS 4 3 5] [ydn 6,xL 7 6,yda 8 .eql 7] (ybw 8 (xR [xA 9 9 1,yb2 10 f_126 9,xS 4 3 10])) (yae [ydn 11,xL 12 11,yda 13 .eql 12] (ybw 13 (xR [xA 14 9 1,yb2 15 f_127 14,xS 4 3 15])) (yae [ydn 16,xL 17 16,yda 18 .eql 17] (ybw 18 (xR [xA 19 9 1,yb2 20 f_128 19,xS 4 3 20])) (yae [ydn 21,xL 22 21,yda 23 .eql 22] (ybw 23 (xR [xA 24 9 1,yb2 25 f_129 24,xS 4 3 25])) (yae [ydn 26,xL 27 26,yda 28 .eql 27] (ybw 28 (xR [xA 29 9 1,yb2 30 f_130 29,xS 4 3 30])) (yae [ydn 31,xL 32 31,yda 33 .eql 32] (ybw 33 (xR [xA 34 9 1,yb2 35 f_131 34,xS 4 3 35])) (yb9 (xA 36 4 3) (xS 4 2 36))))))))⟩
def c_60_l0:ACode:=yct [ydl 32,xF 33 5 1,xL 34 33,xN 35 34,xB 36 .lss 32 35] 36 0 1 (ya4 [xF 39 5 1,xL 40 39,ydl 41,xX 42 6 40 41,yb4 43 42,xL 44 43,xN 45 44,xK 46 .gtr 45 20,xM 47 46,yas 48 47 5 1,ybo 49 47 48,ya0 50 47 3,yc9 51 47 6 49 50,yas 52 47 2 51,ybo 53 47 52,ybc 54 47 53,ybe 55 47 .gtr 54 40,xW 56 47 55,xM 57 56,yas 58 57 5 1,ybo 59 57 58,ya0 60 57 3,yc9 61 57 6 59 60,yas 62 57 3 61,yc0 63 57 62,ybo 64 57 63,ybc 65 57 64,ybe 66 57 .gtr 65 40,xW 67 57 66] 67 [ybd 2]) [ydl 37,ycj 38 .add 37,xM 3 38]
def c_60_l1:ACode:=yct [xM 68 4,xF 69 6 1,xL 70 69,xN 71 70,xB 72 .lss 68 71] 72 2 3 (ya4 [xF 75 6 1,xL 76 75,xM 77 4,xX 78 7 76 77,yb4 79 78,xL 80 79,xN 81 80,xK 82 .gtr 81 20,xM 83 82,yas 84 83 6 1,ybo 85 83 84,ya0 86 83 4,yc9 87 83 7 85 86,yas 88 83 5 87,ybo 89 83 88,ybc 90 83 89,ybe 91 83 .gtr 90 20,xW 92 83 91] 92 [ybd 2]) [xM 73 4,ycj 74 .add 73,ydp 74]
def c_60_k2:ACode:=yad [xC 2 yb0]
def c_60_k3:ACode:=ybq [yby] 2 c_60_l1 c_60_k2
def c_60:AFn:=⟨1,[.tmp 2],ydd [ycr 1 0,ybd 2] [xA 5 9 1,yb2 6 f_142 5,ybn 7 6,xM 8 7,yas 9 8 5 1,ybo 10 8 9,ybc 11 8 10,ybe 12 8 .gtr 11 30,xW 13 8 12,xM 14 13,yas 15 14 6 1,ybo 16 14 15,ybc 17 14 16,ybe 18 14 .gtr 17 30,xW 19 14 18,xM 20 19,yas 21 20 8 1,ybo 22 20 21,ybc 23 20 22,ybe 24 20 .gtr 23 30,xW 25 20 24,xM 26 25,yas 27 26 7 1,ybo 28 26 27,yb7 29 26 f_143 [.t 28,yaq 0,yaq 60],ybe 30 26 .gtr 29 60,xW 31 26 30] 31 [ybd 2] [yba 3] 0 c_60_l0 c_60_k3⟩
def c_63:ADFn:=⟨1,[.cell 2 true 4],.seq (xR [xO 1 (.box (.t 0)),xO 2 (.alloc [.int .i64 0,.int .i64 0,.int .i64 0,.int .i64 0])]) (.dfr [⟨some 3,none,.mkfunc (.func f_144) [] [.t 2]⟩] 3 (.seq (xR [xA 4 9 1,xO 5 (.pcall f_145 [.t 4])]) (.seq (xR [xA 6 9 1,xO 7 (.pcall f_146 [.t 6])]) (.seq (xR [xA 8 9 1,xO 9 (.pcall f_147 [.t 8])]) (.seq (xR [xA 10 9 1,xO 11 (.pcall f_148 [.t 10])]) (.seq (xR [xA 12 9 1,xO 13 (.pcall f_149 [.t 12])]) (.seq (xR [xO 14 (.build [.int .i64 0,.int .i64 0,.int .i64 0,.int .i64 0] []),xS 4 2 14]) (.ret)))))))),f_144,1,(some (4,1)),.seq (.seq (xR [xM 5 1,xO 6 (.eqs false false [] (.t 5) (.c (.niliface)))]) (.cond (.t 6) (.ret) (.skip))) (.seq (.seq (xR [xM 8 1,xO 9 (.tassert 207 true (.agg [.int .i64 0,.int .i64 0,.int .i64 0,.int .i64 0]) (.t 8)),xM 7 9,xE 10 0 7,xE 11 1 7,xO 2 (.alloc [.int .i64 0,.int .i64 0,.int .i64 0,.int .i64 0]),xS 4 2 10,xM 3 11]) (.seq (xR [xM 12 3]) (.cond (.t 12) (.seq (xR [xF 13 0 2,xA 14 4 13,xS 4 0 14]) (.ret)) (.skip)))) (xR [xM 15 1,⟨none,none,.panic (.t 15)⟩]))⟩
def c_64_l0:ACode:=ycu [xB 29 .lss 28 27] 29 0 1 [xX 30 5 26 28,xA 31 5 30,yax 13 [ybf,.fslice 2 [],ybf,ybf,.fslice 1 []],xS 5 13 31] [13] (ybk [yb3 32 13,xL 33 32,xM 34 11,xB 35 .leq 33 34] 35 [xI 10 14] (xR [yb3 36 13,xL 37 36,xM 11 37])) [ycj 38 .add 28,xM 28 38]
def c_64_l1:ACode:=ycu [xB 53 .lss 52 51] 53 2 3 [xM 54 52,xX 55 5 50 52,xA 56 5 55,yax 15 [ybf,.fslice 2 [],ybf,ybf,.fslice 1 []],xM 14 54,xS 5 15 56] [15] (yae [xA 57 9 5,ycc 58,yb4 59 15,xA 60 4 59,yc8 61 f_86 57 58 60,xM 16 61] (ya4 [xM 62 16,yda 63 .neq 62] 63 [xM 64 16,xM 10 64]) (ya4 [xM 65 2,xM 66 14,xO 67 (.slc 5 (.t 65) none (some (.t 66)) none),xO 68 (.mkfunc (.func f_150) [] [.t 15]),ybj 69 f_87 67 68] 69 [xI 10 7])) [ycj 70 .add 52,xM 52 70]
def c_64_k2:ACode:=yad [xA 71 9 5,ycc 72,xA 73 2 9,yc8 74 f_92 71 72 73,xM 10 74]
def c_64_k3:ACode:=ybk [ydl 39,xM 40 11,xB 41 .leq 39 40,xM 42 41,ya0 43 42 3,ybe 44 42 .lss 43 1,xW 45 42 44,xM 46 45,ya0 47 46 3,ybe 48 46 .gtr 47 1073741824,xW 49 46 48] 49 [xI 10 14] (ybq [xM 50 2,xN 51 50,yba 52] 2 c_64_l1 c_64_k2)
def c_64:AFn:=⟨5,[.tmp 10],ya3 [ydb 5,xJ 9 4,yba 10] [xM 17 2,xN 18 17,xF 19 5 5,xL 20 19,ycc 21,xX 22 6 20 21,xF 23 5 22,xL 24 23,xB 25 .gtr 18 24] 25 [xI 10 12] (ybg [yba 11] [xM 26 2,xN 27 26,yba 28] 0 c_64_l0 c_64_k3)⟩
def c_65_l0:ACode:=ybp [xB 18 .lss 17 16] 18 0 (ya2 1 (yaa [xM 19 17,xX 20 1 15 17,xL 21 20,ydg 19,xM 6 21] (ya4 [xM 22 6,xN 23 22,xF 24 3 2,xL 25 24,yce 26,xX 27 3 25 26,xF 28 2 27,xL 29 28,xB 30 .neq 23 29] 30 [xI 4 2])) [ycj 31 .add 17,xM 17 31])
def c_65_l1:ACode:=ybp [xB 35 .lss 34 33] 35 2 (ya2 3 (ya1 [xM 36 34,xX 37 1 32 34,xL 38 37,xM 7 36,xM 8 38] (xD [xM 39 8,xN 40 39,yda 41 .gtr 40,xM 42 41,ybm 43 42 8,ydm 44 42 f_151 [.t 43],yb6 45 42 3 2,yca 46 42 1 45,ybm 47 42 7,yaw 48 42 (ybz 3 46 (.t 47)),yb6 49 42 1 48,yca 50 42 1 49,ydm 51 42 f_152 [.t 50],ybs 52 42 .gtr 44 (.t 51),xV 53 42 52]) (yaj 53 [xI 4 9])) [ycj 54 .add 34,xM 34 54])
def c_65_k2:ACode:=yad [yby]
def c_65_k3:ACode:=ybq [ycc 32,xN 33 32,yba 34] 2 c_65_l1 c_65_k2
def c_65:AFn:=⟨2,[.tmp 4],ydd [ydb 2,yby] [ycc 9,xN 10 9,xF 11 3 2,xL 12 11,xN 13 12,xB 14 .neq 10 13] 14 [xI 4 2] [ycc 15,xN 16 15,yba 17] 0 c_65_l0 c_65_k3⟩
def c_66_l0:ACode:=ybp [xB 30 .lss 29 28] 30 0 (ya2 1 (yco (xM 31 29) 6 31 (xR [yce 32,xM 33 6,ybx 34 f_94 [.t 32,.t 33]])) [ycj 35 .add 29,xM 29 35])
def c_66_k1:ACode:=ycm (yce 36) 4 36
def c_66:AFn:=⟨2,[.tmp 4],ya1 [ydb 2,ycr 3 1,xC 4 .nilptr] (.region true [(1,2)] [⟨some 7,none,.load true 4 (.t 3)⟩,⟨some 8,none,.tcall f_76 [.t 7]⟩,⟨some 9,none,.load true 9 (.t 2)⟩,⟨some 10,none,.pcall f_139 [.t 9]⟩,⟨some 11,none,.build [.fslice 1 [],.fslice 1 [],.fslice 2 [],.fslice 1 [],.str [],.fslice 2 [],.fslice 2 [],.fslice 3 [],.fslice 3 [],.fslice 6 [],.fslice 7 [],.fslice 5 [],.fslice 1 [],.fslice 1 [],.bool false] [(0,4,(.t 8)),(4,9,(.t 10)),(14,1,(.c (.bool true)))]⟩,⟨some 12,none,.box (.t 11)⟩,⟨some 5,none,.mov (.t 12)⟩] none) (ybg [yce 13,yce 14,ydf 15 14,yb3 16 15,yb3 17 16,xL 18 17,xN 19 18,xO 20 (.mkslice .row 1 8 [.nilmap] (.t 19) (.t 19)),ydf 21 13,xF 22 13 21,xS 1 22 20] [yce 23,ydf 24 23,yb3 25 24,yb3 26 25,xL 27 26,xN 28 27,yba 29] 0 c_66_l0 c_66_k1)⟩
def c_67_l0:ACode:=yct [xM 22 10,xM 23 2,xN 24 23,xB 25 .lss 22 24] 25 0 1 (ybk [xM 28 2,xM 29 10,xX 30 5 28 29,yb3 31 30,xL 32 31,xM 33 9,xB 34 .leq 32 33] 34 [xI 8 14] (xR [xM 35 2,xM 36 10,xX 37 5 35 36,yb3 38 37,xL 39 38,xM 9 39])) [xM 26 10,ycj 27 .add 26,xM 10 27]
def c_67_l1:ACode:=yc3 [xM 47 11,xM 48 2,xN 49 48,xB 50 .lss 47 49] 50 2 3 (xD [xA 53 9 4,ycc 54,xM 55 2,xM 56 11,xX 57 5 55 56,yb4 58 57,xA 59 4 58,yc8 60 f_153 53 54 59,xM 12 60]) (.block 4 (ybl [xM 62 12,yda 63 .neq 62,xM 61 63] 61 [xM 64 12,xM 8 64] (ycd [xM 66 2,xM 67 11,xO 68 (.slc 5 (.t 66) none (some (.t 67)) none),xM 69 2,xM 70 11,xX 71 5 69 70,yb4 72 71,xA 73 4 72,ybj 74 f_154 68 73,xM 65 74] (yaj 65 [xI 8 7])))) [xM 51 11,ycj 52 .add 51,xM 11 52]
def c_67_k2:ACode:=yad [yba 8]
def c_67_k3:ACode:=ybk [ydl 40,xM 41 9,xB 42 .leq 40 41,xM 43 42,ya0 44 43 3,ybe 45 43 .gtr 44 1073741824,xW 46 43 45] 46 [xI 8 14] (ybq [yba 11] 2 c_67_l1 c_67_k2)
def c_67:AFn:=⟨4,[.tmp 8],ya3 [ydb 4,yba 8] [xM 13 2,xN 14 13,xF 15 5 4,xL 16 15,ycc 17,xX 18 6 16 17,xF 19 5 18,xL 20 19,xB 21 .gtr 14 20] 21 [xI 8 12] (ybg [yba 9] [yba 10] 0 c_67_l0 c_67_k3)⟩
def c_68:AFn:=⟨3,[.tmp 6],ya3 [ydb 3,xJ 5 2,yc2] [xA 7 9 3,ycc 8,yb3 9 5,xL 10 9,yc8 11 f_155 7 8 10,ybn 12 11] 12 [xI 6 8] (yad [xA 13 9 3,xA 14 2 5,ybj 15 f_156 13 14,xM 6 15])⟩
def c_69_l0:ACode:=yc3 [yce 14,ycc 15,xN 16 15,xB 17 .lss 14 16] 17 0 1 (xD [ycc 20,yce 21,xX 22 1 20 21,xL 23 22,xN 24 23,xF 25 3 2,xL 26 25,yce 27,xX 28 3 26 27,xF 29 2 28,xL 30 29,xB 31 .neq 24 30]) (yaj 31 [xI 4 2]) [yce 18,ycj 19 .add 18,ydg 19]
def c_69_l1:ACode:=yc3 [xM 38 7,ycc 39,xM 40 6,xX 41 1 39 40,xL 42 41,xN 43 42,xB 44 .lss 38 43] 44 4 5 (xD [ycc 47,xM 48 6,xX 49 1 47 48,xL 50 49,xM 51 7,xX 52 1 50 51,xL 53 52,xF 54 3 2,xL 55 54,xM 56 6,xX 57 3 55 56,xA 58 3 57,yb2 59 f_158 58,ybj 60 f_157 53 59,ybn 61 60]) (yaj 61 [xI 4 9]) [xM 45 7,ycj 46 .add 45,xM 7 46]
def c_69_k2:ACode:=xR [xM 36 6,ycj 37 .add 36,xM 6 37]
def c_69_l3:ACode:=ybb [xM 32 6,ycc 33,xN 34 33,xB 35 .lss 32 34] 35 2 (yal 3 (yaa [yba 7] (yam 4 c_69_l1)) c_69_k2)
def c_69_k4:ACode:=yad [yby]
def c_69_k5:ACode:=ybq [yc2] 2 c_69_l3 c_69_k4
def c_69:AFn:=⟨2,[.tmp 4],ydd [ydb 2,yby] [ycc 8,xN 9 8,xF 10 3 2,xL 11 10,xN 12 11,xB 13 .neq 9 12] 13 [xI 4 2] [ycz] 0 c_69_l0 c_69_k5⟩
def c_70_l0:ACode:=yc3 [yce 11,yci 12,xN 13 12,xB 14 .lss 11 13] 14 0 1 (xD [yci 17,yce 18,xX 19 1 17 18,xL 20 19,ycc 21,yce 22,xX 23 1 21 22,xL 24 23,ybj 25 f_159 20 24,ybn 26 25]) (yaj 26 [ydh]) [yce 15,ycj 16 .add 15,ydg 16]
def c_70_k1:ACode:=yad [xC 4 yb0]
def c_70:AFn:=⟨2,[.tmp 4],ydd [ydh] [yci 6,xN 7 6,ycc 8,xN 9 8,xB 10 .neq 7 9] 10 [ydh] [ycz] 0 c_70_l0 c_70_k1⟩
def c_71_l0:ACode:=yc3 [yce 11,yci 12,xN 13 12,xB 14 .lss 11 13] 14 0 1 (xD [yci 17,yce 18,xX 19 5 17 18,yb3 20 19,xL 21 20,ycc 22,yce 23,xX 24 5 22 23,yb3 25 24,xL 26 25,xB 27 .neq 21 26,xM 28 27,ya0 29 28 0,ya0 30 28 5,yc9 31 28 5 29 30,yc0 32 28 31,yc0 33 28 32,ybo 34 28 33,ya0 35 28 1,ya0 36 28 5,yc9 37 28 5 35 36,yc0 38 28 37,yc0 39 28 38,ybo 40 28 39,ybv 41 28 .neq 34 40,xW 42 28 41,xM 43 42,ya0 44 43 0,ya0 45 43 5,yc9 46 43 5 44 45,yc0 47 43 46,yab 48 43 (ycv 4 47),ya0 49 43 1,ya0 50 43 5,yc9 51 43 5 49 50,yc0 52 43 51,yab 53 43 (ycv 4 52),yb7 54 43 f_31 [.t 48,.t 53],ycw 55 43 54,xW 56 43 55]) (yaj 56 [ydh]) [yce 15,ycj 16 .add 15,ydg 16]
def c_71_k1:ACode:=yad [xC 4 yb0]
def c_71:AFn:=⟨2,[.tmp 4],ydd [ydh] [yci 6,xN 7 6,ycc 8,xN 9 8,xB 10 .neq 7 9] 10 [ydh] [ycz] 0 c_71_l0 c_71_k1⟩
def c_72_l0:ACode:=yc3 [yce 20,yb4 21 2,xL 22 21,xN 23 22,xB 24 .lss 20 23] 24 0 1 (xD [yb4 27 2,xL 28 27,yce 29,xX 30 1 28 29,xL 31 30,yb4 32 3,xL 33 32,yce 34,xX 35 1 33 34,xL 36 35,xB 37 .neq 31 36]) (yaj 37 [ydh]) [yce 25,ycj 26 .add 25,ydg 26]
def c_72_k1:ACode:=yad [xC 4 yb0]
def c_72:AFn:=⟨2,[.tmp 4],ydd [ycr 2 0,ycr 3 1,ydh] [yb3 6 2,xL 7 6,ydn 8,xL 9 8,xB 10 .neq 7 9,xM 11 10,yc0 12 11 2,ybo 13 11 12,ybc 14 11 13,yc0 15 11 3,ybo 16 11 15,ybc 17 11 16,ybv 18 11 .neq 14 17,xW 19 11 18] 19 [ydh] [ycz] 0 c_72_l0 c_72_k1⟩
def c_74:AFn:=⟨1,[.cell 2 true 2],ya1 [ydb 1,yax 2 [ybf,.fslice 1 []]] (xD [yb3 3 1,xL 4 3,yb4 5 1,xL 6 5,yb2 7 f_161 6,xO 8 (.build [.int .i64 0,.fslice 1 []] [(0,1,(.t 4)),(1,1,(.t 7))]),xS 2 2 8]) .ret⟩
def c_76_l0:ACode:=ycu [xB 27 .lss 26 25] 27 2 3 [xX 28 5 24 26,xA 29 5 28,yax 8 [ybf,.fslice 2 [],ybf,ybf,.fslice 1 []],xS 5 8 29] [8] (xR [xM 30 6,xA 31 5 8,yb2 32 f_163 31,xO 33 (.bslice .imm 5 (List.replicate 1 [.int .i64 0,.fslice 2 [],.int .i64 0,.int .i64 0,.fslice 1 []]) [(0,(.t 32))]),yc4 34 .row 5 72 30 33,xM 6 34]) [ycj 35 .add 26,xM 26 35]
def c_76_k1:ACode:=xR [ydn 36,xL 37 36,xM 38 6,xO 39 (.bslice .row 1 (List.replicate 1 [.fslice 5 []]) [(0,(.t 38))]),yc4 40 .row 1 24 37 39,ydn 41,xS 1 41 40]
def c_76_k2:ACode:=xR [ycj 42 .add 20,xM 20 42]
def c_76_l3:ACode:=ybp [xB 21 .lss 20 19] 21 0 (yal 1 (ydo [xX 22 1 18 20,xL 23 22,ydg 23] [xC 6 (.fslice 5 [])] [yce 24,xN 25 24,yba 26] 2 c_76_l0 c_76_k1) c_76_k2)
def c_76_l4:ACode:=ycu [xB 47 .lss 46 45] 47 4 5 [xX 48 2 44 46,xA 49 2 48,yax 10 [ybf,.fslice 1 []],xS 2 10 49] [10] (xD [xF 50 2 3,xL 51 50,xA 52 2 10,yb2 53 f_74 52,xO 54 (.bslice .imm 2 (List.replicate 1 [.int .i64 0,.fslice 1 []]) [(0,(.t 53))]),yc4 55 .row 2 32 51 54,xF 56 2 3,xS 1 56 55]) [ycj 57 .add 46,xM 46 57]
def c_76_l5:ACode:=ybp [xB 62 .lss 61 60] 62 6 (ya2 7 (yaa [xX 63 1 59 61,xL 64 63,xM 12 64] (xD [xF 65 3 3,xL 66 65,xM 67 12,yb2 68 f_161 67,xO 69 (.bslice .imm 1 (List.replicate 1 [.fslice 1 []]) [(0,(.t 68))]),ydk 70 1 24 66 69,xF 71 3 3,xS 1 71 70])) [ycj 72 .add 61,xM 61 72])
def c_76_k6:ACode:=yb9 (xA 73 4 3) (xS 4 2 73)
def c_76_k7:ACode:=ybq [xF 58 3 1,xL 59 58,xN 60 59,yba 61] 6 c_76_l5 c_76_k6
def c_76_k8:ACode:=ybq [xF 43 2 1,xL 44 43,xN 45 44,yba 46] 4 c_76_l4 c_76_k7
def c_76:AFn:=⟨1,[.cell 2 true 4],ycn (ycr 1 0) (ydj 2 (.fslice 1 []) (.fslice 1 []) (.fslice 2 []) (.fslice 1 [])) (ybg [yb4 13 1,xL 14 13,ybx 15 f_162 [.t 14],xO 16 (.build [.fslice 1 [],.fslice 1 [],.fslice 2 [],.fslice 1 []] [(1,1,(.t 15))]),ydj 3 (.fslice 1 []) (.fslice 1 []) (.fslice 2 []) (.fslice 1 []),xS 4 3 16] [yb3 17 1,xL 18 17,xN 19 18,yba 20] 0 c_76_l3 c_76_k8)⟩
def c_77:AFn:=⟨4,[.cell 8 true 4,.tmp 9,.tmp 10],ya3 [ydb 4,xJ 5 1,xJ 7 3,ydj 8 (.fslice 1 []) (.fslice 1 []) (.fslice 2 []) (.fslice 1 []),yba 9,yba 10] [xM 14 2,yda 15 .lss 14,xM 16 15,ya0 17 16 2,yas 18 16 5 4,ybo 19 16 18,ybc 20 16 19,ybv 21 16 .geq 17 20,xW 22 16 21] 22 [xA 23 4 5,xS 4 8 23,yba 9,xI 10 8] (yaa [xA 24 9 4,xM 25 2,xA 26 4 7,yc8 27 f_153 24 25 26,xM 11 27] (ycx 0 [xM 29 11,yda 30 .neq 29,xM 28 30] 28 [xA 31 4 5,xM 32 11,xS 4 8 31,yba 9,xM 10 32] (ycd [yb3 34 5,xL 35 34,xM 36 2,xX 37 1 35 36,xL 38 37,xA 39 4 7,ybj 40 f_154 38 39,xM 33 40] (yah 33 [xA 41 4 5,xS 4 8 41,yba 9,xI 10 7] (ycd [yb3 43 5,xL 44 43,xM 45 2,xX 46 1 44 45,xL 47 46,xN 48 47,xF 49 5 4,xL 50 49,xM 51 2,xX 52 6 50 51,xF 53 5 52,xL 54 53,xB 55 .geq 48 54,xM 56 55,yc0 57 56 5,ybo 58 56 57,ya0 59 56 2,yc9 60 56 1 58 59,ybo 61 56 60,ybe 62 56 .geq 61 1073741824,xW 63 56 62,xM 42 63] (yaj 42 [xA 64 4 5,xS 4 8 64,yba 9,xI 10 13])))) (yaa [yb4 65 5,xL 66 65,xM 67 2,xX 68 1 66 67,xL 69 68,xM 12 69] (yb5 [ycs 13 5] [xM 70 13,yb3 71 5,xL 72 71,xM 73 2,xX 74 1 72 73,xL 75 74,ydk 76 5 72 70 75,xM 13 76] (ybt [xM 77 13,xM 78 12,xA 79 4 7,xO 80 (.build [.int .i64 0,.fslice 2 [],.int .i64 0,.int .i64 0,.fslice 1 []] [(0,1,(.t 78)),(1,4,(.t 79))]),xO 81 (.bslice .imm 5 (List.replicate 1 [.int .i64 0,.fslice 2 [],.int .i64 0,.int .i64 0,.fslice 1 []]) [(0,(.t 80))]),ydk 82 5 72 77 81,xM 13 82] [xA 83 4 5,xM 84 2,xM 85 13,xM 86 12,ycj 87 .add 86,ycg 88 f_164 (.t 83) (.t 84) (.t 85) (.t 87),xM 89 12,xS 4 8 88,xM 9 89,yba 10])))))⟩
def c_78:AFn:=⟨5,[.cell 10 true 4,.tmp 11],ya3 [ydb 5,xJ 6 1,xJ 9 4,ydj 10 (.fslice 1 []) (.fslice 1 []) (.fslice 2 []) (.fslice 1 []),yba 11] [xM 14 2,yda 15 .lss 14,xM 16 15,ya0 17 16 2,yas 18 16 5 5,ybo 19 16 18,ybc 20 16 19,ybv 21 16 .geq 17 20,xW 22 16 21,xM 23 22,yas 24 23 0 6,ybo 25 23 24,ya0 26 23 2,yc9 27 23 1 25 26,ybo 28 23 27,ya0 29 23 3,yb7 30 23 f_165 [.t 28,.t 29],ybe 31 23 .lss 30 0,xW 32 23 31] 32 [xA 33 4 6,xS 4 10 33,xI 11 8] (ya3 [xA 34 9 5,xM 35 2,xA 36 2 9,yc8 37 f_68 34 35 36,xM 12 37] [xM 38 12,yda 39 .neq 38] 39 [xA 40 4 6,xM 41 12,xS 4 10 40,xM 11 41] (yaa [xC 13 (.fslice 5 [])] (ya1 [xM 42 13,yb3 43 6,xL 44 43,xM 45 2,xX 46 1 44 45,xL 47 46,yc4 48 .row 5 72 42 47,xM 13 48] (xD [xM 49 13,xM 50 13,ydl 51,ybj 52 f_165 50 51,xA 53 2 9,xX 54 5 49 52,yb4 55 54,xF 56 2 55,xS 2 56 53]) (ycd [xA 57 4 6,xM 58 2,xM 59 13,yb4 60 6,xL 61 60,xM 62 2,xX 63 1 61 62,xL 64 63,xO 65 (.pcallk f_164 [.t 57,.t 58,.t 59,.t 64]),xS 4 10 65,yba 11] .ret))))⟩
def c_79:AFn:=⟨4,[.cell 8 true 4,.tmp 9],ya3 [ydb 4,xJ 5 1,ydj 8 (.fslice 1 []) (.fslice 1 []) (.fslice 2 []) (.fslice 1 []),yba 9] [xM 12 2,yda 13 .lss 12,xM 14 13,ya0 15 14 2,yas 16 14 5 4,ybo 17 14 16,ybc 18 14 17,ybv 19 14 .geq 15 18,xW 20 14 19,xM 21 20,yas 22 21 0 5,ybo 23 21 22,ya0 24 21 2,yc9 25 21 1 23 24,ybo 26 21 25,ya0 27 21 3,yb7 28 21 f_165 [.t 26,.t 27],ybe 29 21 .lss 28 0,xW 30 21 29] 30 [xA 31 4 5,xS 4 8 31,xI 9 8] (yaa [yb3 32 5,xL 33 32,xM 34 2,xX 35 1 33 34,xL 36 35,ydl 37,ybj 38 f_165 36 37,xM 10 38] (yb5 [ycs 11 5] [xM 39 11,yb3 40 5,xL 41 40,xM 42 2,xX 43 1 41 42,xL 44 43,xM 45 10,xO 46 (.slc 5 (.t 44) none (some (.t 45)) none),ydk 47 5 72 39 46,xM 11 47] (ya1 [xM 48 11,yb3 49 5,xL 50 49,xM 51 2,xX 52 1 50 51,xL 53 52,xM 54 10,ycj 55 .add 54,xO 56 (.slc 5 (.t 53) (some (.t 55)) none none),ydk 57 5 72 48 56,xM 11 57] (xD [xA 58 4 5,xM 59 2,xM 60 11,yb4 61 5,xL 62 61,xM 63 2,xX 64 1 62 63,xL 65 64,ycg 66 f_164 (.t 58) (.t 59) (.t 60) (.t 65),xS 4 8 66,yba 9]) .ret)))⟩
def c_80:AFn:=⟨4,[.cell 8 true 4,.tmp 9],ya3 [ydb 4,xJ 5 1,xJ 7 3,ydj 8 (.fslice 1 []) (.fslice 1 []) (.fslice 2 []) (.fslice 1 []),yba 9] [xM 12 2,yda 13 .lss 12,xM 14 13,ya0 15 14 2,yas 16 14 5 4,ybo 17 14 16,ybc 18 14 17,ybv 19 14 .geq 15 18,xW 20 14 19] 20 [xA 21 4 5,xS 4 8 21,xI 9 8] (ya3 [xA 22 9 4,xM 23 2,xA 24 2 7,yc8 25 f_68 22 23 24,xM 10 25] [xM 26 10,yda 27 .neq 26] 27 [xA 28 4 5,xM 29 10,xS 4 8 28,xM 9 29] (yb5 [yb3 30 5,xL 31 30,yb4 32 5,xL 33 32,xF 34 3 5,xL 35 34,xO 36 (.build [.fslice 1 [],.fslice 1 [],.fslice 2 [],.fslice 1 []] [(0,1,(.t 31)),(1,1,(.t 33)),(3,1,(.t 35))]),ydj 11 (.fslice 1 []) (.fslice 1 []) (.fslice 2 []) (.fslice 1 []),xS 4 11 36] [xF 37 2 11,xL 38 37,xF 39 2 5,xL 40 39,yc4 41 .row 2 32 38 40,xF 42 2 11,xS 1 42 41] (ybt [xF 43 2 11,xL 44 43,xM 45 2,xA 46 2 7,xX 47 2 44 45,xS 2 47 46] [xA 48 4 11,xS 4 8 48,yba 9])))⟩
def c_81:AFn:=⟨3,[.tmp 6],ycn (ycr 5 2) yc2 (ycx 0 [yci 9,xO 10 (.eqn false (.t 9) (.c .nilptr)),xM 11 10,ya0 12 11 0,yab 13 11 (ybr 12),yas 14 11 14 13,ybo 15 11 14,ycw 16 11 15,xW 17 11 16,xM 8 17] 8 [xI 6 1] (ya4 [yci 19,ycc 20,ybx 21 f_82 [.t 19,.t 20],ybn 22 21,xM 18 22] 18 [xI 6 8]) (ycd [yci 23,ydf 24 23,xF 25 4 24,xA 26 9 25,ycc 27,xA 28 2 5,yc8 29 f_92 26 27 28,xM 7 29] (yae [xM 30 7,yda 31 .eql 30] (ybw 31 (xD [yci 32,ydf 33 32,yb3 34 33,xF 35 2 34,xL 36 35,ycc 37,xA 38 2 5,yb2 39 f_74 38,xX 40 2 36 37,xS 2 40 39])) (ycm (xM 41 7) 6 41))))⟩
def c_82:AFn:=⟨2,[.tmp 4],ybt [ydh] [ycc 5,yda 6 .geq 5,xM 7 6,ybm 8 7 1,ybm 9 7 0,yaw 10 7 (ybr 9),yb6 11 7 0 10,yb6 12 7 0 11,yca 13 7 1 12,yaw 14 7 (ya5 13),ybs 15 7 .lss 8 (.t 14),xV 16 7 15,ydp 16]⟩
def c_83:AFn:=⟨4,[.cell 8 true 5,.tmp 9],ya3 [ycr 4 0,ycr 5 1,ycr 6 2,ycr 7 3,yax 8 [ybf,.fslice 2 [],ybf,ybf,.fslice 1 []],ybd 9] [xL 13 5,yda 14 .lss 13,xM 15 14,ybo 16 15 5,yas 17 15 5 4,ybo 18 15 17,ybc 19 15 18,ybv 20 15 .geq 16 19,xW 21 15 20] 21 [xO 22 (.build [.int .i64 0,.fslice 2 [],.int .i64 0,.int .i64 0,.fslice 1 []] []),xS 5 8 22,ybd 9] (.seq (xQ [xO 23 (.mkfunc (.func f_166) [] [.t 7]),yax 10 [.nilfunc],xS 1 10 23] [10]) (.seq (xQ [xL 25 6,xO 26 (.mkfunc (.func f_169) [] [.t 10,.t 6,.t 4,.t 5]),ybx 27 f_168 [.t 25,.t 26],xM 24 27,xE 28 0 24,xE 29 1 24,yax 11 [ybf,.fslice 2 [],ybf,ybf,.fslice 1 []],xS 5 11 28,xM 12 29] [11]) (yad [xA 30 5 11,yb2 31 f_172 30,xM 32 12,xS 5 8 31,xM 9 32])))⟩
def c_84_l0:ACode:=yc3 [xM 14 12,xM 15 2,xN 16 15,xB 17 .lss 14 16,xM 18 17,ybm 19 18 1,ydc 20 18 .geq 19 0,xV 21 18 20,xM 22 21,ybm 23 22 1,yb6 24 22 5 4,yca 25 22 1 24,yaw 26 22 (ya5 25),ybs 27 22 .lss 23 (.t 26),xV 28 22 27] 28 0 1 (xD [xM 31 2,xM 32 12,xX 33 5 31 32,yb4 34 33,xA 35 4 34,ydl 36,ybj 37 f_173 35 36,xM 38 37,ybm 39 38 11,yaw 40 38 (ya7 39),ybm 41 38 40,yab 42 41 (ycv 9 4),ya0 43 41 1,ya0 44 41 2,ya0 45 41 12,yc9 46 41 5 44 45,yab 47 41 (ycv 5 46),yab 48 41 (ycv 5 10),yb7 49 41 f_174 [.t 42,.t 43,.t 47,.t 48],yaw 50 38 (.pick (.t 41) (.c yb0) (.t 49)),xV 51 38 50]) (ybw 51 (yaa [xM 52 2,xM 53 12,xX 54 5 52 53,xA 55 5 54,xS 5 10 55] (xR [xC 11 yb0]))) [xM 29 12,ycj 30 .add 29,xM 12 30]
def c_84_k1:ACode:=yad [xA 56 5 10,xM 57 11,xS 5 8 56,xM 9 57]
def c_84:AFn:=⟨4,[.cell 8 true 5,.tmp 9],yb5 [ydb 4,yax 8 [ybf,.fslice 2 [],ybf,ybf,.fslice 1 []],ybd 9] [xO 13 (.build [.int .i64 0,.fslice 2 [],.int .i64 0,.int .i64 0,.fslice 1 []] []),yax 10 [ybf,.fslice 2 [],ybf,ybf,.fslice 1 []],xS 5 10 13] (ybg [ybd 11] [yba 12] 0 c_84_l0 c_84_k1)⟩
def c_85_l0:ACode:=yc3 [yce 20,yb3 21 2,xL 22 21,xN 23 22,xB 24 .lss 20 23] 24 0 1 (xD [yb3 27 2,xL 28 27,yce 29,xX 30 2 28 29,xA 31 2 30,ydn 32,xL 33 32,yce 34,xX 35 2 33 34,xA 36 2 35,xO 37 (.eqs true true [.i,.i] (.t 31) (.t 36))]) (yaj 37 [ydh]) [yce 25,ycj 26 .add 25,ydg 26]
def c_85_k1:ACode:=yad [xC 4 yb0]
def c_85:AFn:=⟨2,[.tmp 4],ydd [ycr 2 0,ycr 3 1,ydh] [yb3 6 2,xL 7 6,xN 8 7,ydn 9,xL 10 9,xN 11 10,xB 12 .neq 8 11,xM 13 12,yc0 14 13 2,ybo 15 13 14,yc0 16 13 3,ybo 17 13 16,ybv 18 13 .neq 15 17,xW 19 13 18] 19 [ydh] [ycz] 0 c_85_l0 c_85_k1⟩
def c_86_l0:ACode:=ycu [xB 42 .lss 41 40] 42 0 1 [xM 43 41,xX 44 2 39 41,xA 45 2 44,yax 12 [ycl 0,ycl 0],xM 11 43,xS 2 12 45] [12] (ycd [xA 46 2 12,xM 47 9,xM 48 11,xX 49 3 47 48,xF 50 2 49,xL 51 50,xM 52 10,xM 53 11,xX 54 1 52 53,xL 55 54,yc8 56 f_177 46 51 55,xM 13 56] (ya4 [xM 57 13,yda 58 .neq 57] 58 [xM 59 13,xM 6 59])) [ycj 60 .add 41,xM 41 60]
def c_86_k1:ACode:=ycx 2 [yb4 62 5,xL 63 62,yda 64 .lss 63,xM 65 64,yc0 66 65 5,ybo 67 65 66,ybe 68 65 .gtr 67 255,xW 69 65 68,xM 61 69] 61 [xI 6 9] (ybl [yb4 71 5,xL 72 71,yda 73 .neq 72,xM 74 73,yaw 75 74 (ycv 9 3),ybm 76 74 1,ydm 77 74 f_178 [.t 75,.t 76],ydc 78 74 .neq 77 3,xV 79 74 78,xM 70 79] 70 [xI 6 11] (ya4 [xA 81 9 3,ycc 82,xF 83 2 5,yb3 84 83,xL 85 84,yc8 86 f_179 81 82 85,ybn 87 86,xM 80 87] 80 [xI 6 8])) (yad [xA 88 9 3,xF 89 2 5,xA 90 2 89,ybj 91 f_180 88 90,xM 6 91])
def c_86:AFn:=⟨3,[.tmp 6],yap [ydb 3,xJ 5 2,yc2] [xA 15 9 3,ycc 16,ybj 17 f_175 15 16,xM 14 17,xE 18 0 14,xE 19 1 14,xM 7 18,xM 8 19] (ya4 [xM 20 8,yda 21 .neq 20] 21 [xM 22 8,xM 6 22]) (ycd [xF 23 5 3,xL 24 23,ycc 25,xX 26 6 24 25,yb4 27 26,xL 28 27,xA 29 9 3,ycc 30,ybj 31 f_176 29 30,xM 9 28,xM 10 31] (ybk [yb3 32 5,xL 33 32,xN 34 33,xM 35 9,xN 36 35,xB 37 .neq 34 36] 37 [xI 6 2] (ybq [yb3 38 5,xL 39 38,xN 40 39,yba 41] 0 c_86_l0 c_86_k1)))⟩
def c_87:AFn:=⟨2,[.tmp 4],ybt [ydh] [yci 5,ycc 6,ybj 7 f_181 5 6,yda 8 .geq 7,ydp 8]⟩
def c_88:AFn:=⟨2,[.tmp 3],ybt [ycr 2 0,ybd 3] [yb4 4 2,xA 5 4 4,xA 6 4 1,ybj 7 f_89 5 6,xM 3 7]⟩
def c_89_l0:ACode:=ybp [xB 25 .lss 24 23] 25 0 (ya2 1 (ya1 [xM 26 24,xX 27 2 22 24,xA 28 2 27,yax 6 [ycl 0,ycl 0],ydg 26,xS 2 6 28] (xD [xA 29 2 6,ydn 30,xL 31 30,yce 32,xX 33 2 31 32,xA 34 2 33,xO 35 (.eqs true true [.i,.i] (.t 29) (.t 34))]) (yaj 35 [ydh])) [ycj 36 .add 24,xM 24 36])
def c_89_k1:ACode:=yad [xC 4 yb0]
def c_89:AFn:=⟨2,[.tmp 4],ydd [ycr 2 0,ycr 3 1,ydh] [yb4 7 2,xL 8 7,yb4 9 3,xL 10 9,xB 11 .neq 8 10,xM 12 11,yas 13 12 0 2,ybo 14 12 13,ybc 15 12 14,yas 16 12 0 3,ybo 17 12 16,ybc 18 12 17,ybv 19 12 .neq 15 18,xW 20 12 19] 20 [ydh] [yb3 21 2,xL 22 21,xN 23 22,yba 24] 0 c_89_l0 c_89_k1⟩
def c_90:AFn:=⟨1,[.cell 2 true 4],ya1 [ydb 1,ydj 2 (.fslice 2 []) ybf ybf (.fslice 1 [])] (xD [yb3 3 1,xL 4 3,yb2 5 f_182 4,yb4 6 1,xL 7 6,xF 8 2 1,xA 9 2 8,yb2 10 f_74 9,xO 11 (.build [.fslice 2 [],.int .i64 0,.int .i64 0,.fslice 1 []] [(0,1,(.t 5)),(1,1,(.t 7)),(2,2,(.t 10))]),xS 4 2 11]) .ret⟩
def c_91:AFn:=⟨3,[.tmp 6,.tmp 7],ycn yc2 (yba 7) (ycx 0 [yci 11,xO 12 (.eqn false (.t 11) (.c .nilptr)),xM 13 12,ya0 14 13 0,yab 15 13 (ybr 14),yas 16 13 14 15,ybo 17 13 16,ycw 18 13 17,xW 19 13 18,xM 10 19] 10 [yc2,xI 7 1] (ya4 [yci 21,ycc 22,ybx 23 f_82 [.t 21,.t 22],ybn 24 23,xM 20 24] 20 [yc2,xI 7 8]) (ya3 [yci 26,ydf 27 26,xF 28 13 27,xL 29 28,ycc 30,xX 31 1 29 30,xL 32 31,xM 33 2,xO 34 (.lookup .i (.int .i64 0) true (.t 32) (.t 33)),xM 25 34,xE 35 0 25,xE 36 1 25,xM 8 35,xM 9 36] [xM 37 9,ybn 38 37] 38 [yc2,xI 7 8] (yad [xM 39 8,xM 6 39,yba 7])))⟩
def c_92:AFn:=⟨3,[.tmp 6],ya3 [ydb 3,xJ 5 2,yc2] [xA 7 9 3,ycc 8,yb3 9 5,xL 10 9,yc8 11 f_179 7 8 10,ybn 12 11] 12 [xI 6 8] (yad [xA 13 9 3,xA 14 2 5,ybj 15 f_180 13 14,xM 6 15])⟩
def c_93:AFn:=⟨3,[.tmp 6],yaa [xC 6 (.fslice 5 [])] (ya3 [yci 8,ycc 9,xM 10 2,yci 11,xN 12 11,xO 13 (.slcH 5 (.t 8) (some (.t 9)) (some (.t 10)) (some (.t 12)))] [ycc 14,xM 15 2,xB 16 .eql 14 15] 16 [yci 17,xM 6 17] (ya1 [yci 18,xN 19 18,xM 7 19] (xD [yci 20,ycc 21,xO 22 (.slc 5 (.t 20) none (some (.t 21)) none),yci 23,xM 24 2,xO 25 (.slc 5 (.t 23) (some (.t 24)) none none),ydk 26 5 72 22 25,xM 0 26]) (ybt [yci 27,yci 28,xN 29 28,xM 30 7,xO 31 (.slcH 5 (.t 27) (some (.t 29)) (some (.t 30)) none),⟨none,none,.clear [.int .i64 0,.fslice 2 [],.int .i64 0,.int .i64 0,.fslice 1 []] (.t 31)⟩] [yci 32,xM 6 32])))⟩
def c_94_l0:ACode:=ycu [xB 23 .lss 22 21] 23 0 1 [xM 24 22,xX 25 5 20 22,xA 26 5 25,yax 5 [ybf,.fslice 2 [],ybf,ybf,.fslice 1 []],ydp 24,xS 5 5 26] [5] (xD [yci 27,ydf 28 27,xF 29 13 28,xL 30 29,ycc 31,xX 32 1 30 31,xL 33 32,yb3 34 5,xL 35 34,xM 36 4,⟨none,none,.update .i (.t 33) (.t 35) (.t 36)⟩]) [ycj 37 .add 22,xM 22 37]
def c_94:AFn:=⟨2,[],yb5 [yci 6,ydf 7 6,xF 8 13 7,xL 9 8,ycc 10,xO 11 .mkmap,xX 12 1 9 10,xS 1 12 11] [yci 13,ydf 14 13,yb3 15 14,yb3 16 15,xL 17 16,ycc 18,xX 19 1 17 18,xL 20 19,xN 21 20,yba 22] (yam 0 c_94_l0)⟩
def c_125:AFn:=⟨1,[.cell 2 true 4],ycn (ydb 1) (ydj 2 ybf ybf ybf ybf) (ycx 0 [yb3 4 1,xL 5 4,yb2 6 f_194 5,ybn 7 6,xM 3 7] 3 [ycq 8 f_195 (yaq 6) 0 (yaq 0) 0,xS 4 2 8] (ybl [yb4 10 1,xL 11 10,xN 12 11,xK 13 .gtr 12 8,xM 9 13] 9 [ycq 14 f_195 (yaq 12) 0 (yaq 1) 0,xS 4 2 14] (ybl [xF 16 3 1,xL 17 16,xN 18 17,xK 19 .gtr 18 4,xM 15 19] 15 [ycq 20 f_195 (yaq 12) 0 (yaq 3) 0,xS 4 2 20] (ybl [xF 22 4 1,xL 23 22,xN 24 23,xK 25 .gtr 24 16,xM 21 25] 21 [ycq 26 f_195 (yaq 12) 0 (yaq 4) 0,xS 4 2 26] (ya4 [xF 28 5 1,xL 29 28,xN 30 29,xK 31 .gtr 30 12,xM 27 31] 27 [ycq 32 f_195 (yaq 12) 0 (yaq 5) 0,xS 4 2 32])))) (yb9 (xO 33 (.build [.int .i64 0,.int .i64 0,.int .i64 0,.int .i64 0] [])) (xS 4 2 33)))⟩
def c_126_l0:ACode:=yc3 [yce 30,ydl 31,xB 32 .lss 30 31,xM 33 32,ybm 34 33 4,ydc 35 33 .eql 34 0,xV 36 33 35] 36 2 3 (xD [yb4 39 1,xL 40 39,yce 41,xX 42 2 40 41,yb3 43 42,xL 44 43,yb4 45 1,xL 46 45,ydl 47,xX 48 2 46 47,yb3 49 48,xL 50 49,xB 51 .eql 44 50]) (ybw 51 (xR [xI 4 7])) [yce 37,ycj 38 .add 37,ydg 38]
def c_126_k1:ACode:=ya4 [xM 52 4,yda 53 .neq 52] 53 [xM 54 4,ydl 55,ycq 56 f_195 (.t 54) 1 (.t 55) 0,xS 4 2 56]
def c_126_k2:ACode:=xR [ydl 11,ycj 12 .add 11,xM 3 12]
def c_126_l3:ACode:=ybb [ydl 6,yb4 7 1,xL 8 7,xN 9 8,xB 10 .lss 6 9] 10 0 (yal 1 (yap [yb4 13 1,xL 14 13,ydl 15,xX 16 2 14 15,xA 17 2 16,yb2 18 f_196 17,ydp 18] [xM 19 4,yda 20 .eql 19,xM 21 20,yb6 22 21 1 1,yca 23 21 1 22,ybm 24 21 3,yaw 25 21 (ybz 2 23 (.t 24)),yb6 26 21 0 25,yca 27 21 1 26,ybs 28 21 .eql 27 (.c (.str [109,101,116,97])),xV 29 21 28] (ybw 29 (xR [xI 4 6])) (ybq [ycz] 2 c_126_l0 c_126_k1)) c_126_k2)
def c_126_k4:ACode:=yb9 (xO 57 (.build [.int .i64 0,.int .i64 0,.int .i64 0,.int .i64 0] [])) (xS 4 2 57)
def c_126:AFn:=⟨1,[.cell 2 true 4],ybg [ydb 1,ydj 2 ybf ybf ybf ybf] [yba 3] 0 c_126_l3 c_126_k4⟩
def c_127_l0:ACode:=yct [ydl 12,xF 13 2 1,xL 14 13,xN 15 14,xB 16 .lss 12 15] 16 0 1 (yaa [xF 19 2 1,xL 20 19,ydl 21,ybj 22 f_197 20 21,ydp 22] (ya4 [xM 23 4,yda 24 .neq 23] 24 [xM 25 4,ydl 26,ycq 27 f_195 (.t 25) 2 (.t 26) 0,xS 4 2 27])) [ydl 17,ycj 18 .add 17,xM 3 18]
def c_127_l1:ACode:=yc3 [xM 32 6,yce 33,xN 34 33,xB 35 .lss 32 34] 35 2 3 (xD [xM 38 6,xF 39 2 1,xL 40 39,xN 41 40,xB 42 .geq 38 41,xM 43 42,yas 44 43 2 1,ybo 45 43 44,ya0 46 43 6,yc9 47 43 2 45 46,yab 48 43 (ycv 2 47),ya0 49 43 5,ya0 50 43 6,yc9 51 43 2 49 50,yab 52 43 (ycv 2 51),yab 53 43 (.eqs true true [.s,.i] (.t 48) (.t 52)),xW 54 43 53]) (yaj 54 [xM 55 6,ycq 56 f_195 (yaq 5) 2 (.t 55) 0,xS 4 2 56]) [xM 36 6,ycj 37 .add 36,xM 6 37]
def c_127_k2:ACode:=yb9 (xO 57 (.build [.int .i64 0,.int .i64 0,.int .i64 0,.int .i64 0] [])) (xS 4 2 57)
def c_127_k3:ACode:=ybg [xO 28 (.build [.str [],.int .i64 0] [(0,1,(.c (.str [105,110]))),(1,1,(.c (.int .i64 8)))]),xO 29 (.build [.str [],.int .i64 0] [(0,1,(.c (.str [111,117,116]))),(1,1,(.c (.int .i64 8)))]),xO 30 (.build [.str [],.int .i64 0] [(0,1,(.c (.str [100,114,111,112]))),(1,1,(.c (.int .i64 1)))]),xO 31 (.bslice .imm 2 (List.replicate 3 [.str [],.int .i64 0]) [(0,(.t 28)),(1,(.t 29)),(2,(.t 30))]),ydg 31] [yc2] 2 c_127_l1 c_127_k2
def c_127:AFn:=⟨1,[.cell 2 true 4],ydd [ydb 1,ydj 2 ybf ybf ybf ybf] [xF 7 2 1,xL 8 7,xN 9 8,xK 10 .gtr 9 12] 10 [ycq 11 f_195 (yaq 12) 2 (yaq 0) 0,xS 4 2 11] [yba 3] 0 c_127_l0 c_127_k3⟩
def c_128_l0:ACode:=yc3 [yce 19,ydl 20,xB 21 .lss 19 20,xM 22 21,ybm 23 22 4,ydc 24 22 .eql 23 0,xV 25 22 24] 25 2 3 (xD [xF 28 3 1,xL 29 28,yce 30,xX 31 3 29 30,yb3 32 31,xL 33 32,xF 34 3 1,xL 35 34,ydl 36,xX 37 3 35 36,yb3 38 37,xL 39 38,xB 40 .eql 33 39]) (ybw 40 (xR [xI 4 7])) [yce 26,ycj 27 .add 26,ydg 27]
def c_128_k1:ACode:=ya4 [xM 41 4,yda 42 .neq 41] 42 [xM 43 4,ydl 44,ycq 45 f_195 (.t 43) 3 (.t 44) 0,xS 4 2 45]
def c_128_k2:ACode:=xR [ydl 11,ycj 12 .add 11,xM 3 12]
def c_128_l3:ACode:=ybb [ydl 6,xF 7 3 1,xL 8 7,xN 9 8,xB 10 .lss 6 9] 10 0 (yal 1 (ybg [xF 13 3 1,xL 14 13,ydl 15,xX 16 3 14 15,xA 17 3 16,yb2 18 f_198 17,ydp 18] [ycz] 2 c_128_l0 c_128_k1) c_128_k2)
def c_128_k4:ACode:=yb9 (xO 46 (.build [.int .i64 0,.int .i64 0,.int .i64 0,.int .i64 0] [])) (xS 4 2 46)
def c_128:AFn:=⟨1,[.cell 2 true 4],ybg [ydb 1,ydj 2 ybf ybf ybf ybf] [yba 3] 0 c_128_l3 c_128_k4⟩
def c_129_l0:ACode:=yc3 [xM 26 6,ydl 27,xB 28 .lss 26 27] 28 2 3 (xD [xF 31 4 1,xL 32 31,xM 33 6,xX 34 3 32 33,yb3 35 34,xL 36 35,xF 37 4 1,xL 38 37,ydl 39,xX 40 3 38 39,yb3 41 40,xL 42 41,xB 43 .eql 36 42]) (yaj 43 [ydl 44,ycq 45 f_195 (yaq 7) 4 (.t 44) 0,xS 4 2 45]) [xM 29 6,ycj 30 .add 29,xM 6 30]
def c_129_k1:ACode:=xR [ydl 12,ycj 13 .add 12,xM 3 13]
def c_129_l2:ACode:=ybb [ydl 7,xF 8 4 1,xL 9 8,xN 10 9,xB 11 .lss 7 10] 11 0 (yal 1 (ya3 [xA 15 9 1,ydl 16,ybj 17 f_199 15 16,xM 14 17,xE 18 0 14,xE 19 1 14,ydp 18,ydg 19] [yce 20,yda 21 .neq 20] 21 [yce 22,ydl 23,xM 24 4,ych 25 f_195 (.t 22) 4 (.t 23) (.t 24),xS 4 2 25] (yaa [yc2] (yam 2 c_129_l0))) c_129_k1)
def c_129_k3:ACode:=yb9 (xO 46 (.build [.int .i64 0,.int .i64 0,.int .i64 0,.int .i64 0] [])) (xS 4 2 46)
def c_129:AFn:=⟨1,[.cell 2 true 4],ybg [ydb 1,ydj 2 ybf ybf ybf ybf] [yba 3] 0 c_129_l2 c_129_k3⟩
def c_130_l0:ACode:=yc3 [xM 26 6,ydl 27,xB 28 .lss 26 27] 28 2 3 (xD [xF 31 5 1,xL 32 31,xM 33 6,xX 34 6 32 33,yb3 35 34,xL 36 35,xF 37 5 1,xL 38 37,ydl 39,xX 40 6 38 39,yb3 41 40,xL 42 41,xB 43 .eql 36 42]) (yaj 43 [ydl 44,ycq 45 f_195 (yaq 7) 5 (.t 44) 0,xS 4 2 45]) [xM 29 6,ycj 30 .add 29,xM 6 30]
def c_130_k1:ACode:=xR [ydl 12,ycj 13 .add 12,xM 3 13]
def c_130_l2:ACode:=ybb [ydl 7,xF 8 5 1,xL 9 8,xN 10 9,xB 11 .lss 7 10] 11 0 (yal 1 (ya3 [xA 15 9 1,ydl 16,ybj 17 f_200 15 16,xM 14 17,xE 18 0 14,xE 19 1 14,ydp 18,ydg 19] [yce 20,yda 21 .neq 20] 21 [yce 22,ydl 23,xM 24 4,ych 25 f_195 (.t 22) 5 (.t 23) (.t 24),xS 4 2 25] (yaa [yc2] (yam 2 c_130_l0))) c_130_k1)
def c_130_k3:ACode:=yb9 (xO 46 (.build [.int .i64 0,.int .i64 0,.int .i64 0,.int .i64 0] [])) (xS 4 2 46)
def c_130:AFn:=⟨1,[.cell 2 true 4],ybg [ydb 1,ydj 2 ybf ybf ybf ybf] [yba 3] 0 c_130_l2 c_130_k3⟩
def c_131:AFn:=⟨1,[.cell 2 true 4],ycn (ydb 1) (ydj 2 ybf ybf ybf ybf) (ya3 [xA 7 9 1,yb2 8 f_201 7,xM 6 8,xE 9 0 6,xE 10 1 6,xE 11 2 6,xM 3 9,ydp 10,ydg 11] [yce 12,yda 13 .neq 12] 13 [yce 14,ydl 15,xM 16 4,ych 17 f_195 (.t 14) 6 (.t 15) (.t 16),xS 4 2 17] (ya3 [xA 19 9 1,yb2 20 f_202 19,xM 18 20,xE 21 0 18,xE 22 1 18,xM 3 21,ydg 22] [yce 23,yda 24 .neq 23] 24 [yce 25,ydl 26,ycq 27 f_195 (.t 25) 7 (.t 26) 0,xS 4 2 27] (ya3 [xA 29 9 1,yb2 30 f_203 29,xM 28 30,xE 31 0 28,xE 32 1 28,xM 3 31,ydg 32] [yce 33,yda 34 .neq 33] 34 [yce 35,ydl 36,ycq 37 f_195 (.t 35) 8 (.t 36) 0,xS 4 2 37] (yb9 (xO 38 (.build [.int .i64 0,.int .i64 0,.int .i64 0,.int .i64 0] [])) (xS 4 2 38)))))⟩
def c_139:AFn:=⟨1,[.cell 2 true 9],ya1 [ydb 1,yax 2 [.str [],.fslice 2 [],.fslice 2 [],.fslice 3 [],.fslice 3 [],.fslice 6 [],.fslice 7 [],.fslice 5 [],.fslice 1 []]] (xD [yb3 3 1,xL 4 3,yb4 5 1,xL 6 5,ybi 7 f_212 6 (.c (.func (.func f_213) [] [])),xF 8 2 1,xL 9 8,yb2 10 f_214 9,xF 11 3 1,xL 12 11,yb2 13 f_215 12,xF 14 4 1,xL 15 14,ybi 16 f_216 15 (.c (.func (.func f_217) [] [])),xF 17 5 1,xL 18 17,ybi 19 f_218 18 (.c (.func (.func f_219) [] [])),xF 20 6 1,xL 21 20,ybi 22 f_220 21 (.c (.func (.func f_221) [] [])),xF 23 7 1,xL 24 23,ybi 25 f_222 24 (.c (.func (.func f_223) [] [])),xF 26 8 1,xL 27 26,yb2 28 f_162 27,xO 29 (.build [.str [],.fslice 2 [],.fslice 2 [],.fslice 3 [],.fslice 3 [],.fslice 6 [],.fslice 7 [],.fslice 5 [],.fslice 1 []] [(0,1,(.t 4)),(1,1,(.t 7)),(2,1,(.t 10)),(3,1,(.t 13)),(4,1,(.t 16)),(5,1,(.t 19)),(6,1,(.t 22)),(7,1,(.t 25)),(8,1,(.t 28))]),xS 9 2 29]) .ret⟩
def c_142_l0:ACode:=yct [xM 54 4,xF 55 4 1,xL 56 55,ydl 57,xX 58 3 56 57,xF 59 2 58,xL 60 59,xN 61 60,xB 62 .lss 54 61] 62 2 3 (ya4 [xF 65 4 1,xL 66 65,ydl 67,xX 68 3 66 67,xF 69 2 68,xL 70 69,xM 71 4,xX 72 7 70 71,xF 73 5 72,xL 74 73,xN 75 74,xK 76 .gtr 75 60,xM 77 76,yas 78 77 4 1,ybo 79 77 78,ya0 80 77 3,yc9 81 77 3 79 80,yas 82 77 2 81,ybo 83 77 82,ya0 84 77 4,yc9 85 77 7 83 84,yas 86 77 6 85,ybo 87 77 86,ybc 88 77 87,ybe 89 77 .gtr 88 60,xW 90 77 89] 90 [ybd 2]) [xM 63 4,ycj 64 .add 63,ydp 64]
def c_142_k1:ACode:=xR [ydl 34,ycj 35 .add 34,xM 3 35]
def c_142_l2:ACode:=ybb [ydl 29,xF 30 4 1,xL 31 30,xN 32 31,xB 33 .lss 29 32] 33 0 (yal 1 (ybk [xF 36 4 1,xL 37 36,ydl 38,xX 39 3 37 38,yb4 40 39,xL 41 40,xN 42 41,xK 43 .gtr 42 20,xM 44 43,yas 45 44 4 1,ybo 46 44 45,ya0 47 44 3,yc9 48 44 3 46 47,yas 49 44 2 48,ybo 50 44 49,ybc 51 44 50,ybe 52 44 .gtr 51 30,xW 53 44 52] 53 [ybd 2] (yaa [yby] (yam 2 c_142_l0))) c_142_k1)
def c_142_l3:ACode:=yct [yce 91,yb4 92 1,xL 93 92,xN 94 93,xB 95 .lss 91 94] 95 4 5 (ya4 [yb4 98 1,xL 99 98,yce 100,xX 101 2 99 100,yb4 102 101,xL 103 102,xN 104 103,xK 105 .gtr 104 40] 105 [ybd 2]) [yce 96,ycj 97 .add 96,ydg 97]
def c_142_l4:ACode:=yct [xM 106 6,xF 107 3 1,xL 108 107,xN 109 108,xB 110 .lss 106 109] 110 6 7 (ya4 [xF 113 3 1,xL 114 113,xM 115 6,xX 116 3 114 115,xF 117 2 116,xL 118 117,xK 119 .gtr 118 200] 119 [ybd 2]) [xM 111 6,ycj 112 .add 111,xM 6 112]
def c_142_k5:ACode:=yad [xC 2 yb0]
def c_142_k6:ACode:=ybq [yc2] 6 c_142_l4 c_142_k5
def c_142_k7:ACode:=ybq [ycz] 4 c_142_l3 c_142_k6
def c_142:AFn:=⟨1,[.tmp 2],ydd [ycr 1 0,ybd 2] [yb4 7 1,xL 8 7,xN 9 8,xK 10 .gtr 9 20,xM 11 10,yas 12 11 2 1,ybo 13 11 12,ybc 14 11 13,ybe 15 11 .gtr 14 30,xW 16 11 15,xM 17 16,yas 18 17 3 1,ybo 19 17 18,ybc 20 17 19,ybe 21 17 .gtr 20 20,xW 22 17 21,xM 23 22,yas 24 23 4 1,ybo 25 23 24,ybc 26 23 25,ybe 27 23 .gtr 26 40,xW 28 23 27] 28 [ybd 2] [yba 3] 0 c_142_l2 c_142_k7⟩
def c_143_l0:ACode:=yct [xM 20 8,yci 21,xN 22 21,xB 23 .lss 20 22,xM 24 23,ybm 25 24 7,ybm 26 24 2,ybs 27 24 .leq 25 (.t 26),xV 28 24 27] 28 0 1 (xD [xM 31 7,yci 32,xM 33 8,xX 34 5 32 33,xF 35 3 34,xL 36 35,ycc 37,ycj 38 .add 37,xM 39 2,yc8 40 f_143 36 38 39,yci 41,xM 42 8,xX 43 5 41 42,xF 44 4 43,xL 45 44,ycc 46,ycj 47 .add 46,xM 48 2,yc8 49 f_143 45 47 48,xB 50 .add 40 49,yci 51,xM 52 8,xX 53 5 51 52,xF 54 2 53,xL 55 54,xN 56 55,xK 57 .quo 56 20,xB 58 .add 50 57,xB 59 .add 31 58,xM 7 59]) [xM 29 8,ycj 30 .add 29,xM 8 30]
def c_143_k1:ACode:=ycm (xM 60 7) 6 60
def c_143:AFn:=⟨3,[.tmp 6],yaa [yc2] (ydd [yci 9,xN 10 9,xM 7 10] [xM 11 7,xM 12 2,xB 13 .gtr 11 12,xM 14 13,ya0 15 14 1,ybe 16 14 .gtr 15 20,xW 17 14 16] 17 [xM 18 2,ycj 19 .add 18,xM 6 19] [yba 8] 0 c_143_l0 c_143_k1)⟩
def c_145:AFn:=⟨1,[],yaa [ydb 1] (yb5 [yb3 2 1,xL 3 2,yb2 4 f_229 3,ybi 5 f_228 4 (yaq 6),ycq 6 f_227 (.t 5) 0 (yaq 0) 0] [yb4 7 1,xL 8 7,xN 9 8,xK 10 .gtr 9 8,ybi 11 f_228 10 (yaq 12),ycq 12 f_227 (.t 11) 0 (yaq 1) 0] (yb5 [xF 13 3 1,xL 14 13,xN 15 14,xK 16 .gtr 15 4,ybi 17 f_228 16 (yaq 12),ycq 18 f_227 (.t 17) 0 (yaq 3) 0] [xF 19 4 1,xL 20 19,xN 21 20,xK 22 .gtr 21 16,ybi 23 f_228 22 (yaq 12),ycq 24 f_227 (.t 23) 0 (yaq 4) 0] (xR [xF 25 5 1,xL 26 25,xN 27 26,xK 28 .gtr 27 12,ybi 29 f_228 28 (yaq 12),ycq 30 f_227 (.t 29) 0 (yaq 5) 0])))⟩
def c_146_l0:ACode:=ycu [xB 12 .lss 11 10] 12 0 1 [xM 13 11,xX 14 2 9 11,xA 15 2 14,yax 4 [.str [],.fslice 2 []],xM 3 13,xS 2 4 15] [4] (yb5 [xA 16 2 4,yb2 17 f_232 16,ydl 18,ycq 19 f_227 (.t 17) 1 (.t 18) 0] [yb3 20 4,xL 21 20,xO 22 (yao .eql 21 (.c (.str [109,101,116,97]))),ybi 23 f_228 22 (yaq 6),ydl 24,ycq 25 f_227 (.t 23) 1 (.t 24) 0] (xR [xM 26 2,ydl 27,ybj 28 f_233 26 27,ybi 29 f_228 28 (yaq 7),ydl 30,ycq 31 f_227 (.t 29) 1 (.t 30) 0])) [ycj 32 .add 11,xM 11 32]
def c_146:AFn:=⟨1,[],yaa [ydb 1] (yb5 [yb4 5 1,xL 6 5,ybi 7 f_230 6 (.c (.func (.func f_231) [] [])),xM 2 7] [yb4 8 1,xL 9 8,xN 10 9,yba 11] (yam 0 c_146_l0))⟩
def c_147_l0:ACode:=ycu [xB 20 .lss 19 18] 20 0 1 [xM 21 19,xX 22 2 17 19,xA 23 2 22,yax 4 [.str [],ybf],xM 3 21,xS 2 4 23] [4] (yb5 [yb3 24 4,xL 25 24,yb2 26 f_229 25,ybi 27 f_228 26 (yaq 6),ydl 28,ycq 29 f_227 (.t 27) 2 (.t 28) 0] [yb4 30 4,xL 31 30,yb2 32 f_236 31,ybi 33 f_228 32 (yaq 10),ydl 34,ycq 35 f_227 (.t 33) 2 (.t 34) 0] (xR [xM 36 2,ydl 37,ybj 38 f_233 36 37,ybi 39 f_228 38 (yaq 7),ydl 40,ycq 41 f_227 (.t 39) 2 (.t 40) 0])) [ycj 42 .add 19,xM 19 42]
def c_147_l1:ACode:=ycu [xK 48 .lss 47 3] 48 2 3 [xM 49 47,xO 50 (.idxa true 3 2 (.t 46) (.t 47)),yax 6 [.str [],ybf],ydg 49,xS 2 6 50] [6] (ycd [yce 51,xF 52 2 1,xL 53 52,xN 54 53,xB 55 .geq 51 54,xM 56 55,yas 57 56 2 1,ybo 58 56 57,ya0 59 56 5,yc9 60 56 2 58 59,yab 61 56 (ycv 2 60),yab 62 56 (ycv 2 6),yab 63 56 (.eqs true true [.s,.i] (.t 61) (.t 62)),xW 64 56 63,ybi 65 f_228 64 (yaq 5),yce 66] (xR [ycq 67 f_227 (.t 65) 2 (.t 66) 0])) [ycj 68 .add 47,xM 47 68]
def c_147_k2:ACode:=yaa [xO 43 (.build [.str [],.int .i64 0] [(0,1,(.c (.str [105,110]))),(1,1,(.c (.int .i64 8)))]),xO 44 (.build [.str [],.int .i64 0] [(0,1,(.c (.str [111,117,116]))),(1,1,(.c (.int .i64 8)))]),xO 45 (.build [.str [],.int .i64 0] [(0,1,(.c (.str [100,114,111,112]))),(1,1,(.c (.int .i64 1)))]),xO 46 (.build [.str [],.int .i64 0,.str [],.int .i64 0,.str [],.int .i64 0] [(0,2,(.t 43)),(2,2,(.t 44)),(4,2,(.t 45))]),yba 47] (yam 2 c_147_l1)
def c_147:AFn:=⟨1,[],yb5 [ydb 1] [xF 7 2 1,xL 8 7,xN 9 8,xK 10 .gtr 9 12,ybi 11 f_228 10 (yaq 12),ycq 12 f_227 (.t 11) 2 (yaq 0) 0] (ybg [xF 13 2 1,xL 14 13,ybi 15 f_234 14 (.c (.func (.func f_235) [] [])),xM 2 15] [xF 16 2 1,xL 17 16,xN 18 17,yba 19] 0 c_147_l0 c_147_k2)⟩
def c_148_l0:ACode:=ycu [xB 18 .lss 17 16] 18 0 1 [xM 19 17,xX 20 3 15 17,xA 21 3 20,yax 4 [.str [],ybf,ybf],xM 3 19,xS 3 4 21] [4] (yaa [xA 22 3 4,yb2 23 f_239 22,ydl 24,ycq 25 f_227 (.t 23) 3 (.t 24) 0] (xR [xM 26 2,ydl 27,ybj 28 f_233 26 27,ybi 29 f_228 28 (yaq 7),ydl 30,ycq 31 f_227 (.t 29) 3 (.t 30) 0])) [ycj 32 .add 17,xM 17 32]
def c_148_l1:ACode:=ybp [xB 40 .lss 39 38] 40 2 (ya2 3 (yco (xM 41 39) 5 41 (yb5 [xA 43 9 1,yce 44,ybj 45 f_242 43 44,xM 42 45,xE 46 0 42,xE 47 1 42,xM 6 46,xM 7 47] [xM 48 7,yce 49,xM 50 6,ych 51 f_227 (.t 48) 4 (.t 49) (.t 50)] (xR [xM 52 2,yce 53,ybj 54 f_233 52 53,ybi 55 f_228 54 (yaq 7),yce 56,ycq 57 f_227 (.t 55) 4 (.t 56) 0]))) [ycj 58 .add 39,xM 39 58])
def c_148_l2:ACode:=ybp [xB 66 .lss 65 64] 66 4 (ya2 5 (yco (xM 67 65) 8 67 (yb5 [xA 69 9 1,xM 70 8,ybj 71 f_175 69 70,xM 68 71,xE 72 0 68,xE 73 1 68,xM 9 72,xM 10 73] [xM 74 10,xM 75 8,xM 76 9,ych 77 f_227 (.t 74) 5 (.t 75) (.t 76)] (xR [xM 78 2,xM 79 8,ybj 80 f_233 78 79,ybi 81 f_228 80 (yaq 7),xM 82 8,ycq 83 f_227 (.t 81) 5 (.t 82) 0]))) [ycj 84 .add 65,xM 65 84])
def c_148_k3:ACode:=yb5 [xF 59 5 1,xL 60 59,ybi 61 f_243 60 (.c (.func (.func f_244) [] [])),xM 2 61] [xF 62 5 1,xL 63 62,xN 64 63,yba 65] (yam 4 c_148_l2)
def c_148_k4:ACode:=ybg [xF 33 4 1,xL 34 33,ybi 35 f_240 34 (.c (.func (.func f_241) [] [])),xM 2 35] [xF 36 4 1,xL 37 36,xN 38 37,yba 39] 2 c_148_l1 c_148_k3
def c_148:AFn:=⟨1,[],ydo [ydb 1] [xF 11 3 1,xL 12 11,ybi 13 f_237 12 (.c (.func (.func f_238) [] [])),xM 2 13] [xF 14 3 1,xL 15 14,xN 16 15,yba 17] 0 c_148_l0 c_148_k4⟩
def c_149:AFn:=⟨1,[],yb5 [ydb 1] [xA 7 9 1,yb2 8 f_245 7,xM 6 8,xE 9 0 6,xE 10 1 6,xE 11 2 6,xM 2 9,xM 3 10,ydp 11] (yb5 [xM 12 4,xM 13 2,ydl 14,ych 15 f_227 (.t 12) 6 (.t 13) (.t 14)] [xA 17 9 1,yb2 18 f_246 17,xM 16 18,xE 19 0 16,xE 20 1 16,ydg 19,ydp 20] (yb5 [xM 21 4,yce 22,ycq 23 f_227 (.t 21) 7 (.t 22) 0] [xA 25 9 1,yb2 26 f_247 25,xM 24 26,xE 27 0 24,xE 28 1 24,ydg 27,ydp 28] (xR [xM 29 4,yce 30,ycq 31 f_227 (.t 29) 8 (.t 30) 0])))⟩
def c_150:AFn:=⟨2,[.tmp 3],ybt [ydb 2,ybd 3] [yb4 4 2,xA 5 4 4,yb4 6 1,xA 7 4 6,ybj 8 f_89 5 7,xM 3 8]⟩
def c_151_l0:ACode:=yct [xM 12 4,yci 13,xN 14 13,xB 15 .lss 12 14] 15 0 1 (xR [ydl 18,yci 19,xM 20 4,xX 21 1 19 20,xL 22 21,xO 23 (.minmax true [.t 18,.t 22]),xM 3 23]) [xM 16 4,ycj 17 .add 16,ydp 17]
def c_151_k1:ACode:=ycm (ydl 24) 2 24
def c_151:AFn:=⟨1,[.tmp 2],yap [xC 2 (ycl 0)] [yci 5,xN 6 5,ycj 7 .lss 6] (ybw 7 (xR [xO 8 (.mkiface 9 (.c (.str [115,108,105,99,101,115,46,77,97,120,58,32,101,109,112,116,121,32,108,105,115,116]))),⟨none,none,.panic (.t 8)⟩])) (ybg [yci 9,xO 10 (ybz 1 9 (yaq 0)),xL 11 10,xM 3 11] [xI 4 1] 0 c_151_l0 c_151_k1)⟩
def c_152:AFn:=⟨1,[.tmp 2],ya3 [xC 2 (ycl 0)] [yci 3,xO 4 (.bslice .imm 1 (List.replicate 1 [.int .i64 0]) [(0,(.t 3))]),yb2 5 f_248 4,ybn 6 5] 6 [xC 2 (ycl 0)] (yad [yci 7,xO 8 (.bin .sub (yaq 32) (.t 7)),xO 9 (.bin .shr (.c (ycl 4294967295)) (.t 8)),xM 2 9])⟩
def c_153_l0:ACode:=yc3 [xM 29 10,xM 30 9,xN 31 30,xB 32 .lss 29 31] 32 0 1 (xD [yb3 35 5,xL 36 35,xM 37 10,xX 38 2 36 37,xA 39 2 38,xM 40 9,xM 41 10,xX 42 1 40 41,xL 43 42,xF 44 5 3,xL 45 44,ycc 46,xX 47 6 45 46,yb4 48 47,xL 49 48,xM 50 10,xX 51 3 49 50,xF 52 2 51,xL 53 52,yc8 54 f_250 39 43 53,xM 8 54]) (ya4 [xM 55 8,yda 56 .neq 55] 56 [xM 57 8,xM 6 57]) [xM 33 10,ycj 34 .add 33,xM 10 34]
def c_153_k1:ACode:=ycx 2 [yb4 59 5,xL 60 59,yda 61 .lss 60,xM 62 61,yc0 63 62 5,ybo 64 62 63,ybe 65 62 .gtr 64 255,xW 66 62 65,xM 58 66] 58 [xI 6 9] (ybl [yb4 68 5,xL 69 68,yda 70 .gtr 69,xM 71 70,yaw 72 71 (ycv 9 3),ybm 73 71 1,ydm 74 71 f_251 [.t 72,.t 73],ydc 75 71 .neq 74 3,xV 76 71 75,xM 67 76] 67 [xI 6 11] (ya4 [xA 78 9 3,ycc 79,xF 80 2 5,yb3 81 80,xL 82 81,yc8 83 f_155 78 79 82,ybn 84 83,xM 77 84] 77 [xI 6 8])) (yad [xA 85 9 3,xF 86 2 5,xA 87 2 86,ybj 88 f_156 85 87,xM 6 88])
def c_153:AFn:=⟨3,[.tmp 6],yaa [ydb 3,xJ 5 2,yc2] (ya3 [xA 12 9 3,ycc 13,ybj 14 f_200 12 13,xM 11 14,xE 15 0 11,xE 16 1 11,xM 7 15,xM 8 16] [xM 17 8,yda 18 .neq 17] 18 [xM 19 8,xM 6 19] (ydd [xA 20 9 3,ycc 21,ybj 22 f_249 20 21,xM 9 22] [yb3 23 5,xL 24 23,xN 25 24,xM 26 9,xN 27 26,xB 28 .neq 25 27] 28 [xI 6 2] [yba 10] 0 c_153_l0 c_153_k1))⟩
def c_154_l0:ACode:=yc3 [yce 6,yci 7,xN 8 7,xB 9 .lss 6 8] 9 0 1 (xD [yci 12,yce 13,xX 14 5 12 13,yb4 15 14,xA 16 4 15,xA 17 4 3,ybj 18 f_85 16 17]) (yaj 18 [xC 4 yb0]) [yce 10,ycj 11 .add 10,ydg 11]
def c_154_k1:ACode:=yad [ydh]
def c_154:AFn:=⟨2,[.tmp 4],ybg [xJ 3 1,ydh] [ycz] 0 c_154_l0 c_154_k1⟩
def c_155:AFn:=⟨3,[.tmp 6],ybt [ydb 3,ybd 6] [xA 7 9 3,ycc 8,ybj 9 f_252 7 8,xM 10 9,yb6 11 10 5 3,yca 12 10 1 11,ybm 13 10 1,yaw 14 10 (ybz 6 12 (.t 13)),yb6 15 10 2 14,yca 16 10 1 15,ybm 17 10 2,ydm 18 10 f_253 [.t 16,.t 17],ydc 19 10 .geq 18 0,xV 20 10 19,xM 6 20]⟩
def c_156_l0:ACode:=yc3 [xM 31 6,yce 32,xN 33 32,xB 34 .lss 31 33] 34 0 1 (xD [yb4 37 3,xL 38 37,xM 39 6,xX 40 1 38 39,xL 41 40,yce 42,xM 43 6,xX 44 2 42 43,yb4 45 44,xL 46 45,ybj 47 f_254 41 46,ybn 48 47]) (yaj 48 [xI 4 9]) [xM 35 6,ycj 36 .add 35,xM 6 36]
def c_156_k1:ACode:=yad [yby]
def c_156:AFn:=⟨2,[.tmp 4],ya3 [ydb 2,xJ 3 1,yby] [ydn 7,xL 8 7,yda 9 .lss 8,xM 10 9,yas 11 10 0 3,ybo 12 10 11,yas 13 10 4 2,ybo 14 10 13,ybc 15 10 14,ybv 16 10 .geq 12 15,xW 17 10 16] 17 [xI 4 8] (ydd [xF 18 4 2,xL 19 18,ydn 20,xL 21 20,xX 22 3 19 21,yb4 23 22,xL 24 23,ydg 24] [yb4 25 3,xL 26 25,xN 27 26,yce 28,xN 29 28,xB 30 .neq 27 29] 30 [xI 4 2] [yc2] 0 c_156_l0 c_156_k1)⟩
def c_157_l0:ACode:=yct [xM 7 6,ycc 8,xB 9 .lss 7 8] 9 0 1 (xR [yce 12,xO 13 (.bin .mul (.c (.int .u64 2)) (.t 12)),ydg 13]) [xM 10 6,ycj 11 .add 10,xM 6 11]
def c_157_k1:ACode:=yad [yci 14,xO 15 (.conv .u64 (.t 14)),yce 16,xB 17 .lss 15 16,ydp 17]
def c_157:AFn:=⟨2,[.tmp 4],ydo [ydh] [xC 5 (.int .u64 1)] [yc2] 0 c_157_l0 c_157_k1⟩
def c_158:AFn:=⟨1,[.tmp 2],ya3 [ydb 1,yba 2] [yb4 3 1,xL 4 3,ycj 5 .lss 4,yce 6,yc0 7 6 1,ybo 8 6 7,ybe 9 6 .gtr 8 32,xW 10 6 9] 10 [yba 2] (yad [yb4 11 1,xL 12 11,xM 2 12])⟩
def c_159_l0:ACode:=yc3 [yce 11,yci 12,xN 13 12,xB 14 .lss 11 13] 14 0 1 (xD [yci 17,yce 18,xX 19 1 17 18,xL 20 19,ycc 21,yce 22,xX 23 1 21 22,xL 24 23,xB 25 .neq 20 24]) (yaj 25 [ydh]) [yce 15,ycj 16 .add 15,ydg 16]
def c_159_k1:ACode:=yad [xC 4 yb0]
def c_159:AFn:=⟨2,[.tmp 4],ydd [ydh] [yci 6,xN 7 6,ycc 8,xN 9 8,xB 10 .neq 7 9] 10 [ydh] [ycz] 0 c_159_l0 c_159_k1⟩
def c_160:AFn:=⟨1,[.tmp 2],ybt [ydb 1,ybd 2] [xF 3 2 1,xL 4 3,ycj 5 .geq 4,yce 6,yb6 7 6 2 1,yca 8 6 1 7,ydc 9 6 .leq 8 64,xV 10 6 9,xM 2 10]⟩
def c_163:AFn:=⟨1,[.cell 2 true 5],ya1 [ydb 1,yax 2 [ybf,.fslice 2 [],ybf,ybf,.fslice 1 []]] (xD [yb3 3 1,xL 4 3,yb4 5 1,xA 6 4 5,yb2 7 f_90 6,xO 8 (.build [.int .i64 0,.fslice 2 [],.int .i64 0,.int .i64 0,.fslice 1 []] [(0,1,(.t 4)),(1,4,(.t 7))]),xS 5 2 8]) .ret⟩
def c_164_l0:ACode:=yct [xM 16 10,yb3 17 4,xL 18 17,xN 19 18,xB 20 .lss 16 19] 20 0 1 (yaa [xM 23 10,ycc 24,xB 25 .eql 23 24] (yac 25 (yaa [yb3 26 9,xL 27 26,xM 28 2,xO 29 (.bslice .imm 1 (List.replicate 1 [.fslice 5 []]) [(0,(.t 28))]),ydk 30 1 24 27 29,yb3 31 9,xS 1 31 30] (xR [yb4 32 9,xL 33 32,ydl 34,xO 35 (.bslice .imm 1 (List.replicate 1 [.int .i64 0]) [(0,(.t 34))]),ydk 36 1 8 33 35,yb4 37 9,xS 1 37 36])) (ycd [yb3 38 9,xL 39 38,yb3 40 4,xL 41 40,xM 42 10,xX 43 1 41 42,xL 44 43,xO 45 (.bslice .imm 1 (List.replicate 1 [.fslice 5 []]) [(0,(.t 44))]),ydk 46 1 24 39 45,yb3 47 9,xS 1 47 46] (xD [yb4 48 9,xL 49 48,yb4 50 4,xL 51 50,xM 52 10,xX 53 1 51 52,xL 54 53,xO 55 (.bslice .imm 1 (List.replicate 1 [.int .i64 0]) [(0,(.t 54))]),ydk 56 1 8 49 55,yb4 57 9,xS 1 57 56])))) [xM 21 10,ycj 22 .add 21,xM 10 22]
def c_164_k1:ACode:=yb9 (xA 58 4 9) (xS 4 8 58)
def c_164:AFn:=⟨4,[.cell 8 true 4],ycn (ydb 4) (ydj 8 (.fslice 1 []) (.fslice 1 []) (.fslice 2 []) (.fslice 1 [])) (ybg [xF 11 2 4,xL 12 11,xF 13 3 4,xL 14 13,xO 15 (.build [.fslice 1 [],.fslice 1 [],.fslice 2 [],.fslice 1 []] [(2,1,(.t 12)),(3,1,(.t 14))]),ydj 9 (.fslice 1 []) (.fslice 1 []) (.fslice 2 []) (.fslice 1 []),xS 4 9 15] [yba 10] 0 c_164_l0 c_164_k1)⟩
def c_165_l0:ACode:=yct [yce 6,yci 7,xN 8 7,xB 9 .lss 6 8] 9 0 1 (ya4 [yci 12,yce 13,xX 14 5 12 13,yb3 15 14,xL 16 15,ycc 17,xB 18 .eql 16 17] 18 [yce 19,ydp 19]) [yce 10,ycj 11 .add 10,ydg 11]
def c_165_k1:ACode:=yad [ycb 4]
def c_165:AFn:=⟨2,[.tmp 4],ybg [yby] [ycz] 0 c_165_l0 c_165_k1⟩
def c_166:AFn:=⟨2,[.tmp 3],ybt [ydb 2,ybd 3] [yb4 4 2,xA 5 4 4,xL 6 1,ybj 7 f_167 5 6,xM 3 7]⟩
def c_167_l0:ACode:=ycu [xB 17 .lss 16 15] 17 0 1 [xM 18 16,xX 19 2 14 16,xA 20 2 19,yax 6 [ycl 0,ycl 0],ydg 18,xS 2 6 20] [6] (ycd [ycc 21,yce 22,xX 23 1 21 22,xL 24 23,yb3 25 6,xL 26 25,xB 27 .xor 24 26,yb4 28 6,xL 29 28,xB 30 .and 27 29,xO 31 (yao .neq 30 (.c (ycl 0)))] (yaj 31 [ydh])) [ycj 32 .add 16,xM 16 32]
def c_167_k1:ACode:=yad [xC 4 yb0]
def c_167:AFn:=⟨2,[.tmp 4],ydd [ydb 2,ydh] [ycc 7,xN 8 7,yb3 9 2,xL 10 9,xN 11 10,xB 12 .neq 8 11] 12 [ydh] [yb3 13 2,xL 14 13,xN 15 14,yba 16] 0 c_167_l0 c_167_k1⟩
def c_168_l0:ACode:=ycu [xB 12 .lss 11 10] 12 0 1 [xX 13 5 9 11,xA 14 5 13,yax 7 [ybf,.fslice 2 [],ybf,ybf,.fslice 1 []],xS 5 7 14] [7] (ya4 [ycc 15,xA 16 5 7,xO 17 (ycy 15 [.t 16])] 17 [xA 18 5 7,xS 5 4 18,xC 5 yb0]) [ycj 19 .add 11,xM 11 19]
def c_168_k1:ACode:=ybt [yax 8 [ybf,.fslice 2 [],ybf,ybf,.fslice 1 []]] [xA 20 5 8,xS 5 4 20,ybd 5]
def c_168:AFn:=⟨2,[.cell 4 true 5,.tmp 5],ybg [yax 4 [ybf,.fslice 2 [],ybf,ybf,.fslice 1 []],ybd 5] [yci 9,xN 10 9,yba 11] 0 c_168_l0 c_168_k1⟩
def c_169:AFn:=⟨5,[.tmp 6],ya3 [ydb 5,ybd 6] [xL 9 1,xA 10 5 5,xO 11 (ycy 9 [.t 10]),ybn 12 11] 12 [ybd 6] (.seq (xQ [xL 14 2,xO 15 (.mkfunc (.func f_170) [] [.t 1,.t 3,.t 4,.t 5]),ybx 16 f_168 [.t 14,.t 15],xM 13 16,xE 17 0 13,xE 18 1 13,yax 7 [ybf,.fslice 2 [],ybf,ybf,.fslice 1 []],xS 5 7 17,xM 8 18] [7]) (yad [xM 19 8,ybn 20 19,xM 6 20]))⟩
def c_170:AFn:=⟨5,[.tmp 6],ybt [ydb 5,ybd 6] [xL 7 1,xA 8 5 5,xO 9 (ycy 7 [.t 8]),xM 10 9,yaw 11 10 (ycv 9 2),yca 12 10 1 3,yaw 13 10 (ycv 5 5),yaw 14 10 (ycv 5 4),ydm 15 10 f_171 [.t 11,.t 12,.t 13,.t 14],xV 16 10 15,xM 6 16]⟩
def c_171:AFn:=⟨4,[.tmp 8],ya3 [ydb 4,xJ 6 2,xJ 7 3,ybd 8] [yb4 11 6,yb4 12 11,xL 13 12,yb4 14 7,yb4 15 14,xL 16 15,xB 17 .neq 13 16] 17 [yb4 18 6,yb4 19 18,xL 20 19,yb4 21 7,yb4 22 21,xL 23 22,xB 24 .gtr 20 23,xM 8 24] (.seq (ycd [xA 25 9 4,ycc 26,yb4 27 6,xA 28 4 27,yc8 29 f_255 25 26 28,xA 30 9 4,ycc 31,yb4 32 7,xA 33 4 32,yc8 34 f_255 30 31 33,xM 9 29,xM 10 34] (ya4 [xM 35 9,xM 36 10,xB 37 .neq 35 36] 37 [xM 38 9,xM 39 10,xB 40 .gtr 38 39,xM 8 40])) (yad [yb3 41 6,xL 42 41,yb3 43 7,xL 44 43,xB 45 .lss 42 44,xM 8 45]))⟩
def c_172:AFn:=⟨1,[.cell 2 true 5],yb5 [ycr 1 0,yax 2 [ybf,.fslice 2 [],ybf,ybf,.fslice 1 []]] [yb4 3 1,ydn 4,xL 5 4,yb2 6 f_182 5,yb4 7 1,yb3 8 7,xS 1 8 6] (ybt [yb4 9 1,xF 10 2 9,yb4 11 10,xL 12 11,yb2 13 f_161 12,yb4 14 1,xF 15 2 14,yb4 16 15,xS 1 16 13] [xA 17 5 1,xS 5 2 17])⟩
def c_173_l0:ACode:=yc3 [yce 12,ycc 13,xN 14 13,xB 15 .lss 12 14] 15 0 1 (xD [ycc 18,yce 19,xX 20 1 18 19,xL 21 20,yb3 22 2,xL 23 22,yce 24,xX 25 2 23 24,yb3 26 25,xL 27 26,xB 28 .xor 21 27,yb3 29 2,xL 30 29,yce 31,xX 32 2 30 31,yb4 33 32,xL 34 33,xB 35 .and 28 34,xO 36 (yao .neq 35 (.c (ycl 0)))]) (yaj 36 [ydh]) [yce 16,ycj 17 .add 16,ydg 17]
def c_173_k1:ACode:=yad [xC 4 yb0]
def c_173:AFn:=⟨2,[.tmp 4],ydd [ydb 2,ydh] [yb3 6 2,xL 7 6,xN 8 7,ycc 9,xN 10 9,xB 11 .neq 8 10] 11 [ydh] [ycz] 0 c_173_l0 c_173_k1⟩
def c_174:AFn:=⟨4,[.tmp 8],ya1 [ydb 4,xJ 6 2,xJ 7 3,ybd 8] (xD [xA 11 9 4,ycc 12,yb4 13 6,xA 14 4 13,yc8 15 f_256 11 12 14,xA 16 9 4,ycc 17,yb4 18 7,xA 19 4 18,yc8 20 f_256 16 17 19,xM 9 15,xM 10 20]) (ycx 0 [yb4 22 6,yb4 23 22,xL 24 23,yb4 25 7,yb4 26 25,xL 27 26,xB 28 .neq 24 27,xM 21 28] 21 [yb4 29 6,yb4 30 29,xL 31 30,yb4 32 7,yb4 33 32,xL 34 33,xB 35 .gtr 31 34,xM 8 35] (ya4 [xM 37 9,xM 38 10,xB 39 .neq 37 38,xM 36 39] 36 [xM 40 9,xM 41 10,xB 42 .gtr 40 41,xM 8 42]) (yad [yb3 43 6,xL 44 43,yb3 45 7,xL 46 45,xB 47 .lss 44 46,xM 8 47]))⟩
def c_175:AFn:=⟨2,[.tmp 4,.tmp 5],ya3 [ydb 2,yby,ycz] [ycc 7,yda 8 .lss 7,xM 9 8,ya0 10 9 1,yas 11 9 5 2,ybo 12 9 11,ybc 13 9 12,ybv 14 9 .geq 10 13,xW 15 9 14] 15 [ycb 4,xI 5 8] (.seq (xQ [xF 16 5 2,xL 17 16,ycc 18,xX 19 6 17 18,xA 20 6 19,yax 6 [.str [],.fslice 3 [],.fslice 1 [],ybf,.fslice 1 [],ybf],xS 6 6 20] [6]) (ycx 0 [yb3 22 6,xL 23 22,yb2 24 f_257 23,ybn 25 24,xM 21 25] 21 [ycb 4,xI 5 6] (ybl [yb4 27 6,xL 28 27,xN 29 28,xK 30 .gtr 29 6,xM 31 30,yas 32 31 2 6,ybo 33 31 32,ybc 34 31 33,ybe 35 31 .gtr 34 16,xW 36 31 35,xM 26 36] 26 [ycb 4,xI 5 12] (ya4 [xF 38 5 6,xL 39 38,ycj 40 .lss 39,xM 41 40,yas 42 41 5 6,ybo 43 41 42,ybe 44 41 .gtr 43 256,xW 45 41 44,xM 37 45] 37 [ycb 4,xI 5 9])) (yae [xA 47 9 2,xA 48 6 6,ybj 49 f_258 47 48,xM 46 49,xE 50 0 46,xE 51 1 46,ydp 50,ydg 51] (ya4 [yce 52,yda 53 .neq 52] 53 [xM 54 4,yce 55,ydp 54,ydg 55]) (yae [xA 56 9 2,xA 57 6 6,ybj 58 f_259 56 57,ydg 58] (ya4 [yce 59,yda 60 .neq 59] 60 [yce 61,xI 4 (-3),ydg 61]) (yb9 yby ycz)))))⟩
def c_176_l0:ACode:=ycu [xB 20 .lss 19 18] 20 0 1 [xX 21 3 17 19,xA 22 3 21,yax 7 [ybf,ybf,ybf],xS 3 7 22] [7] (xR [yce 23,xA 24 9 2,yb3 25 7,xA 26 2 25,ybj 27 f_261 24 26,xO 28 (.bslice .imm 1 (List.replicate 1 [.int .i64 0]) [(0,(.t 27))]),ydk 29 1 8 23 28,ydg 29]) [ycj 30 .add 19,xM 19 30]
def c_176_k1:ACode:=ycm (yce 31) 4 31
def c_176:AFn:=⟨2,[.tmp 4],ya3 [ydb 2,xC 4 (.fslice 1 [])] [xA 8 9 2,ycc 9,ybj 10 f_260 8 9,ybn 11 10] 11 [xC 4 (.fslice 1 [])] (ybg [ycs 5 1] [xF 12 5 2,xL 13 12,ycc 14,xX 15 6 13 14,yb4 16 15,xL 17 16,xN 18 17,yba 19] 0 c_176_l0 c_176_k1)⟩
def c_177:AFn:=⟨3,[.tmp 6],ycn (ydb 3) yc2 (ycx 0 [ydn 10,xL 11 10,xM 12 2,ybj 13 f_262 11 12,ybn 14 13,xM 15 14,yc0 16 15 3,ybo 17 15 16,ya0 18 15 2,yb7 19 15 f_262 [.t 17,.t 18],ycw 20 15 19,xW 21 15 20,xM 9 21] 9 [xI 6 9] (ybl [ydn 23,xL 24 23,yb4 25 3,xL 26 25,xB 27 .andNot 24 26,xO 28 (yao .neq 27 (.c (ycl 0))),xM 22 28] 22 [xI 6 5] (ycd [ycc 30,ycj 31 .eql 30,xM 32 31,yb6 33 32 1 3,yca 34 32 1 33,ybm 35 32 2,ydm 36 32 f_152 [.t 35],ybs 37 32 .neq 34 (.t 36),xV 38 32 37,xM 29 38] (yaj 29 [xI 6 11]))) (yae [ycc 39,xK 40 .eql 39 2] (ybw 40 (yaa [yb4 42 3,xL 43 42,xM 44 2,ybj 45 f_263 43 44,xM 41 45,xE 46 0 41,xE 47 1 41,xM 7 46,xM 8 47] (ya4 [xM 48 8,ybn 49 48] 49 [xI 6 11]))) (yad [yc2])))⟩
def c_178_l0:ACode:=ycu [xB 20 .lss 19 18] 20 0 1 [xX 21 3 17 19,xA 22 3 21,yax 7 [ybf,ybf,ybf],xS 3 7 22] [7] (.block 2 (ybl [xF 24 2 7,xL 25 24,xK 26 .eql 25 3,xM 23 26] 23 [xI 4 3] (yaa [xF 28 2 7,xL 29 28,xK 30 .eql 29 2,xM 27 30] (ybw 27 (xR [xI 5 2]))))) [ycj 31 .add 19,xM 19 31]
def c_178_k1:ACode:=ycm (yce 32) 4 32
def c_178:AFn:=⟨2,[.tmp 4],ya3 [ydb 2,yby] [xA 8 9 2,ycc 9,ybj 10 f_260 8 9,ybn 11 10] 11 [yby] (ybg [xI 5 1] [xF 12 5 2,xL 13 12,ycc 14,xX 15 6 13 14,yb4 16 15,xL 17 16,xN 18 17,yba 19] 0 c_178_l0 c_178_k1)⟩
def c_179_l0:ACode:=ybp [xB 21 .lss 20 19] 21 0 (ya2 1 (yaa [xX 22 1 18 20,xL 23 22,xM 8 23] (ya4 [xM 24 8,xM 25 2,xB 26 .eql 24 25] 26 [xC 6 yb0])) [ycj 27 .add 20,xM 20 27])
def c_179_k1:ACode:=yad [ybd 6]
def c_179:AFn:=⟨3,[.tmp 6],ydd [ydb 3,ybd 6] [xA 9 9 3,ycc 10,ybj 11 f_260 9 10,ybn 12 11] 12 [ybd 6] [xF 13 5 3,xL 14 13,ycc 15,xX 16 6 14 15,xF 17 2 16,xL 18 17,xN 19 18,yba 20] 0 c_179_l0 c_179_k1⟩
def c_180_l0:ACode:=ybp [xB 36 .lss 35 34] 36 0 (ya2 1 (yaa [xM 37 35,xX 38 1 33 35,xL 39 38,xM 6 37,xM 7 39] (ya4 [xM 40 7,yce 41,xM 42 6,xX 43 2 41 42,yb4 44 43,xL 45 44,ybj 46 f_262 40 45,ybn 47 46] 47 [xI 4 9])) [ycj 48 .add 35,xM 35 48])
def c_180_k1:ACode:=yad [yby]
def c_180:AFn:=⟨2,[.tmp 4],ya3 [ydb 2,xJ 3 1,yby] [ydn 8,xL 9 8,yda 10 .lss 9,xM 11 10,yas 12 11 0 3,ybo 13 11 12,yas 14 11 4 2,ybo 15 11 14,ybc 16 11 15,ybv 17 11 .geq 13 16,xW 18 11 17] 18 [xI 4 8] (ydd [xF 19 4 2,xL 20 19,ydn 21,xL 22 21,xX 23 3 20 22,yb4 24 23,xL 25 24,ydg 25] [yb4 26 3,xL 27 26,xN 28 27,yce 29,xN 30 29,xB 31 .neq 28 30] 31 [xI 4 2] [yb4 32 3,xL 33 32,xN 34 33,yba 35] 0 c_180_l0 c_180_k1)⟩
def c_181_l0:ACode:=ybp [xB 9 .lss 8 7] 9 0 (ya2 1 (yco (xM 10 8) 5 10 (ya4 [ycc 11,yci 12,yce 13,xX 14 5 12 13,xA 15 5 14,xO 16 (ycy 11 [.t 15])] 16 [yce 17,ydp 17])) [ycj 18 .add 8,xM 8 18])
def c_181_k1:ACode:=yad [ycb 4]
def c_181:AFn:=⟨2,[.tmp 4],ybg [yby] [yci 6,xN 7 6,yba 8] 0 c_181_l0 c_181_k1⟩
def c_194_l0:ACode:=yct [ydl 17,yci 18,xO 19 (.slen (.t 18)),xB 20 .lss 17 19] 20 0 1 (ya4 [yci 23,ydl 24,xO 25 (.idxs (.t 23) (.t 24)),yb2 26 f_267 25,ybn 27 26,xM 28 27,ybm 29 28 0,ybm 30 28 3,yaw 31 28 (.idxs (.t 29) (.t 30)),ydm 32 28 f_268 [.t 31],yaw 33 28 (ya7 32),xV 34 28 33,xM 35 34,ybm 36 35 0,ybm 37 35 3,yaw 38 35 (.idxs (.t 36) (.t 37)),ybs 39 35 .neq 38 (.c (.int .u8 95)),xV 40 35 39] 40 [ybd 2]) [ydl 21,ycj 22 .add 21,xM 3 22]
def c_194_k1:ACode:=yad [xC 2 yb0]
def c_194:AFn:=⟨1,[.tmp 2],ydd [ybd 2] [yci 4,xO 5 (yao .eql 4 (.c (.str []))),yce 6,ya0 7 6 0,yab 8 6 (.slen (.t 7)),ybe 9 6 .gtr 8 16,xW 10 6 9,xM 11 10,ya0 12 11 0,yab 13 11 (.idxs (.t 12) (yaq 0)),yb7 14 11 f_267 [.t 13],ycw 15 11 14,xW 16 11 15] 16 [ybd 2] [yba 3] 0 c_194_l0 c_194_k1⟩
def c_195:AFn:=⟨4,[.cell 8 true 4],ybt [ydj 8 ybf ybf ybf ybf] [yci 9,ycc 10,xM 11 2,ydl 12,xO 13 (.build [.int .i64 0,.int .i64 0,.int .i64 0,.int .i64 0] [(0,1,(.t 9)),(1,1,(.t 10)),(2,1,(.t 11)),(3,1,(.t 12))]),xS 4 8 13]⟩
def c_196_l0:ACode:=ybb [xM 23 4,yb4 24 1,xL 25 24,xN 26 25,xB 27 .lss 23 26] 27 1 (ycp 2 [yb4 30 1,xL 31 30,xM 32 4,xX 33 2 31 32,xA 34 2 33,yax 5 [.str [],ybf],xS 2 5 34] [5] (yaa [xA 36 2 1,yb3 37 5,xL 38 37,ybj 39 f_269 36 38,xM 35 39,xE 40 0 35,xE 41 1 35,xM 6 40,xM 7 41] (ya2 3 (ybl [yb3 43 5,xL 44 43,yb2 45 f_194 44,ybn 46 45,xM 42 46] 42 [xI 2 6] (ybl [yb4 48 5,xL 49 48,ycj 50 .lss 49,xM 51 50,yc0 52 51 5,ybo 53 51 52,ybe 54 51 .gtr 53 32,xW 55 51 54,xM 47 55] 47 [xI 2 10] (ya4 [xM 57 6,xM 58 4,xB 59 .lss 57 58,xM 56 59] 56 [xI 2 7]))) [ydl 60,yb4 61 5,xL 62 61,xB 63 .add 60 62,xM 3 63])) [xM 28 4,ycj 29 .add 28,ydp 29])
def c_196_k1:ACode:=ydi [ydl 64,xK 65 .rem 64 8,yda 66 .neq 65] 66 [xI 2 10] [yba 2]
def c_196:AFn:=⟨1,[.tmp 2],ycn (ydb 1) (yba 2) (ycx 0 [yb3 9 1,xL 10 9,yb2 11 f_194 10,ybn 12 11,xM 8 12] 8 [xI 2 6] (ybl [yb4 14 1,xL 15 14,xN 16 15,yda 17 .eql 16,xM 13 17] 13 [xI 2 8] (ya4 [yb4 19 1,xL 20 19,xN 21 20,xK 22 .gtr 21 12,xM 18 22] 18 [xI 2 12])) (ybg [yba 3] [yby] 1 c_196_l0 c_196_k1))⟩
def c_197_l0:ACode:=yc3 [yce 27,ycc 28,xB 29 .lss 27 28] 29 0 1 (xD [yci 32,yce 33,xX 34 2 32 33,yb3 35 34,xL 36 35,yci 37,ycc 38,xX 39 2 37 38,yb3 40 39,xL 41 40,xB 42 .eql 36 41]) (yaj 42 [xI 4 7]) [yce 30,ycj 31 .add 30,ydg 31]
def c_197_k1:ACode:=yad [yby]
def c_197:AFn:=⟨2,[.tmp 4],ya3 [yby] [yci 6,ycc 7,xX 8 2 6 7,yb3 9 8,xL 10 9,yb2 11 f_194 10,ybn 12 11] 12 [xI 4 6] (ybk [yci 13,ycc 14,xX 15 2 13 14,yb4 16 15,xL 17 16,ycj 18 .lss 17,xM 19 18,ya0 20 19 0,ya0 21 19 1,yc9 22 19 2 20 21,yc0 23 19 22,ybo 24 19 23,ybe 25 19 .gtr 24 32,xW 26 19 25] 26 [xI 4 10] (ybq [ycz] 0 c_197_l0 c_197_k1))⟩
def c_198:AFn:=⟨1,[.tmp 2],ya3 [ydb 1,yba 2] [yb3 3 1,xL 4 3,yb2 5 f_194 4,ybn 6 5] 6 [xI 2 6] (ybk [yb4 7 1,xL 8 7,ycj 9 .lss 8,xM 10 9,yc0 11 10 1,ybo 12 10 11,ybe 13 10 .gtr 12 32,xW 14 10 13] 14 [xI 2 10] (ydi [xF 15 2 1,xL 16 15,ycj 17 .lss 16,xM 18 17,yas 19 18 2 1,ybo 20 18 19,ybe 21 18 .gtr 20 64,xW 22 18 21] 22 [xI 2 9] [yba 2]))⟩
def c_199_l0:ACode:=yc3 [xM 47 7,xF 48 2 6,xL 49 48,xN 50 49,xB 51 .lss 47 50] 51 1 2 (xD [xA 54 9 2,xF 55 2 6,xL 56 55,xM 57 7,xX 58 7 56 57,xA 59 7 58,xA 60 9 2,ycc 61,ybj 62 f_272 60 61,yc8 63 f_271 54 59 62,xM 8 63]) (ya4 [xM 64 8,yda 65 .neq 64] 65 [xM 66 7,xM 67 8,ydp 66,ydg 67]) [xM 52 7,ycj 53 .add 52,xM 7 53]
def c_199_k1:ACode:=yb9 yby ycz
def c_199:AFn:=⟨2,[.tmp 4,.tmp 5],ya3 [ydb 2,yby,ycz] [ycc 9,yda 10 .lss 9,xM 11 10,ya0 12 11 1,yas 13 11 4 2,ybo 14 11 13,ybc 15 11 14,ybv 16 11 .geq 12 15,xW 17 11 16] 17 [ycb 4,xI 5 8] (.seq (xQ [xF 18 4 2,xL 19 18,ycc 20,xX 21 3 19 20,xA 22 3 21,yax 6 [.str [],.fslice 2 [],.fslice 7 []],xS 3 6 22] [6]) (ycx 0 [yb3 24 6,xL 25 24,yb2 26 f_194 25,ybn 27 26,xM 23 27] 23 [ycb 4,xI 5 6] (ybl [yb4 29 6,xL 30 29,xN 31 30,xK 32 .gtr 31 4,xM 33 32,yas 34 33 2 6,ybo 35 33 34,ybc 36 33 35,ybe 37 33 .gtr 36 12,xW 38 33 37,xM 28 38] 28 [ycb 4,xI 5 12] (ya4 [yb4 40 6,xL 41 40,yb2 42 f_270 41,yda 43 .neq 42,xM 39 43] 39 [yb4 44 6,xL 45 44,yb2 46 f_270 45,ycb 4,ydg 46])) (ybq [yba 7] 1 c_199_l0 c_199_k1)))⟩
def c_200:AFn:=⟨2,[.tmp 4,.tmp 5],ya3 [ydb 2,yby,ycz] [ycc 9,yda 10 .lss 9,xM 11 10,ya0 12 11 1,yas 13 11 5 2,ybo 14 11 13,ybc 15 11 14,ybv 16 11 .geq 12 15,xW 17 11 16] 17 [ycb 4,xI 5 8] (.seq (xQ [xF 18 5 2,xL 19 18,ycc 20,xX 21 6 19 20,xA 22 6 21,yax 6 [.str [],.fslice 3 [],.fslice 1 [],ybf,.fslice 1 [],ybf],xS 6 6 22] [6]) (ycx 0 [yb3 24 6,xL 25 24,yb2 26 f_194 25,ybn 27 26,xM 23 27] 23 [ycb 4,xI 5 6] (ybl [yb4 29 6,xL 30 29,xN 31 30,xK 32 .gtr 31 6,xM 33 32,yas 34 33 2 6,ybo 35 33 34,ybc 36 33 35,ybe 37 33 .gtr 36 16,xW 38 33 37,xM 28 38] 28 [ycb 4,xI 5 12] (ya4 [xF 40 5 6,xL 41 40,ycj 42 .lss 41,xM 43 42,yas 44 43 5 6,ybo 45 43 44,ybe 46 43 .gtr 45 256,xW 47 43 46,xM 39 47] 39 [ycb 4,xI 5 9])) (ya3 [xA 49 9 2,xA 50 6 6,ybj 51 f_273 49 50,xM 48 51,xE 52 0 48,xE 53 1 48,xM 7 52,xM 8 53] [xM 54 8,yda 55 .neq 54] 55 [xM 56 7,xM 57 8,ydp 56,ydg 57] (ya3 [xA 58 9 2,xA 59 6 6,ybj 60 f_274 58 59,xM 8 60] [xM 61 8,yda 62 .neq 61] 62 [xM 63 8,xI 4 (-3),ydg 63] (yb9 yby ycz)))))⟩
def c_201_l0:ACode:=yct [yce 16,xF 17 6 1,xL 18 17,xN 19 18,xB 20 .lss 16 19] 20 0 1 (yaa [xA 24 9 1,yce 25,ybj 26 f_275 24 25,xM 23 26,xE 27 0 23,xE 28 1 23,xM 6 27,xM 7 28] (ya4 [xM 29 7,yda 30 .neq 29] 30 [yce 31,xM 32 6,xM 33 7,xM 2 31,xM 3 32,ydp 33])) [yce 21,ycj 22 .add 21,ydg 22]
def c_201_k1:ACode:=yad [yba 2,yba 3,yby]
def c_201:AFn:=⟨1,[.tmp 2,.tmp 3,.tmp 4],ya3 [ydb 1,yba 2,yba 3,yby] [xF 8 6 1,xL 9 8,xN 10 9,yda 11 .eql 10] 11 [ycb 2,ycb 3,xI 4 8] (ybk [xF 12 6 1,xL 13 12,xN 14 13,xK 15 .gtr 14 12] 15 [ycb 2,ycb 3,xI 4 12] (ybq [ycz] 0 c_201_l0 c_201_k1))⟩
def c_202_l0:ACode:=yct [yce 20,xM 21 4,xN 22 21,xB 23 .lss 20 22] 23 1 2 (yaa [xA 26 9 1,xM 27 4,yce 28,yc8 29 f_279 26 27 28,xM 6 29] (ya4 [xM 30 6,yda 31 .neq 30] 31 [yce 32,xM 33 6,xM 2 32,xM 3 33])) [yce 24,ycj 25 .add 24,ydg 25]
def c_202_k1:ACode:=yb9 (yba 2) (yba 3)
def c_202:AFn:=⟨1,[.tmp 2,.tmp 3],yaa [ydb 1,yba 2,yba 3] (ycx 0 [xF 8 7 1,xL 9 8,yb2 10 f_276 9,xK 11 .gtr 10 24,xM 7 11] 7 [ycb 2,xI 3 12] (ya4 [xF 13 7 1,xL 14 13,yb2 15 f_277 14,xK 16 .gtr 15 6,xM 12 16] 12 [ycb 2,xI 3 14]) (ybg [xF 17 7 1,xL 18 17,yb2 19 f_278 18,ydp 19] [ycz] 1 c_202_l0 c_202_k1))⟩
def c_203_l0:ACode:=yc3 [yce 35,xM 36 4,xB 37 .lss 35 36] 37 2 3 (xD [xF 40 8 1,xL 41 40,yce 42,xX 43 1 41 42,xL 44 43,xF 45 8 1,xL 46 45,xM 47 4,xX 48 1 46 47,xL 49 48,xB 50 .eql 44 49]) (yaj 50 [xM 51 4,xM 2 51,xI 3 7]) [yce 38,ycj 39 .add 38,ydg 39]
def c_203_k1:ACode:=xR [xM 15 4,ycj 16 .add 15,ydp 16]
def c_203_l2:ACode:=ybb [xM 10 4,xF 11 8 1,xL 12 11,xN 13 12,xB 14 .lss 10 13] 14 0 (yal 1 (.seq (ycd [xF 17 8 1,xL 18 17,xM 19 4,xX 20 1 18 19,xL 21 20,yda 22 .lss 21,xM 23 22,yas 24 23 8 1,ybo 25 23 24,ya0 26 23 4,yc9 27 23 1 25 26,ybo 28 23 27,yc0 29 23 1,ybo 30 23 29,ybc 31 23 30,ybv 32 23 .geq 28 31,xW 33 23 32] (yaj 33 [xM 34 4,xM 2 34,xI 3 8])) (yaa [ycz] (yam 2 c_203_l0))) c_203_k1)
def c_203_k3:ACode:=yb9 (yba 2) (yba 3)
def c_203:AFn:=⟨1,[.tmp 2,.tmp 3],ydd [ydb 1,yba 2,yba 3] [xF 6 8 1,xL 7 6,xN 8 7,xK 9 .gtr 8 8] 9 [ycb 2,xI 3 12] [yby] 0 c_203_l2 c_203_k3⟩
def c_212_l0:ACode:=ycu [xB 11 .lss 10 9] 11 0 1 [xX 12 2 8 10,xA 13 2 12,yax 7 [.str [],.fslice 2 []],xS 2 7 13] [7] (xR [yce 14,ycc 15,xA 16 2 7,xO 17 (ycy 15 [.t 16]),xO 18 (.bslice .imm 2 (List.replicate 1 [.str [],.fslice 2 []]) [(0,(.t 17))]),ydk 19 2 40 14 18,ydg 19]) [ycj 20 .add 10,xM 10 20]
def c_212_k1:ACode:=ycm (yce 21) 4 21
def c_212:AFn:=⟨2,[.tmp 4],ydo [xC 4 (.fslice 2 [])] [ycs 5 2] [yci 8,xN 9 8,yba 10] 0 c_212_l0 c_212_k1⟩
def c_213:AFn:=⟨1,[.cell 2 true 2],ycn (ycr 1 0) (yax 2 [.str [],.fslice 2 []]) (ybt [yb4 3 1,xL 4 3,yb2 5 f_214 4,yb4 6 1,xS 1 6 5] [xA 7 2 1,xS 2 2 7])⟩
def c_216_l0:ACode:=ycu [xB 11 .lss 10 9] 11 0 1 [xX 12 3 8 10,xA 13 3 12,yax 7 [.str [],.fslice 2 [],.fslice 7 []],xS 3 7 13] [7] (xR [yce 14,ycc 15,xA 16 3 7,xO 17 (ycy 15 [.t 16]),xO 18 (.bslice .imm 3 (List.replicate 1 [.str [],.fslice 2 [],.fslice 7 []]) [(0,(.t 17))]),ydk 19 3 64 14 18,ydg 19]) [ycj 20 .add 10,xM 10 20]
def c_216_k1:ACode:=ycm (yce 21) 4 21
def c_216:AFn:=⟨2,[.tmp 4],ydo [xC 4 (.fslice 3 [])] [ycs 5 3] [yci 8,xN 9 8,yba 10] 0 c_216_l0 c_216_k1⟩
def c_217:AFn:=⟨1,[.cell 2 true 3],ya1 [ycr 1 0,yax 2 [.str [],.fslice 2 [],.fslice 7 []]] (xD [yb4 3 1,xL 4 3,yb2 5 f_214 4,xF 6 2 1,xL 7 6,ybi 8 f_287 7 (.c (.func (.func f_288) [] [])),yb4 9 1,xS 1 9 5,xF 10 2 1,xS 1 10 8]) (yb9 (xA 11 3 1) (xS 3 2 11))⟩
def c_218_l0:ACode:=ycu [xB 11 .lss 10 9] 11 0 1 [xX 12 6 8 10,xA 13 6 12,yax 7 [.str [],.fslice 3 [],.fslice 1 [],ybf,.fslice 1 [],ybf],xS 6 7 13] [7] (xR [yce 14,ycc 15,xA 16 6 7,xO 17 (ycy 15 [.t 16]),xO 18 (.bslice .imm 6 (List.replicate 1 [.str [],.fslice 3 [],.fslice 1 [],.int .i64 0,.fslice 1 [],.int .i64 0]) [(0,(.t 17))]),ydk 19 6 104 14 18,ydg 19]) [ycj 20 .add 10,xM 10 20]
def c_218_k1:ACode:=ycm (yce 21) 4 21
def c_218:AFn:=⟨2,[.tmp 4],ydo [xC 4 (.fslice 6 [])] [ycs 5 6] [yci 8,xN 9 8,yba 10] 0 c_218_l0 c_218_k1⟩
def c_219:AFn:=⟨1,[.cell 2 true 6],ya1 [ycr 1 0,yax 2 [.str [],.fslice 3 [],.fslice 1 [],ybf,.fslice 1 [],ybf]] (xD [yb4 3 1,xL 4 3,yb2 5 f_289 4,xF 6 2 1,xL 7 6,yb2 8 f_162 7,xF 9 3 1,yb4 10 9,xL 11 10,yb2 12 f_161 11,yb4 13 1,xS 1 13 5,xF 14 2 1,xS 1 14 8,xF 15 3 1,yb4 16 15,xS 1 16 12]) (yb9 (xA 17 6 1) (xS 6 2 17))⟩
def c_220_l0:ACode:=ycu [xB 11 .lss 10 9] 11 0 1 [xX 12 7 8 10,xA 13 7 12,yax 7 [.str [],.fslice 1 [],yan,ybf,ybf,.fslice 3 [],ybf],xS 7 7 13] [7] (xR [yce 14,ycc 15,xA 16 7 7,xO 17 (ycy 15 [.t 16]),xO 18 (.bslice .imm 7 (List.replicate 1 [.str [],.fslice 1 [],.bool false,.int .i64 0,.int .i64 0,.fslice 3 [],.int .i64 0]) [(0,(.t 17))]),ydk 19 7 96 14 18,ydg 19]) [ycj 20 .add 10,xM 10 20]
def c_220_k1:ACode:=ycm (yce 21) 4 21
def c_220:AFn:=⟨2,[.tmp 4],ydo [xC 4 (.fslice 7 [])] [ycs 5 7] [yci 8,xN 9 8,yba 10] 0 c_220_l0 c_220_k1⟩
def c_221:AFn:=⟨1,[.cell 2 true 7],ya1 [ycr 1 0,yax 2 [.str [],.fslice 1 [],yan,ybf,ybf,.fslice 3 [],ybf]] (xD [yb4 3 1,xL 4 3,yb2 5 f_162 4,xF 6 5 1,xL 7 6,yb2 8 f_290 7,yb4 9 1,xS 1 9 5,xF 10 5 1,xS 1 10 8]) (yb9 (xA 11 7 1) (xS 7 2 11))⟩
def c_222_l0:ACode:=ycu [xB 11 .lss 10 9] 11 0 1 [xX 12 5 8 10,xA 13 5 12,yax 7 [ybf,ybf,.fslice 3 [],.fslice 5 [],.fslice 5 []],xS 5 7 13] [7] (xR [yce 14,ycc 15,xA 16 5 7,xO 17 (ycy 15 [.t 16]),xO 18 (.bslice .imm 5 (List.replicate 1 [.int .i64 0,.int .i64 0,.fslice 3 [],.fslice 5 [],.fslice 5 []]) [(0,(.t 17))]),ydk 19 5 88 14 18,ydg 19]) [ycj 20 .add 10,xM 10 20]
def c_222_k1:ACode:=ycm (yce 21) 4 21
def c_222:AFn:=⟨2,[.tmp 4],ydo [xC 4 (.fslice 5 [])] [ycs 5 5] [yci 8,xN 9 8,yba 10] 0 c_222_l0 c_222_k1⟩
def c_223:AFn:=⟨1,[.cell 2 true 5],ya1 [ycr 1 0,yax 2 [ybf,ybf,.fslice 3 [],.fslice 5 [],.fslice 5 []]] (xD [xF 3 2 1,xL 4 3,yb2 5 f_291 4,xF 6 3 1,xL 7 6,ybi 8 f_222 7 (.c (.func (.func f_223) [] [])),xF 9 4 1,xL 10 9,ybi 11 f_222 10 (.c (.func (.func f_223) [] [])),xF 12 2 1,xS 1 12 5,xF 13 3 1,xS 1 13 8,xF 14 4 1,xS 1 14 11]) (yb9 (xA 15 5 1) (xS 5 2 15))⟩
def c_227:AFn:=⟨4,[],ycn (yci 8) (yda 9 .neq 8) (ybw 9 (xR [yci 10,ycc 11,xM 12 2,ydl 13,xO 14 (.build [.int .i64 0,.int .i64 0,.int .i64 0,.int .i64 0] [(0,1,(.t 10)),(1,1,(.t 11)),(2,1,(.t 12)),(3,1,(.t 13))]),xO 15 (.build [.int .i64 0,.int .i64 0,.int .i64 0,.int .i64 0] [(0,4,(.t 14))]),xO 16 (.mkiface 207 (.t 15)),⟨none,none,.panic (.t 16)⟩]))⟩
def c_228:AFn:=⟨2,[.tmp 4],ya3 [yby] [yci 5] 5 [ycc 6,ydp 6] (yad [yby])⟩
def c_229:AFn:=⟨1,[.tmp 2],ybt [ybd 2] [yci 3,yb2 4 f_257 3,ybn 5 4,yce 2]⟩
def c_230_l0:ACode:=ycu [xB 11 .lss 10 9] 11 0 1 [xX 12 2 8 10,xA 13 2 12,yax 7 [.str [],.fslice 2 []],xS 2 7 13] [7] (xR [yce 14,ycc 15,xA 16 2 7,xO 17 (ycy 15 [.t 16]),xO 18 (.bslice .imm 1 (List.replicate 1 [.str []]) [(0,(.t 17))]),ydk 19 1 16 14 18,ydg 19]) [ycj 20 .add 10,xM 10 20]
def c_230_k1:ACode:=ycm (yce 21) 4 21
def c_230:AFn:=⟨2,[.tmp 4],ydo [xC 4 (.fslice 1 [])] [ycs 5 1] [yci 8,xN 9 8,yba 10] 0 c_230_l0 c_230_k1⟩
def c_231:AFn:=⟨1,[.tmp 2],ybt [ydb 1,xC 2 (.str [])] [yb3 3 1,xL 4 3,xM 2 4]⟩
def c_232_l0:ACode:=ybp [xB 48 .lss 47 46] 48 3 (ya2 4 (yb5 [xX 49 2 45 47,xA 50 2 49,yax 6 [.str [],ybf],xS 2 6 50] [yb4 51 4,xL 52 51,yb4 53 6,xS 1 53 52] (ya4 [xA 54 2 6,xA 55 2 4,xO 56 (.eqs false true [.s,.i] (.t 54) (.t 55))] 56 [xI 2 7])) [ycj 57 .add 47,xM 47 57])
def c_232_k1:ACode:=xR [ycj 58 .add 25,xM 25 58]
def c_232_l2:ACode:=ybp [xB 26 .lss 25 24] 26 1 (yal 2 (.seq (xQ [xM 27 25,xX 28 2 23 25,xA 29 2 28,yax 4 [.str [],ybf],xM 3 27,xS 2 4 29] [4]) (ybk [yb3 30 4,xL 31 30,yb2 32 f_257 31,ybn 33 32] 33 [xI 2 6] (ybk [yb4 34 4,xL 35 34,ycj 36 .lss 35,xM 37 36,yc0 38 37 4,ybo 39 37 38,ybe 40 37 .gtr 39 32,xW 41 37 40] 41 [xI 2 10] (yaa [yb4 42 1,xL 43 42,ydl 44,xO 45 (.slc 2 (.t 43) none (some (.t 44)) none),xN 46 45,yba 47] (yam 3 c_232_l0))))) c_232_k1)
def c_232_k3:ACode:=ydi [xA 59 2 1,yb2 60 f_294 59,yb2 61 f_293 60,xK 62 .rem 61 8,yda 63 .neq 62] 63 [xI 2 10] [yba 2]
def c_232:AFn:=⟨1,[.tmp 2],ycn (ydb 1) (yba 2) (ycx 0 [yb3 8 1,xL 9 8,yb2 10 f_257 9,ybn 11 10,xM 7 11] 7 [xI 2 6] (ybl [yb4 13 1,xL 14 13,xN 15 14,yda 16 .eql 15,xM 12 16] 12 [xI 2 8] (ya4 [yb4 18 1,xL 19 18,xN 20 19,xK 21 .gtr 20 12,xM 17 21] 17 [xI 2 12])) (ybq [yb4 22 1,xL 23 22,xN 24 23,yba 25] 1 c_232_l2 c_232_k3))⟩
def c_233:AFn:=⟨2,[.tmp 4],ya1 [ydh] (xD [yci 5,ycc 6,xO 7 (.slc 1 (.t 5) none (some (.t 6)) none),yci 8,ycc 9,xX 10 1 8 9,xL 11 10,ybj 12 f_295 7 11,ydp 12]) .ret⟩
def c_234_l0:ACode:=ycu [xB 11 .lss 10 9] 11 0 1 [xX 12 2 8 10,xA 13 2 12,yax 7 [.str [],ybf],xS 2 7 13] [7] (xR [yce 14,ycc 15,xA 16 2 7,xO 17 (ycy 15 [.t 16]),xO 18 (.bslice .imm 1 (List.replicate 1 [.str []]) [(0,(.t 17))]),ydk 19 1 16 14 18,ydg 19]) [ycj 20 .add 10,xM 10 20]
def c_234_k1:ACode:=ycm (yce 21) 4 21
def c_234:AFn:=⟨2,[.tmp 4],ydo [xC 4 (.fslice 1 [])] [ycs 5 1] [yci 8,xN 9 8,yba 10] 0 c_234_l0 c_234_k1⟩
def c_235:AFn:=⟨1,[.tmp 2],ybt [ydb 1,xC 2 (.str [])] [yb3 3 1,xL 4 3,xM 2 4]⟩
def c_236:AFn:=⟨1,[.tmp 2],ybt [ybd 2] [yci 3,ycj 4 .lss 3,ydg 4,ya0 6 5 0,ybe 7 5 .gtr 6 32,xW 8 5 7,xM 2 8]⟩
def c_237_l0:ACode:=ycu [xB 11 .lss 10 9] 11 0 1 [xX 12 3 8 10,xA 13 3 12,yax 7 [.str [],ybf,ybf],xS 3 7 13] [7] (xR [yce 14,ycc 15,xA 16 3 7,xO 17 (ycy 15 [.t 16]),xO 18 (.bslice .imm 1 (List.replicate 1 [.str []]) [(0,(.t 17))]),ydk 19 1 16 14 18,ydg 19]) [ycj 20 .add 10,xM 10 20]
def c_237_k1:ACode:=ycm (yce 21) 4 21
def c_237:AFn:=⟨2,[.tmp 4],ydo [xC 4 (.fslice 1 [])] [ycs 5 1] [yci 8,xN 9 8,yba 10] 0 c_237_l0 c_237_k1⟩
def c_238:AFn:=⟨1,[.tmp 2],ybt [ydb 1,xC 2 (.str [])] [yb3 3 1,xL 4 3,xM 2 4]⟩
def c_239:AFn:=⟨1,[.tmp 2],ycn (ydb 1) (yba 2) (ycx 0 [yb3 4 1,xL 5 4,yb2 6 f_257 5,ybn 7 6,xM 3 7] 3 [xI 2 6] (ybl [yb4 9 1,xL 10 9,yb2 11 f_152 10,xO 12 (yao .eql 11 (.c (ycl 0))),xM 8 12] 8 [xI 2 10] (ya4 [xA 14 3 1,yb2 15 f_160 14,ybn 16 15,xM 13 16] 13 [xI 2 9])) (yad [yba 2]))⟩
def c_240_l0:ACode:=ycu [xB 11 .lss 10 9] 11 0 1 [xX 12 3 8 10,xA 13 3 12,yax 7 [.str [],.fslice 2 [],.fslice 7 []],xS 3 7 13] [7] (xR [yce 14,ycc 15,xA 16 3 7,xO 17 (ycy 15 [.t 16]),xO 18 (.bslice .imm 1 (List.replicate 1 [.str []]) [(0,(.t 17))]),ydk 19 1 16 14 18,ydg 19]) [ycj 20 .add 10,xM 10 20]
def c_240_k1:ACode:=ycm (yce 21) 4 21
def c_240:AFn:=⟨2,[.tmp 4],ydo [xC 4 (.fslice 1 [])] [ycs 5 1] [yci 8,xN 9 8,yba 10] 0 c_240_l0 c_240_k1⟩
def c_241:AFn:=⟨1,[.tmp 2],ybt [ydb 1,xC 2 (.str [])] [yb3 3 1,xL 4 3,xM 2 4]⟩
def c_242_l0:ACode:=ycu [xB 38 .lss 37 36] 38 0 1 [xM 39 37,xX 40 7 35 37,xA 41 7 40,yax 9 [ybf,ybf,ybf,ybf,ybf,.fslice 3 [],.fslice 3 []],xM 8 39,xS 7 9 41] [9] (yaa [xA 42 10 7,xA 43 7 9,ybj 44 f_297 42 43,ydg 44] (ya4 [yce 45,yda 46 .neq 45] 46 [xM 47 8,yce 48,ydp 47,ydg 48])) [ycj 49 .add 37,xM 37 49]
def c_242_k1:ACode:=yb9 yby ycz
def c_242:AFn:=⟨2,[.tmp 4,.tmp 5],ya3 [ydb 2,yby,ycz] [ycc 10,yda 11 .lss 10,xM 12 11,ya0 13 12 1,yas 14 12 4 2,ybo 15 12 14,ybc 16 12 15,ybv 17 12 .geq 13 16,xW 18 12 17] 18 [ycb 4,xI 5 8] (.seq (xQ [xF 19 4 2,xL 20 19,ycc 21,xX 22 3 20 21,xA 23 3 22,yax 6 [.str [],.fslice 2 [],.fslice 7 []],xS 3 6 23] [6]) (yae [xA 24 3 6,yb2 25 f_296 24,ydg 25] (ya4 [yce 26,yda 27 .neq 26] 27 [yce 28,ycb 4,ydg 28]) (.seq (xQ [xA 29 9 2,yb4 30 6,xL 31 30,xO 32 (.build [.str [],.fslice 2 [],.fslice 2 [],.fslice 3 [],.fslice 3 [],.fslice 6 [],.fslice 7 [],.fslice 5 [],.fslice 1 [],.fslice 2 []] [(0,9,(.t 29)),(9,1,(.t 31))]),xO 33 (.build [.str [],.fslice 2 [],.fslice 2 [],.fslice 3 [],.fslice 3 [],.fslice 6 [],.fslice 7 [],.fslice 5 [],.fslice 1 [],.fslice 2 []] [(0,10,(.t 32))]),yax 7 [.str [],.fslice 2 [],.fslice 2 [],.fslice 3 [],.fslice 3 [],.fslice 6 [],.fslice 7 [],.fslice 5 [],.fslice 1 [],.fslice 2 []],xS 10 7 33] [7]) (ybq [xF 34 2 6,xL 35 34,xN 36 35,yba 37] 0 c_242_l0 c_242_k1))))⟩
def c_243_l0:ACode:=ycu [xB 11 .lss 10 9] 11 0 1 [xX 12 6 8 10,xA 13 6 12,yax 7 [.str [],.fslice 3 [],.fslice 1 [],ybf,.fslice 1 [],ybf],xS 6 7 13] [7] (xR [yce 14,ycc 15,xA 16 6 7,xO 17 (ycy 15 [.t 16]),xO 18 (.bslice .imm 1 (List.replicate 1 [.str []]) [(0,(.t 17))]),ydk 19 1 16 14 18,ydg 19]) [ycj 20 .add 10,xM 10 20]
def c_243_k1:ACode:=ycm (yce 21) 4 21
def c_243:AFn:=⟨2,[.tmp 4],ydo [xC 4 (.fslice 1 [])] [ycs 5 1] [yci 8,xN 9 8,yba 10] 0 c_243_l0 c_243_k1⟩
def c_244:AFn:=⟨1,[.tmp 2],ybt [ydb 1,xC 2 (.str [])] [yb3 3 1,xL 4 3,xM 2 4]⟩
def c_245_l0:ACode:=ycu [xB 25 .lss 24 23] 25 1 2 [xM 26 24,xX 27 7 22 24,xA 28 7 27,yax 7 [.str [],.fslice 1 [],yan,ybf,ybf,.fslice 3 [],ybf],xM 6 26,xS 7 7 28] [7] (ycx 3 [yb3 30 7,xL 31 30,yb2 32 f_257 31,ybn 33 32,xM 29 33] 29 [xM 34 6,xM 2 34,ycb 3,xI 4 6] (ya4 [yce 36,yb3 37 7,xL 38 37,xO 39 (.lookup .s (.bool false) false (.t 36) (.t 38)),xM 35 39] 35 [xM 40 6,xM 2 40,ycb 3,xI 4 7]) (yb5 [yce 41,yb3 42 7,xL 43 42,⟨none,none,.update .s (.t 41) (.t 43) (.c (.bool true))⟩] [xA 45 9 1,xM 46 6,ybj 47 f_298 45 46,xM 44 47,xE 48 0 44,xE 49 1 44,xM 8 48,xM 9 49] (ya4 [xM 50 9,yda 51 .neq 50] 51 [xM 52 6,xM 53 8,xM 54 9,xM 2 52,xM 3 53,ydp 54]))) [ycj 55 .add 24,xM 24 55]
def c_245_k1:ACode:=yad [yba 2,yba 3,yby]
def c_245:AFn:=⟨1,[.tmp 2,.tmp 3,.tmp 4],yaa [ydb 1,yba 2,yba 3,yby] (ycx 0 [xF 11 6 1,xL 12 11,xN 13 12,yda 14 .eql 13,xM 10 14] 10 [ycb 2,ycb 3,xI 4 8] (ya4 [xF 16 6 1,xL 17 16,xN 18 17,xK 19 .gtr 18 12,xM 15 19] 15 [ycb 2,ycb 3,xI 4 12]) (ybg [xO 20 .mkmap,ydg 20] [xF 21 6 1,xL 22 21,xN 23 22,yba 24] 1 c_245_l0 c_245_k1))⟩
def c_246:AFn:=⟨1,[.tmp 2,.cell 3 false 1],ya3 [ydb 1,yba 2,yax 3 [ybf]] [xF 6 7 1,xL 7 6,yb2 8 f_299 7,xK 9 .gtr 8 24] 9 [ycb 2,⟨none,none,.store 1 (.t 3) (.c (.int .i64 12))⟩] (ybk [xF 10 7 1,xL 11 10,yb2 12 f_300 11,xK 13 .gtr 12 6] 13 [ycb 2,⟨none,none,.store 1 (.t 3) (.c (.int .i64 14))⟩] (yb5 [yax 4 [ybf],⟨none,none,.store 1 (.t 4) (.c (.int .i64 0))⟩] [yax 5 [.fslice 1 []]] (yap [xF 14 7 1,xL 15 14,xO 16 (.mkfunc (.func f_302) [] [.t 1,.t 5,.t 3,.t 4]),ybx 17 f_301 [.t 15,.t 16]] [xL 18 3,yda 19 .neq 18] (ybw 19 (ycd [xL 20 4,xL 21 3,xM 2 20,xS 1 3 21] .ret)) (yb9 (yba 2) ⟨none,none,.store 1 (.t 3) (.c (.int .i64 0))⟩))))⟩
def c_247_l0:ACode:=ybp [xB 14 .lss 13 12] 14 0 (ya2 1 (yaa [xM 15 13,xX 16 1 11 13,xL 17 16,ydp 15,ydg 17] (.block 2 (ybl [yce 19,yda 20 .lss 19,xM 21 20,ya0 22 21 5,yc0 23 21 1,ybo 24 21 23,ybc 25 21 24,ybv 26 21 .geq 22 25,xW 27 21 26,xM 18 27] 18 [xM 28 4,xM 2 28,xI 3 8] (ya4 [xF 30 8 1,xL 31 30,xM 32 4,xO 33 (.slc 1 (.t 31) none (some (.t 32)) none),yce 34,ybj 35 f_305 33 34,xM 29 35] 29 [xM 36 4,xM 2 36,xI 3 7])))) [ycj 37 .add 13,xM 13 37])
def c_247_k1:ACode:=yb9 (yba 2) (yba 3)
def c_247:AFn:=⟨1,[.tmp 2,.tmp 3],ydd [ydb 1,yba 2,yba 3] [xF 6 8 1,xL 7 6,xN 8 7,xK 9 .gtr 8 8] 9 [ycb 2,xI 3 12] [xF 10 8 1,xL 11 10,xN 12 11,yba 13] 0 c_247_l0 c_247_k1⟩
def c_248_l0:ACode:=ybp [xB 8 .lss 7 6] 8 0 (ya2 1 (yaa [xX 9 1 5 7,xL 10 9,ydp 10] (ya4 [xM 11 4,ycj 12 .lss 11,xM 13 12,ya0 14 13 4,ybe 15 13 .gtr 14 32,xW 16 13 15] 16 [ybd 2])) [ycj 17 .add 7,xM 7 17])
def c_248_k1:ACode:=yad [xC 2 yb0]
def c_248:AFn:=⟨1,[.tmp 2],ybg [ybd 2] [yci 5,xN 6 5,yba 7] 0 c_248_l0 c_248_k1⟩
def c_249_l0:ACode:=yct [xM 11 6,xF 12 5 2,xL 13 12,ycc 14,xX 15 6 13 14,yb4 16 15,xL 17 16,xN 18 17,xB 19 .lss 11 18] 19 0 1 (xD [yce 22,xA 23 9 2,xF 24 5 2,xL 25 24,ycc 26,xX 27 6 25 26,yb4 28 27,xL 29 28,xM 30 6,xX 31 3 29 30,yb3 32 31,xA 33 2 32,ybj 34 f_306 23 33,xO 35 (.bslice .imm 1 (List.replicate 1 [.int .i64 0]) [(0,(.t 34))]),ydk 36 1 8 22 35,ydg 36]) [xM 20 6,ycj 21 .add 20,xM 6 21]
def c_249_k1:ACode:=ycm (yce 37) 4 37
def c_249:AFn:=⟨2,[.tmp 4],ya3 [ydb 2,xC 4 (.fslice 1 [])] [xA 7 9 2,ycc 8,ybj 9 f_252 7 8,ybn 10 9] 10 [xC 4 (.fslice 1 [])] (ybg [ycs 5 1] [yc2] 0 c_249_l0 c_249_k1)⟩
def c_250:AFn:=⟨3,[.tmp 6],yb5 [ydb 3,yc2] [yb4 10 3,xL 11 10,ycc 12,ybj 13 f_307 11 12,xM 9 13,xE 14 0 9,xE 15 1 9,xM 7 14,xM 8 15] (ycx 0 [ydn 17,xL 18 17,ycc 19,ybj 20 f_254 18 19,ybn 21 20,xM 22 21,yc0 23 22 3,ybo 24 22 23,ya0 25 22 1,yb7 26 22 f_254 [.t 24,.t 25],ycw 27 22 26,xW 28 22 27,xM 16 28] 16 [xI 6 9] (ybl [ydn 30,xL 31 30,yb4 32 3,xL 33 32,xB 34 .and 31 33,ydn 35,xL 36 35,xB 37 .neq 34 36,xM 29 37] 29 [xI 6 5] (ycd [xM 39 2,ycj 40 .eql 39,xM 41 40,yb6 42 41 1 3,yca 43 41 1 42,ybm 44 41 1,ydm 45 41 f_308 [.t 44],ybs 46 41 .neq 43 (.t 45),xV 47 41 46,xM 48 47,ya0 49 48 2,ybe 50 48 .eql 49 2,ya0 51 48 50,ybm 52 51 8,yaw 53 51 (ya7 52),yab 54 48 (.pick (.t 51) (.t 53) (.c yan)),xW 55 48 54,xM 38 55] (yaj 38 [xI 6 11]))) (yad [yc2]))⟩
def c_251_l0:ACode:=yct [xM 11 6,xF 12 5 2,xL 13 12,ycc 14,xX 15 6 13 14,yb4 16 15,xL 17 16,xN 18 17,xB 19 .lss 11 18] 19 0 1 (xR [yce 22,xF 23 5 2,xL 24 23,ycc 25,xX 26 6 24 25,yb4 27 26,xL 28 27,xM 29 6,xX 30 3 28 29,xF 31 2 30,xL 32 31,xO 33 (.minmax true [.t 22,.t 32]),ydg 33]) [xM 20 6,ycj 21 .add 20,xM 6 21]
def c_251_k1:ACode:=ycm (yce 34) 4 34
def c_251:AFn:=⟨2,[.tmp 4],ya3 [ydb 2,yby] [xA 7 9 2,ycc 8,ybj 9 f_252 7 8,ybn 10 9] 10 [yby] (ybg [xI 5 1] [yc2] 0 c_251_l0 c_251_k1)⟩
def c_252:AFn:=⟨2,[.tmp 4],ycn (ydb 2) ydh (ybt [xA 8 9 2,ycc 9,ybj 10 f_200 8 9,xM 7 10,xE 11 0 7,xE 12 1 7,ydg 11,xM 6 12] [xM 13 6,yda 14 .eql 13,ydp 14])⟩
def c_253_l0:ACode:=yct [yce 6,yci 7,xN 8 7,xB 9 .lss 6 8] 9 0 1 (ya4 [yci 12,yce 13,xX 14 1 12 13,xL 15 14,ycc 16,xB 17 .eql 15 16] 17 [yce 18,ydp 18]) [yce 10,ycj 11 .add 10,ydg 11]
def c_253_k1:ACode:=yad [ycb 4]
def c_253:AFn:=⟨2,[.tmp 4],ybg [yby] [ycz] 0 c_253_l0 c_253_k1⟩
def c_254:AFn:=⟨2,[.tmp 4],ybt [ydh] [ycc 5,yb2 6 f_309 5,xM 7 6,ybm 8 7 0,yaw 9 7 (.conv .u64 (.t 8)),ybm 10 7 1,ydm 11 7 f_310 [.t 10],ybs 12 7 .lss 9 (.t 11),xV 13 7 12,ydp 13]⟩
def c_255_l0:ACode:=ycu [xB 26 .lss 25 24] 26 0 1 [xM 27 25,xX 28 3 23 25,xA 29 3 28,yax 8 [ybf,ybf,ybf],xM 7 27,xS 3 8 29] [8] (yaa [xF 30 2 8,xL 31 30,xK 32 .eql 31 2] (ybw 32 (ydi [xM 33 7,yb3 34 5,xL 35 34,xN 36 35,xB 37 .lss 33 36] 37 [yb3 38 5,xL 39 38,xM 40 7,xX 41 2 39 40,yb4 42 41,xL 43 42,yb2 44 f_311 43,xM 6 44] [yc2]))) [ycj 45 .add 25,xM 25 45]
def c_255_k1:ACode:=yad [yc2]
def c_255:AFn:=⟨3,[.tmp 6],ydd [ydb 3,xJ 5 2,yc2] [ycc 9,yda 10 .lss 9,xM 11 10,ya0 12 11 1,yas 13 11 5 3,ybo 14 11 13,ybc 15 11 14,ybv 16 11 .geq 12 15,xW 17 11 16] 17 [yc2] [xF 18 5 3,xL 19 18,ycc 20,xX 21 6 19 20,yb4 22 21,xL 23 22,xN 24 23,yba 25] 0 c_255_l0 c_255_k1⟩
def c_256_l0:ACode:=yct [xM 17 7,xF 18 5 3,xL 19 18,ycc 20,xX 21 6 19 20,yb4 22 21,xL 23 22,xN 24 23,xB 25 .lss 17 24] 25 0 1 (yaa [xF 28 5 3,xL 29 28,ycc 30,xX 31 6 29 30,yb4 32 31,xL 33 32,xM 34 7,xX 35 3 33 34,xF 36 2 35,xL 37 36,xK 38 .eql 37 2] (ybw 38 (ydi [xM 39 7,yb3 40 5,xL 41 40,xN 42 41,xB 43 .geq 39 42] 43 [yc2] [yb3 44 5,xL 45 44,xM 46 7,xX 47 2 45 46,yb4 48 47,xL 49 48,yb2 50 f_312 49,xM 6 50]))) [xM 26 7,ycj 27 .add 26,xM 7 27]
def c_256_k1:ACode:=yad [yc2]
def c_256:AFn:=⟨3,[.tmp 6],ydd [ydb 3,xJ 5 2,yc2] [ycc 8,yda 9 .lss 8,xM 10 9,ya0 11 10 1,yas 12 10 5 3,ybo 13 10 12,ybc 14 10 13,ybv 15 10 .geq 11 14,xW 16 10 15] 16 [yc2] [yba 7] 0 c_256_l0 c_256_k1⟩
def c_257:AFn:=⟨1,[.tmp 2],ya3 [ybd 2] [yci 3,xO 4 (.slen (.t 3)),yda 5 .eql 4,yce 6,ya0 7 6 0,yab 8 6 (.slen (.t 7)),ybe 9 6 .gtr 8 16,xW 10 6 9,xM 11 10,ya0 12 11 0,yab 13 11 (.idxs (.t 12) (yaq 0)),yb7 14 11 f_313 [.t 13],ycw 15 11 14,xW 16 11 15] 16 [ybd 2] (yad [yci 17,ybi 18 f_314 17 (.c (.func (.func f_315) [] [])),yci 19,xO 20 (.slen (.t 19)),xB 21 .eql 18 20,xM 2 21])⟩
def c_258_l0:ACode:=ycu [xB 15 .lss 14 13] 15 0 1 [xM 16 14,xX 17 3 12 14,xA 18 3 17,yax 9 [ybf,ybf,ybf],xM 8 16,xS 3 9 18] [9] (ya3 [xA 19 9 2,yb3 20 9,xA 21 2 20,ybj 22 f_261 19 21,xM 10 22] [xM 23 10,yda 24 .eql 23] 24 [xM 25 8,ydp 25,xI 5 8] (yae [xF 26 2 9,xL 27 26] (.block 2 (yco (xK 30 .eql 27 2) 29 30 (yac 29 (xR [xM 31 6,ycj 32 .add 31,xM 6 32]) (yae [ycj 34 .eql 27,xM 33 34] (yde 33 (xR [xK 35 .eql 27 3,xM 33 35])) (yde 33 (yad [xM 28 8,ydp 28,xI 5 11])))))) (xR [xM 36 7,xM 37 10,xB 38 .add 36 37,xM 7 38]))) [ycj 39 .add 14,xM 14 39]
def c_258_k1:ACode:=ybk [xM 40 6,ycj 41 .gtr 40] 41 [xI 4 (-2),xI 5 7] (ybk [xM 42 7,xK 43 .gtr 42 64] 43 [xI 4 (-2),xI 5 10] (yb9 yby ycz))
def c_258:AFn:=⟨2,[.tmp 4,.tmp 5],ydo [ydb 2,xJ 3 1,yby,ycz] [yc2,yba 7] [yb4 11 3,xL 12 11,xN 13 12,yba 14] 0 c_258_l0 c_258_k1⟩
def c_259_l0:ACode:=ybp [xB 13 .lss 12 11] 13 0 (ya2 1 (ya3 [xX 14 1 10 12,xL 15 14,xM 7 15] [xM 16 7,yda 17 .lss 16,xM 18 17,ya0 19 18 7,yas 20 18 4 2,ybo 21 18 20,ybc 22 18 21,ybv 23 18 .geq 19 22,xW 24 18 23] 24 [xI 4 8] (ybk [yce 25,xM 26 7,xO 27 (.lookup .i (.bool false) false (.t 25) (.t 26))] 27 [xI 4 7] (xR [yce 28,xM 29 7,⟨none,none,.update .i (.t 28) (.t 29) (.c (.bool true))⟩]))) [ycj 30 .add 12,xM 12 30])
def c_259_k1:ACode:=ydi [yce 31,xF 32 3 3,yb3 33 32,xL 34 33,xO 35 (.lookup .i (.bool false) false (.t 31) (.t 34)),ybn 36 35] 36 [xI 4 8] [xA 37 9 2,xF 38 3 3,xA 39 2 38,ybj 40 f_180 37 39,ydp 40]
def c_259:AFn:=⟨2,[.tmp 4],ydo [ydb 2,xJ 3 1,yby] [xO 8 .mkmap,ydg 8] [xF 9 2 3,xL 10 9,xN 11 10,yba 12] 0 c_259_l0 c_259_k1⟩
def c_260:AFn:=⟨2,[.tmp 4],ycn (ydb 2) ydh (ybt [xA 8 9 2,ycc 9,ybj 10 f_175 8 9,xM 7 10,xE 11 0 7,xE 12 1 7,ydg 11,xM 6 12] [xM 13 6,yda 14 .eql 13,ydp 14])⟩
def c_261:AFn:=⟨2,[.tmp 4],ya1 [ydb 2,xJ 3 1,yby] (xD [xA 6 9 2,ydn 7,xL 8 7,ybj 9 f_318 6 8,yb4 10 3,xL 11 10,ybj 12 f_317 9 11,xO 13 (.fld false 1 1 (.t 12)),ydg 13]) (ybk [yce 14,yb2 15 f_152 14,xO 16 (yao .eql 15 (.c (ycl 0)))] 16 [yby] (ycm (yce 17) 4 17))⟩
def c_262:AFn:=⟨2,[.tmp 4],ybt [ydh] [ycc 5,xO 6 (.bslice .imm 1 (List.replicate 1 [.int .i64 0]) [(0,(.t 5))]),yb2 7 f_248 6,xM 8 7,ybm 9 8 0,ybm 10 8 1,ydm 11 8 f_152 [.t 10],ybs 12 8 .leq 9 (.t 11),xV 13 8 12,ydp 13]⟩
def c_263_l0:ACode:=ybp [xB 14 .lss 13 12] 14 0 (ya2 1 (yco (xM 15 13) 6 15 (ya4 [xM 16 6,ycc 17,ybj 18 f_319 16 17,yci 19,xB 20 .eql 18 19] 20 [xM 21 6,ydp 21,xC 5 yb0])) [ycj 22 .add 13,xM 13 22])
def c_263_k1:ACode:=yb9 yby (ybd 5)
def c_263:AFn:=⟨2,[.tmp 4,.tmp 5],ydd [yby,ybd 5] [ycc 7,xO 8 (.bslice .imm 1 (List.replicate 1 [.int .i64 0]) [(0,(.t 7))]),yb2 9 f_248 8,ybn 10 9] 10 [yby,ybd 5] [ycc 11,ycj 12 .add 11,yba 13] 0 c_263_l0 c_263_k1⟩
def c_267:AFn:=⟨1,[.tmp 2],ybt [ybd 2] [yci 3,xO 4 (yao .geq 3 (.c (.int .u8 97))),ydg 4,ybm 6 5 0,ybs 7 5 .leq 6 (.c (.int .u8 122)),xV 8 5 7,xM 9 8,ya0 10 9 0,yaz 11 9 .geq 10 (.c (.int .u8 65)),ya0 12 9 11,ybm 13 12 0,ybs 14 12 .leq 13 (.c (.int .u8 90)),yab 15 9 (.pick (.t 12) (.t 14) (.c yan)),xW 16 9 15,xM 2 16]⟩
def c_268:AFn:=⟨1,[.tmp 2],ybt [ybd 2] [yci 3,xO 4 (yao .geq 3 (.c (.int .u8 48))),ydg 4,ybm 6 5 0,ybs 7 5 .leq 6 (.c (.int .u8 57)),xV 8 5 7,xM 2 8]⟩
def c_269_l0:ACode:=yct [xM 7 6,yb4 8 2,xL 9 8,xN 10 9,xB 11 .lss 7 10] 11 0 1 (ya4 [yb4 14 2,xL 15 14,xM 16 6,xX 17 2 15 16,yb3 18 17,xL 19 18,ycc 20,xB 21 .eql 19 20] 21 [xM 22 6,ydp 22,xC 5 yb0]) [xM 12 6,ycj 13 .add 12,xM 6 13]
def c_269_k1:ACode:=yb9 yby (ybd 5)
def c_269:AFn:=⟨2,[.tmp 4,.tmp 5],ybg [ydb 2,yby,ybd 5] [yc2] 0 c_269_l0 c_269_k1⟩
def c_270_l0:ACode:=yc3 [xM 34 4,ydl 35,xB 36 .lss 34 35] 36 3 4 (xD [yci 39,xM 40 4,xX 41 2 39 40,yb3 42 41,xL 43 42,yci 44,ydl 45,xX 46 2 44 45,yb3 47 46,xL 48 47,xB 49 .eql 43 48]) (yaj 49 [xI 2 7]) [xM 37 4,ycj 38 .add 37,ydp 38]
def c_270_k1:ACode:=xR [ydl 9,ycj 10 .add 9,xM 3 10]
def c_270_l2:ACode:=ybb [ydg 3,yci 6,xN 7 6,xB 8 .lss 5 7] 8 0 (yal 1 (ycx 2 [yci 12,ydl 13,xX 14 2 12 13,yb3 15 14,xL 16 15,yb2 17 f_194 16,ybn 18 17,xM 11 18] 11 [xI 2 6] (ya4 [yci 20,ydl 21,xX 22 2 20 21,yb4 23 22,xL 24 23,ycj 25 .lss 24,xM 26 25,ya0 27 26 0,ya0 28 26 3,yc9 29 26 2 27 28,yc0 30 26 29,ybo 31 26 30,ybe 32 26 .gtr 31 32,xW 33 26 32,xM 19 33] 19 [xI 2 10]) (yaa [yby] (yam 3 c_270_l0))) c_270_k1)
def c_270_k3:ACode:=yad [yba 2]
def c_270:AFn:=⟨1,[.tmp 2],ybg [yba 2] [yba 3] 0 c_270_l2 c_270_k3⟩
def c_271:AFn:=⟨3,[.tmp 6],yb5 [ydb 3,xJ 4 1,xJ 5 2,yc2] [xA 15 9 3,yb4 16 4,xA 17 2 16,ybj 18 f_320 15 17,xM 14 18,xE 19 0 14,xE 20 1 14,xM 7 19,xM 8 20] (yap [xF 21 3 4,xL 22 21,yda 23 .geq 22,xM 24 23,yb6 25 24 3 4,yca 26 24 1 25,yb6 27 24 3 3,yca 28 24 1 27,yaw 29 24 (ya5 28),ybs 30 24 .lss 26 (.t 29),xV 31 24 30,xM 9 31] [yb3 32 4,xL 33 32] (.block 0 (yco (ycj 35 .eql 33) 34 35 (yac 34 (ydi [xM 36 8,ybn 37 36] 37 [xI 6 8] [xF 38 6 4,xL 39 38,xA 40 10 5,xM 41 7,yc8 42 f_321 39 40 41,xM 6 42]) (yae [xK 44 .eql 33 2,xM 43 44] (yde 43 (xR [xK 45 .eql 33 3,xM 43 45])) (yac 43 (ydi [xF 46 4 4,xL 47 46,yda 48 .lss 47,xM 49 48,yas 50 49 4 4,ybo 51 49 50,yc0 52 49 3,ybo 53 49 52,ybc 54 49 53,ybv 55 49 .geq 51 54,xW 56 49 55] 56 [xI 6 8] [yc2]) (yco (xK 58 .eql 33 4) 57 58 (yac 57 (ybk [xM 59 8,ybn 60 59,xM 61 60,ya0 62 61 9,ycw 63 61 62,xW 64 61 63] 64 [xI 6 8] (ya3 [xF 66 5 4,xL 67 66,xA 68 10 5,ybj 69 f_322 67 68,xM 65 69,xE 70 0 65,xE 71 1 65,xM 10 70,xM 11 71] [xM 72 11,yda 73 .eql 72,xM 74 73,ybm 75 74 7,yb6 76 74 3 3,yca 77 74 1 76,yb6 78 74 3 4,yca 79 74 1 78,yaw 80 74 (ybz 3 77 (.t 79)),yb6 81 74 1 80,yca 82 74 1 81,ybs 83 74 .neq 75 (.t 82),xV 84 74 83] 84 [xI 6 10] (ycm (xM 85 11) 6 85))) (yco (xK 87 .eql 33 5) 86 87 (ybw 86 (ybk [xM 88 9,ybn 89 88] 89 [xI 6 8] (ya3 [xF 91 5 4,xL 92 91,xA 93 10 5,ybj 94 f_322 92 93,xM 90 94,xE 95 0 90,xE 96 1 90,xM 12 95,xM 13 96] [xM 97 13,yda 98 .neq 97] 98 [xM 99 13,xM 6 99] (ycd [xF 100 6 4,xL 101 100,xA 102 10 5,xF 103 3 3,xL 104 103,xF 105 3 4,xL 106 105,xX 107 3 104 106,yb4 108 107,xL 109 108,yc8 110 f_321 101 102 109,xM 6 110] .ret)))))))))))) (yad [xI 6 11]))⟩
def c_272:AFn:=⟨2,[.cell 4 true 10],ya1 [ydb 2,yax 4 [.str [],.fslice 2 [],.fslice 2 [],.fslice 3 [],.fslice 3 [],.fslice 6 [],.fslice 7 [],.fslice 5 [],.fslice 1 [],.fslice 2 []]] (xD [xA 5 9 2,xF 6 4 2,xL 7 6,ycc 8,xX 9 3 7 8,yb4 10 9,xL 11 10,xO 12 (.build [.str [],.fslice 2 [],.fslice 2 [],.fslice 3 [],.fslice 3 [],.fslice 6 [],.fslice 7 [],.fslice 5 [],.fslice 1 [],.fslice 2 []] [(0,9,(.t 5)),(9,1,(.t 11))]),xS 10 4 12]) .ret⟩
def c_273_l0:ACode:=yc3 [xM 11 8,yb4 12 3,xL 13 12,xN 14 13,xB 15 .lss 11 14] 15 0 1 (xD [xA 18 9 2,yb4 19 3,xL 20 19,xM 21 8,xX 22 3 20 21,yb3 23 22,xA 24 2 23,ybj 25 f_306 18 24,xM 9 25]) (yaa [yb4 26 3,xL 27 26,xM 28 8,xX 29 3 27 28,xF 30 2 29,xL 31 30,xM 10 31] (ya2 2 (ybl [xM 33 9,yda 34 .eql 33,xM 32 34] 32 [xM 35 8,ydp 35,xI 5 8] (ybl [xM 37 10,ycj 38 .neq 37,xM 39 38,ybm 40 39 10,ydc 41 39 .neq 40 2,xV 42 39 41,xM 43 42,ybm 44 43 10,ydc 45 43 .neq 44 3,xV 46 43 45,xM 36 46] 36 [xM 47 8,ydp 47,xI 5 11] (yaa [xM 49 10,xK 50 .eql 49 2,xM 48 50] (ybw 48 (xR [xM 51 7,ycj 52 .add 51,xM 7 52]))))) [xM 53 6,xM 54 9,xB 55 .add 53 54,xM 6 55])) [xM 16 8,ycj 17 .add 16,xM 8 17]
def c_273_k1:ACode:=ycx 3 [xM 57 7,ycj 58 .gtr 57,xM 56 58] 56 [xI 4 (-2),xI 5 7] (ya4 [xM 60 6,xK 61 .gtr 60 64,xM 59 61] 59 [xI 4 (-2),xI 5 10]) (yb9 yby ycz)
def c_273:AFn:=⟨2,[.tmp 4,.tmp 5],yb5 [ydb 2,xJ 3 1,yby,ycz] [yc2] (ybg [yba 7] [yba 8] 0 c_273_l0 c_273_k1)⟩
def c_274_l0:ACode:=yct [yce 6,xF 7 2 3,xL 8 7,xN 9 8,xB 10 .lss 6 9] 10 0 1 (.block 2 (ycd [xF 14 2 3,xL 15 14,yce 16,xX 17 1 15 16,xL 18 17,yda 19 .lss 18,xM 20 19,yas 21 20 2 3,ybo 22 20 21,ya0 23 20 5,yc9 24 20 1 22 23,ybo 25 20 24,yas 26 20 4 2,ybo 27 20 26,ybc 28 20 27,ybv 29 20 .geq 25 28,xW 30 20 29,xM 13 30] (yah 13 [xI 4 8] (ycd [xF 32 2 3,xL 33 32,xF 34 2 3,xL 35 34,yce 36,xX 37 1 35 36,xL 38 37,ybj 39 f_253 33 38,yce 40,xB 41 .lss 39 40,xM 31 41] (yaj 31 [xI 4 7]))))) [yce 11,ycj 12 .add 11,ydg 12]
def c_274_k1:ACode:=ydi [xF 42 2 3,xL 43 42,xF 44 3 3,yb3 45 44,xL 46 45,ybj 47 f_253 43 46,yda 48 .lss 47] 48 [xI 4 8] [xA 49 9 2,xF 50 3 3,xA 51 2 50,ybj 52 f_156 49 51,ydp 52]
def c_274:AFn:=⟨2,[.tmp 4],ybg [ydb 2,xJ 3 1,yby] [ycz] 0 c_274_l0 c_274_k1⟩
def c_275_l0:ACode:=yc3 [xM 20 7,ycc 21,xB 22 .lss 20 21] 22 0 1 (xD [xF 25 6 2,xL 26 25,xM 27 7,xX 28 7 26 27,yb3 29 28,xL 30 29,yb3 31 6,xL 32 31,xB 33 .eql 30 32]) (yaj 33 [ycb 4,xI 5 7]) [xM 23 7,ycj 24 .add 23,xM 7 24]
def c_275_l1:ACode:=yc3 [xM 44 8,yb4 45 6,xL 46 45,xN 47 46,xB 48 .lss 44 47] 48 2 3 (xD [yb4 51 6,xL 52 51,xM 53 8,xX 54 1 52 53,xL 55 54,yda 56 .lss 55,xM 57 56,yc0 58 57 6,ybo 59 57 58,ya0 60 57 8,yc9 61 57 1 59 60,ybo 62 57 61,yc0 63 57 2,ybo 64 57 63,ybc 65 57 64,ybv 66 57 .geq 62 65,xW 67 57 66]) (yaj 67 [ycb 4,xI 5 8]) [xM 49 8,ycj 50 .add 49,xM 8 50]
def c_275_k2:ACode:=ybk [xF 68 2 6,xL 69 68,xM 70 69,yaw 71 70 (ycv 9 2),yb6 72 70 3 6,yaw 73 70 (ycv 2 72),ydm 74 70 f_323 [.t 71,.t 73],ydc 75 70 .eql 74 0,xV 76 70 75] 76 [ycb 4,xI 5 8] (ybk [xF 77 2 6,xL 78 77,ybn 79 78,xM 80 79,yb6 81 80 5 6,yca 82 80 1 81,yaw 83 80 (ya5 82),ydc 84 80 .gtr 83 0,xV 85 80 84] 85 [ycb 4,xI 5 11] (ya3 [xA 87 9 2,ycc 88,ybj 89 f_324 87 88,xM 86 89,xE 90 0 86,xE 91 1 86,xM 9 90,xM 10 91] [xM 92 10,yda 93 .neq 92] 93 [xM 94 9,xM 95 10,ydp 94,ydg 95] (ybk [xA 96 9 2,ycc 97,xF 98 6 6,xL 99 98,yc8 100 f_325 96 97 99,ybn 101 100] 101 [ycb 4,xI 5 14] (yb9 yby ycz))))
def c_275_k3:ACode:=ybk [yb4 34 6,xL 35 34,xN 36 35,xK 37 .gtr 36 4,xM 38 37,yas 39 38 5 6,ybo 40 38 39,ybc 41 38 40,ybe 42 38 .gtr 41 8,xW 43 38 42] 43 [ycb 4,xI 5 12] (ybq [yba 8] 2 c_275_l1 c_275_k2)
def c_275:AFn:=⟨2,[.tmp 4,.tmp 5],ya1 [ydb 2,yby,ycz] (xQ [xF 11 6 2,xL 12 11,ycc 13,xX 14 7 12 13,xA 15 7 14,yax 6 [.str [],.fslice 1 [],yan,ybf,ybf,.fslice 3 [],ybf],xS 7 6 15] [6]) (ybk [yb3 16 6,xL 17 16,yb2 18 f_194 17,ybn 19 18] 19 [ycb 4,xI 5 6] (ybq [yba 7] 0 c_275_l0 c_275_k3))⟩
def c_276_l0:ACode:=yct [ydg 4,yci 6,xN 7 6,xB 8 .lss 5 7] 8 0 1 (xD [ydl 11,yci 12,xM 13 4,xX 14 5 12 13,xF 15 3 14,xL 16 15,yb2 17 f_276 16,xO 18 (.bin .add (yaq 1) (.t 17)),yci 19,xM 20 4,xX 21 5 19 20,xF 22 4 21,xL 23 22,yb2 24 f_276 23,xB 25 .add 18 24,xB 26 .add 11 25,xM 3 26]) [xM 9 4,ycj 10 .add 9,ydp 10]
def c_276_k1:ACode:=ycm (ydl 27) 2 27
def c_276:AFn:=⟨1,[.tmp 2],ydo [yba 2] [yba 3] [yby] 0 c_276_l0 c_276_k1⟩
def c_277_l0:ACode:=yct [ydg 4,yci 6,xN 7 6,xB 8 .lss 5 7] 8 0 1 (xD [ydl 11,yci 12,xM 13 4,xX 14 5 12 13,xF 15 3 14,xL 16 15,yb2 17 f_277 16,xO 18 (.bin .add (yaq 1) (.t 17)),yci 19,xM 20 4,xX 21 5 19 20,xF 22 4 21,xL 23 22,yb2 24 f_277 23,xO 25 (.bin .add (yaq 1) (.t 24)),xO 26 (.minmax true [.t 11,.t 18,.t 25]),xM 3 26]) [xM 9 4,ycj 10 .add 9,ydp 10]
def c_277_k1:ACode:=ycm (ydl 27) 2 27
def c_277:AFn:=⟨1,[.tmp 2],ydo [yba 2] [yba 3] [yby] 0 c_277_l0 c_277_k1⟩
def c_278_l0:ACode:=yct [ydg 4,yci 6,xN 7 6,xB 8 .lss 5 7] 8 0 1 (yb5 [ydl 11,yci 12,xM 13 4,xX 14 5 12 13,xA 15 5 14,xO 16 (.bslice .imm 5 (List.replicate 1 [.int .i64 0,.int .i64 0,.fslice 3 [],.fslice 5 [],.fslice 5 []]) [(0,(.t 15))]),ydk 17 5 88 11 16,xM 3 17] [ydl 18,yci 19,xM 20 4,xX 21 5 19 20,xF 22 3 21,xL 23 22,yb2 24 f_278 23,ydk 25 5 88 18 24,xM 3 25] (xR [ydl 26,yci 27,xM 28 4,xX 29 5 27 28,xF 30 4 29,xL 31 30,yb2 32 f_278 31,ydk 33 5 88 26 32,xM 3 33])) [xM 9 4,ycj 10 .add 9,ydp 10]
def c_278_k1:ACode:=ycm (ydl 34) 2 34
def c_278:AFn:=⟨1,[.tmp 2],ydo [xC 2 (.fslice 5 [])] [ycs 3 5] [yby] 0 c_278_l0 c_278_k1⟩
def c_279:AFn:=⟨3,[.tmp 6],ya1 [ydb 3,yc2] (xQ [ycc 10,xM 11 2,xX 12 5 10 11,xA 13 5 12,yax 7 [ybf,ybf,.fslice 3 [],.fslice 5 [],.fslice 5 []],xS 5 7 13] [7]) (ycx 0 [yb3 15 7,xL 16 15,ycj 17 .lss 16,xM 18 17,yas 19 18 0 7,ybo 20 18 19,ybe 21 18 .gtr 20 3,xW 22 18 21,xM 14 22] 14 [xI 6 11] (yaa [yb3 24 7,xL 25 24,xK 26 .eql 25 2,xM 23 26] (yac 23 (yap [xF 28 2 7,xL 29 28,xA 30 9 3,xO 31 (.build [.str [],.fslice 2 [],.fslice 2 [],.fslice 3 [],.fslice 3 [],.fslice 6 [],.fslice 7 [],.fslice 5 [],.fslice 1 [],.fslice 2 []] [(0,9,(.t 30))]),ybj 32 f_322 29 31,xM 27 32,xE 33 0 27,xE 34 1 27,xM 8 33,xM 9 34] [xM 35 9,yda 36 .eql 35,xM 37 36,ybm 38 37 8,ydc 39 37 .neq 38 1,xV 40 37 39] (ybw 40 (xR [xI 9 10])) (ycm (xM 41 9) 6 41)) (ybl [yb4 43 7,xL 44 43,yda 45 .lss 44,xM 46 45,yc0 47 46 7,ybo 48 46 47,yas 49 46 5 3,ybo 50 46 49,ybc 51 46 50,ybv 52 46 .geq 48 51,xW 53 46 52,xM 42 53] 42 [xI 6 8] (ybl [ycc 55,xM 56 2,ybj 57 f_326 55 56,xM 54 57] 54 [xI 6 7] (ya4 [yb3 59 7,xL 60 59,ycj 61 .eql 60,xM 62 61,yb6 63 62 3 7,yca 64 62 1 63,yaw 65 62 (ya5 64),yb6 66 62 4 7,yca 67 62 1 66,yaw 68 62 (ya5 67),ybs 69 62 .add 65 (.t 68),ydc 70 62 .gtr 69 0,xV 71 62 70,xM 58 71] 58 [xI 6 5]))))) (yad [yc2]))⟩
def c_287_l0:ACode:=ycu [xB 11 .lss 10 9] 11 0 1 [xX 12 7 8 10,xA 13 7 12,yax 7 [ybf,ybf,ybf,ybf,ybf,.fslice 3 [],.fslice 3 []],xS 7 7 13] [7] (xR [yce 14,ycc 15,xA 16 7 7,xO 17 (ycy 15 [.t 16]),xO 18 (.bslice .imm 7 (List.replicate 1 [.int .i64 0,.int .i64 0,.int .i64 0,.int .i64 0,.int .i64 0,.fslice 3 [],.fslice 3 []]) [(0,(.t 17))]),ydk 19 7 88 14 18,ydg 19]) [ycj 20 .add 10,xM 10 20]
def c_287_k1:ACode:=ycm (yce 21) 4 21
def c_287:AFn:=⟨2,[.tmp 4],ydo [xC 4 (.fslice 7 [])] [ycs 5 7] [yci 8,xN 9 8,yba 10] 0 c_287_l0 c_287_k1⟩
def c_288:AFn:=⟨1,[.cell 2 true 7],ya1 [ycr 1 0,yax 2 [ybf,ybf,ybf,ybf,ybf,.fslice 3 [],.fslice 3 []]] (xD [xF 3 5 1,xL 4 3,yb2 5 f_291 4,xF 6 6 1,xL 7 6,yb2 8 f_291 7,xF 9 5 1,xS 1 9 5,xF 10 6 1,xS 1 10 8]) (yb9 (xA 11 7 1) (xS 7 2 11))⟩
def c_293_l0:ACode:=ybp [xB 9 .lss 8 7] 9 0 (ya2 1 (yaa [xX 10 1 6 8,xL 11 10,ydg 11] (xR [ydl 12,yce 13,xB 14 .add 12 13,xM 3 14])) [ycj 15 .add 8,xM 8 15])
def c_293_k1:ACode:=ycm (ydl 16) 2 16
def c_293:AFn:=⟨1,[.tmp 2],ydo [yba 2] [yba 3] [yci 6,xN 7 6,yba 8] 0 c_293_l0 c_293_k1⟩
def c_294_l0:ACode:=ycu [xB 10 .lss 9 8] 10 0 1 [xX 11 2 7 9,xA 12 2 11,yax 5 [.str [],ybf],xS 2 5 12] [5] (xR [ydl 13,yb4 14 5,xL 15 14,xO 16 (.bslice .imm 1 (List.replicate 1 [.int .i64 0]) [(0,(.t 15))]),ydk 17 1 8 13 16,xM 3 17]) [ycj 18 .add 9,xM 9 18]
def c_294_k1:ACode:=ycm (ydl 19) 2 19
def c_294:AFn:=⟨1,[.tmp 2],ycn (ydb 1) (xC 2 (.fslice 1 [])) (ybg [ycs 3 1] [yb4 6 1,xL 7 6,xN 8 7,yba 9] 0 c_294_l0 c_294_k1)⟩
def c_295:AFn:=⟨2,[.tmp 4],ybt [ydh] [yci 5,ycc 6,ybj 7 f_328 5 6,yda 8 .geq 7,ydp 8]⟩
def c_296_l0:ACode:=ycu [xB 25 .lss 24 23] 25 1 2 [xM 26 24,xX 27 2 22 24,xA 28 2 27,yax 4 [.str [],ybf],xM 3 26,xS 2 4 28] [4] (.block 3 (ybl [yb3 30 4,xL 31 30,yb2 32 f_257 31,ybn 33 32,xM 29 33] 29 [xI 2 6] (ybl [yb4 35 4,xL 36 35,ycj 37 .lss 36,xM 38 37,yc0 39 38 4,ybo 40 38 39,ybe 41 38 .gtr 40 32,xW 42 38 41,xM 34 42] 34 [xI 2 10] (ya4 [yb4 44 1,xL 45 44,ydl 46,xO 47 (.slc 2 (.t 45) none (some (.t 46)) none),xO 48 (.mkfunc (.func f_330) [] [.t 4]),ybj 49 f_329 47 48,xM 43 49] 43 [xI 2 7])))) [ycj 50 .add 24,xM 24 50]
def c_296_k1:ACode:=yad [yba 2]
def c_296:AFn:=⟨1,[.tmp 2],ycn (ydb 1) (yba 2) (ycx 0 [yb3 6 1,xL 7 6,yb2 8 f_257 7,ybn 9 8,ydg 9] 5 [xI 2 6] (ya4 [yb4 11 1,xL 12 11,xN 13 12,xK 14 .gtr 13 4,xM 15 14,yas 16 15 2 1,ybo 17 15 16,ybc 18 15 17,ybe 19 15 .gtr 18 12,xW 20 15 19,xM 10 20] 10 [xI 2 12]) (ybq [yb4 21 1,xL 22 21,xN 23 22,yba 24] 1 c_296_l0 c_296_k1))⟩
def c_297:AFn:=⟨2,[.tmp 4],ya1 [ydb 2,xJ 3 1,yby] (xQ [yb3 11 2,yb3 12 11,xA 13 9 12,yax 5 [.str [],.fslice 2 [],.fslice 2 [],.fslice 3 [],.fslice 3 [],.fslice 6 [],.fslice 7 [],.fslice 5 [],.fslice 1 []],xS 9 5 13] [5]) (yaa [xA 15 9 5,yb4 16 3,xA 17 2 16,ybj 18 f_331 15 17,xM 14 18,xE 19 0 14,xE 20 1 14,xM 6 19,xM 7 20] (yap [xF 21 3 3,xL 22 21,yda 23 .geq 22,xM 24 23,yb6 25 24 3 3,yca 26 24 1 25,yb6 27 24 3 5,yca 28 24 1 27,yaw 29 24 (ya5 28),ybs 30 24 .lss 26 (.t 29),xV 31 24 30,xM 8 31] [ydn 32,xL 33 32] (.block 0 (yco (ycj 35 .eql 33) 34 35 (yac 34 (ydi [xM 36 7,ybn 37 36] 37 [xI 4 8] [xA 38 10 2,xF 39 6 3,xL 40 39,xM 41 6,yc8 42 f_332 38 40 41,ydp 42]) (yae [xK 44 .eql 33 2,xM 43 44] (yde 43 (xR [xK 45 .eql 33 3,xM 43 45])) (yac 43 (ydi [xF 46 4 3,xL 47 46,yda 48 .lss 47,xM 49 48,yas 50 49 4 3,ybo 51 49 50,yc0 52 49 5,ybo 53 49 52,ybc 54 49 53,ybv 55 49 .geq 51 54,xW 56 49 55] 56 [xI 4 8] [yby]) (yae [xK 58 .eql 33 4,xM 57 58] (yde 57 (xR [xK 59 .eql 33 5,xM 57 59])) (ybw 57 (ybk [xM 60 8,ybn 61 60,xM 62 61,yas 63 62 0 3,ybo 64 62 63,ybe 65 62 .eql 64 4,ya0 66 62 65,ybm 67 66 7,yaw 68 66 (ya7 67),yab 69 62 (.pick (.t 66) (.t 68) (.c yan)),xW 70 62 69] 70 [xI 4 8] (yae [xF 72 5 3,xL 73 72,yb3 74 2,xA 75 10 74,ybj 76 f_333 73 75,xM 71 76,xE 77 0 71,xE 78 1 71,xM 9 77,xM 10 78] (ya4 [xM 79 10,yda 80 .neq 79] 80 [xM 81 10,ydp 81]) (yae [ydn 82,xL 83 82,xK 84 .eql 83 5] (ybw 84 (ycd [xA 85 10 2,xF 86 6 3,xL 87 86,xF 88 3 5,xL 89 88,xF 90 3 3,xL 91 90,xX 92 3 89 91,yb4 93 92,xL 94 93,yc8 95 f_332 85 87 94,ydp 95] .ret)) (ydi [xM 96 6,xF 97 3 5,xL 98 97,xF 99 3 3,xL 100 99,xX 101 3 98 100,yb4 102 101,xL 103 102,xB 104 .neq 96 103] 104 [xI 4 10] [yby]))))))))))) (yad [xI 4 11])))⟩
def c_298_l0:ACode:=ybp [xB 31 .lss 30 29] 31 0 (ya2 1 (yaa [xX 32 1 28 30,xL 33 32,xM 8 33] (ya4 [xM 34 8,yda 35 .lss 34,xM 36 35,ya0 37 36 8,yc0 38 36 2,ybo 39 36 38,ybc 40 36 39,ybv 41 36 .geq 37 40,xW 42 36 41] 42 [ycb 4,xI 5 8])) [ycj 43 .add 30,xM 30 43])
def c_298_l1:ACode:=ycu [xB 68 .lss 67 66] 68 3 4 [xM 69 67,xX 70 3 65 67,xA 71 3 70,yax 10 [ycl 0,ycl 0,ybf],xM 9 69,xS 3 10 71] [10] (yaa [xA 72 9 2,ycc 73,xA 74 3 10,yc8 75 f_334 72 73 74,xM 11 75] (ya4 [xM 76 11,yda 77 .neq 76] 77 [xM 78 9,xM 79 11,ydp 78,ydg 79])) [ycj 80 .add 67,xM 67 80]
def c_298_k2:ACode:=ybk [xA 81 9 2,ycc 82,xF 83 6 6,xL 84 83,yc8 85 f_335 81 82 84,ybn 86 85] 86 [ycb 4,xI 5 14] (yb9 yby ycz)
def c_298_k3:ACode:=ycx 2 [xF 45 2 6,xL 46 45,xM 47 46,yaw 48 47 (ycv 9 2),yb6 49 47 3 6,yaw 50 47 (ycv 2 49),ydm 51 47 f_261 [.t 48,.t 50],ydc 52 47 .eql 51 0,xV 53 47 52,xM 44 53] 44 [ycb 4,xI 5 8] (ya4 [xF 55 2 6,xL 56 55,ybn 57 56,xM 58 57,yb6 59 58 5 6,yca 60 58 1 59,yaw 61 58 (ya5 60),ydc 62 58 .gtr 61 0,xV 63 58 62,xM 54 63] 54 [ycb 4,xI 5 11]) (ybq [xF 64 5 6,xL 65 64,xN 66 65,yba 67] 3 c_298_l1 c_298_k2)
def c_298:AFn:=⟨2,[.tmp 4,.tmp 5],ya1 [ydb 2,yby,ycz] (xQ [xF 12 6 2,xL 13 12,ycc 14,xX 15 7 13 14,xA 16 7 15,yax 6 [.str [],.fslice 1 [],yan,ybf,ybf,.fslice 3 [],ybf],xS 7 6 16] [6]) (ybk [yb4 17 6,xL 18 17,xN 19 18,xK 20 .gtr 19 4,xM 21 20,yas 22 21 5 6,ybo 23 21 22,ybc 24 21 23,ybe 25 21 .gtr 24 8,xW 26 21 25] 26 [ycb 4,xI 5 12] (ybq [yb4 27 6,xL 28 27,xN 29 28,yba 30] 0 c_298_l0 c_298_k3))⟩
def c_299:AFn:=⟨1,[.tmp 2],yb5 [yba 2] [yax 3 [ybf],⟨none,none,.store 1 (.t 3) (.c (.int .i64 0))⟩] (ybt [yci 4,xO 5 (.mkfunc (.func f_336) [] [.t 3]),ybx 6 f_301 [.t 4,.t 5]] [xL 7 3,xM 2 7])⟩
def c_300_l0:ACode:=ycu [xB 12 .lss 11 10] 12 0 1 [xX 13 5 9 11,xA 14 5 13,yax 5 [ybf,ybf,.fslice 3 [],.fslice 5 [],.fslice 5 []],xS 5 5 14] [5] (xD [ydl 15,xF 16 3 5,xL 17 16,yb2 18 f_300 17,xF 19 4 5,xL 20 19,yb2 21 f_300 20,xO 22 (.minmax true [.t 15,.t 18,.t 21]),xM 3 22]) [ycj 23 .add 11,xM 11 23]
def c_300_k1:ACode:=yad [ydl 24,ycj 25 .add 24,xM 2 25]
def c_300:AFn:=⟨1,[.tmp 2],ya3 [yba 2] [yci 6,xN 7 6,yda 8 .eql 7] 8 [yba 2] (ybg [yba 3] [yci 9,xN 10 9,yba 11] 0 c_300_l0 c_300_k1)⟩
def c_301_l0:ACode:=ycu [xB 10 .lss 9 8] 10 0 1 [xX 11 5 7 9,xA 12 5 11,yax 6 [ybf,ybf,.fslice 3 [],.fslice 5 [],.fslice 5 []],xS 5 6 12] [6] (ya4 [ycc 13,xA 14 5 6,xO 15 (.tcallv (.t 13) [.t 14]),ybn 16 15,xM 17 16,yas 18 17 3 6,ybo 19 17 18,ya0 20 17 1,yab 21 17 (.tcall f_301 [.t 19,.t 20]),ycw 22 17 21,xW 23 17 22,xM 24 23,yas 25 24 4 6,ybo 26 24 25,ya0 27 24 1,yab 28 24 (.tcall f_301 [.t 26,.t 27]),ycw 29 24 28,xW 30 24 29] 30 [ydh]) [ycj 31 .add 9,xM 9 31]
def c_301_k1:ACode:=yad [xC 4 yb0]
def c_301:AFn:=⟨2,[.tmp 4],ybg [ydh] [yci 7,xN 8 7,yba 9] 0 c_301_l0 c_301_k1⟩
def c_302:AFn:=⟨5,[.tmp 6],yap [ydb 5,ybd 6] [xA 7 9 1,xA 8 5 5,xL 9 2,yc8 10 f_303 7 8 9,xS 1 3 10] (ya4 [xL 11 3,yda 12 .neq 11] 12 [ybd 6]) (yae [xA 13 5 5,yb2 14 f_304 13] (ybw 14 (xR [xL 15 2,yb4 16 5,xL 17 16,xO 18 (.bslice .imm 1 (List.replicate 1 [.int .i64 0]) [(0,(.t 17))]),ydk 19 1 8 15 18,xS 1 2 19])) (ybt [xL 20 4,ycj 21 .add 20,xS 1 4 21] [xC 6 yb0]))⟩
def c_303_l0:ACode:=ybp [xB 30 .lss 29 28] 30 1 (ya2 2 (yaa [xX 31 1 27 29,xL 32 31,xM 8 32] (ya4 [xM 33 8,yb4 34 4,xL 35 34,xB 36 .eql 33 35] 36 [xI 6 7])) [ycj 37 .add 29,xM 29 37])
def c_303_k1:ACode:=ya4 [yb3 38 4,xL 39 38,ycj 40 .eql 39,xM 41 40,yb6 42 41 3 4,yca 43 41 1 42,yaw 44 41 (ya5 43),yb6 45 41 4 4,yca 46 41 1 45,yaw 47 41 (ya5 46),ybs 48 41 .add 44 (.t 47),ydc 49 41 .gtr 48 0,xV 50 41 49] 50 [xI 6 5]
def c_303_k2:ACode:=yad [yc2]
def c_303:AFn:=⟨3,[.tmp 6],yap [ydb 3,xJ 4 1,yc2] [yb3 11 4,xL 12 11] (.block 0 (yae [ycj 14 .eql 12,xM 13 14] (yde 13 (xR [xK 15 .eql 12 3,xM 13 15])) (yac 13 (ybk [yb4 16 4,xL 17 16,yda 18 .lss 17,xM 19 18,yc0 20 19 4,ybo 21 19 20,yas 22 19 5 3,ybo 23 19 22,ybc 24 19 23,ybv 25 19 .geq 21 24,xW 26 19 25] 26 [xI 6 8] (ybq [xM 27 2,xN 28 27,yba 29] 1 c_303_l0 c_303_k1)) (yco (xK 52 .eql 12 2) 51 52 (yac 51 (ya3 [xF 54 2 4,xL 55 54,xA 56 9 3,xO 57 (.build [.str [],.fslice 2 [],.fslice 2 [],.fslice 3 [],.fslice 3 [],.fslice 6 [],.fslice 7 [],.fslice 5 [],.fslice 1 [],.fslice 2 []] [(0,9,(.t 56))]),ybj 58 f_333 55 57,xM 53 58,xE 59 0 53,xE 60 1 53,xM 9 59,xM 10 60] [xM 61 10,yda 62 .neq 61] 62 [xM 63 10,xM 6 63] (ya4 [xM 64 9,ycj 65 .neq 64] 65 [xI 6 10])) (yad [xI 6 11])))))) c_303_k2⟩
def c_304:AFn:=⟨1,[.tmp 2],ybt [ydb 1,ybd 2] [yb3 3 1,xL 4 3,ycj 5 .eql 4,yce 6,yas 7 6 0 1,ybo 8 6 7,ybe 9 6 .eql 8 3,xW 10 6 9,xM 2 10]⟩
def c_305:AFn:=⟨2,[.tmp 4],ybt [ydh] [yci 5,ycc 6,ybj 7 f_337 5 6,yda 8 .geq 7,ydp 8]⟩
def c_306:AFn:=⟨2,[.tmp 4],yaa [ydb 2,xJ 3 1,yby] (yap [xF 6 2 2,xL 7 6,ydg 7] [ydn 8,xL 9 8,yda 10 .geq 9] (ybw 10 (ybk [ydn 11,xL 12 11,yb4 13 2,xL 14 13,xN 15 14,xB 16 .geq 12 15] 16 [yby] (xR [yb4 17 2,xL 18 17,ydn 19,xL 20 19,xX 21 2 18 20,yb4 22 21,xL 23 22,ydg 23]))) (ydi [ydn 24,xL 25 24,xK 26 .lss 25 (-1),xM 27 26,yc0 28 27 3,ybo 29 27 28,ybe 30 27 .lss 29 0,xW 31 27 30,xM 32 31,yc0 33 32 3,ybo 34 32 33,ya0 35 32 5,ybc 36 32 35,ybv 37 32 .geq 34 36,xW 38 32 37,xM 39 38,ya0 40 39 5,yc0 41 39 3,ybo 42 39 41,yc9 43 39 2 40 42,yc0 44 39 43,ybo 45 39 44,ybe 46 39 .lss 45 1,xW 47 39 46,xM 48 47,ya0 49 48 5,yc0 50 48 3,ybo 51 48 50,yc9 52 48 2 49 51,yc0 53 48 52,ybo 54 48 53,ybe 55 48 .gtr 54 32,xW 56 48 55] 56 [yby] [yce 57,yb4 58 3,xL 59 58,xX 60 2 57 59,yb4 61 60,xL 62 61,ydp 62]))⟩
def c_307_l0:ACode:=yct [xM 7 6,ycc 8,xB 9 .leq 7 8,xM 10 9,ybm 11 10 1,ydm 12 10 f_309 [.t 11],xV 13 10 12] 13 0 1 (ya4 [xM 16 6,ycc 17,ybj 18 f_338 16 17,yci 19,xB 20 .eql 18 19] 20 [xM 21 6,ydp 21,xC 5 yb0]) [xM 14 6,ycj 15 .add 14,xM 6 15]
def c_307_k1:ACode:=yb9 yby (ybd 5)
def c_307:AFn:=⟨2,[.tmp 4,.tmp 5],ybg [yby,ybd 5] [yc2] 0 c_307_l0 c_307_k1⟩
def c_308:AFn:=⟨1,[.tmp 2],ya3 [xC 2 (ycl 0)] [yci 3,yb2 4 f_309 3,ybn 5 4] 5 [xC 2 (ycl 0)] (yad [yci 6,yb2 7 f_310 6,xO 8 (yao .sub 7 (.c (.int .u64 1))),xO 9 (.conv .u32 (.t 8)),xM 2 9])⟩
def c_309:AFn:=⟨1,[.tmp 2],ybt [ybd 2] [yci 3,ycj 4 .geq 3,ydg 4,ybm 6 5 0,ydc 7 5 .leq 6 32,xV 8 5 7,xM 2 8]⟩
def c_310_l0:ACode:=yct [ydg 4,yci 6,xB 7 .lss 5 6] 7 0 1 (xR [ydl 10,xO 11 (.bin .mul (.c (.int .u64 2)) (.t 10)),xM 3 11]) [xM 8 4,ycj 9 .add 8,ydp 9]
def c_310_k1:ACode:=ycm (ydl 12) 2 12
def c_310:AFn:=⟨1,[.tmp 2],ydo [xC 2 (.int .u64 0)] [xC 3 (.int .u64 1)] [yby] 0 c_310_l0 c_310_k1⟩
def c_311_l0:ACode:=ybp [xK 6 .lss 5 32] 6 0 (ya2 1 (yco (yce 7) 4 7 (xR [ydl 8,yci 9,xM 10 4,xB 11 .shr 9 10,xO 12 (yao .and 11 (.c (ycl 1))),xO 13 (.conv .i64 (.t 12)),xB 14 .add 8 13,xM 3 14])) [ycj 15 .add 5,ydg 15])
def c_311_k1:ACode:=ycm (ydl 16) 2 16
def c_311:AFn:=⟨1,[.tmp 2],ydo [yba 2] [yba 3] [ycz] 0 c_311_l0 c_311_k1⟩
def c_312_l0:ACode:=yct [ydg 4,xK 6 .lss 5 32] 6 0 1 (yaa [ydl 9,yci 10,xO 11 (yao .rem 10 (.c (ycl 2))),xO 12 (.conv .i64 (.t 11)),xB 13 .add 9 12,xM 3 13] (xR [yci 14,xO 15 (yao .quo 14 (.c (ycl 2))),xM 0 15])) [xM 7 4,ycj 8 .add 7,ydp 8]
def c_312_k1:ACode:=ycm (ydl 16) 2 16
def c_312:AFn:=⟨1,[.tmp 2],ydo [yba 2] [yba 3] [yby] 0 c_312_l0 c_312_k1⟩
def c_313:AFn:=⟨1,[.tmp 2],ybt [ybd 2] [yci 3,xO 4 (yao .geq 3 (.c (.int .u8 97))),ydg 4,ybm 6 5 0,ybs 7 5 .leq 6 (.c (.int .u8 122)),xV 8 5 7,xM 9 8,ya0 10 9 0,yaz 11 9 .geq 10 (.c (.int .u8 65)),ya0 12 9 11,ybm 13 12 0,ybs 14 12 .leq 13 (.c (.int .u8 90)),yab 15 9 (.pick (.t 12) (.t 14) (.c yan)),xW 16 9 15,xM 2 16]⟩
def c_314_l0:ACode:=ybb [yce 6,yci 7,xO 8 (.slen (.t 7)),xB 9 .lss 6 8,xM 10 9,ybm 11 10 1,ybm 12 10 0,ybm 13 10 5,yaw 14 10 (.idxs (.t 12) (.t 13)),yaw 15 10 (ycy 11 [.t 14]),xV 16 10 15] 16 0 (.block 1 (xR [yce 17,ycj 18 .add 17,ydg 18]))
def c_314_k1:ACode:=ycm (yce 19) 4 19
def c_314:AFn:=⟨2,[.tmp 4],yb5 [yby] [ycz] (yal 0 (.loop c_314_l0) c_314_k1)⟩
def c_315:AFn:=⟨1,[.tmp 2],ybt [ybd 2] [yci 3,yb2 4 f_313 3,ydg 4,ya0 6 5 0,yb7 7 5 f_316 [.t 6],xW 8 5 7,xM 9 8,ya0 10 9 0,yaz 11 9 .eql 10 (.c (.int .u8 95)),xW 12 9 11,xM 2 12]⟩
def c_316:AFn:=⟨1,[.tmp 2],ybt [ybd 2] [yci 3,xO 4 (yao .geq 3 (.c (.int .u8 48))),ydg 4,ybm 6 5 0,ybs 7 5 .leq 6 (.c (.int .u8 57)),xV 8 5 7,xM 2 8]⟩
def c_317:AFn:=⟨2,[.cell 4 true 2],yaa [yax 4 [.str [],ybf]] (ya3 [yax 5 [.str [],ybf]] [ycc 6,yda 7 .lss 6,xM 8 7,ya0 9 8 1,ya0 10 8 0,ybc 11 8 10,ybv 12 8 .geq 9 11,xW 13 8 12] 13 [xA 14 2 5,xS 2 4 14] (yad [yci 15,ycc 16,xX 17 2 15 16,xA 18 2 17,xS 2 4 18]))⟩
def c_318:AFn:=⟨2,[.tmp 4],ya3 [ydb 2,xC 4 (.fslice 2 [])] [ycc 5,xK 6 .eql 5 (-1)] 6 [xF 7 2 2,xL 8 7,ydp 8] (yad [yb4 9 2,xL 10 9,ycc 11,ybj 12 f_339 10 11,xO 13 (.fld false 1 1 (.t 12)),ydp 13])⟩
def c_319:AFn:=⟨2,[.tmp 4],ya3 [xC 4 (ycl 0)] [ycc 5,xO 6 (.bslice .imm 1 (List.replicate 1 [.int .i64 0]) [(0,(.t 5))]),yb2 7 f_248 6,ybn 8 7] 8 [xC 4 (ycl 0)] (yad [ycc 9,yb2 10 f_152 9,ycc 11,yb2 12 f_152 11,yci 13,xO 14 (.minmax true [.t 13,.c (.int .i64 0)]),ycc 15,xO 16 (.minmax false [.t 14,.t 15]),xB 17 .shr 12 16,xB 18 .andNot 10 17,ydp 18])⟩
def c_320:AFn:=⟨2,[.tmp 4,.tmp 5],yaa [ydb 2,xJ 3 1,yby,ybd 5] (yap [xF 7 2 2,xL 8 7,xM 6 8] [ydn 9,xL 10 9,xK 11 .neq 10 (-1)] (ybw 11 (ybk [ydn 12,xL 13 12,yda 14 .lss 13,xM 15 14,yas 16 15 0 3,ybo 17 15 16,yc0 18 15 2,ybo 19 15 18,ybc 20 15 19,ybv 21 15 .geq 17 20,xW 22 15 21] 22 [yby,ybd 5] (xR [yb4 23 2,xL 24 23,ydn 25,xL 26 25,xX 27 2 24 26,yb4 28 27,xL 29 28,xM 6 29]))) (ydi [yb4 30 3,xL 31 30,yda 32 .lss 31,xM 33 32,yc0 34 33 3,ybo 35 33 34,ya0 36 33 6,ybc 37 33 36,ybv 38 33 .geq 35 37,xW 39 33 38] 39 [yby,ybd 5] [xM 40 6,yb4 41 3,xL 42 41,xX 43 2 40 42,yb4 44 43,xL 45 44,ydp 45,xC 5 yb0]))⟩
def c_321:AFn:=⟨3,[.tmp 6],ycn (xJ 4 1) yc2 (ya3 [yci 10,xA 11 10 4,ybj 12 f_322 10 11,xM 9 12,xE 13 0 9,xE 14 1 9,xM 7 13,xM 8 14] [xM 15 8,yda 16 .eql 15,xM 17 16,ybm 18 17 7,ybm 19 17 2,ybs 20 17 .neq 18 (.t 19),xV 21 17 20] 21 [xI 6 10] (ycm (xM 22 8) 6 22))⟩
def c_322:AFn:=⟨2,[.tmp 4,.tmp 5],ya3 [xJ 3 1,yby,ycz] [yci 9,xN 10 9,xK 11 .gtr 10 24] 11 [yby,xI 5 12] (yaa [yci 13,xA 14 10 3,yc6 15 f_340 13 (yaq 0) (.t 14),xM 12 15,xE 16 0 12,xE 17 1 12,xE 18 2 12,xM 6 16,xM 7 17,xM 8 18] (ycx 0 [xM 20 8,yda 21 .neq 20,xM 19 21] 19 [xM 22 8,yby,ydg 22] (ya4 [xM 24 7,yci 25,xN 26 25,xB 27 .lss 24 26,xM 23 27] 23 [yby,xI 5 4]) (yad [xM 28 6,ydp 28,ycz])))⟩
def c_323:AFn:=⟨2,[.tmp 4],yaa [ydb 2,xJ 3 1,yby] (yap [xF 6 2 2,xL 7 6,ydg 7] [ydn 8,xL 9 8,yda 10 .geq 9] (ybw 10 (ybk [ydn 11,xL 12 11,yb4 13 2,xL 14 13,xN 15 14,xB 16 .geq 12 15] 16 [yby] (xR [yb4 17 2,xL 18 17,ydn 19,xL 20 19,xX 21 2 18 20,yb4 22 21,xL 23 22,ydg 23]))) (ydi [ydn 24,xL 25 24,xK 26 .lss 25 (-1),xM 27 26,yc0 28 27 3,ybo 29 27 28,ybe 30 27 .lss 29 0,xW 31 27 30,xM 32 31,yc0 33 32 3,ybo 34 32 33,ya0 35 32 5,ybc 36 32 35,ybv 37 32 .geq 34 36,xW 38 32 37,xM 39 38,ya0 40 39 5,yc0 41 39 3,ybo 42 39 41,yc9 43 39 2 40 42,yc0 44 39 43,ybo 45 39 44,ybe 46 39 .lss 45 1,xW 47 39 46,xM 48 47,ya0 49 48 5,yc0 50 48 3,ybo 51 48 50,yc9 52 48 2 49 51,yc0 53 48 52,ybo 54 48 53,ybe 55 48 .gtr 54 32,xW 56 48 55] 56 [yby] [yce 57,yb4 58 3,xL 59 58,xX 60 2 57 59,yb4 61 60,xL 62 61,ydp 62]))⟩
def c_324_l0:ACode:=ybb [xM 19 8,xF 20 5 6,xL 21 20,xN 22 21,xB 23 .lss 19 22] 23 0 (ycp 1 [xF 26 5 6,xL 27 26,xM 28 8,xX 29 3 27 28,xA 30 3 29,yax 9 [ycl 0,ycl 0,ybf],xS 3 9 30] [9] (ybk [yb3 31 9,xL 32 31,xM 33 7,ybj 34 f_157 32 33,ybn 35 34,xM 36 35,yc0 37 36 9,ybo 38 36 37,ya0 39 36 7,yb7 40 36 f_157 [.t 38,.t 39],ycw 41 36 40,xW 42 36 41] 42 [xM 43 8,ydp 43,xI 5 9] (ybk [yb3 44 9,xL 45 44,yb4 46 9,xL 47 46,xB 48 .and 45 47,yb3 49 9,xL 50 49,xB 51 .neq 48 50] 51 [xM 52 8,ydp 52,xI 5 5] (ya4 [xA 53 9 2,ycc 54,xF 55 2 9,xL 56 55,yc8 57 f_325 53 54 56,ybn 58 57] 58 [xM 59 8,ydp 59,xI 5 14]))) [xM 24 8,ycj 25 .add 24,xM 8 25])
def c_324_k1:ACode:=yb9 (ycb 4) ycz
def c_324:AFn:=⟨2,[.tmp 4,.tmp 5],ya1 [ydb 2,yby,ycz] (xQ [xF 10 6 2,xL 11 10,ycc 12,xX 13 7 11 12,xA 14 7 13,yax 6 [.str [],.fslice 1 [],yan,ybf,ybf,.fslice 3 [],ybf],xS 7 6 14] [6]) (ybg [xA 15 9 2,xF 16 3 6,xA 17 2 16,ybj 18 f_323 15 17,xM 7 18] [yba 8] 0 c_324_l0 c_324_k1)⟩
def c_325:AFn:=⟨3,[.tmp 6],ybt [ydb 3,ybd 6] [xM 7 2,xK 8 .eql 7 (-1),xM 9 8,ya0 10 9 2,ybe 11 9 .eql 10 (-2),xW 12 9 11,xM 13 12,ya0 14 13 2,ya0 15 13 1,ybv 16 13 .gtr 14 15,ya0 17 13 16,ybm 18 17 2,yb6 19 17 6 3,yca 20 17 1 19,yaw 21 17 (ya5 20),ybs 22 17 .lss 18 (.t 21),yab 23 13 (.pick (.t 17) (.t 22) (.c yan)),xW 24 13 23,xM 6 24]⟩
def c_326_l0:ACode:=yc3 [yce 6,ycc 7,xB 8 .lss 6 7] 8 0 1 (xD [yci 11,yce 12,xX 13 5 11 12,xA 14 5 13,yb2 15 f_341 14,xM 16 15,ybm 17 16 0,ybm 18 16 5,yaw 19 16 (ybz 5 17 (.t 18)),yb6 20 16 1 19,yca 21 16 1 20,ybm 22 16 0,ybm 23 16 1,yaw 24 16 (ybz 5 22 (.t 23)),yb6 25 16 1 24,yca 26 16 1 25,ybs 27 16 .eql 21 (.t 26),xV 28 16 27]) (yaj 28 [xC 4 yb0]) [yce 9,ycj 10 .add 9,ydg 10]
def c_326_k1:ACode:=yad [ydh]
def c_326:AFn:=⟨2,[.tmp 4],ybg [ydh] [ycz] 0 c_326_l0 c_326_k1⟩
def c_328_l0:ACode:=ybp [xB 9 .lss 8 7] 9 0 (ya2 1 (yco (xM 10 8) 5 10 (ya4 [ycc 11,yci 12,yce 13,xX 14 1 12 13,xL 15 14,xB 16 .eql 11 15] 16 [yce 17,ydp 17])) [ycj 18 .add 8,xM 8 18])
def c_328_k1:ACode:=yad [ycb 4]
def c_328:AFn:=⟨2,[.tmp 4],ybg [yby] [yci 6,xN 7 6,yba 8] 0 c_328_l0 c_328_k1⟩
def c_329:AFn:=⟨2,[.tmp 4],ybt [ydh] [yci 5,ycc 6,ybj 7 f_342 5 6,yda 8 .geq 7,ydp 8]⟩
def c_330:AFn:=⟨2,[.tmp 3],ybt [ydb 2,ybd 3] [yb3 4 2,xL 5 4,yb3 6 1,xL 7 6,xB 8 .eql 5 7,xM 3 8]⟩
def c_331:AFn:=⟨2,[.tmp 4,.tmp 5],yaa [ydb 2,xJ 3 1,yby,ybd 5] (yap [xF 7 2 2,xL 8 7,xM 6 8] [ydn 9,xL 10 9,xK 11 .neq 10 (-1)] (ybw 11 (ybk [ydn 12,xL 13 12,yda 14 .lss 13,xM 15 14,yas 16 15 0 3,ybo 17 15 16,yc0 18 15 2,ybo 19 15 18,ybc 20 15 19,ybv 21 15 .geq 17 20,xW 22 15 21] 22 [yby,ybd 5] (xR [yb4 23 2,xL 24 23,ydn 25,xL 26 25,xX 27 2 24 26,yb4 28 27,xL 29 28,xM 6 29]))) (ydi [yb4 30 3,xL 31 30,yda 32 .lss 31,xM 33 32,yc0 34 33 3,ybo 35 33 34,ya0 36 33 6,ybc 37 33 36,ybv 38 33 .geq 35 37,xW 39 33 38] 39 [yby,ybd 5] [xM 40 6,yb4 41 3,xL 42 41,xX 43 2 40 42,yb4 44 43,xL 45 44,ydp 45,xC 5 yb0]))⟩
def c_332:AFn:=⟨3,[.tmp 6],ycn (ydb 3) yc2 (ya3 [ycc 10,ydn 11,xA 12 10 11,ybj 13 f_333 10 12,xM 9 13,xE 14 0 9,xE 15 1 9,xM 7 14,xM 8 15] [xM 16 8,yda 17 .eql 16,xM 18 17,ybm 19 18 7,ybm 20 18 2,ybs 21 18 .neq 19 (.t 20),xV 22 18 21] 22 [xI 6 10] (ycm (xM 23 8) 6 23))⟩
def c_333:AFn:=⟨2,[.tmp 4,.tmp 5],ya3 [xJ 3 1,yby,ycz] [yci 7,xN 8 7,xK 9 .gtr 8 24] 9 [yby,xI 5 12] (yaa [xA 11 10 3,yci 12,yc7 13 f_343 11 12 (yaq 0),xM 10 13,xE 14 0 10,xE 15 1 10,xE 16 2 10,ydp 14,xM 6 15,ydg 16] (ycx 0 [yce 18,yda 19 .neq 18,xM 17 19] 17 [yce 20,yby,ydg 20] (ya4 [xM 22 6,yci 23,xN 24 23,xB 25 .lss 22 24,xM 21 25] 21 [yby,xI 5 4]) (yad [xM 26 4,ydp 26,ycz])))⟩
def c_334:AFn:=⟨3,[.tmp 6],ya1 [ydb 3,xJ 5 2,yc2] (xD [xA 8 9 3,xF 9 6 3,xL 10 9,ycc 11,xX 12 7 10 11,xF 13 3 12,xA 14 2 13,ybj 15 f_261 8 14,xM 7 15]) (ycx 0 [yb3 17 5,xL 18 17,xM 19 7,ybj 20 f_262 18 19,ybn 21 20,xM 22 21,yc0 23 22 5,ybo 24 22 23,ya0 25 22 7,yb7 26 22 f_262 [.t 24,.t 25],ycw 27 22 26,xW 28 22 27,xM 16 28] 16 [xI 6 9] (ybl [yb3 30 5,xL 31 30,yb4 32 5,xL 33 32,xB 34 .andNot 31 33,xO 35 (yao .neq 34 (.c (ycl 0))),xM 29 35] 29 [xI 6 5] (ya4 [xA 37 9 3,ycc 38,xF 39 2 5,xL 40 39,yc8 41 f_335 37 38 40,ybn 42 41,xM 36 42] 36 [xI 6 14])) (yad [yc2]))⟩
def c_335:AFn:=⟨3,[.tmp 6],yap [ydb 3,ybd 6] [xM 7 2] (.block 0 (yal 2 (.block 1 (.seq (yae [xK 9 .eql 7 (-1),xM 8 9] (ybw 8 (.exit 1)) (yco (xK 11 .eql 7 (-2)) 10 11 (ybw 10 (.exit 2)))) (.exit 0))) (.seq (yad [xC 6 yb0]) (.exit 0)))) (yad [xM 12 2,ycc 13,xB 14 .gtr 12 13,xM 15 14,ybm 16 15 2,yb6 17 15 6 3,yca 18 15 1 17,yaw 19 15 (ya5 18),ybs 20 15 .lss 16 (.t 19),xV 21 15 20,xM 6 21])⟩
def c_336:AFn:=⟨2,[.tmp 3],ycn (ydb 2) (ybd 3) (ybt [xL 4 1,ycj 5 .add 4,xS 1 1 5] [xC 3 yb0])⟩
def c_337_l0:ACode:=ybp [xB 9 .lss 8 7] 9 0 (ya2 1 (yco (xM 10 8) 5 10 (ya4 [ycc 11,yci 12,yce 13,xX 14 1 12 13,xL 15 14,xB 16 .eql 11 15] 16 [yce 17,ydp 17])) [ycj 18 .add 8,xM 8 18])
def c_337_k1:ACode:=yad [ycb 4]
def c_337:AFn:=⟨2,[.tmp 4],ybg [yby] [yci 6,xN 7 6,yba 8] 0 c_337_l0 c_337_k1⟩
def c_338:AFn:=⟨2,[.tmp 4],ya3 [xC 4 (ycl 0)] [ycc 5,yb2 6 f_309 5,ybn 7 6] 7 [xC 4 (ycl 0)] (ybt [yci 8,xO 9 (.minmax true [.t 8,.c (.int .i64 0)]),ycc 10,xO 11 (.minmax false [.t 9,.t 10]),xM 0 11] [ycc 12,yb2 13 f_310 12,ycc 14,yci 15,xB 16 .sub 14 15,yb2 17 f_310 16,xB 18 .sub 13 17,xO 19 (.conv .u32 (.t 18)),ydp 19])⟩
def c_339:AFn:=⟨2,[.cell 4 true 2],yaa [yax 4 [.str [],.fslice 2 []]] (ya3 [yax 5 [.str [],.fslice 2 []]] [ycc 6,yda 7 .lss 6,xM 8 7,ya0 9 8 1,ya0 10 8 0,ybc 11 8 10,ybv 12 8 .geq 9 11,xW 13 8 12] 13 [xA 14 2 5,xS 2 4 14] (yad [yci 15,ycc 16,xX 17 2 15 16,xA 18 2 17,xS 2 4 18]))⟩
def c_340_l0:ACode:=yct [xM 51 14,xM 52 9,xB 53 .lss 51 52] 53 0 1 (ya3 [yci 57,xM 58 13,xA 59 10 5,yc8 60 f_340 57 58 59,xM 56 60,xE 61 0 56,xE 62 1 56,xE 63 2 56,xM 15 61,xM 16 62,xM 17 63] [xM 64 17,yda 65 .neq 64] 65 [xM 66 16,xM 67 17,yc2,xM 7 66,xM 8 67] (yaa [xM 68 12,xM 69 15,xO 70 (.bslice .imm 1 (List.replicate 1 [.int .i64 0]) [(0,(.t 69))]),ydk 71 1 8 68 70,xM 12 71] (xR [xM 72 16,xM 13 72]))) [xM 54 14,ycj 55 .add 54,xM 14 55]
def c_340_k1:ACode:=ybt [yci 74,ycc 75,xX 76 3 74 75,xA 77 3 76,xM 78 12,ybj 79 f_346 77 78,xM 73 79,xE 80 0 73,xE 81 1 73,xM 18 80,xM 19 81] [xM 82 18,xM 83 13,xM 84 19,xM 6 82,xM 7 83,xM 8 84]
def c_340:AFn:=⟨3,[.tmp 6,.tmp 7,.tmp 8],ya3 [xJ 5 2,yc2,yba 7,yba 8] [ycc 20,yci 21,xN 22 21,xB 23 .geq 20 22] 23 [ycc 24,yc2,xM 7 24,xI 8 3] (ya3 [yci 25,ycc 26,xX 27 3 25 26,yb3 28 27,xL 29 28,yb2 30 f_344 29,xM 9 30] [xM 31 9,yda 32 .lss 31] 32 [ycc 33,yc2,xM 7 33,xI 8 11] (yae [xM 34 9,yda 35 .eql 34] (ybw 35 (ycd [yci 37,ycc 38,xX 39 3 37 38,xA 40 3 39,xA 41 10 5,ybj 42 f_345 40 41,xM 36 42,xE 43 0 36,xE 44 1 36,xM 10 43,xM 11 44] (yad [xM 45 10,ycc 46,ycj 47 .add 46,xM 48 11,xM 6 45,xM 7 47,xM 8 48]))) (ydo [ycs 12 1] [ycc 49,ycj 50 .add 49,xM 13 50] [yba 14] 0 c_340_l0 c_340_k1)))⟩
def c_341:AFn:=⟨1,[.tmp 2],ybt [ydb 1,ybd 2] [yb3 3 1,xL 4 3,ycj 5 .eql 4,yce 6,yas 7 6 0 1,ybo 8 6 7,ybe 9 6 .eql 8 3,xW 10 6 9,xM 2 10]⟩
def c_342_l0:ACode:=ybp [xB 9 .lss 8 7] 9 0 (ya2 1 (yco (xM 10 8) 5 10 (ya4 [ycc 11,yci 12,yce 13,xX 14 2 12 13,xA 15 2 14,xO 16 (ycy 11 [.t 15])] 16 [yce 17,ydp 17])) [ycj 18 .add 8,xM 8 18])
def c_342_k1:ACode:=yad [ycb 4]
def c_342:AFn:=⟨2,[.tmp 4],ybg [yby] [yci 6,xN 7 6,yba 8] 0 c_342_l0 c_342_k1⟩
def c_343_l0:ACode:=ybp [xB 45 .lss 44 43] 45 1 (ya2 2 (yb5 [xM 46 44,xM 11 46] [xM 48 11,xA 49 10 3,ycc 50,xM 51 7,yc8 52 f_343 49 50 51,xM 47 52,xE 53 0 47,xE 54 1 47,xE 55 2 47,xO 56 (ya8 1 (some 3) 10 (.t 48)),xS 1 56 53,xM 7 54,xM 8 55] (ya4 [xM 57 8,yda 58 .neq 57] 58 [xM 59 8,yc2,yba 7,xM 8 59])) [ycj 60 .add 44,xM 44 60])
def c_343_k1:ACode:=ycd [ycc 62,xM 63 2,xX 64 3 62 63,xA 65 3 64,xA 66 3 10,ybj 67 f_349 65 66,xM 61 67,xE 68 0 61,xE 69 1 61,xM 6 68,xM 8 69] (yad [xM 70 6,xM 71 7,xM 72 8,xM 6 70,xM 7 71,xM 8 72])
def c_343:AFn:=⟨3,[.tmp 6,.tmp 7,.tmp 8],ya3 [ydb 3,yc2,yba 7,yba 8] [xM 12 2,ycc 13,xN 14 13,xB 15 .geq 12 14] 15 [yc2,yba 7,xI 8 3] (yaa [ycc 16,xM 17 2,xX 18 3 16 17,yb3 19 18,xL 20 19,yb2 21 f_347 20,xM 9 21] (ycx 0 [xM 23 9,yda 24 .lss 23,xM 22 24] 22 [yc2,yba 7,xI 8 11] (yaa [xM 26 9,yda 27 .eql 26,xM 25 27] (ybw 25 (ycd [xA 29 10 3,ycc 30,xM 31 2,xX 32 3 30 31,xA 33 3 32,ybj 34 f_348 29 33,xM 28 34,xE 35 0 28,xE 36 1 28,xM 6 35,xM 8 36] (yad [xM 37 6,xM 38 2,ycj 39 .add 38,xM 40 8,xM 6 37,xM 7 39,xM 8 40])))) (ydo [yax 10 [ybf,ybf,ybf]] [xM 41 2,ycj 42 .add 41,xM 7 42] [xM 43 9,yba 44] 1 c_343_l0 c_343_k1)))⟩
def c_344:AFn:=⟨1,[.tmp 2],yaa [yba 2] (ycx 0 [yci 4,ycj 5 .geq 4,yce 6,ybm 7 6 0,ydc 8 6 .leq 7 4,xV 9 6 8,xM 3 9] 3 [yba 2] (ybl [yci 11,xK 12 .geq 11 5,xM 13 12,ybm 14 13 0,ydc 15 13 .leq 14 8,xV 16 13 15,xM 10 16] 10 [xI 2 1] (ybl [yci 18,xK 19 .geq 18 9,xM 20 19,ybm 21 20 0,ydc 22 20 .leq 21 16,xV 23 20 22,xM 17 23] 17 [xI 2 2] (ya4 [yci 25,xK 26 .eql 25 17,xM 24 26] 24 [xI 2 3]))) (yad [ycb 2]))⟩
def c_345:AFn:=⟨2,[.tmp 4,.tmp 5],yap [ydb 2,xJ 3 1,yby,ycz] [yb3 10 2,xL 11 10] (.block 0 (yco (ycj 13 .eql 11) 12 13 (yac 12 (ya1 [xF 15 2 2,xL 16 15,yb2 17 f_350 16,xM 14 17,xE 18 0 14,xE 19 1 14,xM 6 18,xM 7 19] (ycd [xM 20 7,yda 21 .eql 20,xM 22 21,yb6 23 22 1 2,yca 24 22 1 23,ydc 25 22 .lss 24 0,ybm 26 22 25,yc0 27 26 2,ybo 28 26 27,ya0 29 26 6,yb7 30 26 f_308 [.t 29],yab 31 26 (.conv .i64 (.t 30)),ybv 32 26 .gtr 28 31,yaw 33 22 (.pick (.t 26) (.c yb0) (.t 32)),xV 34 22 33] (yaj 34 [yby,xI 5 9])) (yad [xM 35 6,xM 36 7,ydp 35,ydg 36])) (yco (xK 38 .eql 11 2) 37 38 (yac 37 (ya3 [ydn 40,xA 41 9 40,yb4 42 2,xL 43 42,xF 44 2 2,xL 45 44,xO 46 (.build [.int .i64 0,.int .i64 0] [(0,1,(.t 43)),(1,1,(.t 45))]),ybj 47 f_320 41 46,xM 39 47,xE 48 0 39,xE 49 1 39,xM 8 48,xM 9 49] [xM 50 9,ybn 51 50] 51 [yby,xI 5 8] (yad [xM 52 8,yb2 53 f_350 52,xE 54 0 53,xE 55 1 53,ydp 54,ydg 55])) (yco (xK 57 .eql 11 3) 56 57 (ybw 56 (ydi [yb4 58 2,xL 59 58,yda 60 .lss 59,xM 61 60,yc0 62 61 2,ybo 63 61 62,yas 64 61 9 3,ybo 65 61 64,ybc 66 61 65,ybv 67 61 .geq 63 66,xW 68 61 67] 68 [yby,xI 5 8] [xF 69 9 3,xL 70 69,yb4 71 2,xL 72 71,xX 73 2 70 72,yb4 74 73,xL 75 74,yb2 76 f_350 75,xE 77 0 76,xE 78 1 76,ydp 77,ydg 78])))))))) (ybk [yb4 79 2,xL 80 79,yda 81 .lss 80,xM 82 81,yc0 83 82 2,ybo 84 82 83,yas 85 82 0 3,yc0 86 82 85,ybo 87 82 86,ybc 88 82 87,ybv 89 82 .geq 84 88,xW 90 82 89] 90 [yby,xI 5 8] (yb9 (xI 4 1) ycz))⟩
def c_346:AFn:=⟨2,[.tmp 4,.tmp 5],yap [ydb 2,yby,ycz] [yb3 6 2,xL 7 6] (.block 0 (ybl [xK 9 .eql 7 5,xM 8 9] 8 [ycc 10,xO 11 (ybz 1 10 (yaq 0)),xL 12 11,ydp 12,ycz] (yae [xK 14 .eql 7 6,xM 13 14] (yde 13 (xR [xK 15 .eql 7 7,xM 13 15])) (yac 13 (ydi [yb4 16 2,xL 17 16,yda 18 .lss 17,xM 19 18,yc0 20 19 2,ybo 21 19 20,ybe 22 19 .gtr 21 31,xW 23 19 22] 23 [yby,xI 5 9] [ycc 24,xO 25 (ybz 1 24 (yaq 0)),xL 26 25,ydp 26,ycz]) (yco (xK 28 .eql 7 8) 27 28 (yac 27 (ycx 1 [yb4 30 2,xL 31 30,yda 32 .lss 31,xM 29 32] 29 [yby,xI 5 9] (ycd [xF 34 2 2,xL 35 34,ycj 36 .lss 35,xM 37 36,yas 38 37 2 2,ybo 39 37 38,ybe 40 37 .gtr 39 32,xW 41 37 40,xM 42 41,yc0 43 42 2,ybo 44 42 43,ya0 45 42 1,yck 46 42 1 45 (yaq 0),ybo 47 42 46,yas 48 42 2 2,ybo 49 42 48,ybv 50 42 .sub 47 49,ybv 51 42 .gtr 44 50,xW 52 42 51,xM 33 52] (yaj 33 [yby,xI 5 10])) (yad [xF 53 2 2,xL 54 53,ydp 54,ycz])) (yco (xK 56 .eql 7 14) 55 56 (yac 55 (ycd [ycc 57,xO 58 (ybz 1 57 (yaq 0)),xL 59 58,ycc 60,xO 61 (ybz 1 60 (yaq 1)),xL 62 61,xB 63 .add 59 62,yb2 64 f_350 63,xE 65 0 64,xE 66 1 64,ydp 65,ydg 66] .ret) (yco (xK 68 .eql 7 17) 67 68 (ybw 67 (.seq (ycd [ycc 69,xO 70 (ybz 1 69 (yaq 0)),xL 71 70,ycj 72 .neq 71,xM 73 72,ya0 74 73 1,yck 75 73 1 74 (yaq 1),ybo 76 73 75,ya0 77 73 1,yck 78 73 1 77 (yaq 2),ybo 79 73 78,ybv 80 73 .neq 76 79,xW 81 73 80] (yaj 81 [yby,xI 5 10])) (yad [ycc 82,xO 83 (ybz 1 82 (yaq 1)),xL 84 83,ydp 84,ycz])))))))))))) (yal 2 (ycd [ycc 86,xO 87 (ybz 1 86 (yaq 0)),xL 88 87,ycc 89,xO 90 (ybz 1 89 (yaq 1)),xL 91 90,xB 92 .neq 88 91,xM 85 92] (yah 85 [yby,xI 5 10] (ya4 [yb3 94 2,xL 95 94,xK 96 .eql 95 15,xM 97 96,yas 98 97 0 2,ybo 99 97 98,ybe 100 97 .eql 99 16,xW 101 97 100,xM 93 101] 93 [xI 4 1,ycz]))) (yad [ycc 102,xO 103 (ybz 1 102 (yaq 0)),xL 104 103,ydp 104,ycz]))⟩
def c_347:AFn:=⟨1,[.tmp 2],yap [yba 2] [yci 3] (.block 0 (yae [ycj 5 .eql 3,yce 4] (yde 4 (yco (xK 6 .eql 3 2) 4 6 (yde 4 (yco (xK 7 .eql 3 3) 4 7 (yde 4 (xR [xK 8 .eql 3 4,ydp 8])))))) (yah 4 [yba 2] (yae [xK 10 .eql 3 5,xM 9 10] (yde 9 (yco (xK 11 .eql 3 6) 9 11 (yde 9 (yco (xK 12 .eql 3 7) 9 12 (yde 9 (xR [xK 13 .eql 3 8,xM 9 13])))))) (yah 9 [xI 2 1] (yae [xK 15 .eql 3 9,xM 14 15] (yde 14 (yco (xK 16 .eql 3 10) 14 16 (yde 14 (yco (xK 17 .eql 3 11) 14 17 (yde 14 (yco (xK 18 .eql 3 12) 14 18 (yde 14 (yco (xK 19 .eql 3 13) 14 19 (yde 14 (yco (xK 20 .eql 3 14) 14 20 (yde 14 (yco (xK 21 .eql 3 15) 14 21 (yde 14 (xR [xK 22 .eql 3 16,xM 14 22])))))))))))))) (yah 14 [xI 2 2] (ya4 [xK 24 .eql 3 17,xM 23 24] 23 [xI 2 3])))))))) (yad [ycb 2])⟩
def c_348:AFn:=⟨2,[.tmp 4,.tmp 5],yap [ydb 2,xJ 3 1,yby,ycz] [ydn 10,xL 11 10] (.block 0 (yco (ycj 13 .eql 11) 12 13 (yac 12 (ya1 [xF 15 2 3,xL 16 15,yb2 17 f_351 16,xM 14 17,xE 18 0 14,xE 19 1 14,xM 6 18,xM 7 19] (ycd [xM 20 7,yda 21 .eql 20,xM 22 21,yb6 23 22 1 3,yca 24 22 1 23,ydc 25 22 .lss 24 0,ybm 26 22 25,yc0 27 26 3,ybo 28 26 27,ya0 29 26 6,yb7 30 26 f_152 [.t 29],yab 31 26 (.conv .i64 (.t 30)),ybv 32 26 .gtr 28 31,yaw 33 22 (.pick (.t 26) (.c yb0) (.t 32)),xV 34 22 33] (yaj 34 [yby,xI 5 9])) (yad [xM 35 6,xM 36 7,ydp 35,ydg 36])) (yco (xK 38 .eql 11 2) 37 38 (yac 37 (.seq (xQ [xA 40 10 2,yb4 41 3,xL 42 41,xF 43 2 3,xL 44 43,yc8 45 f_352 40 42 44,xM 39 45,xE 46 0 39,xE 47 1 39,yax 8 [.str [],ybf],xS 2 8 46,xM 9 47] [8]) (ydi [xM 48 9,ybn 49 48] 49 [yby,xI 5 8] [yb4 50 8,xL 51 50,yb2 52 f_351 51,xE 53 0 52,xE 54 1 52,ydp 53,ydg 54])) (yco (xK 56 .eql 11 3) 55 56 (ybw 55 (ydi [yb4 57 3,xL 58 57,yda 59 .lss 58,xM 60 59,yc0 61 60 3,ybo 62 60 61,yas 63 60 9 2,ybo 64 60 63,ybc 65 60 64,ybv 66 60 .geq 62 65,xW 67 60 66] 67 [yby,xI 5 8] [xF 68 9 2,xL 69 68,yb4 70 3,xL 71 70,xX 72 2 69 71,yb4 73 72,xL 74 73,yb2 75 f_351 74,xE 76 0 75,xE 77 1 75,ydp 76,ydg 77])))))))) (ybk [yb4 78 3,xL 79 78,yda 80 .lss 79,xM 81 80,yc0 82 81 3,ybo 83 81 82,yas 84 81 0 2,yc0 85 81 84,ybo 86 81 85,ybc 87 81 86,ybv 88 81 .geq 83 87,xW 89 81 88] 89 [yby,xI 5 8] (yb9 (xI 4 1) ycz))⟩
def c_349:AFn:=⟨2,[.tmp 4,.tmp 5],yap [ydb 2,xJ 3 1,yby,ycz] [yb3 8 2,xL 9 8] (.block 0 (yae [xK 11 .eql 9 6,xM 10 11] (yde 10 (xR [xK 12 .eql 9 7,xM 10 12])) (yac 10 (ya4 [yb4 13 2,xL 14 13,yda 15 .lss 14,xM 16 15,yc0 17 16 2,ybo 18 16 17,ybe 19 16 .gtr 18 31,xW 20 16 19] 20 [yby,xI 5 9]) (yco (xK 22 .eql 9 8) 21 22 (yac 21 (ybk [yb4 23 2,xL 24 23,yda 25 .lss 24] 25 [yby,xI 5 9] (yae [xF 27 2 2,xL 28 27,yb2 29 f_351 28,xM 26 29,xE 30 0 26,xE 31 1 26,xM 6 30,xM 7 31] (ya4 [xM 32 7,yda 33 .neq 32,xM 34 33,yc0 35 34 2,ybo 36 34 35,yab 37 34 (ya8 1 (some 3) 3 (yaq 0)),ybo 38 34 37,yas 39 34 2 2,ybo 40 34 39,ybv 41 34 .sub 38 40,ybv 42 34 .gtr 36 41,xW 43 34 42] 43 [yby,xI 5 10]) (yad [xF 44 2 2,xL 45 44,ydp 45,ycz]))) (ybl [xK 47 .eql 9 14,xM 46 47] 46 [xO 48 (ya8 1 (some 3) 3 (yaq 0)),xL 49 48,xO 50 (ya8 1 (some 3) 3 (yaq 1)),xL 51 50,xB 52 .add 49 51,yb2 53 f_351 52,xE 54 0 53,xE 55 1 53,ydp 54,ydg 55] (yco (xK 57 .eql 9 17) 56 57 (ybw 56 (ydi [xO 58 (ya8 1 (some 3) 3 (yaq 0)),xL 59 58,ycj 60 .neq 59,xM 61 60,yab 62 61 (ya8 1 (some 3) 3 (yaq 1)),ybo 63 61 62,yab 64 61 (ya8 1 (some 3) 3 (yaq 2)),ybo 65 61 64,ybv 66 61 .neq 63 65,xW 67 61 66] 67 [yby,xI 5 10] [xO 68 (ya8 1 (some 3) 3 (yaq 1)),xL 69 68,ydp 69,ycz]))))))))) (ybk [yb3 70 2,xL 71 70,yb2 72 f_347 71,xK 73 .eql 72 2,xM 74 73,yaw 75 74 (ya8 1 (some 3) 3 (yaq 0)),yca 76 74 1 75,yaw 77 74 (ya8 1 (some 3) 3 (yaq 1)),yca 78 74 1 77,ybs 79 74 .neq 76 (.t 78),xV 80 74 79] 80 [yby,xI 5 10] (ydi [yb3 81 2,xL 82 81,xK 83 .eql 82 15,xM 84 83,yas 85 84 0 2,ybo 86 84 85,ybe 87 84 .eql 86 16,xW 88 84 87] 88 [xI 4 1,ycz] [xO 89 (ya8 1 (some 3) 3 (yaq 0)),xL 90 89,ydp 90,ycz]))⟩
def c_350:AFn:=⟨1,[.tmp 2,.tmp 3],ya3 [yba 2,yba 3] [yci 4,ycj 5 .lss 4,yce 6,ya0 7 6 0,ybe 8 6 .gtr 7 32,xW 9 6 8] 9 [yba 2,xI 3 10] (yad [yci 10,xM 2 10,yba 3])⟩
def c_351:AFn:=⟨1,[.tmp 2,.tmp 3],ya3 [yba 2,yba 3] [yci 4,ycj 5 .lss 4,yce 6,ya0 7 6 0,ybe 8 6 .gtr 7 32,xW 9 6 8] 9 [yba 2,xI 3 10] (yad [yci 10,xM 2 10,yba 3])⟩
def c_352:AFn:=⟨3,[.cell 6 true 2,.tmp 7],yaa [ydb 3,yax 6 [.str [],ybf],ybd 7] (yap [ydn 9,xF 10 2 9,xL 11 10,xM 8 11] [ycc 12,xK 13 .neq 12 (-1)] (ybw 13 (ybk [ycc 14,yda 15 .lss 14,xM 16 15,ya0 17 16 1,yas 18 16 0 3,yc0 19 16 18,ybo 20 16 19,ybc 21 16 20,ybv 22 16 .geq 17 21,xW 23 16 22] 23 [xO 24 (.build [.str [],.int .i64 0] []),xS 2 6 24,ybd 7] (xR [ydn 25,yb4 26 25,xL 27 26,ycc 28,xX 29 2 27 28,yb4 30 29,xL 31 30,xM 8 31]))) (ydi [xM 32 2,yda 33 .lss 32,xM 34 33,ya0 35 34 2,ya0 36 34 8,ybc 37 34 36,ybv 38 34 .geq 35 37,xW 39 34 38] 39 [xO 40 (.build [.str [],.int .i64 0] []),xS 2 6 40,ybd 7] [xM 41 8,xM 42 2,xX 43 2 41 42,xA 44 2 43,xS 2 6 44,xC 7 yb0]))⟩
def tabL:List (Nat×AFn):=[(f_4,c_4),
  (f_5,c_5),
  (f_6,c_6),
  (f_15,c_15),
  (f_17,c_17),
  (f_18,c_18),
  (f_19,c_19),
  (f_20,c_20),
  (f_24,c_24),
  (f_25,c_25),
  (f_26,c_26),
  (f_27,c_27),
  (f_28,c_28),
  (f_29,c_29),
  (f_30,c_30),
  (f_31,c_31),
  (f_32,c_32),
  (f_33,c_33),
  (f_34,c_34),
  (f_35,c_35),
  (f_36,c_36),
  (f_50,c_50),
  (f_55,c_55),
  (f_60,c_60),
  (f_64,c_64),
  (f_65,c_65),
  (f_66,c_66),
  (f_67,c_67),
  (f_68,c_68),
  (f_69,c_69),
  (f_70,c_70),
  (f_71,c_71),
  (f_72,c_72),
  (f_74,c_74),
  (f_76,c_76),
  (f_77,c_77),
  (f_78,c_78),
  (f_79,c_79),
  (f_80,c_80),
  (f_81,c_81),
  (f_82,c_82),
  (f_83,c_83),
  (f_84,c_84),
  (f_85,c_85),
  (f_86,c_86),
  (f_87,c_87),
  (f_88,c_88),
  (f_89,c_89),
  (f_90,c_90),
  (f_91,c_91),
  (f_92,c_92),
  (f_93,c_93),
  (f_94,c_94),
  (f_125,c_125),
  (f_126,c_126),
  (f_127,c_127),
  (f_128,c_128),
  (f_129,c_129),
  (f_130,c_130),
  (f_131,c_131),
  (f_139,c_139),
  (f_142,c_142),
  (f_143,c_143),
  (f_145,c_145),
  (f_146,c_146),
  (f_147,c_147),
  (f_148,c_148),
  (f_149,c_149),
  (f_150,c_150),
  (f_151,c_151),
  (f_152,c_152),
  (f_153,c_153),
  (f_154,c_154),
  (f_155,c_155),
  (f_156,c_156),
  (f_157,c_157),
  (f_158,c_158),
  (f_159,c_159),
  (f_160,c_160),
  (f_163,c_163),
  (f_164,c_164),
  (f_165,c_165),
  (f_166,c_166),
  (f_167,c_167),
  (f_168,c_168),
  (f_169,c_169),
  (f_170,c_170),
  (f_171,c_171),
  (f_172,c_172),
  (f_173,c_173),
  (f_174,c_174),
  (f_175,c_175),
  (f_176,c_176),
  (f_177,c_177),
  (f_178,c_178),
  (f_179,c_179),
  (f_180,c_180),
  (f_181,c_181),
  (f_194,c_194),
  (f_195,c_195),
  (f_196,c_196),
  (f_197,c_197),
  (f_198,c_198),
  (f_199,c_199),
  (f_200,c_200),
  (f_201,c_201),
  (f_202,c_202),
  (f_203,c_203),
  (f_212,c_212),
  (f_213,c_213),
  (f_216,c_216),
  (f_217,c_217),
  (f_218,c_218),
  (f_219,c_219),
  (f_220,c_220),
  (f_221,c_221),
  (f_222,c_222),
  (f_223,c_223),
  (f_227,c_227),
  (f_228,c_228),
  (f_229,c_229),
  (f_230,c_230),
  (f_231,c_231),
  (f_232,c_232),
  (f_233,c_233),
  (f_234,c_234),
  (f_235,c_235),
  (f_236,c_236),
  (f_237,c_237),
  (f_238,c_238),
  (f_239,c_239),
  (f_240,c_240),
  (f_241,c_241),
  (f_242,c_242),
  (f_243,c_243),
  (f_244,c_244),
  (f_245,c_245),
  (f_246,c_246),
  (f_247,c_247),
  (f_248,c_248),
  (f_249,c_249),
  (f_250,c_250),
  (f_251,c_251),
  (f_252,c_252),
  (f_253,c_253),
  (f_254,c_254),
  (f_255,c_255),
  (f_256,c_256),
  (f_257,c_257),
  (f_258,c_258),
  (f_259,c_259),
  (f_260,c_260),
  (f_261,c_261),
  (f_262,c_262),
  (f_263,c_263),
  (f_267,c_267),
  (f_268,c_268),
  (f_269,c_269),
  (f_270,c_270),
  (f_271,c_271),
  (f_272,c_272),
  (f_273,c_273),
  (f_274,c_274),
  (f_275,c_275),
  (f_276,c_276),
  (f_277,c_277),
  (f_278,c_278),
  (f_279,c_279),
  (f_287,c_287),
  (f_288,c_288),
  (f_293,c_293),
  (f_294,c_294),
  (f_295,c_295),
  (f_296,c_296),
  (f_297,c_297),
  (f_298,c_298),
  (f_299,c_299),
  (f_300,c_300),
  (f_301,c_301),
  (f_302,c_302),
  (f_303,c_303),
  (f_304,c_304),
  (f_305,c_305),
  (f_306,c_306),
  (f_307,c_307),
  (f_308,c_308),
  (f_309,c_309),
  (f_310,c_310),
  (f_311,c_311),
  (f_312,c_312),
  (f_313,c_313),
  (f_314,c_314),
  (f_315,c_315),
  (f_316,c_316),
  (f_317,c_317),
  (f_318,c_318),
  (f_319,c_319),
  (f_320,c_320),
  (f_321,c_321),
  (f_322,c_322),
  (f_323,c_323),
  (f_324,c_324),
  (f_325,c_325),
  (f_326,c_326),
  (f_328,c_328),
  (f_329,c_329),
  (f_330,c_330),
  (f_331,c_331),
  (f_332,c_332),
  (f_333,c_333),
  (f_334,c_334),
  (f_335,c_335),
  (f_336,c_336),
  (f_337,c_337),
  (f_338,c_338),
  (f_339,c_339),
  (f_340,c_340),
  (f_341,c_341),
  (f_342,c_342),
  (f_343,c_343),
  (f_344,c_344),
  (f_345,c_345),
  (f_346,c_346),
  (f_347,c_347),
  (f_348,c_348),
  (f_349,c_349),
  (f_350,c_350),
  (f_351,c_351),
  (f_352,c_352)]
def tabD:List (Nat×ADFn):=[(f_63,c_63)]
def tabC:List CloneD:=[⟨f_161,1,4,.app⟩,⟨f_162,1,8,.row⟩,⟨f_182,2,8,.app⟩,⟨f_214,2,24,.app⟩,⟨f_215,3,32,.app⟩,⟨f_226,1,1,.app⟩,⟨f_289,3,24,.app⟩,⟨f_290,3,16,.app⟩,⟨f_291,3,24,.app⟩]
def nilL:List (Nat×Nat):=[(f_41,9),(f_51,9),(f_52,13),(f_52,17),(f_53,13),(f_53,14),(f_75,3),(f_77,13),(f_79,11),(f_101,8),(f_107,10),(f_137,6),(f_176,5),(f_188,5),(f_212,5),(f_216,5),(f_218,5),(f_220,5),(f_222,5),(f_230,5),(f_234,5),(f_237,5),(f_240,5),(f_243,5),(f_249,5),(f_278,3),(f_287,5),(f_294,3),(f_340,12)]
def thr:List Nat:=[f_18,f_23,f_24,f_26,f_28,f_29,f_32,f_33,f_34,f_35,f_36,f_51,f_57,f_58,f_66,f_76,f_81,f_82,f_88,f_91,f_93,f_94,f_117,f_118,f_133,f_134,f_135,f_136,f_141,f_205,f_207,f_208,f_209,f_211,f_281,f_282,f_285,f_286,f_292,f_301,f_327]
def thrAt:List (Nat×Nat):=[(f_140,f_226),(f_58,f_140),(f_206,f_280),(f_29,f_83),(f_83,f_168),(f_169,f_168),(f_39,f_40),(f_76,f_162),(f_39,f_21)]
def thrV:List Nat:=[f_292,f_186,f_40,f_301]
def rowAt:List (Nat×Nat):=[(f_33,112),(f_78,48),(f_80,41),(f_53,42),(f_162,7)]
def thrVAt:List (Nat×Nat):=[]
def rowF:List Nat:=[f_76,f_21]
def rowFB:List Nat:=[]
def appAt:List (Nat×Nat):=[(f_21,32),(f_76,70)]
def immAt:List (Nat×Nat):=[(f_75,27)]
def slcHL:List Nat:=[f_93]
def browAt:List (Nat×Nat):=[(f_76,39)]
def boxiAt:List (Nat×Nat):=[(f_66,2),(f_18,2),(f_18,3),(f_23,1),(f_21,1)]
def takeAt:List (Nat×Nat):=[(f_78,65)]
def boxiL:List (Nat×List Nat):=[(3,[2,3]),(4,[1]),(5,[1]),(6,[1]),(7,[3,4,5]),(8,[3,4,5]),(9,[3,4,5]),(10,[3,4,5]),(11,[3,4]),(12,[3,4]),(13,[3,4]),(14,[2]),(17,[2,3]),(19,[2,3]),(22,[1]),(27,[3,4,5]),(30,[4,5]),(37,[2,3]),(41,[3,4,5]),(44,[3,4]),(46,[2]),(48,[3,4]),(52,[3,4]),(53,[3,4]),(54,[1]),(55,[1]),(64,[5,9]),(65,[2]),(67,[4]),(68,[3,5]),(69,[2]),(73,[1]),(74,[1]),(75,[1]),(77,[4,5,7]),(78,[5,6,9]),(79,[4,5]),(80,[4,5,7]),(84,[4]),(86,[3,5]),(90,[1]),(92,[3,5]),(95,[1]),(103,[2,3]),(107,[4,5]),(109,[3,4]),(120,[3]),(122,[1]),(123,[1]),(124,[1]),(125,[1]),(126,[1]),(127,[1]),(128,[1]),(129,[1]),(130,[1]),(131,[1]),(139,[1]),(145,[1]),(146,[1]),(147,[1]),(148,[1]),(149,[1]),(150,[2]),(153,[3,5]),(154,[3]),(155,[3]),(156,[2,3]),(158,[1]),(160,[1]),(163,[1]),(164,[4]),(166,[2]),(167,[2]),(169,[5]),(170,[5]),(171,[4,6,7]),(173,[2]),(174,[4,6,7]),(175,[2]),(176,[2]),(177,[3]),(178,[2]),(179,[3]),(180,[2,3]),(184,[1]),(186,[1]),(190,[3,4,5]),(196,[1]),(198,[1]),(199,[2]),(200,[2]),(201,[1]),(202,[1]),(203,[1]),(231,[1]),(232,[1]),(235,[1]),(238,[1]),(239,[1]),(241,[1]),(242,[2]),(244,[1]),(245,[1]),(246,[1]),(247,[1]),(249,[2]),(250,[3]),(251,[2]),(252,[2]),(255,[3,5]),(256,[3,5]),(258,[2,3]),(259,[2,3]),(260,[2]),(261,[2,3]),(266,[5]),(269,[2]),(271,[3,4,5]),(272,[2]),(273,[2,3]),(274,[2,3]),(275,[2]),(279,[3]),(294,[1]),(296,[1]),(297,[2,3]),(298,[2]),(302,[5]),(303,[3,4]),(304,[1]),(306,[2,3]),(318,[2]),(320,[2,3]),(321,[4]),(322,[3]),(323,[2,3]),(324,[2]),(325,[3]),(330,[2]),(331,[2,3]),(332,[3]),(333,[3]),(334,[3,5]),(335,[3]),(336,[2]),(340,[5]),(341,[1]),(343,[3]),(345,[2,3]),(346,[2]),(348,[2,3]),(349,[2,3]),(352,[3])]
def keepL:List (Nat×List (Nat×List Nat)):=[(4,[(10,[6]),(11,[7]),(16,[12]),(17,[14])]),(5,[(14,[7])]),(6,[(9,[5])]),(8,[(3,[7])]),(10,[(6,[9])]),(11,[(3,[7]),(4,[11]),(5,[15])]),(16,[(9,[12]),(10,[14])]),(17,[(1,[5])]),(21,[(4,[5])]),(23,[(1,[4])]),(27,[(5,[9]),(8,[11]),(11,[13])]),(40,[(10,[11]),(17,[18]),(30,[22])]),(44,[(1,[10])]),(49,[(1,[1]),(2,[2]),(3,[3]),(4,[7])]),(52,[(1,[8]),(10,[15]),(20,[20]),(30,[25])]),(53,[(1,[8]),(4,[11]),(11,[16]),(29,[18])]),(56,[(1,[1]),(5,[4])]),(59,[(2,[6])]),(64,[(6,[13]),(15,[15])]),(73,[(4,[5])]),(76,[(8,[8]),(15,[10])]),(83,[(3,[10]),(4,[11])]),(86,[(9,[12])]),(94,[(3,[5])]),(95,[(21,[7])]),(98,[(1,[1])]),(101,[(4,[7]),(11,[11])]),(106,[(4,[7])]),(109,[(10,[12])]),(113,[(1,[1])]),(118,[(5,[9])]),(146,[(4,[4])]),(147,[(5,[4]),(12,[6])]),(148,[(4,[4])]),(167,[(5,[6])]),(168,[(3,[7])]),(169,[(3,[7])]),(175,[(3,[6])]),(176,[(6,[7])]),(178,[(6,[7])]),(186,[(6,[6])]),(190,[(5,[9]),(8,[11]),(11,[13])]),(196,[(11,[5])]),(199,[(3,[6])]),(200,[(3,[6])]),(212,[(4,[7])]),(216,[(4,[7])]),(218,[(4,[7])]),(220,[(4,[7])]),(222,[(4,[7])]),(230,[(4,[7])]),(232,[(9,[4])]),(234,[(4,[7])]),(237,[(4,[7])]),(240,[(4,[7])]),(242,[(3,[6]),(7,[7]),(10,[9])]),(243,[(4,[7])]),(245,[(8,[7])]),(255,[(5,[8])]),(258,[(4,[9])]),(275,[(1,[6])]),(279,[(1,[7])]),(287,[(4,[7])]),(294,[(4,[5])]),(296,[(7,[4])]),(297,[(1,[5])]),(298,[(1,[6]),(16,[10])]),(300,[(6,[5])]),(301,[(3,[6])]),(324,[(1,[6]),(6,[9])]),(348,[(8,[8])])]
def qais:List (Nat×List Nat):=[(145,[1,2,3,4,5]),(146,[5,6,7]),(147,[1,6,7,8,13]),(148,[5,6,13,14,21,22]),(149,[2,4,6]),(151,[2]),(227,[1])]
def ann:Ann:=
  { pure:=fun fn f _=> !(qb6 f thr)&& !(thrAt.any fun p=>p.1 == fn&&p.2 == f)
    purev:=fun fn d=> !(qb6 fn thrV)&& !(match d with | some t=>thrVAt.any (fun q=>q.1 == fn&&q.2 == t) | none=>false),bmode:=fun fn d=>if qb6 fn rowFB || (match d with | some t=>browAt.any (fun q=>q.1 == fn&&q.2 == t) | none=>false) then .row else .imm,smode:=fun fn d=>match d with | some t=>if immAt.any (fun q=>q.1 == fn&&q.2 == t) then .imm else .row | none=> .row,amode:=fun fn d=>match d with | some t=>if rowAt.any (fun q=>q.1 == fn&&q.2 == t) || (qb6 fn rowF&& !(appAt.any fun q=>q.1 == fn&&q.2 == t)) then .row else .app | none=> .app
    nilapp:=fun fn d=>match d with | some t=>nilL.any (fun q=>q.1 == fn&&q.2 == t) | none=>false
    slch:=fun fn d=>(qb6 fn slcHL&&(match d with | some t=>t == 13 || t == 31 | none=>false)) || (match d with | some t=>takeAt.any (fun q=>q.1 == fn&&q.2 == t) | none=>false)
    boxi:=fun fn d=>match d with | some t=>boxiAt.any (fun q=>q.1 == fn&&q.2 == t) || (match look fn boxiL with | some l=>qb6 t l | none=>false) | none=>false
    keep:=fun fn id=>(look fn keepL).bind (look id)
    split:=fun fn id=>match look fn qais with | some l=>qb6 id l | none=>false }
def ktabL:List Nat:=[16,62,61,73,21,23]
def qs3 (b:FuncId->Option AFun) (P:Program) (A:Ann) (l:List Nat) (f:FuncId):Option AFun:=match b f with
  | some x=>some x
  | none=>if qb6 f l then (cFn P A f).map .code else none
def Φ:FuncId->Option AFun:=qs3 (qs7 tabL tabD tabC) Go.Proofs.Tryz.prog ann ktabL
end
end Go.Av
