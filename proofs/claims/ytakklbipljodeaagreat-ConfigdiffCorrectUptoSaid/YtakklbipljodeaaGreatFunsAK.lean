/-
  The compact form of the program's functions, printed by a program.
-/
import Derived.Test.YtakklbipljodeaaGreatAvD
import Derived.Test.YtakklbipljodeaaGreatRows
set_option linter.unusedVariables false
set_option linter.unusedSimpArgs false
set_option linter.constructorNameAsVariable false
namespace Go.Av
noncomputable section
@[reducible] def xM (d s:Nat):AOper:=⟨some d,none,.mov (.t s)⟩
@[reducible] def xI (d:Nat) (n:Int):AOper:=⟨some d,none,.mov (.c (.int .i64 n))⟩
@[reducible] def xC (d:Nat) (v:AV):AOper:=⟨some d,none,.mov (.c v)⟩
@[reducible] def xF (d o s:Nat):AOper:=⟨some d,none,.faddr o (.t s)⟩
@[reducible] def xL (d s:Nat):AOper:=⟨some d,none,.load false 1 (.t s)⟩
@[reducible] def xA (d n s:Nat):AOper:=⟨some d,none,.load true n (.t s)⟩
@[reducible] def xX (d z a i:Nat):AOper:=⟨some d,none,.iaddr z none (.t a) (.t i)⟩
@[reducible] def xS (n p v:Nat):AOper:=⟨none,none,.store n (.t p) (.t v)⟩
@[reducible] def xN (d s:Nat):AOper:=⟨some d,none,.len (.t s)⟩
@[reducible] def xE (d i s:Nat):AOper:=⟨some d,none,.ext i (.t s)⟩
@[reducible] def xB (d:Nat) (p:BinOp) (a b:Nat):AOper:=⟨some d,none,.bin p (.t a) (.t b)⟩
@[reducible] def xK (d:Nat) (p:BinOp) (a:Nat) (n:Int):AOper:=⟨some d,none,.bin p (.t a) (.c (.int .i64 n))⟩
@[reducible] def xW (d a b:Nat):AOper:=⟨some d,none,.pick (.t a) (.c (.bool true)) (.t b)⟩
@[reducible] def xV (d a b:Nat):AOper:=⟨some d,none,.pick (.t a) (.t b) (.c (.bool false))⟩
@[reducible] def xJ (d s:Nat):AOper:=⟨some d,none,.boxi (.t s)⟩
@[reducible] def xO (d:Nat) (p:AOp):AOper:=⟨some d,none,p⟩
@[reducible] def xG (d g:Nat) (b:Bool) (p:AOp):AOper:=⟨some d,some (g,b),p⟩
@[reducible] def xR (l:List AOper):ACode:= .region false [] l none
@[reducible] def xD (l:List AOper):ACode:= .region true [] l none
@[reducible] def xQ (l:List AOper) (k:List Nat):ACode:= .region false [] l (some k)
@[reducible] def yaa (a:List AOper) (b:ACode):ACode:= .seq (xR a) b
@[reducible] def yab (a:Nat) (b c:ACode):ACode:= .cond (.t a) b c
@[reducible] def yac (a b:Nat) (c:AOp):AOper:=xG a b false c
@[reducible] def yad (a:List AOper) (b c:ACode):ACode:= .seq (yaa a b) c
@[reducible] def yae (a:List AOper):ACode:=yaa a .ret
@[reducible] def yaf (a b:Nat) (c:List AX):AOper:=xO a (.pcall b c)
@[reducible] def yag (a:Int):AV:= .int .i64 a
@[reducible] def yah (a:Nat) (b:List AOper) (c:ACode):ACode:=yab a (yae b) c
@[reducible] def yai (a:Nat) (b:List AOper):ACode:=yah a b .skip
@[reducible] def yaj (a:Nat) (b c:ACode):ACode:= .seq (.block a b) c
@[reducible] def yak (a b:Nat):AOp:= .faddr a (.t b)
@[reducible] def yal (a:Nat) (b:AX):AOp:= .load false a b
@[reducible] def yam (a:Nat) (b:ACode):ACode:= .block a (.loop b)
@[reducible] def yan (a b:List AOper) (c d:ACode):ACode:=yaa a (yad b c d)
@[reducible] def yao (a:Int):AX:= .c (yag a)
@[reducible] def yap:AV:= .bool false
@[reducible] def yaq (a:Nat) (b:ACode) (c:Nat):ACode:=yab a b (.exit c)
@[reducible] def yar (a:BinOp) (b:Nat) (c:AX):AOp:= .bin a (.t b) c
@[reducible] def yas (a b:Nat) (c:AOp):AOper:=xG a b true c
@[reducible] def yat (a:Nat):AOp:= .mov (.t a)
@[reducible] def yau (a b:Nat):AOp:=yal a (.t b)
@[reducible] def yav (a b c d:Nat):AOper:=yac a b (yau c d)
@[reducible] def yaw (a b c d:Nat):AOper:=yac a b (yak c d)
@[reducible] def yax (a:Nat) (b:List AV):AOper:=xO a (.alloc b)
@[reducible] def yay (a b:Nat):ACode:=yaq a .skip b
@[reducible] def yaz (a b:Nat) (c:BinOp) (d:Nat) (e:AX):AOper:=yac a b (yar c d e)
@[reducible] def ya0 (a:List AOper) (b c:ACode):ACode:=yaa a (.seq b c)
@[reducible] def ya1 (a:Nat) (b:ACode) (c:List AOper):ACode:=yaj a b (xR c)
@[reducible] def ya2 (a b c:Nat):AOper:=yac a b (yat c)
@[reducible] def ya3 (a b:List AOper) (c:Nat) (d:List AOper) (e:ACode):ACode:=yan a b (yai c d) e
@[reducible] def ya4 (a:List AOper) (b:Nat) (c:List AOper):ACode:=yaa a (yai b c)
@[reducible] def ya5 (a:Nat):AOp:= .len (.t a)
@[reducible] def ya6 (a:AX):AOp:= .un .not a
@[reducible] def ya7 (a:Nat):AOp:=ya6 (.t a)
@[reducible] def ya8 (a:Nat) (b c:ACode) (d:List AOper):ACode:=ya1 a (.seq b c) d
@[reducible] def ya9 (a:Nat):AOper:=xI a 0
@[reducible] def yba (a:List AOper) (b c:Nat) (d:ACode):ACode:=yad a (yay b c) d
@[reducible] def ybb (a:Nat) (b:Option Nat) (c:Nat) (d:AX):AOp:= .iaddr a b (.t c) d
@[reducible] def ybc (a b c:Nat):AOper:=yac a b (ya5 c)
@[reducible] def ybd (a b:Nat) (c d:AX):AOper:=yaf a b [c,d]
@[reducible] def ybe (a b c:Nat) (d:AX):AOper:=ybd a b (.t c) d
@[reducible] def ybf (a b c d:Nat):AOper:=ybe a b c (.t d)
@[reducible] def ybg (a:Nat):AOper:=xC a yap
@[reducible] def ybh (a b:List AOper) (c:Nat) (d e:ACode):ACode:=yan a b (yam c d) e
@[reducible] def ybi (a:List AOper) (b c:Nat) (d:ACode):ACode:=ya0 a (yay b c) d
@[reducible] def ybj (a b:Nat):AOper:=xO a (ya7 b)
@[reducible] def ybk:AV:=yag 0
@[reducible] def ybl (a:List AOper) (b:Nat) (c:List AOper) (d:ACode):ACode:=yad a (yai b c) d
@[reducible] def ybm (a b:Nat) (c:BinOp) (d:Nat) (e:Int):AOper:=yaz a b c d (yao e)
@[reducible] def ybn (a b c:Nat):AOper:=yas a b (yat c)
@[reducible] def ybo (a:List AOper) (b:Nat) (c:List AOper) (d:ACode):ACode:=yaa a (yah b c d)
@[reducible] def ybp (a:SM) (b c:Nat) (d:AX) (e:Nat):AOp:= .append a b c d (.t e)
@[reducible] def ybq (a:List AOper) (b:Nat) (c d:ACode):ACode:=yad a (yam b c) d
@[reducible] def ybr (a b c:Nat):AOper:=yav a b 1 c
@[reducible] def ybs (a b:List AOper) (c:ACode):ACode:=yaa a (yaa b c)
@[reducible] def ybt (a b:Nat) (c:BinOp) (d:Nat) (e:AX):AOper:=yas a b (yar c d e)
@[reducible] def ybu (a:Nat) (b:ACode):ACode:=yab a b .skip
@[reducible] def ybv (a:Nat):AOp:= .nilchk (.t a)
@[reducible] def ybw (a b c d:Nat):AOper:=yas a b (yak c d)
@[reducible] def ybx:AV:= .bool true
@[reducible] def yby:AOper:=ya9 4
@[reducible] def ybz (a b:Nat) (c:BinOp) (d e:Nat):AOper:=yaz a b c d (.t e)
@[reducible] def yb0 (a b:List AOper):ACode:=yaa a (yae b)
@[reducible] def yb1 (a b:Nat) (c:AX):AOper:=yaf a b [c]
@[reducible] def yb2 (a b c:Nat):AOper:=yb1 a b (.t c)
@[reducible] def yb3 (a:Nat):AOp:= .box (.t a)
@[reducible] def yb4 (a:Nat):AOper:=xI a (-1)
@[reducible] def yb5 (a b:AOper):ACode:=yae [a,b]
@[reducible] def yb6 (a b:Nat):AOper:=xF a 0 b
@[reducible] def yb7 (a b c d:Nat):AOper:=yas a b (yau c d)
@[reducible] def yb8 (a b:Nat) (c:AX):AOp:=ybb a none b c
@[reducible] def yb9 (a:Nat):AOper:=xM a 5
@[reducible] def yca (a:Nat):AOper:=xM a 1
@[reducible] def ycb (a:Nat):AOper:=xM a 0
@[reducible] def ycc (a:Nat) (b:BinOp) (c:Nat):AOper:=xK a b c 1
@[reducible] def ycd (a:List AOper) (b:ACode):ACode:= .seq (xD a) b
@[reducible] def yce (a b:Nat):AOper:=xF a 1 b
@[reducible] def ycf (a b:Nat) (c d e f:AX):AOper:=yaf a b [c,d,e,f]
@[reducible] def ycg (a b:Nat) (c:AX) (d:Int) (e f:AX):AOper:=ycf a b c (yao d) e f
@[reducible] def ych (a:List AOper) (b c d:Nat) (e f:ACode) (g:List AOper):ACode:=yba a b c (ya8 d e f g)
@[reducible] def yci (a:List AOper) (b c d:Nat) (e f:ACode) (g:List AOper):ACode:=ybi a b c (ya8 d e f g)
@[reducible] def ycj (a b:Nat):AOper:=xO a (yb3 b)
@[reducible] def yck (a:Nat) (b:SM) (c d:Nat) (e:AX) (f:Nat):AOper:=xO a (ybp b c d e f)
@[reducible] def ycl (a b:Nat) (c:List AX):AOper:=xO a (.tcall b c)
@[reducible] def ycm (a b c:Nat) (d:List AX):AOper:=yas a b (.pcall c d)
@[reducible] def ycn (a:AOper) (b c:Nat):ACode:=yb5 a (xM b c)
@[reducible] def yco (a b:Nat):AOper:=xO a (.nilapp b)
@[reducible] def ycp (a b:AOper) (c:ACode):ACode:=yaa [a,b] c
@[reducible] def ycq (a:AOper) (b c:Nat) (d:ACode):ACode:=ycp a (xM b c) d
@[reducible] def ycr (a:Nat) (b:SM) (c d e f:Nat):AOper:=yck a b c d (.t e) f
@[reducible] def ycs (a b:Nat) (c:AX) (d:Int) (e:AX) (f:Int):AOper:=ycg a b c d e (yao f)
@[reducible] def yct (a b c:Nat) (d:List AX):AOper:=yac a b (.pcall c d)
@[reducible] def ycu (a:List AOper) (b c d:Nat) (e:ACode) (f:List AOper):ACode:=yba a b c (ya1 d e f)
@[reducible] def ycv:AOper:=ya9 5
@[reducible] def ycw (a:Int):AV:= .int .u32 a
@[reducible] def ycx (a b c d e:Nat):AOper:=ycr a .app b c d e
@[reducible] def ycy (a:Nat) (b:List AOper) (c:Nat) (d:List AOper) (e f:ACode):ACode:=yaj a (ybo b c d e) f
@[reducible] def ycz (a b c:Nat):AOp:=yb8 a b (.t c)
@[reducible] def yc0 (a b c:Nat):AOper:=yaw a b 1 c
@[reducible] def yc1 (a b:Nat) (c d e:AX):AOper:=yaf a b [c,d,e]
@[reducible] def yc2 (a b c:Nat) (d e:AX):AOper:=yc1 a b (.t c) d e
@[reducible] def yc3 (a b c d:Nat) (e:AX):AOper:=yc2 a b c (.t d) e
@[reducible] def yc4 (a b c d e:Nat):AOper:=yc3 a b c d (.t e)
@[reducible] def yc5 (a:Nat) (b:BinOp) (c:Nat):AOper:=xK a b c 0
@[reducible] def yc6:AOper:=ybg 4
@[reducible] def yc7 (a:List AOper) (b c d:Nat) (e:List AOper) (f:List Nat) (g:ACode) (h:List AOper):ACode:=yci a b c d (xQ e f) g h
@[reducible] def yc8 (a:Nat) (b c d e:AV):AOper:=yax a [b,c,d,e]
@[reducible] def yc9 (a:List AOper) (b c d:Nat) (e:ACode) (f:List AOper):ACode:=ybi a b c (ya1 d e f)
@[reducible] def yda (a:Nat) (b:AX):AOp:= .load true a b
@[reducible] def ydb (a b c:List AOper) (d:Nat) (e f:ACode):ACode:=yaa a (ybh b c d e f)
@[reducible] def ydc:AOper:=ya9 6
@[reducible] def ydd (a b:Nat) (c:BinOp) (d:Nat) (e:Int):AOper:=ybt a b c d (yao e)
@[reducible] def yde (a b:List AOper) (c:Nat) (d e:List AOper) (f:Nat) (g h:ACode):ACode:=ya3 a b c d (ybq e f g h)
@[reducible] def ydf (a:Nat) (b:List AX):AOp:= .pcallv (.t a) b
@[reducible] def ydg (a:Nat) (b:ACode):ACode:=yab a .skip b
@[reducible] def ydh (a:List AOper) (b c d:Nat) (e:List AOper) (f:ACode) (g:List AOper):ACode:=ych a b c d (xD e) f g
@[reducible] def ydi (a:Nat):AOper:=xJ a 0
@[reducible] def ydj (a b c:Nat):AOper:=yac a b (ya7 c)
@[reducible] def ydk (a:Nat):AOper:=xM 5 a
@[reducible] def ydl (a:AOper):ACode:=yae [a]
@[reducible] def ydm (a b c d e:Nat):AOper:=yac a b (ycz c d e)
@[reducible] def ydn (a:Nat):AOper:=xM 4 a
def f_10:Nat:=10
def f_12:Nat:=12
def f_17:Nat:=17
def f_18:Nat:=18
def f_19:Nat:=19
def f_20:Nat:=20
def f_21:Nat:=21
def f_23:Nat:=23
def f_24:Nat:=24
def f_26:Nat:=26
def f_28:Nat:=28
def f_29:Nat:=29
def f_31:Nat:=31
def f_32:Nat:=32
def f_33:Nat:=33
def f_34:Nat:=34
def f_35:Nat:=35
def f_36:Nat:=36
def f_37:Nat:=37
def f_38:Nat:=38
def f_39:Nat:=39
def f_40:Nat:=40
def f_41:Nat:=41
def f_43:Nat:=43
def f_44:Nat:=44
def f_45:Nat:=45
def f_46:Nat:=46
def f_48:Nat:=48
def f_49:Nat:=49
def f_50:Nat:=50
def f_51:Nat:=51
def f_52:Nat:=52
def f_53:Nat:=53
def f_55:Nat:=55
def f_57:Nat:=57
def f_58:Nat:=58
def f_63:Nat:=63
def f_64:Nat:=64
def f_65:Nat:=65
def f_66:Nat:=66
def f_67:Nat:=67
def f_68:Nat:=68
def f_69:Nat:=69
def f_70:Nat:=70
def f_71:Nat:=71
def f_72:Nat:=72
def f_74:Nat:=74
def f_75:Nat:=75
def f_76:Nat:=76
def f_77:Nat:=77
def f_78:Nat:=78
def f_79:Nat:=79
def f_80:Nat:=80
def f_81:Nat:=81
def f_82:Nat:=82
def f_83:Nat:=83
def f_85:Nat:=85
def f_86:Nat:=86
def f_87:Nat:=87
def f_88:Nat:=88
def f_89:Nat:=89
def f_90:Nat:=90
def f_91:Nat:=91
def f_92:Nat:=92
def f_93:Nat:=93
def f_94:Nat:=94
def f_95:Nat:=95
def f_96:Nat:=96
def f_97:Nat:=97
def f_101:Nat:=101
def f_102:Nat:=102
def f_103:Nat:=103
def f_104:Nat:=104
def f_105:Nat:=105
def f_106:Nat:=106
def f_107:Nat:=107
def f_109:Nat:=109
def f_110:Nat:=110
def f_111:Nat:=111
def f_116:Nat:=116
def f_117:Nat:=117
def f_118:Nat:=118
def f_125:Nat:=125
def f_126:Nat:=126
def f_127:Nat:=127
def f_128:Nat:=128
def f_129:Nat:=129
def f_130:Nat:=130
def f_131:Nat:=131
def f_133:Nat:=133
def f_134:Nat:=134
def f_135:Nat:=135
def f_136:Nat:=136
def f_137:Nat:=137
def f_139:Nat:=139
def f_140:Nat:=140
def f_141:Nat:=141
def f_144:Nat:=144
def f_145:Nat:=145
def f_146:Nat:=146
def f_147:Nat:=147
def f_148:Nat:=148
def f_149:Nat:=149
def f_150:Nat:=150
def f_151:Nat:=151
def f_152:Nat:=152
def f_153:Nat:=153
def f_154:Nat:=154
def f_155:Nat:=155
def f_156:Nat:=156
def f_157:Nat:=157
def f_158:Nat:=158
def f_159:Nat:=159
def f_160:Nat:=160
def f_161:Nat:=161
def f_162:Nat:=162
def f_163:Nat:=163
def f_164:Nat:=164
def f_165:Nat:=165
def f_168:Nat:=168
def f_169:Nat:=169
def f_175:Nat:=175
def f_176:Nat:=176
def f_177:Nat:=177
def f_178:Nat:=178
def f_179:Nat:=179
def f_180:Nat:=180
def f_181:Nat:=181
def f_182:Nat:=182
def f_183:Nat:=183
def f_184:Nat:=184
def f_185:Nat:=185
def f_186:Nat:=186
def f_187:Nat:=187
def f_188:Nat:=188
def f_190:Nat:=190
def f_194:Nat:=194
def f_195:Nat:=195
def f_196:Nat:=196
def f_197:Nat:=197
def f_198:Nat:=198
def f_199:Nat:=199
def f_200:Nat:=200
def f_201:Nat:=201
def f_202:Nat:=202
def f_203:Nat:=203
def f_205:Nat:=205
def f_206:Nat:=206
def f_207:Nat:=207
def f_208:Nat:=208
def f_209:Nat:=209
def f_211:Nat:=211
def f_212:Nat:=212
def f_213:Nat:=213
def f_214:Nat:=214
def f_215:Nat:=215
def f_216:Nat:=216
def f_217:Nat:=217
def f_218:Nat:=218
def f_219:Nat:=219
def f_220:Nat:=220
def f_221:Nat:=221
def f_222:Nat:=222
def f_223:Nat:=223
def f_226:Nat:=226
def f_227:Nat:=227
def f_228:Nat:=228
def f_229:Nat:=229
def f_230:Nat:=230
def f_231:Nat:=231
def f_232:Nat:=232
def f_233:Nat:=233
def f_234:Nat:=234
def f_235:Nat:=235
def f_236:Nat:=236
def f_237:Nat:=237
def f_238:Nat:=238
def f_239:Nat:=239
def f_240:Nat:=240
def f_241:Nat:=241
def f_242:Nat:=242
def f_243:Nat:=243
def f_244:Nat:=244
def f_245:Nat:=245
def f_246:Nat:=246
def f_247:Nat:=247
def f_248:Nat:=248
def f_249:Nat:=249
def f_250:Nat:=250
def f_251:Nat:=251
def f_252:Nat:=252
def f_253:Nat:=253
def f_254:Nat:=254
def f_257:Nat:=257
def f_258:Nat:=258
def f_259:Nat:=259
def f_260:Nat:=260
def f_261:Nat:=261
def f_262:Nat:=262
def f_263:Nat:=263
def f_264:Nat:=264
def f_265:Nat:=265
def f_267:Nat:=267
def f_268:Nat:=268
def f_269:Nat:=269
def f_270:Nat:=270
def f_271:Nat:=271
def f_272:Nat:=272
def f_273:Nat:=273
def f_274:Nat:=274
def f_275:Nat:=275
def f_276:Nat:=276
def f_277:Nat:=277
def f_278:Nat:=278
def f_279:Nat:=279
def f_280:Nat:=280
def f_281:Nat:=281
def f_282:Nat:=282
def f_285:Nat:=285
def f_286:Nat:=286
def f_287:Nat:=287
def f_288:Nat:=288
def f_289:Nat:=289
def f_290:Nat:=290
def f_291:Nat:=291
def f_292:Nat:=292
def f_293:Nat:=293
def f_294:Nat:=294
def f_295:Nat:=295
def f_296:Nat:=296
def f_297:Nat:=297
def f_298:Nat:=298
def f_299:Nat:=299
def f_300:Nat:=300
def f_301:Nat:=301
def f_302:Nat:=302
def f_303:Nat:=303
def f_304:Nat:=304
def f_305:Nat:=305
def f_306:Nat:=306
def f_307:Nat:=307
def f_308:Nat:=308
def f_309:Nat:=309
def f_310:Nat:=310
def f_313:Nat:=313
def f_314:Nat:=314
def f_315:Nat:=315
def f_316:Nat:=316
def f_317:Nat:=317
def f_318:Nat:=318
def f_319:Nat:=319
def f_320:Nat:=320
def f_321:Nat:=321
def f_322:Nat:=322
def f_323:Nat:=323
def f_324:Nat:=324
def f_325:Nat:=325
def f_326:Nat:=326
def f_327:Nat:=327
def f_328:Nat:=328
def f_329:Nat:=329
def f_330:Nat:=330
def f_331:Nat:=331
def f_332:Nat:=332
def f_333:Nat:=333
def f_334:Nat:=334
def f_335:Nat:=335
def f_336:Nat:=336
def f_337:Nat:=337
def f_338:Nat:=338
def f_339:Nat:=339
def f_340:Nat:=340
def f_341:Nat:=341
def f_342:Nat:=342
def f_343:Nat:=343
def f_344:Nat:=344
def f_345:Nat:=345
def f_346:Nat:=346
def f_347:Nat:=347
def f_348:Nat:=348
def f_349:Nat:=349
def f_350:Nat:=350
def f_351:Nat:=351
def f_352:Nat:=352
def c_10:AFn:=⟨3,[.tmp 6],ya3 [ydi 3,xJ 4 1,xJ 5 2,ybg 6] [xA 15 9 3,xA 16 4 4,ybf 17 f_37 15 16,ybj 18 17,xM 19 18,yac 20 19 (yda 4 (.t 5)),yct 21 19 f_38 [.t 20],ydj 22 19 21,xW 23 19 22] 23 [yaf 24 f_39 [],xM 6 24] (ya3 [xA 26 9 3,xA 27 4 4,xA 28 4 5,yc4 29 f_40 26 27 28,xM 25 29,xE 30 0 25,xE 31 1 25,xM 7 30,xM 8 31] [xM 32 8,yc5 33 .neq 32] 33 [xM 34 7,xN 35 34,yc5 36 .eql 35,xM 37 36,ycm 38 37 f_39 [],xV 39 37 38,xM 6 39] (.seq (xQ [xA 41 9 3,xA 42 4 4,xM 43 7,yc4 44 f_48 41 42 43,xM 40 44,xE 45 0 40,xE 46 1 40,xE 47 2 40,xE 48 3 40,yc8 9 (.fslice 1 []) (.fslice 1 []) (.fslice 2 []) (.fslice 1 []),xS 4 9 45,xM 10 46,xM 11 47,xM 12 48] [9]) (ya0 [xA 50 9 3,xA 51 4 9,xA 52 4 5,yc4 53 f_40 50 51 52,xM 49 53,xE 54 0 49,xE 55 1 49,xM 13 54,xM 14 55] (xD [xM 56 12,yc5 57 .eql 56,xM 58 57,yas 59 58 (yda 4 (.t 9)),yas 60 58 (yda 4 (.t 4)),yas 61 58 (yda 4 (.t 5)),ycm 62 58 f_46 [.t 60,.t 61],ycm 63 58 f_45 [.t 59,.t 62],xV 64 58 63,xM 65 64,ybn 66 65 13,yas 67 65 (ya5 66),ydd 68 65 .eql 67 0,xV 69 65 68,xM 70 69,ybn 71 70 14,ydd 72 70 .eql 71 0,xV 73 70 72,xM 74 73,ycm 75 74 f_39 [],xV 76 74 75,xM 6 76]) .ret)))⟩
def c_12:AFn:=⟨3,[.tmp 6],ya3 [ydi 3,xJ 4 1,ybg 6] [xA 16 9 3,xA 17 4 4,ybf 18 f_37 16 17,ybj 19 18,xM 20 19,ya2 21 20 2,yct 22 20 f_43 [.t 21],ydj 23 20 22,xW 24 20 23] 24 [yaf 25 f_49 [],xM 6 25] (ya3 [xA 27 9 3,xA 28 4 4,ycl 29 f_18 [.t 27,.t 28],xM 26 29,xE 30 0 26,xE 31 1 26,xM 7 30,xM 8 31] [xM 32 8,yc5 33 .neq 32] 33 [yaf 34 f_49 [],xM 6 34] (yan [xA 36 9 3,xA 37 4 4,xM 38 2,yc4 39 f_44 36 37 38,xM 35 39,xE 40 0 35,xE 41 1 35,xE 42 2 35,xE 43 3 35,yc8 9 (.fslice 1 []) (.fslice 1 []) (.fslice 2 []) (.fslice 1 []),xS 4 9 40,xM 10 41,xM 11 42,xM 12 43] [xM 44 12,yc5 45 .neq 44] (ybu 45 (xR [xA 46 4 4,xS 4 9 46])) (ya0 [xM 48 7,xM 49 2,ycl 50 f_51 [.t 48,.t 49],xM 47 50,xE 51 0 47,xE 52 1 47,xE 53 2 47,xM 13 51,xM 14 52,xM 15 53] (.region true [(15,16)] [⟨some 54,none,.mov (.t 13)⟩,⟨some 55,none,.mov (.t 10)⟩,⟨some 56,none,.pcall f_50 [.t 54,.t 55]⟩,⟨some 57,none,.mov (.t 56)⟩,⟨some 58,some (57,true),.mov (.t 14)⟩,⟨some 59,some (57,true),.mov (.t 11)⟩,⟨some 60,some (57,true),.bin .eql (.t 58) (.t 59)⟩,⟨some 61,none,.pick (.t 57) (.t 60) (.c (.bool false))⟩,⟨some 62,none,.mov (.t 61)⟩,⟨some 63,some (62,true),.mov (.t 15)⟩,⟨some 64,some (62,true),.mov (.t 12)⟩,⟨some 65,some (62,true),.bin .eql (.t 63) (.t 64)⟩,⟨some 66,none,.pick (.t 62) (.t 65) (.c (.bool false))⟩,⟨some 67,none,.mov (.t 66)⟩,⟨some 68,some (67,true),.mov (.t 7)⟩,⟨some 69,some (67,true),.tcall f_24 [.t 68]⟩,⟨some 70,some (67,true),.load true 4 (.t 9)⟩,⟨some 71,some (67,true),.pcall f_20 [.t 69,.t 70]⟩,⟨some 72,none,.pick (.t 67) (.t 71) (.c (.bool false))⟩,⟨some 73,none,.mov (.t 72)⟩,⟨some 74,some (73,true),.pcall f_49 []⟩,⟨some 75,none,.pick (.t 73) (.t 74) (.c (.bool false))⟩,⟨some 6,none,.mov (.t 75)⟩] none) .ret)))⟩
def c_17_l0:ACode:=yc9 [xB 40 .lss 39 38] 40 0 1 (ya0 [xM 41 39,xM 7 41] (xD [xA 42 9 2,xM 43 7,yb6 44 3,xL 45 44,xM 46 7,xX 47 1 45 46,xL 48 47,yce 49 3,xL 50 49,xM 51 7,xX 52 1 50 51,xL 53 52,xF 54 2 3,xL 55 54,xM 56 7,xX 57 2 55 56,xA 58 2 57,yaf 59 f_64 [.t 42,.t 43,.t 48,.t 53,.t 58],xM 8 59]) (ya4 [xM 60 8,yc5 61 .neq 60] 61 [xM 62 8,ydn 62])) [ycc 63 .add 39,xM 39 63]
def c_17_k1:ACode:=yae [xA 64 9 2,xF 65 3 3,xL 66 65,ybf 67 f_65 64 66,ydn 67]
def c_17:AFn:=⟨2,[.tmp 4],ya0 [ydi 2,xJ 3 1,yby] (.seq (xQ [xA 9 9 2,yb2 10 f_63 9,yc8 5 ybk ybk ybk ybk,xS 4 5 10] [5]) (ya4 [yb6 11 5,xL 12 11,yc5 13 .neq 12] 13 [yb6 14 5,xL 15 14,ydn 15])) (yde [xF 16 5 2,xL 17 16,xN 18 17,xM 6 18] [yb6 19 3,xL 20 19,xN 21 20,xM 22 6,xB 23 .neq 21 22,xM 24 23,yc0 25 24 3,ybr 26 24 25,ybc 27 24 26,ya2 28 24 6,ybz 29 24 .neq 27 28,xW 30 24 29,xM 31 30,yaw 32 31 2 3,ybr 33 31 32,ybc 34 31 33,ya2 35 31 6,ybz 36 31 .neq 34 35,xW 37 31 36] 37 [xI 4 2] [xM 38 6,ya9 39] 0 c_17_l0 c_17_k1)⟩
def c_18:AFn:=⟨2,[.tmp 4,.tmp 5],yan [ydi 2,xJ 3 1,xC 4 .nilptr,ycv] [xA 7 9 2,xA 8 4 3,ybf 9 f_17 7 8,xM 6 9] (ya4 [xM 10 6,yc5 11 .neq 10] 11 [xM 12 6,xC 4 .nilptr,ydk 12]) (yae [xA 13 9 2,xA 14 4 3,ycl 15 f_66 [.t 13,.t 14],ydn 15,ycv])⟩
def c_19_l0:ACode:=ydh [xM 39 6,yb9 40,xB 41 .lss 39 40] 41 1 2 [xA 44 9 2,xM 45 6,yb6 46 3,xL 47 46,xM 48 6,xX 49 1 47 48,xL 50 49,yce 51 3,xL 52 51,xM 53 6,xX 54 1 52 53,xL 55 54,ycf 56 f_67 (.t 44) (.t 45) (.t 50) (.t 55),xM 7 56] (ybl [xM 57 7,yc5 58 .neq 57] 58 [xM 59 7,ydn 59] (ycd [xA 60 9 2,xM 61 6,xF 62 2 3,xL 63 62,xM 64 6,xX 65 2 63 64,xA 66 2 65,yc4 67 f_68 60 61 66,xM 7 67] (ya4 [xM 68 7,yc5 69 .neq 68] 69 [xM 70 7,ydn 70]))) [xM 42 6,ycc 43 .add 42,xM 6 43]
def c_19_k1:ACode:=yae [xA 71 9 2,xF 72 3 3,xL 73 72,ybf 74 f_69 71 73,ydn 74]
def c_19:AFn:=⟨2,[.tmp 4],ybs [ydi 2,xJ 3 1,yby] [xF 8 5 2,xL 9 8,xN 10 9,ydk 10] (ycy 0 [xA 12 9 2,yb2 13 f_55 12,xO 14 (.fld false 0 1 (.t 13)),yc5 15 .neq 14,xM 11 15] 11 [xA 16 9 2,yb2 17 f_55 16,xO 18 (.fld false 0 1 (.t 17)),ydn 18] (ya4 [yb6 20 3,xL 21 20,xN 22 21,yb9 23,xB 24 .neq 22 23,xM 25 24,yc0 26 25 3,ybr 27 25 26,ybc 28 25 27,ya2 29 25 5,ybz 30 25 .neq 28 29,xW 31 25 30,xM 32 31,yaw 33 32 2 3,ybr 34 32 33,ybc 35 32 34,ya2 36 32 5,ybz 37 32 .neq 35 36,xW 38 32 37,xM 19 38] 19 [xI 4 2]) (ybq [ydc] 1 c_19_l0 c_19_k1))⟩
def c_20_l0:ACode:=ydh [yb9 39,yb6 40 2,xL 41 40,xN 42 41,xB 43 .lss 39 42] 43 0 1 [yb6 46 2,xL 47 46,yb9 48,xX 49 1 47 48,xL 50 49,yb6 51 3,xL 52 51,yb9 53,xX 54 1 52 53,xL 55 54,ybf 56 f_71 50 55,ybj 57 56] (yai 57 [yc6]) [yb9 44,ycc 45 .add 44,ydk 45]
def c_20_l1:ACode:=ydh [xM 58 6,xF 59 2 2,xL 60 59,xN 61 60,xB 62 .lss 58 61] 62 2 3 [xF 65 2 2,xL 66 65,xM 67 6,xX 68 2 66 67,xA 69 2 68,xF 70 2 3,xL 71 70,xM 72 6,xX 73 2 71 72,xA 74 2 73,ybf 75 f_72 69 74,ybj 76 75] (yai 76 [yc6]) [xM 63 6,ycc 64 .add 63,xM 6 64]
def c_20_k2:ACode:=ydl (xC 4 ybx)
def c_20_k3:ACode:=ybq [ydc] 2 c_20_l1 c_20_k2
def c_20:AFn:=⟨2,[.tmp 4],yde [ycj 2 0,ycj 3 1,yc6] [yb6 7 2,xL 8 7,xN 9 8,yb6 10 3,xL 11 10,xN 12 11,xB 13 .neq 9 12,xM 14 13,yc0 15 14 2,ybr 16 14 15,yc0 17 14 3,ybr 18 14 17,yct 19 14 f_50 [.t 16,.t 18],ydj 20 14 19,xW 21 14 20,xM 22 21,yaw 23 22 2 2,ybr 24 22 23,ybc 25 22 24,yaw 26 22 2 3,ybr 27 22 26,ybc 28 22 27,ybz 29 22 .neq 25 28,xW 30 22 29,xM 31 30,yaw 32 31 3 2,ybr 33 31 32,yaw 34 31 3 3,ybr 35 31 34,yct 36 31 f_70 [.t 33,.t 35],ydj 37 31 36,xW 38 31 37] 38 [yc6] [ycv] 0 c_20_l0 c_20_k3⟩
def c_24:AFn:=⟨1,[.cell 2 true 4],ya3 [yc8 2 (.fslice 1 []) (.fslice 1 []) (.fslice 2 []) (.fslice 1 [])] [ycb 3,xO 4 (.eqn false (.t 3) (.c .nilptr)),ydk 4,ya2 6 5 0,yac 7 5 (ybv 6),yaw 8 5 14 7,ybr 9 5 8,ydj 10 5 9,xW 11 5 10] 11 [xO 12 (.build [.fslice 1 [],.fslice 1 [],.fslice 2 [],.fslice 1 []] []),xS 4 2 12] (yae [ycb 13,xO 14 (ybv 13),yb6 15 14,xA 16 4 15,ycl 17 f_76 [.t 16],xS 4 2 17])⟩
def c_31:AFn:=⟨2,[.tmp 4],yb0 [ycj 2 0,ycj 3 1,yc6] [xA 5 4 2,xA 6 4 3,ybf 7 f_85 5 6,xM 8 7,ybw 9 8 2 2,yas 10 8 (yda 2 (.t 9)),ybw 11 8 2 3,yas 12 8 (yda 2 (.t 11)),ycm 13 8 f_72 [.t 10,.t 12],xV 14 8 13,ydn 14]⟩
def c_33:AFn:=⟨3,[.tmp 6,.tmp 7],yaa [ycj 5 2,ydc,ya9 7] (ycy 0 [ycb 11,xO 12 (.eqn false (.t 11) (.c .nilptr)),xM 13 12,ya2 14 13 0,yac 15 13 (ybv 14),yaw 16 13 14 15,ybr 17 13 16,ydj 18 13 17,xW 19 13 18,xM 10 19] 10 [ydc,xI 7 1] (ya4 [ycb 21,yca 22,ycl 23 f_82 [.t 21,.t 22],ybj 24 23,xM 20 24] 20 [ydc,xI 7 8]) (.seq (ycd [ycb 25,xO 26 (ybv 25),xF 27 4 26,xA 28 9 27,yca 29,xA 30 4 5,yc4 31 f_86 28 29 30,xM 8 31] (ya4 [xM 32 8,yc5 33 .neq 32] 33 [xM 34 8,ydc,xM 7 34])) (ybl [ycb 35,xO 36 (ybv 35),yb6 37 36,yb6 38 37,xL 39 38,yca 40,xX 41 1 39 40,xL 42 41,xO 43 (.mkfunc (.func f_88) [] [.t 5]),ybf 44 f_87 42 43] 44 [ydc,xI 7 7] (ya0 [ycb 45,xO 46 (ybv 45),yb6 47 46,yce 48 47,xL 49 48,yca 50,xX 51 1 49 50,xL 52 51,xM 9 52] (ycd [ycb 53,xO 54 (ybv 53),yb6 55 54,yb6 56 55,xL 57 56,yca 58,xX 59 1 57 58,xL 60 59,xN 61 60,ycb 62,xO 63 (ybv 62),xF 64 4 63,xF 65 5 64,xL 66 65,yca 67,xX 68 6 66 67,xF 69 5 68,xL 70 69,xB 71 .geq 61 70,xM 72 71,ya2 73 72 9,ybm 74 72 .geq 73 1073741824,xW 75 72 74] (yai 75 [ydc,xI 7 13])) (ycd [ycb 76,xO 77 (ybv 76),xF 78 13 77,xL 79 78,yca 80,xX 81 1 79 80,xL 82 81,xM 83 9,ycb 84,xO 85 (ybv 84),yb6 86 85,yb6 87 86,xL 88 87,yca 89,xX 90 1 88 89,xL 91 90,xN 92 91,⟨none,none,.update .i (.t 82) (.t 83) (.t 92)⟩] (.seq (.region true [(4,19)] [⟨some 93,none,.mov (.t 0)⟩,⟨some 94,none,.nilchk (.t 93)⟩,⟨some 95,none,.faddr 0 (.t 94)⟩,⟨some 96,none,.faddr 0 (.t 95)⟩,⟨some 97,none,.load false 1 (.t 96)⟩,⟨some 98,none,.mov (.t 1)⟩,⟨some 99,none,.mov (.t 0)⟩,⟨some 100,none,.nilchk (.t 99)⟩,⟨some 101,none,.faddr 0 (.t 100)⟩,⟨some 102,none,.faddr 0 (.t 101)⟩,⟨some 103,none,.load false 1 (.t 102)⟩,⟨some 104,none,.mov (.t 1)⟩,⟨some 105,none,.iaddr 1 none (.t 103) (.t 104)⟩,⟨some 106,none,.load false 1 (.t 105)⟩,⟨some 107,none,.mov (.t 9)⟩,⟨some 108,none,.load true 4 (.t 5)⟩,⟨some 109,none,.pcall f_90 [.t 108]⟩,⟨some 110,none,.build [.int .i64 0,.fslice 2 [],.int .i64 0,.int .i64 0,.fslice 1 []] [(0,1,(.t 107)),(1,4,(.t 109))]⟩,⟨some 111,none,.bslice .imm 5 (List.replicate 1 [.int .i64 0,.fslice 2 [],.int .i64 0,.int .i64 0,.fslice 1 []]) [(0,(.t 110))]⟩,⟨some 112,none,.append .row 5 72 (.t 106) (.t 111)⟩,⟨some 113,none,.iaddr 1 none (.t 97) (.t 98)⟩,⟨none,none,.store 1 (.t 113) (.t 112)⟩] none) (yb0 [ycb 114,xO 115 (ybv 114),yb6 116 115,yce 117 116,xL 118 117,yca 119,xX 120 1 118 119,xL 121 120,ycc 122 .add 121,xX 123 1 118 119,xS 1 123 122] [xM 124 9,xM 6 124,ya9 7])))))))⟩
def c_34:AFn:=⟨4,[.tmp 8],ycp (ycj 7 3) (ya9 8) (yan [ycb 12,yca 13,xM 14 2,ycl 15 f_91 [.t 12,.t 13,.t 14],xM 11 15,xE 16 0 11,xE 17 1 11,xM 9 16,xM 10 17] [xM 18 10,yc5 19 .eql 18] (ybu 19 (xD [ycb 20,xO 21 (ybv 20),xF 22 4 21,xA 23 9 22,yca 24,xA 25 2 7,yc4 26 f_92 23 24 25,xM 10 26])) (yad [xM 27 10,yc5 28 .eql 27] (ybu 28 (xD [ycb 29,xO 30 (ybv 29),yb6 31 30,yb6 32 31,xL 33 32,yca 34,xX 35 1 33 34,xL 36 35,xM 37 9,xA 38 2 7,yb2 39 f_74 38,xX 40 5 36 37,yce 41 40,xF 42 2 41,xS 2 42 39])) (ycn (xM 43 10) 8 43)))⟩
def c_35:AFn:=⟨3,[.tmp 6],yaa [ydc] (yan [ycb 10,yca 11,xM 12 2,ycl 13 f_91 [.t 10,.t 11,.t 12],xM 9 13,xE 14 0 9,xE 15 1 9,xM 7 14,xM 8 15] [xM 16 8,yc5 17 .eql 16] (ybu 17 (.seq (.region true [(4,17)] [⟨some 18,none,.mov (.t 0)⟩,⟨some 19,none,.nilchk (.t 18)⟩,⟨some 20,none,.faddr 0 (.t 19)⟩,⟨some 21,none,.faddr 0 (.t 20)⟩,⟨some 22,none,.load false 1 (.t 21)⟩,⟨some 23,none,.mov (.t 1)⟩,⟨some 24,none,.mov (.t 0)⟩,⟨some 25,none,.nilchk (.t 24)⟩,⟨some 26,none,.faddr 0 (.t 25)⟩,⟨some 27,none,.faddr 0 (.t 26)⟩,⟨some 28,none,.load false 1 (.t 27)⟩,⟨some 29,none,.mov (.t 1)⟩,⟨some 30,none,.iaddr 1 none (.t 28) (.t 29)⟩,⟨some 31,none,.load false 1 (.t 30)⟩,⟨some 32,none,.mov (.t 7)⟩,⟨some 33,none,.mov (.t 7)⟩,⟨some 34,none,.bin .add (.t 33) (.c (.int .i64 1))⟩,⟨some 35,none,.tcall f_93 [.t 31,.t 32,.t 34]⟩,⟨some 36,none,.iaddr 1 none (.t 22) (.t 23)⟩,⟨none,none,.store 1 (.t 36) (.t 35)⟩] none) (xR [ycb 37,yca 38,ycl 39 f_94 [.t 37,.t 38]]))) (ycn (xM 40 8) 6 40))⟩
def c_36:AFn:=⟨1,[.tmp 2],ya3 [xC 2 .nilptr] [ycb 3,xO 4 (.eqn false (.t 3) (.c .nilptr)),ydk 4,ya2 6 5 0,yac 7 5 (ybv 6),yaw 8 5 14 7,ybr 9 5 8,ydj 10 5 9,xW 11 5 10] 11 [xC 2 .nilptr] (ycd [ycb 12,xO 13 (ybv 12),xF 14 4 13,xA 15 9 14,ycb 16,xO 17 (ybv 16),yb6 18 17,xA 19 4 18,ycl 20 f_66 [.t 15,.t 19],xM 2 20] .ret)⟩
def c_37:AFn:=⟨2,[.tmp 4],yb0 [ydi 2,xJ 3 1,yc6] [xA 5 9 2,yb2 6 f_95 5,xM 7 6,ybw 8 7 7 2,yb7 9 7 1 8,ycm 10 7 f_96 [.t 9,yao 40],xV 11 7 10,xM 12 11,yas 13 12 (yda 4 (.t 3)),ycm 14 12 f_38 [.t 13],xV 15 12 14,ydn 15]⟩
def c_38_l0:ACode:=ycu [xM 43 4,yb6 44 1,xL 45 44,xM 46 3,xX 47 1 45 46,xL 48 47,xN 49 48,xB 50 .lss 43 49] 50 2 3 (ya4 [yb6 53 1,xL 54 53,xM 55 3,xX 56 1 54 55,xL 57 56,xM 58 4,xX 59 5 57 58,yce 60 59,xA 61 4 60,yb2 62 f_97 61,ybj 63 62] 63 [ybg 2]) [xM 51 4,ycc 52 .add 51,ydn 52]
def c_38_k1:ACode:=xR [xM 34 3,ycc 35 .add 34,xM 3 35]
def c_38_l2:ACode:=yba [xM 29 3,yb6 30 1,xL 31 30,xN 32 31,xB 33 .lss 29 32] 33 0 (yaj 1 (ybl [yb6 36 1,xL 37 36,xM 38 3,xX 39 1 37 38,xL 40 39,xN 41 40,xK 42 .gtr 41 40] 42 [ybg 2] (yaa [yby] (yam 2 c_38_l0))) c_38_k1)
def c_38_l3:ACode:=ycu [yb9 64,xF 65 2 1,xL 66 65,xN 67 66,xB 68 .lss 64 67] 68 4 5 (ya4 [xF 71 2 1,xL 72 71,yb9 73,xX 74 2 72 73,yce 75 74,xL 76 75,xN 77 76,xK 78 .gtr 77 10] 78 [ybg 2]) [yb9 69,ycc 70 .add 69,ydk 70]
def c_38_l4:ACode:=ycu [xM 79 6,xF 80 3 1,xL 81 80,xN 82 81,xB 83 .lss 79 82] 83 6 7 (ya4 [xF 86 3 1,xL 87 86,xM 88 6,xX 89 1 87 88,xL 90 89,xN 91 90,xK 92 .gtr 91 80] 92 [ybg 2]) [xM 84 6,ycc 85 .add 84,xM 6 85]
def c_38_k5:ACode:=ydl (xC 2 ybx)
def c_38_k6:ACode:=ybq [ydc] 6 c_38_l4 c_38_k5
def c_38_k7:ACode:=ybq [ycv] 4 c_38_l3 c_38_k6
def c_38:AFn:=⟨1,[.tmp 2],yde [ycj 1 0,ybg 2] [yb6 7 1,xL 8 7,xN 9 8,xK 10 .gtr 9 16,xM 11 10,yc0 12 11 1,ybr 13 11 12,ybc 14 11 13,ybm 15 11 .gtr 14 16,xW 16 11 15,xM 17 16,yaw 18 17 2 1,ybr 19 17 18,ybc 20 17 19,ybm 21 17 .gtr 20 16,xW 22 17 21,xM 23 22,yaw 24 23 3 1,ybr 25 23 24,ybc 26 23 25,ybm 27 23 .gtr 26 8,xW 28 23 27] 28 [ybg 2] [ya9 3] 0 c_38_l2 c_38_k7⟩
def c_40_l0:ACode:=yc7 [xB 60 .lss 59 58] 60 2 3 [xM 61 59,xX 62 5 57 59,xA 63 5 62,yax 18 [ybk,.fslice 2 [],ybk,ybk,.fslice 1 []],xM 17 61,xS 5 18 63] [18] (yad [xM 64 16,xM 65 14,xN 66 65,xB 67 .lss 64 66,xM 68 67,ybn 69 68 14,ybn 70 68 16,yas 71 68 (ycz 1 69 70),yb7 72 68 1 71,ybn 73 68 17,ybt 74 68 .eql 72 (.t 73),xV 75 68 74] (ybu 75 (yaa [xM 76 16,ycc 77 .add 76,xM 16 77] (.exit 3))) (xR [xM 78 15,yb6 79 18,xL 80 79,xO 81 (.build [.int .i64 0,.int .i64 0,.int .i64 0,.fslice 2 [],.int .i64 0,.int .i64 0,.fslice 1 [],.int .i64 0,.fslice 1 []] [(0,1,(.c (.int .i64 3))),(2,1,(.t 80))]),xO 82 (.tcallv (.t 78) [.t 81])])) [ycc 83 .add 59,xM 59 83]
def c_40_l1:ACode:=yc9 [xB 87 .lss 86 85] 87 4 5 (ya0 [xM 88 86,xX 89 1 84 86,xL 90 89,xM 19 88,xM 20 90] (xD [xM 91 12,xM 92 20,xX 93 5 91 92,yce 94 93,xF 95 2 94,xA 96 2 95,xM 97 13,xM 98 19,xX 99 5 97 98,yce 100 99,xF 101 2 100,xA 102 2 101,ybf 103 f_103 96 102,ybj 104 103]) (ybu 104 (xD [xM 105 15,xM 106 12,xM 107 20,xX 108 5 106 107,yb6 109 108,xL 110 109,xM 111 13,xM 112 19,xX 113 5 111 112,yce 114 113,xF 115 2 114,xA 116 2 115,yb2 117 f_104 116,xO 118 (.build [.int .i64 0,.int .i64 0,.int .i64 0,.fslice 2 [],.int .i64 0,.int .i64 0,.fslice 1 [],.int .i64 0,.fslice 1 []] [(0,1,(.c (.int .i64 2))),(2,1,(.t 110)),(7,2,(.t 117))]),xO 119 (.tcallv (.t 105) [.t 118])]))) [ycc 120 .add 86,xM 86 120]
def c_40_l2:ACode:=yc7 [xB 127 .lss 126 125] 127 6 7 [xX 128 5 124 126,xA 129 5 128,yax 22 [ybk,.fslice 2 [],ybk,ybk,.fslice 1 []],xS 5 22 129] [22] (xR [xM 130 15,yce 131 22,xA 132 4 131,yb2 133 f_105 132,xO 134 (.build [.int .i64 0,.int .i64 0,.int .i64 0,.fslice 2 [],.int .i64 0,.int .i64 0,.fslice 1 [],.int .i64 0,.fslice 1 []] [(0,1,(.c (.int .i64 1))),(3,4,(.t 133))]),xO 135 (.tcallv (.t 130) [.t 134])]) [ycc 136 .add 126,xM 126 136]
def c_40_k3:ACode:=ycd [xF 137 2 4,xL 138 137,xL 139 11,xX 140 2 138 139,xA 141 2 140,xF 142 2 5,xL 143 142,xL 144 11,xX 145 2 143 144,xA 146 2 145,ybf 147 f_103 141 146,ybj 148 147] (ybu 148 (xR [xM 149 15,xF 150 2 5,xL 151 150,xL 152 11,xX 153 2 151 152,xA 154 2 153,yb2 155 f_104 154,xO 156 (.build [.int .i64 0,.int .i64 0,.int .i64 0,.fslice 2 [],.int .i64 0,.int .i64 0,.fslice 1 [],.int .i64 0,.fslice 1 []] [(0,1,(.c (.int .i64 4))),(7,2,(.t 155))]),xO 157 (.tcallv (.t 149) [.t 156])]))
def c_40_k4:ACode:=ybq [xM 121 13,xM 122 14,xN 123 122,xO 124 (.slc 5 (.t 121) (some (.t 123)) none none),xN 125 124,ya9 126] 6 c_40_l2 c_40_k3
def c_40_k5:ACode:=ybq [xM 84 14,xN 85 84,ya9 86] 4 c_40_l1 c_40_k4
def c_40_k6:ACode:=xR [ycc 158 .add 40,xM 40 158]
def c_40_l7:ACode:=ybi [xB 41 .lss 40 39] 41 0 (yaj 1 (.seq (xQ [xM 42 40,yax 11 [ybk],xS 1 11 42] [11]) (ycd [yb6 43 4,xL 44 43,xL 45 11,xX 46 1 44 45,xL 47 46,yb6 48 5,xL 49 48,xL 50 11,xX 51 1 49 50,xL 52 51,xM 12 47,xM 13 52] (ybs [xM 53 12,xM 54 13,ybf 55 f_101 53 54,xM 14 55] [xO 56 (.mkfunc (.func f_102) [] [.t 11,.t 10]),xM 15 56] (ybh [ya9 16] [xM 57 12,xN 58 57,ya9 59] 2 c_40_l0 c_40_k5)))) c_40_k6)
def c_40_l8:ACode:=yc9 [xB 166 .lss 165 164] 166 8 9 (yaa [xM 167 165,xX 168 1 163 165,xL 169 168,xM 23 167,xM 24 169] (ya4 [xL 170 10,xM 171 23,ybf 172 f_106 170 171,xM 173 24,xO 174 (.bin .sub (yao 1073741824) (.t 173)),xB 175 .gtr 172 174] 175 [xC 6 (.fslice 9 []),xI 7 13])) [ycc 176 .add 165,xM 165 176]
def c_40_k9:ACode:=yae [xL 177 10,xM 6 177,ya9 7]
def c_40_k10:ACode:=ybl [xL 159 10,xN 160 159,xK 161 .gtr 160 64] 161 [xC 6 (.fslice 9 []),xI 7 12] (ybq [yce 162 4,xL 163 162,xN 164 163,ya9 165] 8 c_40_l8 c_40_k9)
def c_40:AFn:=⟨3,[.tmp 6,.tmp 7],yan [ycj 3 0,ycj 4 1,ycj 5 2,xC 6 (.fslice 9 []),ya9 7] [xA 25 9 3,xA 26 4 4,ybf 27 f_17 25 26,xM 8 27] (ya4 [xM 28 8,yc5 29 .neq 28] 29 [xM 30 8,xC 6 (.fslice 9 []),xM 7 30]) (yad [xA 31 9 3,xA 32 4 5,ybf 33 f_17 31 32,xM 9 33] (ya4 [xM 34 9,yc5 35 .neq 34] 35 [xM 36 9,xC 6 (.fslice 9 []),xM 7 36]) (ybh [yax 10 [.fslice 9 []]] [yb6 37 4,xL 38 37,xN 39 38,ya9 40] 0 c_40_l7 c_40_k10))⟩
def c_43_l0:ACode:=ycu [xM 7 3,ycb 8,xN 9 8,xB 10 .lss 7 9] 10 0 1 (ya4 [ycb 13,xM 14 3,xX 15 9 13 14,xF 16 3 15,xA 17 4 16,yb2 18 f_97 17,ybj 19 18,xM 20 19,ya2 21 20 0,ya2 22 20 3,ydm 23 20 9 21 22,yaw 24 20 7 23,yc0 25 20 24,ybr 26 20 25,ybc 27 20 26,ybm 28 20 .gtr 27 10,xW 29 20 28] 29 [ybg 2]) [xM 11 3,ycc 12 .add 11,xM 3 12]
def c_43_k1:ACode:=ydl (xC 2 ybx)
def c_43:AFn:=⟨1,[.tmp 2],yde [ybg 2] [ycb 4,xN 5 4,xK 6 .gtr 5 80] 6 [ybg 2] [ya9 3] 0 c_43_l0 c_43_k1⟩
def c_44:AFn:=⟨3,[.cell 6 true 4,.tmp 7,.tmp 8,.tmp 9],ya0 [ydi 3,xJ 4 1,yc8 6 (.fslice 1 []) (.fslice 1 []) (.fslice 2 []) (.fslice 1 []),xC 7 (.fslice 1 []),ya9 8,ya9 9] (xQ [xA 14 9 3,xA 15 4 4,xM 16 2,yc4 17 f_109 14 15 16,xM 13 17,xE 18 0 13,xE 19 1 13,xE 20 2 13,yax 10 [.fslice 4 [],.fslice 1 []],xS 2 10 18,xM 11 19,xM 12 20] [10]) (ybl [xM 21 12,yc5 22 .neq 21] 22 [xO 23 (.build [.fslice 1 [],.fslice 1 [],.fslice 2 [],.fslice 1 []] []),xM 24 11,xM 25 12,xS 4 6 23,xC 7 (.fslice 1 []),xM 8 24,xM 9 25] (.seq (.region true [(7,8)] [⟨some 26,none,.faddr 0 (.t 10)⟩,⟨some 27,none,.load false 1 (.t 26)⟩,⟨some 28,none,.mov (.t 2)⟩,⟨some 29,none,.len (.t 28)⟩,⟨some 30,none,.iaddr 4 none (.t 27) (.t 29)⟩,⟨some 31,none,.load true 4 (.t 30)⟩,⟨some 32,none,.faddr 1 (.t 10)⟩,⟨some 33,none,.load false 1 (.t 32)⟩,⟨none,none,.store 4 (.t 6) (.t 31)⟩,⟨some 7,none,.mov (.t 33)⟩,⟨some 8,none,.mov (.c (.int .i64 0))⟩,⟨some 9,none,.mov (.c (.int .i64 0))⟩] none) .ret))⟩
def c_45_l0:ACode:=ydh [yb9 33,yb6 34 2,xL 35 34,xN 36 35,xB 37 .lss 33 36] 37 0 1 [yb6 40 2,xL 41 40,yb9 42,xX 43 1 41 42,xL 44 43,yb6 45 3,xL 46 45,yb9 47,xX 48 1 46 47,xL 49 48,ybf 50 f_110 44 49,ybj 51 50] (yai 51 [yc6]) [yb9 38,ycc 39 .add 38,ydk 39]
def c_45_l1:ACode:=ydh [xM 52 6,xF 53 2 2,xL 54 53,xN 55 54,xB 56 .lss 52 55] 56 2 3 [xF 59 2 2,xL 60 59,xM 61 6,xX 62 2 60 61,xA 63 2 62,xF 64 2 3,xL 65 64,xM 66 6,xX 67 2 65 66,xA 68 2 67,ybf 69 f_72 63 68,ybj 70 69] (yai 70 [yc6]) [xM 57 6,ycc 58 .add 57,xM 6 58]
def c_45_l2:ACode:=ydh [xM 71 7,xF 72 3 2,xL 73 72,xN 74 73,xB 75 .lss 71 74] 75 4 5 [xF 78 3 2,xL 79 78,xM 80 7,xX 81 1 79 80,xL 82 81,xF 83 3 3,xL 84 83,xM 85 7,xX 86 1 84 85,xL 87 86,ybf 88 f_111 82 87,ybj 89 88] (yai 89 [yc6]) [xM 76 7,ycc 77 .add 76,xM 7 77]
def c_45_k3:ACode:=ydl (xC 4 ybx)
def c_45_k4:ACode:=ybq [ya9 7] 4 c_45_l2 c_45_k3
def c_45_k5:ACode:=ybq [ydc] 2 c_45_l1 c_45_k4
def c_45:AFn:=⟨2,[.tmp 4],yde [ycj 2 0,ycj 3 1,yc6] [yb6 8 2,xL 9 8,xN 10 9,yb6 11 3,xL 12 11,xN 13 12,xB 14 .neq 10 13,xM 15 14,yaw 16 15 2 2,ybr 17 15 16,ybc 18 15 17,yaw 19 15 2 3,ybr 20 15 19,ybc 21 15 20,ybz 22 15 .neq 18 21,xW 23 15 22,xM 24 23,yaw 25 24 3 2,ybr 26 24 25,ybc 27 24 26,yaw 28 24 3 3,ybr 29 24 28,ybc 30 24 29,ybz 31 24 .neq 27 30,xW 32 24 31] 32 [yc6] [ycv] 0 c_45_l0 c_45_k5⟩
def c_46:AFn:=⟨2,[.cell 4 true 4],ybs [ydi 2,ycj 3 1,yc8 4 (.fslice 1 []) (.fslice 1 []) (.fslice 2 []) (.fslice 1 [])] [xF 5 3 2,xL 6 5,xF 7 3 3,xS 1 7 6] (yb5 (xA 8 4 3) (xS 4 4 8))⟩
def c_48:AFn:=⟨3,[.cell 6 true 4,.tmp 7,.tmp 8,.tmp 9],yaa [ydi 3,xJ 4 1,yc8 6 (.fslice 1 []) (.fslice 1 []) (.fslice 2 []) (.fslice 1 []),xC 7 (.fslice 1 []),ya9 8,ya9 9] (ya3 [xA 12 9 3,xA 13 4 4,ycl 14 f_18 [.t 12,.t 13],xM 11 14,xE 15 0 11,xE 16 1 11,xM 10 15,xM 9 16] [xM 17 9,yc5 18 .neq 17] 18 [xO 19 (.build [.fslice 1 [],.fslice 1 [],.fslice 2 [],.fslice 1 []] []),xM 20 9,xS 4 6 19,xC 7 (.fslice 1 []),yb4 8,xM 9 20] (ya3 [xM 22 10,xM 23 2,ycl 24 f_51 [.t 22,.t 23],xM 21 24,xE 25 0 21,xE 26 1 21,xE 27 2 21,xM 7 25,xM 8 26,xM 9 27] [xM 28 9,yc5 29 .neq 28] 29 [xO 30 (.build [.fslice 1 [],.fslice 1 [],.fslice 2 [],.fslice 1 []] []),xM 31 8,xM 32 9,xS 4 6 30,xC 7 (.fslice 1 []),xM 8 31,xM 9 32] (yae [xM 33 10,ycl 34 f_24 [.t 33],xM 35 7,xS 4 6 34,xM 7 35,ya9 8,ya9 9])))⟩
def c_50_l0:ACode:=ydh [yb9 11,ycb 12,xN 13 12,xB 14 .lss 11 13] 14 0 1 [ycb 17,yb9 18,xX 19 1 17 18,xL 20 19,yca 21,yb9 22,xX 23 1 21 22,xL 24 23,xB 25 .neq 20 24] (yai 25 [yc6]) [yb9 15,ycc 16 .add 15,ydk 16]
def c_50_k1:ACode:=ydl (xC 4 ybx)
def c_50:AFn:=⟨2,[.tmp 4],yde [yc6] [ycb 6,xN 7 6,yca 8,xN 9 8,xB 10 .neq 7 9] 10 [yc6] [ycv] 0 c_50_l0 c_50_k1⟩
def c_51_l0:ACode:=yc9 [xB 37 .lss 36 35] 37 0 1 (yaa [xM 38 36,xX 39 9 34 36,xA 40 9 39,yax 11 [ybk,ybk,ybk,.fslice 2 [],ybk,ybk,.fslice 1 [],ybk,.fslice 1 []],xM 10 38,xS 9 11 40] (ya3 [xL 42 2,xA 43 9 11,ycl 44 f_117 [.t 42,.t 43],xM 41 44,xE 45 0 41,xE 46 1 41,xM 12 45,xM 13 46] [xM 47 13,yc5 48 .neq 47] 48 [xM 49 10,xM 50 13,xC 4 (.fslice 1 []),ydk 49,xS 1 6 50] (xR [xM 51 9,xM 52 12,xO 53 (.bslice .imm 1 (List.replicate 1 [.int .i64 0]) [(0,(.t 52))]),ycx 54 1 8 51 53,xM 9 54]))) [ycc 55 .add 36,xM 36 55]
def c_51_k1:ACode:=yae [xM 56 9,ydn 56,ycv,⟨none,none,.store 1 (.t 6) (.c (.int .i64 0))⟩]
def c_51:ADFn:=⟨2,[.tmp 4,.tmp 5,.cell 6 false 1],.seq (xR [xO 2 (.box (.t 0)),xC 4 (.fslice 1 []),xI 5 0,xO 6 (.alloc [.int .i64 0])]) (.seq (xR [xL 14 2,xO 15 (.tcall f_36 [.t 14]),xO 7 (.alloc [.nilptr]),xS 1 7 15]) (.seq (.seq (xR [xL 16 2,xO 17 (.build [.int .i64 0,.fslice 1 []] []),xO 18 (.tcall f_34 [.t 16,.c (.int .i64 (-1)),.c (.int .i64 0),.t 17]),xK 19 .eql 18 1,xM 20 19,xG 21 20 false (.load false 1 (.t 7)),xG 22 20 false (.eqn false (.t 21) (.c (.nilptr))),xW 23 20 22]) (.cond (.t 23) (.seq (xR [xC 4 (.fslice 1 []),xI 5 (-1),⟨none,none,.store 1 (.t 6) (.c (.int .i64 1))⟩]) (.ret)) (.skip))) (.seq (.seq (xR [xM 24 1,xN 25 24,xK 26 .gtr 25 64]) (.cond (.t 26) (.seq (xR [xC 4 (.fslice 1 []),xI 5 (-1),⟨none,none,.store 1 (.t 6) (.c (.int .i64 12))⟩]) (.ret)) (.skip))) (.dfr [⟨some 27,none,.mkfunc (.func f_116) [] [.t 6,.t 7,.t 2]⟩] 27 (.seq (xR [xM 28 1,xN 29 28,xO 30 (.mkslice .row 9 120 [.int .i64 0,.int .i64 0,.int .i64 0,.fslice 2 [],.int .i64 0,.int .i64 0,.fslice 1 [],.int .i64 0,.fslice 1 []] (.t 29) (.t 29)),xM 8 30]) (.seq (xR [xM 31 8,xM 32 1,xO 33 (.copy 9 (.t 31) (.t 32))]) (.seq (xR [xO 9 (.nilapp 1)]) (.seq (.seq (xR [xM 34 8,xN 35 34,xI 36 0]) (.block 0 (.loop c_51_l0))) c_51_k1)))))))),f_116,3,none,.seq (xR [xL 3 0,xK 4 .neq 3 0]) (.cond (.t 4) (xD [xL 5 2,xL 6 1,xO 7 (.nilchk (.t 6)),xA 8 15 7,xO 9 (.nilchk (.t 5)),xS 15 9 8]) (.skip))⟩
def c_55:AFn:=⟨1,[.cell 2 true 4],ycp (ydi 1) (yc8 2 ybk ybk ybk ybk) (yan [xA 4 9 1,yb2 5 f_125 4,yc8 3 ybk ybk ybk ybk,xS 4 3 5] [yb6 6 3,xL 7 6,yc5 8 .eql 7] (ybu 8 (xR [xA 9 9 1,yb2 10 f_126 9,xS 4 3 10])) (yad [yb6 11 3,xL 12 11,yc5 13 .eql 12] (ybu 13 (xR [xA 14 9 1,yb2 15 f_127 14,xS 4 3 15])) (yad [yb6 16 3,xL 17 16,yc5 18 .eql 17] (ybu 18 (xR [xA 19 9 1,yb2 20 f_128 19,xS 4 3 20])) (yad [yb6 21 3,xL 22 21,yc5 23 .eql 22] (ybu 23 (xR [xA 24 9 1,yb2 25 f_129 24,xS 4 3 25])) (yad [yb6 26 3,xL 27 26,yc5 28 .eql 27] (ybu 28 (xR [xA 29 9 1,yb2 30 f_130 29,xS 4 3 30])) (yad [yb6 31 3,xL 32 31,yc5 33 .eql 32] (ybu 33 (xR [xA 34 9 1,yb2 35 f_131 34,xS 4 3 35])) (yb5 (xA 36 4 3) (xS 4 2 36))))))))⟩
def c_63:ADFn:=⟨1,[.cell 2 true 4],.seq (xR [xO 1 (.box (.t 0)),xO 2 (.alloc [.int .i64 0,.int .i64 0,.int .i64 0,.int .i64 0])]) (.dfr [⟨some 3,none,.mkfunc (.func f_144) [] [.t 2]⟩] 3 (.seq (xR [xA 4 9 1,xO 5 (.pcall f_145 [.t 4])]) (.seq (xR [xA 6 9 1,xO 7 (.pcall f_146 [.t 6])]) (.seq (xR [xA 8 9 1,xO 9 (.pcall f_147 [.t 8])]) (.seq (xR [xA 10 9 1,xO 11 (.pcall f_148 [.t 10])]) (.seq (xR [xA 12 9 1,xO 13 (.pcall f_149 [.t 12])]) (.seq (xR [xO 14 (.build [.int .i64 0,.int .i64 0,.int .i64 0,.int .i64 0] []),xS 4 2 14]) (.ret)))))))),f_144,1,(some (4,1)),.seq (.seq (xR [xM 5 1,xO 6 (.eqs false false [] (.t 5) (.c (.niliface)))]) (.cond (.t 6) (.ret) (.skip))) (.seq (.seq (xR [xM 8 1,xO 9 (.tassert 207 true (.agg [.int .i64 0,.int .i64 0,.int .i64 0,.int .i64 0]) (.t 8)),xM 7 9,xE 10 0 7,xE 11 1 7,xO 2 (.alloc [.int .i64 0,.int .i64 0,.int .i64 0,.int .i64 0]),xS 4 2 10,xM 3 11]) (.seq (xR [xM 12 3]) (.cond (.t 12) (.seq (xR [xF 13 0 2,xA 14 4 13,xS 4 0 14]) (.ret)) (.skip)))) (xR [xM 15 1,⟨none,none,.panic (.t 15)⟩]))⟩
def c_64_l0:ACode:=yc7 [xB 29 .lss 28 27] 29 0 1 [xX 30 5 26 28,xA 31 5 30,yax 13 [ybk,.fslice 2 [],ybk,ybk,.fslice 1 []],xS 5 13 31] [13] (ybl [yb6 32 13,xL 33 32,xM 34 11,xB 35 .leq 33 34] 35 [xI 10 14] (xR [yb6 36 13,xL 37 36,xM 11 37])) [ycc 38 .add 28,xM 28 38]
def c_64_l1:ACode:=yc7 [xB 53 .lss 52 51] 53 2 3 [xM 54 52,xX 55 5 50 52,xA 56 5 55,yax 15 [ybk,.fslice 2 [],ybk,ybk,.fslice 1 []],xM 14 54,xS 5 15 56] [15] (yad [xA 57 9 5,yca 58,yce 59 15,xA 60 4 59,yc4 61 f_86 57 58 60,xM 16 61] (ya4 [xM 62 16,yc5 63 .neq 62] 63 [xM 64 16,xM 10 64]) (ya4 [xM 65 2,xM 66 14,xO 67 (.slc 5 (.t 65) none (some (.t 66)) none),xO 68 (.mkfunc (.func f_150) [] [.t 15]),ybf 69 f_87 67 68] 69 [xI 10 7])) [ycc 70 .add 52,xM 52 70]
def c_64_k2:ACode:=yae [xA 71 9 5,yca 72,xA 73 2 9,yc4 74 f_92 71 72 73,xM 10 74]
def c_64_k3:ACode:=ybl [xM 39 3,xM 40 11,xB 41 .leq 39 40,xM 42 41,ya2 43 42 3,ybm 44 42 .lss 43 1,xW 45 42 44,xM 46 45,ya2 47 46 3,ybm 48 46 .gtr 47 1073741824,xW 49 46 48] 49 [xI 10 14] (ybq [xM 50 2,xN 51 50,ya9 52] 2 c_64_l1 c_64_k2)
def c_64:AFn:=⟨5,[.tmp 10],ya3 [ydi 5,xJ 9 4,ya9 10] [xM 17 2,xN 18 17,xF 19 5 5,xL 20 19,yca 21,xX 22 6 20 21,xF 23 5 22,xL 24 23,xB 25 .gtr 18 24] 25 [xI 10 12] (ybh [ya9 11] [xM 26 2,xN 27 26,ya9 28] 0 c_64_l0 c_64_k3)⟩
def c_65_l0:ACode:=yc9 [xB 18 .lss 17 16] 18 0 1 (yaa [xM 19 17,xX 20 1 15 17,xL 21 20,ydk 19,xM 6 21] (ya4 [xM 22 6,xN 23 22,xF 24 3 2,xL 25 24,yb9 26,xX 27 3 25 26,xF 28 2 27,xL 29 28,xB 30 .neq 23 29] 30 [xI 4 2])) [ycc 31 .add 17,xM 17 31]
def c_65_l1:ACode:=yc9 [xB 35 .lss 34 33] 35 2 3 (ya0 [xM 36 34,xX 37 1 32 34,xL 38 37,xM 7 36,xM 8 38] (xD [xM 39 8,xN 40 39,yc5 41 .gtr 40,xM 42 41,ybn 43 42 8,ycm 44 42 f_151 [.t 43],ybw 45 42 3 2,yb7 46 42 1 45,ybn 47 42 7,yas 48 42 (ycz 3 46 47),ybw 49 42 1 48,yb7 50 42 1 49,ycm 51 42 f_152 [.t 50],ybt 52 42 .gtr 44 (.t 51),xV 53 42 52]) (yai 53 [xI 4 9])) [ycc 54 .add 34,xM 34 54]
def c_65_k2:ACode:=ydl yby
def c_65_k3:ACode:=ybq [yca 32,xN 33 32,ya9 34] 2 c_65_l1 c_65_k2
def c_65:AFn:=⟨2,[.tmp 4],yde [ydi 2,yby] [yca 9,xN 10 9,xF 11 3 2,xL 12 11,xN 13 12,xB 14 .neq 10 13] 14 [xI 4 2] [yca 15,xN 16 15,ya9 17] 0 c_65_l0 c_65_k3⟩
def c_66_l0:ACode:=yc9 [xB 30 .lss 29 28] 30 0 1 (ycq (xM 31 29) 6 31 (xR [yb9 32,xM 33 6,ycl 34 f_94 [.t 32,.t 33]])) [ycc 35 .add 29,xM 29 35]
def c_66_k1:ACode:=ycn (yb9 36) 4 36
def c_66:AFn:=⟨2,[.tmp 4],ya0 [ydi 2,ycj 3 1,xC 4 .nilptr] (.region true [(1,2)] [⟨some 7,none,.load true 4 (.t 3)⟩,⟨some 8,none,.tcall f_76 [.t 7]⟩,⟨some 9,none,.load true 9 (.t 2)⟩,⟨some 10,none,.pcall f_139 [.t 9]⟩,⟨some 11,none,.build [.fslice 1 [],.fslice 1 [],.fslice 2 [],.fslice 1 [],.str [],.fslice 2 [],.fslice 2 [],.fslice 3 [],.fslice 3 [],.fslice 6 [],.fslice 7 [],.fslice 5 [],.fslice 1 [],.fslice 1 [],.bool false] [(0,4,(.t 8)),(4,9,(.t 10)),(14,1,(.c (.bool true)))]⟩,⟨some 12,none,.box (.t 11)⟩,⟨some 5,none,.mov (.t 12)⟩] none) (ybh [yb9 13,yb9 14,xO 15 (ybv 14),yb6 16 15,yb6 17 16,xL 18 17,xN 19 18,xO 20 (.mkslice .row 1 8 [.nilmap] (.t 19) (.t 19)),xO 21 (ybv 13),xF 22 13 21,xS 1 22 20] [yb9 23,xO 24 (ybv 23),yb6 25 24,yb6 26 25,xL 27 26,xN 28 27,ya9 29] 0 c_66_l0 c_66_k1)⟩
def c_67_l0:ACode:=ycu [xM 22 10,xM 23 2,xN 24 23,xB 25 .lss 22 24] 25 0 1 (ybl [xM 28 2,xM 29 10,xX 30 5 28 29,yb6 31 30,xL 32 31,xM 33 9,xB 34 .leq 32 33] 34 [xI 8 14] (xR [xM 35 2,xM 36 10,xX 37 5 35 36,yb6 38 37,xL 39 38,xM 9 39])) [xM 26 10,ycc 27 .add 26,xM 10 27]
def c_67_l1:ACode:=ydh [xM 47 11,xM 48 2,xN 49 48,xB 50 .lss 47 49] 50 2 3 [xA 53 9 4,yca 54,xM 55 2,xM 56 11,xX 57 5 55 56,yce 58 57,xA 59 4 58,yc4 60 f_153 53 54 59,xM 12 60] (.block 4 (ybo [xM 62 12,yc5 63 .neq 62,xM 61 63] 61 [xM 64 12,xM 8 64] (ycd [xM 66 2,xM 67 11,xO 68 (.slc 5 (.t 66) none (some (.t 67)) none),xM 69 2,xM 70 11,xX 71 5 69 70,yce 72 71,xA 73 4 72,ybf 74 f_154 68 73,xM 65 74] (yai 65 [xI 8 7])))) [xM 51 11,ycc 52 .add 51,xM 11 52]
def c_67_k2:ACode:=ydl (ya9 8)
def c_67_k3:ACode:=ybl [xM 40 3,xM 41 9,xB 42 .leq 40 41,xM 43 42,ya2 44 43 3,ybm 45 43 .gtr 44 1073741824,xW 46 43 45] 46 [xI 8 14] (ybq [ya9 11] 2 c_67_l1 c_67_k2)
def c_67:AFn:=⟨4,[.tmp 8],ya3 [ydi 4,ya9 8] [xM 13 2,xN 14 13,xF 15 5 4,xL 16 15,yca 17,xX 18 6 16 17,xF 19 5 18,xL 20 19,xB 21 .gtr 14 20] 21 [xI 8 12] (ybh [ya9 9] [ya9 10] 0 c_67_l0 c_67_k3)⟩
def c_68:AFn:=⟨3,[.tmp 6],ya3 [ydi 3,xJ 5 2,ydc] [xA 7 9 3,yca 8,yb6 9 5,xL 10 9,yc4 11 f_155 7 8 10,ybj 12 11] 12 [xI 6 8] (yae [xA 13 9 3,xA 14 2 5,ybf 15 f_156 13 14,xM 6 15])⟩
def c_69_l0:ACode:=ydh [yb9 14,yca 15,xN 16 15,xB 17 .lss 14 16] 17 0 1 [yca 20,yb9 21,xX 22 1 20 21,xL 23 22,xN 24 23,xF 25 3 2,xL 26 25,yb9 27,xX 28 3 26 27,xF 29 2 28,xL 30 29,xB 31 .neq 24 30] (yai 31 [xI 4 2]) [yb9 18,ycc 19 .add 18,ydk 19]
def c_69_l1:ACode:=ydh [xM 38 7,yca 39,xM 40 6,xX 41 1 39 40,xL 42 41,xN 43 42,xB 44 .lss 38 43] 44 4 5 [yca 47,xM 48 6,xX 49 1 47 48,xL 50 49,xM 51 7,xX 52 1 50 51,xL 53 52,xF 54 3 2,xL 55 54,xM 56 6,xX 57 3 55 56,xA 58 3 57,yb2 59 f_158 58,ybf 60 f_157 53 59,ybj 61 60] (yai 61 [xI 4 9]) [xM 45 7,ycc 46 .add 45,xM 7 46]
def c_69_k2:ACode:=xR [xM 36 6,ycc 37 .add 36,xM 6 37]
def c_69_l3:ACode:=yba [xM 32 6,yca 33,xN 34 33,xB 35 .lss 32 34] 35 2 (yaj 3 (yaa [ya9 7] (yam 4 c_69_l1)) c_69_k2)
def c_69_k4:ACode:=ydl yby
def c_69_k5:ACode:=ybq [ydc] 2 c_69_l3 c_69_k4
def c_69:AFn:=⟨2,[.tmp 4],yde [ydi 2,yby] [yca 8,xN 9 8,xF 10 3 2,xL 11 10,xN 12 11,xB 13 .neq 9 12] 13 [xI 4 2] [ycv] 0 c_69_l0 c_69_k5⟩
def c_70_l0:ACode:=ydh [yb9 11,ycb 12,xN 13 12,xB 14 .lss 11 13] 14 0 1 [ycb 17,yb9 18,xX 19 1 17 18,xL 20 19,yca 21,yb9 22,xX 23 1 21 22,xL 24 23,ybf 25 f_159 20 24,ybj 26 25] (yai 26 [yc6]) [yb9 15,ycc 16 .add 15,ydk 16]
def c_70_k1:ACode:=ydl (xC 4 ybx)
def c_70:AFn:=⟨2,[.tmp 4],yde [yc6] [ycb 6,xN 7 6,yca 8,xN 9 8,xB 10 .neq 7 9] 10 [yc6] [ycv] 0 c_70_l0 c_70_k1⟩
def c_71_l0:ACode:=ydh [yb9 11,ycb 12,xN 13 12,xB 14 .lss 11 13] 14 0 1 [ycb 17,yb9 18,xX 19 5 17 18,yb6 20 19,xL 21 20,yca 22,yb9 23,xX 24 5 22 23,yb6 25 24,xL 26 25,xB 27 .neq 21 26,xM 28 27,ya2 29 28 0,ya2 30 28 5,ydm 31 28 5 29 30,yc0 32 28 31,yc0 33 28 32,ybr 34 28 33,ya2 35 28 1,ya2 36 28 5,ydm 37 28 5 35 36,yc0 38 28 37,yc0 39 28 38,ybr 40 28 39,ybz 41 28 .neq 34 40,xW 42 28 41,xM 43 42,ya2 44 43 0,ya2 45 43 5,ydm 46 43 5 44 45,yc0 47 43 46,yac 48 43 (yda 4 (.t 47)),ya2 49 43 1,ya2 50 43 5,ydm 51 43 5 49 50,yc0 52 43 51,yac 53 43 (yda 4 (.t 52)),yct 54 43 f_31 [.t 48,.t 53],ydj 55 43 54,xW 56 43 55] (yai 56 [yc6]) [yb9 15,ycc 16 .add 15,ydk 16]
def c_71_k1:ACode:=ydl (xC 4 ybx)
def c_71:AFn:=⟨2,[.tmp 4],yde [yc6] [ycb 6,xN 7 6,yca 8,xN 9 8,xB 10 .neq 7 9] 10 [yc6] [ycv] 0 c_71_l0 c_71_k1⟩
def c_72_l0:ACode:=ydh [yb9 20,yce 21 2,xL 22 21,xN 23 22,xB 24 .lss 20 23] 24 0 1 [yce 27 2,xL 28 27,yb9 29,xX 30 1 28 29,xL 31 30,yce 32 3,xL 33 32,yb9 34,xX 35 1 33 34,xL 36 35,xB 37 .neq 31 36] (yai 37 [yc6]) [yb9 25,ycc 26 .add 25,ydk 26]
def c_72_k1:ACode:=ydl (xC 4 ybx)
def c_72:AFn:=⟨2,[.tmp 4],yde [ycj 2 0,ycj 3 1,yc6] [yb6 6 2,xL 7 6,yb6 8 3,xL 9 8,xB 10 .neq 7 9,xM 11 10,yc0 12 11 2,ybr 13 11 12,ybc 14 11 13,yc0 15 11 3,ybr 16 11 15,ybc 17 11 16,ybz 18 11 .neq 14 17,xW 19 11 18] 19 [yc6] [ycv] 0 c_72_l0 c_72_k1⟩
def c_74:AFn:=⟨1,[.cell 2 true 2],ya0 [ydi 1,yax 2 [ybk,.fslice 1 []]] (xD [yb6 3 1,xL 4 3,yce 5 1,xL 6 5,yb2 7 f_161 6,xO 8 (.build [.int .i64 0,.fslice 1 []] [(0,1,(.t 4)),(1,1,(.t 7))]),xS 2 2 8]) .ret⟩
def c_76_l0:ACode:=yc7 [xB 27 .lss 26 25] 27 2 3 [xX 28 5 24 26,xA 29 5 28,yax 8 [ybk,.fslice 2 [],ybk,ybk,.fslice 1 []],xS 5 8 29] [8] (xR [xM 30 6,xA 31 5 8,yb2 32 f_163 31,xO 33 (.bslice .imm 5 (List.replicate 1 [.int .i64 0,.fslice 2 [],.int .i64 0,.int .i64 0,.fslice 1 []]) [(0,(.t 32))]),ycr 34 .row 5 72 30 33,xM 6 34]) [ycc 35 .add 26,xM 26 35]
def c_76_k1:ACode:=xR [yb6 36 3,xL 37 36,xM 38 6,xO 39 (.bslice .row 1 (List.replicate 1 [.fslice 5 []]) [(0,(.t 38))]),ycr 40 .row 1 24 37 39,yb6 41 3,xS 1 41 40]
def c_76_k2:ACode:=xR [ycc 42 .add 20,xM 20 42]
def c_76_l3:ACode:=ybi [xB 21 .lss 20 19] 21 0 (yaj 1 (ydb [xX 22 1 18 20,xL 23 22,ydk 23] [xC 6 (.fslice 5 [])] [yb9 24,xN 25 24,ya9 26] 2 c_76_l0 c_76_k1) c_76_k2)
def c_76_l4:ACode:=yc7 [xB 47 .lss 46 45] 47 4 5 [xX 48 2 44 46,xA 49 2 48,yax 10 [ybk,.fslice 1 []],xS 2 10 49] [10] (xD [xF 50 2 3,xL 51 50,xA 52 2 10,yb2 53 f_74 52,xO 54 (.bslice .imm 2 (List.replicate 1 [.int .i64 0,.fslice 1 []]) [(0,(.t 53))]),ycr 55 .row 2 32 51 54,xF 56 2 3,xS 1 56 55]) [ycc 57 .add 46,xM 46 57]
def c_76_l5:ACode:=yc9 [xB 62 .lss 61 60] 62 6 7 (yaa [xX 63 1 59 61,xL 64 63,xM 12 64] (xD [xF 65 3 3,xL 66 65,xM 67 12,yb2 68 f_161 67,xO 69 (.bslice .imm 1 (List.replicate 1 [.fslice 1 []]) [(0,(.t 68))]),ycx 70 1 24 66 69,xF 71 3 3,xS 1 71 70])) [ycc 72 .add 61,xM 61 72]
def c_76_k6:ACode:=yb5 (xA 73 4 3) (xS 4 2 73)
def c_76_k7:ACode:=ybq [xF 58 3 1,xL 59 58,xN 60 59,ya9 61] 6 c_76_l5 c_76_k6
def c_76_k8:ACode:=ybq [xF 43 2 1,xL 44 43,xN 45 44,ya9 46] 4 c_76_l4 c_76_k7
def c_76:AFn:=⟨1,[.cell 2 true 4],ycp (ycj 1 0) (yc8 2 (.fslice 1 []) (.fslice 1 []) (.fslice 2 []) (.fslice 1 [])) (ybh [yce 13 1,xL 14 13,ycl 15 f_162 [.t 14],xO 16 (.build [.fslice 1 [],.fslice 1 [],.fslice 2 [],.fslice 1 []] [(1,1,(.t 15))]),yc8 3 (.fslice 1 []) (.fslice 1 []) (.fslice 2 []) (.fslice 1 []),xS 4 3 16] [yb6 17 1,xL 18 17,xN 19 18,ya9 20] 0 c_76_l3 c_76_k8)⟩
def c_77:AFn:=⟨4,[.cell 8 true 4,.tmp 9,.tmp 10],ya3 [ydi 4,xJ 5 1,xJ 7 3,yc8 8 (.fslice 1 []) (.fslice 1 []) (.fslice 2 []) (.fslice 1 []),ya9 9,ya9 10] [xM 14 2,yc5 15 .lss 14,xM 16 15,ya2 17 16 2,yaw 18 16 5 4,ybr 19 16 18,ybc 20 16 19,ybz 21 16 .geq 17 20,xW 22 16 21] 22 [xA 23 4 5,xS 4 8 23,ya9 9,xI 10 8] (yaa [xA 24 9 4,xM 25 2,xA 26 4 7,yc4 27 f_153 24 25 26,xM 11 27] (ycy 0 [xM 29 11,yc5 30 .neq 29,xM 28 30] 28 [xA 31 4 5,xM 32 11,xS 4 8 31,ya9 9,xM 10 32] (ycd [yb6 34 5,xL 35 34,xM 36 2,xX 37 1 35 36,xL 38 37,xA 39 4 7,ybf 40 f_154 38 39,xM 33 40] (yah 33 [xA 41 4 5,xS 4 8 41,ya9 9,xI 10 7] (ycd [yb6 43 5,xL 44 43,xM 45 2,xX 46 1 44 45,xL 47 46,xN 48 47,xF 49 5 4,xL 50 49,xM 51 2,xX 52 6 50 51,xF 53 5 52,xL 54 53,xB 55 .geq 48 54,xM 56 55,yc0 57 56 5,ybr 58 56 57,ya2 59 56 2,ydm 60 56 1 58 59,ybr 61 56 60,ybm 62 56 .geq 61 1073741824,xW 63 56 62,xM 42 63] (yai 42 [xA 64 4 5,xS 4 8 64,ya9 9,xI 10 13])))) (ybs [yce 65 5,xL 66 65,xM 67 2,xX 68 1 66 67,xL 69 68,xM 12 69] [yco 13 5] (ybs [xM 70 13,yb6 71 5,xL 72 71,xM 73 2,xX 74 1 72 73,xL 75 74,ycx 76 5 72 70 75,xM 13 76] [xM 77 13,xM 78 12,xA 79 4 7,xO 80 (.build [.int .i64 0,.fslice 2 [],.int .i64 0,.int .i64 0,.fslice 1 []] [(0,1,(.t 78)),(1,4,(.t 79))]),xO 81 (.bslice .imm 5 (List.replicate 1 [.int .i64 0,.fslice 2 [],.int .i64 0,.int .i64 0,.fslice 1 []]) [(0,(.t 80))]),ycx 82 5 72 77 81,xM 13 82] (yae [xA 83 4 5,xM 84 2,xM 85 13,xM 86 12,ycc 87 .add 86,ycf 88 f_164 (.t 83) (.t 84) (.t 85) (.t 87),xM 89 12,xS 4 8 88,xM 9 89,ya9 10])))))⟩
def c_78:AFn:=⟨5,[.cell 10 true 4,.tmp 11],ya3 [ydi 5,xJ 6 1,xJ 9 4,yc8 10 (.fslice 1 []) (.fslice 1 []) (.fslice 2 []) (.fslice 1 []),ya9 11] [xM 14 2,yc5 15 .lss 14,xM 16 15,ya2 17 16 2,yaw 18 16 5 5,ybr 19 16 18,ybc 20 16 19,ybz 21 16 .geq 17 20,xW 22 16 21,xM 23 22,yaw 24 23 0 6,ybr 25 23 24,ya2 26 23 2,ydm 27 23 1 25 26,ybr 28 23 27,ya2 29 23 3,yct 30 23 f_165 [.t 28,.t 29],ybm 31 23 .lss 30 0,xW 32 23 31] 32 [xA 33 4 6,xS 4 10 33,xI 11 8] (ya3 [xA 34 9 5,xM 35 2,xA 36 2 9,yc4 37 f_68 34 35 36,xM 12 37] [xM 38 12,yc5 39 .neq 38] 39 [xA 40 4 6,xM 41 12,xS 4 10 40,xM 11 41] (yaa [xC 13 (.fslice 5 [])] (ya0 [xM 42 13,yb6 43 6,xL 44 43,xM 45 2,xX 46 1 44 45,xL 47 46,ycr 48 .row 5 72 42 47,xM 13 48] (xD [xM 49 13,xM 50 13,xM 51 3,ybf 52 f_165 50 51,xA 53 2 9,xX 54 5 49 52,yce 55 54,xF 56 2 55,xS 2 56 53]) (ycd [xA 57 4 6,xM 58 2,xM 59 13,yce 60 6,xL 61 60,xM 62 2,xX 63 1 61 62,xL 64 63,xO 65 (.pcallk f_164 [.t 57,.t 58,.t 59,.t 64]),xS 4 10 65,ya9 11] .ret))))⟩
def c_79:AFn:=⟨4,[.cell 8 true 4,.tmp 9],ya3 [ydi 4,xJ 5 1,yc8 8 (.fslice 1 []) (.fslice 1 []) (.fslice 2 []) (.fslice 1 []),ya9 9] [xM 12 2,yc5 13 .lss 12,xM 14 13,ya2 15 14 2,yaw 16 14 5 4,ybr 17 14 16,ybc 18 14 17,ybz 19 14 .geq 15 18,xW 20 14 19,xM 21 20,yaw 22 21 0 5,ybr 23 21 22,ya2 24 21 2,ydm 25 21 1 23 24,ybr 26 21 25,ya2 27 21 3,yct 28 21 f_165 [.t 26,.t 27],ybm 29 21 .lss 28 0,xW 30 21 29] 30 [xA 31 4 5,xS 4 8 31,xI 9 8] (yaa [yb6 32 5,xL 33 32,xM 34 2,xX 35 1 33 34,xL 36 35,xM 37 3,ybf 38 f_165 36 37,xM 10 38] (ybs [yco 11 5] [xM 39 11,yb6 40 5,xL 41 40,xM 42 2,xX 43 1 41 42,xL 44 43,xM 45 10,xO 46 (.slc 5 (.t 44) none (some (.t 45)) none),ycx 47 5 72 39 46,xM 11 47] (ya0 [xM 48 11,yb6 49 5,xL 50 49,xM 51 2,xX 52 1 50 51,xL 53 52,xM 54 10,ycc 55 .add 54,xO 56 (.slc 5 (.t 53) (some (.t 55)) none none),ycx 57 5 72 48 56,xM 11 57] (xD [xA 58 4 5,xM 59 2,xM 60 11,yce 61 5,xL 62 61,xM 63 2,xX 64 1 62 63,xL 65 64,ycf 66 f_164 (.t 58) (.t 59) (.t 60) (.t 65),xS 4 8 66,ya9 9]) .ret)))⟩
def c_80:AFn:=⟨4,[.cell 8 true 4,.tmp 9],ya3 [ydi 4,xJ 5 1,xJ 7 3,yc8 8 (.fslice 1 []) (.fslice 1 []) (.fslice 2 []) (.fslice 1 []),ya9 9] [xM 12 2,yc5 13 .lss 12,xM 14 13,ya2 15 14 2,yaw 16 14 5 4,ybr 17 14 16,ybc 18 14 17,ybz 19 14 .geq 15 18,xW 20 14 19] 20 [xA 21 4 5,xS 4 8 21,xI 9 8] (ya3 [xA 22 9 4,xM 23 2,xA 24 2 7,yc4 25 f_68 22 23 24,xM 10 25] [xM 26 10,yc5 27 .neq 26] 27 [xA 28 4 5,xM 29 10,xS 4 8 28,xM 9 29] (yaa [yb6 30 5,xL 31 30,yce 32 5,xL 33 32,xF 34 3 5,xL 35 34,xO 36 (.build [.fslice 1 [],.fslice 1 [],.fslice 2 [],.fslice 1 []] [(0,1,(.t 31)),(1,1,(.t 33)),(3,1,(.t 35))]),yc8 11 (.fslice 1 []) (.fslice 1 []) (.fslice 2 []) (.fslice 1 []),xS 4 11 36] (ybs [xF 37 2 11,xL 38 37,xF 39 2 5,xL 40 39,ycr 41 .row 2 32 38 40,xF 42 2 11,xS 1 42 41] [xF 43 2 11,xL 44 43,xM 45 2,xA 46 2 7,xX 47 2 44 45,xS 2 47 46] (yae [xA 48 4 11,xS 4 8 48,ya9 9]))))⟩
def c_81:AFn:=⟨3,[.tmp 6],ycp (ycj 5 2) ydc (ycy 0 [ycb 9,xO 10 (.eqn false (.t 9) (.c .nilptr)),xM 11 10,ya2 12 11 0,yac 13 11 (ybv 12),yaw 14 11 14 13,ybr 15 11 14,ydj 16 11 15,xW 17 11 16,xM 8 17] 8 [xI 6 1] (ya4 [ycb 19,yca 20,ycl 21 f_82 [.t 19,.t 20],ybj 22 21,xM 18 22] 18 [xI 6 8]) (ycd [ycb 23,xO 24 (ybv 23),xF 25 4 24,xA 26 9 25,yca 27,xA 28 2 5,yc4 29 f_92 26 27 28,xM 7 29] (yad [xM 30 7,yc5 31 .eql 30] (ybu 31 (xD [ycb 32,xO 33 (ybv 32),yb6 34 33,xF 35 2 34,xL 36 35,yca 37,xA 38 2 5,yb2 39 f_74 38,xX 40 2 36 37,xS 2 40 39])) (ycn (xM 41 7) 6 41))))⟩
def c_82:AFn:=⟨2,[.tmp 4],yb0 [yc6] [yca 5,yc5 6 .geq 5,xM 7 6,ybn 8 7 1,ybn 9 7 0,yas 10 7 (ybv 9),ybw 11 7 0 10,ybw 12 7 0 11,yb7 13 7 1 12,yas 14 7 (ya5 13),ybt 15 7 .lss 8 (.t 14),xV 16 7 15,ydn 16]⟩
def c_85_l0:ACode:=ydh [yb9 20,yb6 21 2,xL 22 21,xN 23 22,xB 24 .lss 20 23] 24 0 1 [yb6 27 2,xL 28 27,yb9 29,xX 30 2 28 29,xA 31 2 30,yb6 32 3,xL 33 32,yb9 34,xX 35 2 33 34,xA 36 2 35,xO 37 (.eqs true true [.i,.i] (.t 31) (.t 36))] (yai 37 [yc6]) [yb9 25,ycc 26 .add 25,ydk 26]
def c_85_k1:ACode:=ydl (xC 4 ybx)
def c_85:AFn:=⟨2,[.tmp 4],yde [ycj 2 0,ycj 3 1,yc6] [yb6 6 2,xL 7 6,xN 8 7,yb6 9 3,xL 10 9,xN 11 10,xB 12 .neq 8 11,xM 13 12,yc0 14 13 2,ybr 15 13 14,yc0 16 13 3,ybr 17 13 16,ybz 18 13 .neq 15 17,xW 19 13 18] 19 [yc6] [ycv] 0 c_85_l0 c_85_k1⟩
def c_86_l0:ACode:=yc7 [xB 42 .lss 41 40] 42 0 1 [xM 43 41,xX 44 2 39 41,xA 45 2 44,yax 12 [ycw 0,ycw 0],xM 11 43,xS 2 12 45] [12] (ycd [xA 46 2 12,xM 47 9,xM 48 11,xX 49 3 47 48,xF 50 2 49,xL 51 50,xM 52 10,xM 53 11,xX 54 1 52 53,xL 55 54,yc4 56 f_177 46 51 55,xM 13 56] (ya4 [xM 57 13,yc5 58 .neq 57] 58 [xM 59 13,xM 6 59])) [ycc 60 .add 41,xM 41 60]
def c_86_k1:ACode:=ycy 2 [yce 62 5,xL 63 62,yc5 64 .lss 63,xM 65 64,yc0 66 65 5,ybr 67 65 66,ybm 68 65 .gtr 67 255,xW 69 65 68,xM 61 69] 61 [xI 6 9] (ybo [yce 71 5,xL 72 71,yc5 73 .neq 72,xM 74 73,yas 75 74 (yda 9 (.t 3)),ybn 76 74 1,ycm 77 74 f_178 [.t 75,.t 76],ydd 78 74 .neq 77 3,xV 79 74 78,xM 70 79] 70 [xI 6 11] (ya4 [xA 81 9 3,yca 82,xF 83 2 5,yb6 84 83,xL 85 84,yc4 86 f_179 81 82 85,ybj 87 86,xM 80 87] 80 [xI 6 8])) (yae [xA 88 9 3,xF 89 2 5,xA 90 2 89,ybf 91 f_180 88 90,xM 6 91])
def c_86:AFn:=⟨3,[.tmp 6],yan [ydi 3,xJ 5 2,ydc] [xA 15 9 3,yca 16,ybf 17 f_175 15 16,xM 14 17,xE 18 0 14,xE 19 1 14,xM 7 18,xM 8 19] (ya4 [xM 20 8,yc5 21 .neq 20] 21 [xM 22 8,xM 6 22]) (ycd [xF 23 5 3,xL 24 23,yca 25,xX 26 6 24 25,yce 27 26,xL 28 27,xA 29 9 3,yca 30,ybf 31 f_176 29 30,xM 9 28,xM 10 31] (ybl [yb6 32 5,xL 33 32,xN 34 33,xM 35 9,xN 36 35,xB 37 .neq 34 36] 37 [xI 6 2] (ybq [yb6 38 5,xL 39 38,xN 40 39,ya9 41] 0 c_86_l0 c_86_k1)))⟩
def c_87:AFn:=⟨2,[.tmp 4],yb0 [yc6] [ycb 5,yca 6,ybf 7 f_181 5 6,yc5 8 .geq 7,ydn 8]⟩
def c_88:AFn:=⟨2,[.tmp 3],yb0 [ycj 2 0,ybg 3] [yce 4 2,xA 5 4 4,xA 6 4 1,ybf 7 f_89 5 6,xM 3 7]⟩
def c_89_l0:ACode:=yc9 [xB 25 .lss 24 23] 25 0 1 (ya0 [xM 26 24,xX 27 2 22 24,xA 28 2 27,yax 6 [ycw 0,ycw 0],ydk 26,xS 2 6 28] (xD [xA 29 2 6,yb6 30 3,xL 31 30,yb9 32,xX 33 2 31 32,xA 34 2 33,xO 35 (.eqs true true [.i,.i] (.t 29) (.t 34))]) (yai 35 [yc6])) [ycc 36 .add 24,xM 24 36]
def c_89_k1:ACode:=ydl (xC 4 ybx)
def c_89:AFn:=⟨2,[.tmp 4],yde [ycj 2 0,ycj 3 1,yc6] [yce 7 2,xL 8 7,yce 9 3,xL 10 9,xB 11 .neq 8 10,xM 12 11,yaw 13 12 0 2,ybr 14 12 13,ybc 15 12 14,yaw 16 12 0 3,ybr 17 12 16,ybc 18 12 17,ybz 19 12 .neq 15 18,xW 20 12 19] 20 [yc6] [yb6 21 2,xL 22 21,xN 23 22,ya9 24] 0 c_89_l0 c_89_k1⟩
def c_90:AFn:=⟨1,[.cell 2 true 4],ya0 [ydi 1,yc8 2 (.fslice 2 []) ybk ybk (.fslice 1 [])] (xD [yb6 3 1,xL 4 3,yb2 5 f_182 4,yce 6 1,xL 7 6,xF 8 2 1,xA 9 2 8,yb2 10 f_74 9,xO 11 (.build [.fslice 2 [],.int .i64 0,.int .i64 0,.fslice 1 []] [(0,1,(.t 5)),(1,1,(.t 7)),(2,2,(.t 10))]),xS 4 2 11]) .ret⟩
def c_91:AFn:=⟨3,[.tmp 6,.tmp 7],ycp ydc (ya9 7) (ycy 0 [ycb 11,xO 12 (.eqn false (.t 11) (.c .nilptr)),xM 13 12,ya2 14 13 0,yac 15 13 (ybv 14),yaw 16 13 14 15,ybr 17 13 16,ydj 18 13 17,xW 19 13 18,xM 10 19] 10 [ydc,xI 7 1] (ya4 [ycb 21,yca 22,ycl 23 f_82 [.t 21,.t 22],ybj 24 23,xM 20 24] 20 [ydc,xI 7 8]) (ya3 [ycb 26,xO 27 (ybv 26),xF 28 13 27,xL 29 28,yca 30,xX 31 1 29 30,xL 32 31,xM 33 2,xO 34 (.lookup .i (.int .i64 0) true (.t 32) (.t 33)),xM 25 34,xE 35 0 25,xE 36 1 25,xM 8 35,xM 9 36] [xM 37 9,ybj 38 37] 38 [ydc,xI 7 8] (yae [xM 39 8,xM 6 39,ya9 7])))⟩
def c_92:AFn:=⟨3,[.tmp 6],ya3 [ydi 3,xJ 5 2,ydc] [xA 7 9 3,yca 8,yb6 9 5,xL 10 9,yc4 11 f_179 7 8 10,ybj 12 11] 12 [xI 6 8] (yae [xA 13 9 3,xA 14 2 5,ybf 15 f_180 13 14,xM 6 15])⟩
def c_93:AFn:=⟨3,[.tmp 6],yaa [xC 6 (.fslice 5 [])] (ya3 [ycb 8,yca 9,xM 10 2,ycb 11,xN 12 11,xO 13 (.slcH 5 (.t 8) (some (.t 9)) (some (.t 10)) (some (.t 12)))] [yca 14,xM 15 2,xB 16 .eql 14 15] 16 [ycb 17,xM 6 17] (ya0 [ycb 18,xN 19 18,xM 7 19] (xD [ycb 20,yca 21,xO 22 (.slc 5 (.t 20) none (some (.t 21)) none),ycb 23,xM 24 2,xO 25 (.slc 5 (.t 23) (some (.t 24)) none none),ycx 26 5 72 22 25,xM 0 26]) (yb0 [ycb 27,ycb 28,xN 29 28,xM 30 7,xO 31 (.slcH 5 (.t 27) (some (.t 29)) (some (.t 30)) none),⟨none,none,.clear [.int .i64 0,.fslice 2 [],.int .i64 0,.int .i64 0,.fslice 1 []] (.t 31)⟩] [ycb 32,xM 6 32])))⟩
def c_94_l0:ACode:=yc7 [xB 23 .lss 22 21] 23 0 1 [xM 24 22,xX 25 5 20 22,xA 26 5 25,yax 5 [ybk,.fslice 2 [],ybk,ybk,.fslice 1 []],ydn 24,xS 5 5 26] [5] (xD [ycb 27,xO 28 (ybv 27),xF 29 13 28,xL 30 29,yca 31,xX 32 1 30 31,xL 33 32,yb6 34 5,xL 35 34,xM 36 4,⟨none,none,.update .i (.t 33) (.t 35) (.t 36)⟩]) [ycc 37 .add 22,xM 22 37]
def c_94:AFn:=⟨2,[],ybs [ycb 6,xO 7 (ybv 6),xF 8 13 7,xL 9 8,yca 10,xO 11 .mkmap,xX 12 1 9 10,xS 1 12 11] [ycb 13,xO 14 (ybv 13),yb6 15 14,yb6 16 15,xL 17 16,yca 18,xX 19 1 17 18,xL 20 19,xN 21 20,ya9 22] (yam 0 c_94_l0)⟩
def c_95_l0:ACode:=ycu [xM 55 3,yce 56 1,xL 57 56,xN 58 57,xB 59 .lss 55 58] 59 0 1 (ya4 [yce 62 1,xL 63 62,xM 64 3,xX 65 2 63 64,yb6 66 65,xL 67 66,xO 68 (.slen (.t 67)),xK 69 .gtr 68 40,xM 70 69,yc0 71 70 1,ybr 72 70 71,ya2 73 70 3,ydm 74 70 2 72 73,yc0 75 70 74,ybr 76 70 75,yct 77 70 f_183 [.t 76],ydj 78 70 77,xW 79 70 78] 79 [ybg 2]) [xM 60 3,ycc 61 .add 60,xM 3 61]
def c_95_l1:ACode:=ycu [xM 80 4,xF 81 3 1,xL 82 81,xN 83 82,xB 84 .lss 80 83] 84 2 3 (ya4 [xF 87 3 1,xL 88 87,xM 89 4,xX 90 3 88 89,yb6 91 90,xL 92 91,xO 93 (.slen (.t 92)),xK 94 .gtr 93 40] 94 [ybg 2]) [xM 85 4,ycc 86 .add 85,ydn 86]
def c_95_l2:ACode:=ycu [yb9 95,xF 96 4 1,xL 97 96,xN 98 97,xB 99 .lss 95 98] 99 4 5 (ya4 [xF 102 4 1,xL 103 102,yb9 104,xX 105 3 103 104,xA 106 3 105,yb2 107 f_184 106,ybj 108 107] 108 [ybg 2]) [yb9 100,ycc 101 .add 100,ydk 101]
def c_95_l3:ACode:=ych [xM 109 6,xF 110 5 1,xL 111 110,xN 112 111,xB 113 .lss 109 112] 113 6 7 (xQ [xF 116 5 1,xL 117 116,xM 118 6,xX 119 6 117 118,xA 120 6 119,yax 7 [.str [],.fslice 3 [],.fslice 1 [],ybk,.fslice 1 [],ybk],xS 6 7 120] [7]) (ya4 [yb6 121 7,xL 122 121,xO 123 (.slen (.t 122)),xK 124 .gtr 123 40,xM 125 124,yc0 126 125 7,ybr 127 125 126,ybc 128 125 127,ybm 129 125 .gtr 128 10,xW 130 125 129,xM 131 130,yaw 132 131 2 7,ybr 133 131 132,ybc 134 131 133,ybm 135 131 .gtr 134 24,xW 136 131 135,xM 137 136,yaw 138 137 3 7,yc0 139 137 138,ybr 140 137 139,ybc 141 137 140,ybm 142 137 .gtr 141 10,xW 143 137 142] 143 [ybg 2]) [xM 114 6,ycc 115 .add 114,xM 6 115]
def c_95_l4:ACode:=ycu [xM 144 8,xF 145 6 1,xL 146 145,xN 147 146,xB 148 .lss 144 147] 148 8 9 (ya4 [xF 151 6 1,xL 152 151,xM 153 8,xX 154 7 152 153,yb6 155 154,xL 156 155,xO 157 (.slen (.t 156)),xK 158 .gtr 157 40,xM 159 158,yaw 160 159 6 1,ybr 161 159 160,ya2 162 159 8,ydm 163 159 7 161 162,yc0 164 159 163,ybr 165 159 164,ybc 166 159 165,ybm 167 159 .gtr 166 8,xW 168 159 167,xM 169 168,yaw 170 169 6 1,ybr 171 169 170,ya2 172 169 8,ydm 173 169 7 171 172,yaw 174 169 5 173,ybr 175 169 174,ybc 176 169 175,ybm 177 169 .gtr 176 16,xW 178 169 177] 178 [ybg 2]) [xM 149 8,ycc 150 .add 149,xM 8 150]
def c_95_k5:ACode:=ydl (xC 2 ybx)
def c_95_k6:ACode:=ybq [ya9 8] 8 c_95_l4 c_95_k5
def c_95_k7:ACode:=ybq [ydc] 6 c_95_l3 c_95_k6
def c_95_k8:ACode:=ybq [ycv] 4 c_95_l2 c_95_k7
def c_95_k9:ACode:=ybq [yby] 2 c_95_l1 c_95_k8
def c_95:AFn:=⟨1,[.tmp 2],yde [ydi 1,ybg 2] [yb6 9 1,xL 10 9,xO 11 (.slen (.t 10)),xK 12 .gtr 11 40,xM 13 12,yc0 14 13 1,ybr 15 13 14,ybc 16 13 15,ybm 17 13 .gtr 16 12,xW 18 13 17,xM 19 18,yaw 20 19 2 1,ybr 21 19 20,yct 22 19 f_183 [.t 21],ydj 23 19 22,xW 24 19 23,xM 25 24,yaw 26 25 3 1,ybr 27 25 26,ybc 28 25 27,ybm 29 25 .gtr 28 8,xW 30 25 29,xM 31 30,yaw 32 31 4 1,ybr 33 31 32,ybc 34 31 33,ybm 35 31 .gtr 34 20,xW 36 31 35,xM 37 36,yaw 38 37 5 1,ybr 39 37 38,ybc 40 37 39,ybm 41 37 .gtr 40 16,xW 42 37 41,xM 43 42,yaw 44 43 6 1,ybr 45 43 44,ybc 46 43 45,ybm 47 43 .gtr 46 16,xW 48 43 47,xM 49 48,yaw 50 49 8 1,ybr 51 49 50,ybc 52 49 51,ybm 53 49 .gtr 52 16,xW 54 49 53] 54 [ybg 2] [ya9 3] 0 c_95_l0 c_95_k9⟩
def c_96:AFn:=⟨2,[.tmp 4],yb0 [yc6] [ycb 5,yca 6,yc3 7 f_185 5 6 (yao 12),yca 8,xB 9 .leq 7 8,ydn 9]⟩
def c_97:AFn:=⟨1,[.tmp 2],yb0 [ycj 1 0,ybg 2] [yb6 3 1,xL 4 3,xN 5 4,xK 6 .leq 5 10,xM 7 6,ybw 8 7 2 1,ybw 9 7 1 8,yb7 10 7 1 9,yas 11 7 (ya5 10),ydd 12 7 .leq 11 10,xV 13 7 12,xM 2 13]⟩
def c_101_l0:ACode:=yc7 [xB 18 .lss 17 16] 18 0 1 [xM 19 17,xX 20 5 15 17,xA 21 5 20,yax 7 [ybk,.fslice 2 [],ybk,ybk,.fslice 1 []],xM 6 19,xS 5 7 21] [7] (xR [yb9 22,yce 23 7,xA 24 4 23,yb2 25 f_186 24,xM 26 6,⟨none,none,.update .s (.t 22) (.t 25) (.t 26)⟩]) [ycc 27 .add 17,xM 17 27]
def c_101_l1:ACode:=yc7 [xB 31 .lss 30 29] 31 2 3 [xX 32 5 28 30,xA 33 5 32,yax 11 [ybk,.fslice 2 [],ybk,ybk,.fslice 1 []],xS 5 11 33] [11] (yan [yb9 35,yce 36 11,xA 37 4 36,yb2 38 f_186 37,xO 39 (.lookup .s (.int .i64 0) true (.t 35) (.t 38)),xM 34 39,xE 40 0 34,xE 41 1 34,xM 12 40,xM 13 41] [xM 42 13,ybj 43 42,xM 44 43,ya2 45 44 12,ya2 46 44 9,ybz 47 44 .leq 45 46,xW 48 44 47] (ybu 48 (.exit 2)) (yaa [xM 49 8,xM 50 12,xO 51 (.bslice .imm 1 (List.replicate 1 [.int .i64 0]) [(0,(.t 50))]),ycx 52 1 8 49 51,xM 8 52] (xR [xM 53 12,xM 9 53]))) [ycc 54 .add 30,xM 30 54]
def c_101_k2:ACode:=ycn (xM 55 8) 4 55
def c_101_k3:ACode:=ydb [yco 8 1] [yb4 9] [yca 28,xN 29 28,ya9 30] 2 c_101_l1 c_101_k2
def c_101:AFn:=⟨2,[.tmp 4],ydb [xC 4 (.fslice 1 [])] [xO 14 .mkmap,ydk 14] [ycb 15,xN 16 15,ya9 17] 0 c_101_l0 c_101_k3⟩
def c_102:AFn:=⟨3,[],ybs [ycj 3 0] [xL 4 1,yce 5 3,xS 1 5 4] (xR [xL 6 2,xA 7 9 3,xO 8 (.bslice .imm 9 (List.replicate 1 [.int .i64 0,.int .i64 0,.int .i64 0,.fslice 2 [],.int .i64 0,.int .i64 0,.fslice 1 [],.int .i64 0,.fslice 1 []]) [(0,(.t 7))]),ycx 9 9 120 6 8,xS 1 2 9])⟩
def c_103:AFn:=⟨2,[.tmp 4],yb0 [ydi 2,xJ 3 1,yc6] [xA 5 2 2,xO 6 (.build [.fslice 2 [],.int .i64 0,.int .i64 0,.fslice 1 []] [(2,2,(.t 5))]),xA 7 2 3,xO 8 (.build [.fslice 2 [],.int .i64 0,.int .i64 0,.fslice 1 []] [(2,2,(.t 7))]),ybf 9 f_187 6 8,ydn 9]⟩
def c_104:AFn:=⟨1,[.cell 2 true 2],ybs [ycj 1 0,yax 2 [ybk,.fslice 1 []]] [yce 3 1,xL 4 3,yck 5 .app 1 4 (.c (.fslice 1 [])) 4,yce 6 1,xS 1 6 5] (yb5 (xA 7 2 1) (xS 2 2 7))⟩
def c_105:AFn:=⟨1,[.cell 2 true 4],ycp (ycj 1 0) (yc8 2 (.fslice 2 []) ybk ybk (.fslice 1 [])) (ybs [yb6 3 1,xL 4 3,yck 5 .app 2 8 (.c (.fslice 2 [])) 4,yb6 6 1,xS 1 6 5] [xF 7 2 1,xA 8 2 7,yb2 9 f_104 8,xF 10 2 1,xS 2 10 9] (yb5 (xA 11 4 1) (xS 4 2 11)))⟩
def c_106_l0:ACode:=yc7 [xB 11 .lss 10 9] 11 0 1 [xX 12 9 8 10,xA 13 9 12,yax 7 [ybk,ybk,ybk,.fslice 2 [],ybk,ybk,.fslice 1 [],ybk,.fslice 1 []],xS 9 7 13] [7] (yaa [yb6 14 7,xL 15 14,ycc 16 .eql 15,xM 17 16,ybw 18 17 1 7,yb7 19 17 1 18,ybn 20 17 1,ybt 21 17 .eql 19 (.t 20),xV 22 17 21] (ybu 22 (xR [yb9 23,ycc 24 .add 23,ydk 24]))) [ycc 25 .add 10,xM 10 25]
def c_106_k1:ACode:=ycn (yb9 26) 4 26
def c_106:AFn:=⟨2,[.tmp 4],ydb [yby] [ycv] [ycb 8,xN 9 8,ya9 10] 0 c_106_l0 c_106_k1⟩
def c_109_l0:ACode:=ych [xM 32 11,xM 33 2,xN 34 33,xB 35 .lss 32 34] 35 0 1 (.region true [(0,15),(2,15),(5,15),(9,15),(10,15)] [⟨some 39,none,.load true 9 (.t 3)⟩,⟨some 40,none,.faddr 0 (.t 10)⟩,⟨some 41,none,.load false 1 (.t 40)⟩,⟨some 42,none,.mov (.t 11)⟩,⟨some 43,none,.iaddr 4 none (.t 41) (.t 42)⟩,⟨some 44,none,.load true 4 (.t 43)⟩,⟨some 45,none,.mov (.t 2)⟩,⟨some 46,none,.mov (.t 11)⟩,⟨some 47,none,.iaddr 9 none (.t 45) (.t 46)⟩,⟨some 48,none,.load true 9 (.t 47)⟩,⟨some 49,none,.pcall f_190 [.t 39,.t 44,.t 48]⟩,⟨some 38,none,.mov (.t 49)⟩,⟨some 50,none,.ext 0 (.t 38)⟩,⟨some 51,none,.ext 1 (.t 38)⟩,⟨some 52,none,.ext 2 (.t 38)⟩,⟨some 12,none,.alloc [.fslice 1 [],.fslice 1 [],.fslice 2 [],.fslice 1 []]⟩,⟨none,none,.store 4 (.t 12) (.t 50)⟩,⟨some 13,none,.mov (.t 51)⟩,⟨some 14,none,.mov (.t 52)⟩] (some [12])) (ybl [xM 53 14,yc5 54 .neq 53] 54 [xO 55 (.build [.fslice 4 [],.fslice 1 []] []),xM 56 11,xM 57 14,xS 2 6 55,xM 7 56,xM 8 57] (yaa [yb6 58 10,xL 59 58,xA 60 4 12,xO 61 (.bslice .imm 4 (List.replicate 1 [.fslice 1 [],.fslice 1 [],.fslice 2 [],.fslice 1 []]) [(0,(.t 60))]),ycx 62 4 96 59 61,yb6 63 10,xS 1 63 62] (xR [yce 64 10,xL 65 64,xM 66 13,xO 67 (.bslice .imm 1 (List.replicate 1 [.int .i64 0]) [(0,(.t 66))]),ycx 68 1 8 65 67,yce 69 10,xS 1 69 68]))) [xM 36 11,ycc 37 .add 36,xM 11 37]
def c_109_k1:ACode:=yae [xA 70 2 10,xS 2 6 70,ya9 7,ya9 8]
def c_109:AFn:=⟨3,[.cell 6 true 2,.tmp 7,.tmp 8],yaa [ydi 3,xJ 4 1,yax 6 [.fslice 4 [],.fslice 1 []],ya9 7,ya9 8] (yan [xA 15 9 3,xA 16 4 4,ybf 17 f_19 15 16,xM 9 17] [xM 18 9,yc5 19 .eql 18,xM 20 19,ybn 21 20 2,yas 22 20 (ya5 21),ydd 23 20 .gtr 22 64,xV 24 20 23] (ybu 24 (xR [xI 9 12])) (ybl [xM 25 9,yc5 26 .neq 25] 26 [xO 27 (.build [.fslice 4 [],.fslice 1 []] []),xM 28 9,xS 2 6 27,yb4 7,xM 8 28] (ybh [xA 29 4 4,xO 30 (.bslice .imm 4 (List.replicate 1 [.fslice 1 [],.fslice 1 [],.fslice 2 [],.fslice 1 []]) [(0,(.t 29))]),xO 31 (.build [.fslice 4 [],.fslice 1 []] [(0,1,(.t 30))]),yax 10 [.fslice 4 [],.fslice 1 []],xS 2 10 31] [ya9 11] 0 c_109_l0 c_109_k1)))⟩
def c_110_l0:ACode:=ydh [yb9 11,ycb 12,xN 13 12,xB 14 .lss 11 13] 14 0 1 [ycb 17,yb9 18,xX 19 5 17 18,yce 20 19,xA 21 4 20,yca 22,yb9 23,xX 24 5 22 23,yce 25 24,xA 26 4 25,ybf 27 f_31 21 26,ybj 28 27] (yai 28 [yc6]) [yb9 15,ycc 16 .add 15,ydk 16]
def c_110_k1:ACode:=ydl (xC 4 ybx)
def c_110:AFn:=⟨2,[.tmp 4],yde [yc6] [ycb 6,xN 7 6,yca 8,xN 9 8,xB 10 .neq 7 9] 10 [yc6] [ycv] 0 c_110_l0 c_110_k1⟩
def c_111_l0:ACode:=ydh [yb9 11,ycb 12,xN 13 12,xB 14 .lss 11 13] 14 0 1 [ycb 17,yb9 18,xX 19 1 17 18,xL 20 19,yca 21,yb9 22,xX 23 1 21 22,xL 24 23,xB 25 .neq 20 24] (yai 25 [yc6]) [yb9 15,ycc 16 .add 15,ydk 16]
def c_111_k1:ACode:=ydl (xC 4 ybx)
def c_111:AFn:=⟨2,[.tmp 4],yde [yc6] [ycb 6,xN 7 6,yca 8,xN 9 8,xB 10 .neq 7 9] 10 [yc6] [ycv] 0 c_111_l0 c_111_k1⟩
def c_117:AFn:=⟨2,[.tmp 4,.tmp 5],yan [ycj 3 1,yby,ycv] [yb6 6 3,xL 7 6] (.block 0 (ybo [ycc 9 .eql 7,xM 8 9] 8 [ycb 10,yce 11 3,xL 12 11,xF 13 3 3,xA 14 4 13,ycl 15 f_33 [.t 10,.t 12,.t 14],xE 16 0 15,xE 17 1 15,ydn 16,ydk 17] (ybo [xK 19 .eql 7 2,xM 18 19] 18 [ycb 20,yce 21 3,xL 22 21,xF 23 2 3,xL 24 23,xF 25 7 3,xA 26 2 25,ycl 27 f_34 [.t 20,.t 22,.t 24,.t 26],yby,ydk 27] (ybo [xK 29 .eql 7 3,xM 28 29] 28 [ycb 30,yce 31 3,xL 32 31,xF 33 2 3,xL 34 33,ycl 35 f_35 [.t 30,.t 32,.t 34],yby,ydk 35] (ya4 [xK 37 .eql 7 4,xM 36 37] 36 [ycb 38,yce 39 3,xL 40 39,xF 41 7 3,xA 42 2 41,ycl 43 f_81 [.t 38,.t 40,.t 42],yby,ydk 43]))))) (yb5 yby (xI 5 11))⟩
def c_125:AFn:=⟨1,[.cell 2 true 4],ycp (ydi 1) (yc8 2 ybk ybk ybk ybk) (ycy 0 [yb6 4 1,xL 5 4,yb2 6 f_194 5,ybj 7 6,xM 3 7] 3 [ycs 8 f_195 (yao 6) 0 (yao 0) 0,xS 4 2 8] (ybo [yce 10 1,xL 11 10,xN 12 11,xK 13 .gtr 12 8,xM 9 13] 9 [ycs 14 f_195 (yao 12) 0 (yao 1) 0,xS 4 2 14] (ybo [xF 16 3 1,xL 17 16,xN 18 17,xK 19 .gtr 18 4,xM 15 19] 15 [ycs 20 f_195 (yao 12) 0 (yao 3) 0,xS 4 2 20] (ybo [xF 22 4 1,xL 23 22,xN 24 23,xK 25 .gtr 24 16,xM 21 25] 21 [ycs 26 f_195 (yao 12) 0 (yao 4) 0,xS 4 2 26] (ya4 [xF 28 5 1,xL 29 28,xN 30 29,xK 31 .gtr 30 12,xM 27 31] 27 [ycs 32 f_195 (yao 12) 0 (yao 5) 0,xS 4 2 32])))) (yb5 (xO 33 (.build [.int .i64 0,.int .i64 0,.int .i64 0,.int .i64 0] [])) (xS 4 2 33)))⟩
def c_126_l0:ACode:=ydh [yb9 30,xM 31 3,xB 32 .lss 30 31,xM 33 32,ybn 34 33 4,ydd 35 33 .eql 34 0,xV 36 33 35] 36 2 3 [yce 39 1,xL 40 39,yb9 41,xX 42 2 40 41,yb6 43 42,xL 44 43,yce 45 1,xL 46 45,xM 47 3,xX 48 2 46 47,yb6 49 48,xL 50 49,xB 51 .eql 44 50] (ybu 51 (xR [xI 4 7])) [yb9 37,ycc 38 .add 37,ydk 38]
def c_126_k1:ACode:=ya4 [xM 52 4,yc5 53 .neq 52] 53 [xM 54 4,xM 55 3,ycs 56 f_195 (.t 54) 1 (.t 55) 0,xS 4 2 56]
def c_126_k2:ACode:=xR [xM 11 3,ycc 12 .add 11,xM 3 12]
def c_126_l3:ACode:=yba [xM 6 3,yce 7 1,xL 8 7,xN 9 8,xB 10 .lss 6 9] 10 0 (yaj 1 (yan [yce 13 1,xL 14 13,xM 15 3,xX 16 2 14 15,xA 17 2 16,yb2 18 f_196 17,ydn 18] [xM 19 4,yc5 20 .eql 19,xM 21 20,ybw 22 21 1 1,yb7 23 21 1 22,ybn 24 21 3,yas 25 21 (ycz 2 23 24),ybw 26 21 0 25,yb7 27 21 1 26,ybt 28 21 .eql 27 (.c (.str [109,101,116,97])),xV 29 21 28] (ybu 29 (xR [xI 4 6])) (ybq [ycv] 2 c_126_l0 c_126_k1)) c_126_k2)
def c_126_k4:ACode:=yb5 (xO 57 (.build [.int .i64 0,.int .i64 0,.int .i64 0,.int .i64 0] [])) (xS 4 2 57)
def c_126:AFn:=⟨1,[.cell 2 true 4],ybh [ydi 1,yc8 2 ybk ybk ybk ybk] [ya9 3] 0 c_126_l3 c_126_k4⟩
def c_127_l0:ACode:=ycu [xM 12 3,xF 13 2 1,xL 14 13,xN 15 14,xB 16 .lss 12 15] 16 0 1 (yaa [xF 19 2 1,xL 20 19,xM 21 3,ybf 22 f_197 20 21,ydn 22] (ya4 [xM 23 4,yc5 24 .neq 23] 24 [xM 25 4,xM 26 3,ycs 27 f_195 (.t 25) 2 (.t 26) 0,xS 4 2 27])) [xM 17 3,ycc 18 .add 17,xM 3 18]
def c_127_l1:ACode:=ydh [xM 32 6,yb9 33,xN 34 33,xB 35 .lss 32 34] 35 2 3 [xM 38 6,xF 39 2 1,xL 40 39,xN 41 40,xB 42 .geq 38 41,xM 43 42,yaw 44 43 2 1,ybr 45 43 44,ya2 46 43 6,ydm 47 43 2 45 46,yac 48 43 (yda 2 (.t 47)),ya2 49 43 5,ya2 50 43 6,ydm 51 43 2 49 50,yac 52 43 (yda 2 (.t 51)),yac 53 43 (.eqs true true [.s,.i] (.t 48) (.t 52)),xW 54 43 53] (yai 54 [xM 55 6,ycs 56 f_195 (yao 5) 2 (.t 55) 0,xS 4 2 56]) [xM 36 6,ycc 37 .add 36,xM 6 37]
def c_127_k2:ACode:=yb5 (xO 57 (.build [.int .i64 0,.int .i64 0,.int .i64 0,.int .i64 0] [])) (xS 4 2 57)
def c_127_k3:ACode:=ybh [xO 28 (.build [.str [],.int .i64 0] [(0,1,(.c (.str [105,110]))),(1,1,(.c (.int .i64 8)))]),xO 29 (.build [.str [],.int .i64 0] [(0,1,(.c (.str [111,117,116]))),(1,1,(.c (.int .i64 8)))]),xO 30 (.build [.str [],.int .i64 0] [(0,1,(.c (.str [100,114,111,112]))),(1,1,(.c (.int .i64 1)))]),xO 31 (.bslice .imm 2 (List.replicate 3 [.str [],.int .i64 0]) [(0,(.t 28)),(1,(.t 29)),(2,(.t 30))]),ydk 31] [ydc] 2 c_127_l1 c_127_k2
def c_127:AFn:=⟨1,[.cell 2 true 4],yde [ydi 1,yc8 2 ybk ybk ybk ybk] [xF 7 2 1,xL 8 7,xN 9 8,xK 10 .gtr 9 12] 10 [ycs 11 f_195 (yao 12) 2 (yao 0) 0,xS 4 2 11] [ya9 3] 0 c_127_l0 c_127_k3⟩
def c_128_l0:ACode:=ydh [yb9 19,xM 20 3,xB 21 .lss 19 20,xM 22 21,ybn 23 22 4,ydd 24 22 .eql 23 0,xV 25 22 24] 25 2 3 [xF 28 3 1,xL 29 28,yb9 30,xX 31 3 29 30,yb6 32 31,xL 33 32,xF 34 3 1,xL 35 34,xM 36 3,xX 37 3 35 36,yb6 38 37,xL 39 38,xB 40 .eql 33 39] (ybu 40 (xR [xI 4 7])) [yb9 26,ycc 27 .add 26,ydk 27]
def c_128_k1:ACode:=ya4 [xM 41 4,yc5 42 .neq 41] 42 [xM 43 4,xM 44 3,ycs 45 f_195 (.t 43) 3 (.t 44) 0,xS 4 2 45]
def c_128_k2:ACode:=xR [xM 11 3,ycc 12 .add 11,xM 3 12]
def c_128_l3:ACode:=yba [xM 6 3,xF 7 3 1,xL 8 7,xN 9 8,xB 10 .lss 6 9] 10 0 (yaj 1 (ybh [xF 13 3 1,xL 14 13,xM 15 3,xX 16 3 14 15,xA 17 3 16,yb2 18 f_198 17,ydn 18] [ycv] 2 c_128_l0 c_128_k1) c_128_k2)
def c_128_k4:ACode:=yb5 (xO 46 (.build [.int .i64 0,.int .i64 0,.int .i64 0,.int .i64 0] [])) (xS 4 2 46)
def c_128:AFn:=⟨1,[.cell 2 true 4],ybh [ydi 1,yc8 2 ybk ybk ybk ybk] [ya9 3] 0 c_128_l3 c_128_k4⟩
def c_129_l0:ACode:=ydh [xM 26 6,xM 27 3,xB 28 .lss 26 27] 28 2 3 [xF 31 4 1,xL 32 31,xM 33 6,xX 34 3 32 33,yb6 35 34,xL 36 35,xF 37 4 1,xL 38 37,xM 39 3,xX 40 3 38 39,yb6 41 40,xL 42 41,xB 43 .eql 36 42] (yai 43 [xM 44 3,ycs 45 f_195 (yao 7) 4 (.t 44) 0,xS 4 2 45]) [xM 29 6,ycc 30 .add 29,xM 6 30]
def c_129_k1:ACode:=xR [xM 12 3,ycc 13 .add 12,xM 3 13]
def c_129_l2:ACode:=yba [xM 7 3,xF 8 4 1,xL 9 8,xN 10 9,xB 11 .lss 7 10] 11 0 (yaj 1 (ya3 [xA 15 9 1,xM 16 3,ybf 17 f_199 15 16,xM 14 17,xE 18 0 14,xE 19 1 14,ydn 18,ydk 19] [yb9 20,yc5 21 .neq 20] 21 [yb9 22,xM 23 3,xM 24 4,ycg 25 f_195 (.t 22) 4 (.t 23) (.t 24),xS 4 2 25] (yaa [ydc] (yam 2 c_129_l0))) c_129_k1)
def c_129_k3:ACode:=yb5 (xO 46 (.build [.int .i64 0,.int .i64 0,.int .i64 0,.int .i64 0] [])) (xS 4 2 46)
def c_129:AFn:=⟨1,[.cell 2 true 4],ybh [ydi 1,yc8 2 ybk ybk ybk ybk] [ya9 3] 0 c_129_l2 c_129_k3⟩
def c_130_l0:ACode:=ydh [xM 26 6,xM 27 3,xB 28 .lss 26 27] 28 2 3 [xF 31 5 1,xL 32 31,xM 33 6,xX 34 6 32 33,yb6 35 34,xL 36 35,xF 37 5 1,xL 38 37,xM 39 3,xX 40 6 38 39,yb6 41 40,xL 42 41,xB 43 .eql 36 42] (yai 43 [xM 44 3,ycs 45 f_195 (yao 7) 5 (.t 44) 0,xS 4 2 45]) [xM 29 6,ycc 30 .add 29,xM 6 30]
def c_130_k1:ACode:=xR [xM 12 3,ycc 13 .add 12,xM 3 13]
def c_130_l2:ACode:=yba [xM 7 3,xF 8 5 1,xL 9 8,xN 10 9,xB 11 .lss 7 10] 11 0 (yaj 1 (ya3 [xA 15 9 1,xM 16 3,ybf 17 f_200 15 16,xM 14 17,xE 18 0 14,xE 19 1 14,ydn 18,ydk 19] [yb9 20,yc5 21 .neq 20] 21 [yb9 22,xM 23 3,xM 24 4,ycg 25 f_195 (.t 22) 5 (.t 23) (.t 24),xS 4 2 25] (yaa [ydc] (yam 2 c_130_l0))) c_130_k1)
def c_130_k3:ACode:=yb5 (xO 46 (.build [.int .i64 0,.int .i64 0,.int .i64 0,.int .i64 0] [])) (xS 4 2 46)
def c_130:AFn:=⟨1,[.cell 2 true 4],ybh [ydi 1,yc8 2 ybk ybk ybk ybk] [ya9 3] 0 c_130_l2 c_130_k3⟩
def c_131:AFn:=⟨1,[.cell 2 true 4],ycp (ydi 1) (yc8 2 ybk ybk ybk ybk) (ya3 [xA 7 9 1,yb2 8 f_201 7,xM 6 8,xE 9 0 6,xE 10 1 6,xE 11 2 6,xM 3 9,ydn 10,ydk 11] [yb9 12,yc5 13 .neq 12] 13 [yb9 14,xM 15 3,xM 16 4,ycg 17 f_195 (.t 14) 6 (.t 15) (.t 16),xS 4 2 17] (ya3 [xA 19 9 1,yb2 20 f_202 19,xM 18 20,xE 21 0 18,xE 22 1 18,xM 3 21,ydk 22] [yb9 23,yc5 24 .neq 23] 24 [yb9 25,xM 26 3,ycs 27 f_195 (.t 25) 7 (.t 26) 0,xS 4 2 27] (ya3 [xA 29 9 1,yb2 30 f_203 29,xM 28 30,xE 31 0 28,xE 32 1 28,xM 3 31,ydk 32] [yb9 33,yc5 34 .neq 33] 34 [yb9 35,xM 36 3,ycs 37 f_195 (.t 35) 8 (.t 36) 0,xS 4 2 37] (yb5 (xO 38 (.build [.int .i64 0,.int .i64 0,.int .i64 0,.int .i64 0] [])) (xS 4 2 38)))))⟩
def c_139:AFn:=⟨1,[.cell 2 true 9],ya0 [ydi 1,yax 2 [.str [],.fslice 2 [],.fslice 2 [],.fslice 3 [],.fslice 3 [],.fslice 6 [],.fslice 7 [],.fslice 5 [],.fslice 1 []]] (xD [yb6 3 1,xL 4 3,yce 5 1,xL 6 5,ybe 7 f_212 6 (.c (.func (.func f_213) [] [])),xF 8 2 1,xL 9 8,yb2 10 f_214 9,xF 11 3 1,xL 12 11,yb2 13 f_215 12,xF 14 4 1,xL 15 14,ybe 16 f_216 15 (.c (.func (.func f_217) [] [])),xF 17 5 1,xL 18 17,ybe 19 f_218 18 (.c (.func (.func f_219) [] [])),xF 20 6 1,xL 21 20,ybe 22 f_220 21 (.c (.func (.func f_221) [] [])),xF 23 7 1,xL 24 23,ybe 25 f_222 24 (.c (.func (.func f_223) [] [])),xF 26 8 1,xL 27 26,yb2 28 f_162 27,xO 29 (.build [.str [],.fslice 2 [],.fslice 2 [],.fslice 3 [],.fslice 3 [],.fslice 6 [],.fslice 7 [],.fslice 5 [],.fslice 1 []] [(0,1,(.t 4)),(1,1,(.t 7)),(2,1,(.t 10)),(3,1,(.t 13)),(4,1,(.t 16)),(5,1,(.t 19)),(6,1,(.t 22)),(7,1,(.t 25)),(8,1,(.t 28))]),xS 9 2 29]) .ret⟩
def c_145:AFn:=⟨1,[],yaa [ydi 1] (ybs [yb6 2 1,xL 3 2,yb2 4 f_229 3,ybe 5 f_228 4 (yao 6),ycs 6 f_227 (.t 5) 0 (yao 0) 0] [yce 7 1,xL 8 7,xN 9 8,xK 10 .gtr 9 8,ybe 11 f_228 10 (yao 12),ycs 12 f_227 (.t 11) 0 (yao 1) 0] (ybs [xF 13 3 1,xL 14 13,xN 15 14,xK 16 .gtr 15 4,ybe 17 f_228 16 (yao 12),ycs 18 f_227 (.t 17) 0 (yao 3) 0] [xF 19 4 1,xL 20 19,xN 21 20,xK 22 .gtr 21 16,ybe 23 f_228 22 (yao 12),ycs 24 f_227 (.t 23) 0 (yao 4) 0] (xR [xF 25 5 1,xL 26 25,xN 27 26,xK 28 .gtr 27 12,ybe 29 f_228 28 (yao 12),ycs 30 f_227 (.t 29) 0 (yao 5) 0])))⟩
def c_146_l0:ACode:=yc7 [xB 12 .lss 11 10] 12 0 1 [xM 13 11,xX 14 2 9 11,xA 15 2 14,yax 4 [.str [],.fslice 2 []],xM 3 13,xS 2 4 15] [4] (ybs [xA 16 2 4,yb2 17 f_232 16,xM 18 3,ycs 19 f_227 (.t 17) 1 (.t 18) 0] [yb6 20 4,xL 21 20,xO 22 (yar .eql 21 (.c (.str [109,101,116,97]))),ybe 23 f_228 22 (yao 6),xM 24 3,ycs 25 f_227 (.t 23) 1 (.t 24) 0] (xR [xM 26 2,xM 27 3,ybf 28 f_233 26 27,ybe 29 f_228 28 (yao 7),xM 30 3,ycs 31 f_227 (.t 29) 1 (.t 30) 0])) [ycc 32 .add 11,xM 11 32]
def c_146:AFn:=⟨1,[],yaa [ydi 1] (ybs [yce 5 1,xL 6 5,ybe 7 f_230 6 (.c (.func (.func f_231) [] [])),xM 2 7] [yce 8 1,xL 9 8,xN 10 9,ya9 11] (yam 0 c_146_l0))⟩
def c_147_l0:ACode:=yc7 [xB 20 .lss 19 18] 20 0 1 [xM 21 19,xX 22 2 17 19,xA 23 2 22,yax 4 [.str [],ybk],xM 3 21,xS 2 4 23] [4] (ybs [yb6 24 4,xL 25 24,yb2 26 f_229 25,ybe 27 f_228 26 (yao 6),xM 28 3,ycs 29 f_227 (.t 27) 2 (.t 28) 0] [yce 30 4,xL 31 30,yb2 32 f_236 31,ybe 33 f_228 32 (yao 10),xM 34 3,ycs 35 f_227 (.t 33) 2 (.t 34) 0] (xR [xM 36 2,xM 37 3,ybf 38 f_233 36 37,ybe 39 f_228 38 (yao 7),xM 40 3,ycs 41 f_227 (.t 39) 2 (.t 40) 0])) [ycc 42 .add 19,xM 19 42]
def c_147_l1:ACode:=yc7 [xK 48 .lss 47 3] 48 2 3 [xM 49 47,xO 50 (.idxa true 3 2 (.t 46) (.t 47)),yax 6 [.str [],ybk],ydk 49,xS 2 6 50] [6] (ycd [yb9 51,xF 52 2 1,xL 53 52,xN 54 53,xB 55 .geq 51 54,xM 56 55,yaw 57 56 2 1,ybr 58 56 57,ya2 59 56 5,ydm 60 56 2 58 59,yac 61 56 (yda 2 (.t 60)),yac 62 56 (yda 2 (.t 6)),yac 63 56 (.eqs true true [.s,.i] (.t 61) (.t 62)),xW 64 56 63,ybe 65 f_228 64 (yao 5),yb9 66] (xR [ycs 67 f_227 (.t 65) 2 (.t 66) 0])) [ycc 68 .add 47,xM 47 68]
def c_147_k2:ACode:=yaa [xO 43 (.build [.str [],.int .i64 0] [(0,1,(.c (.str [105,110]))),(1,1,(.c (.int .i64 8)))]),xO 44 (.build [.str [],.int .i64 0] [(0,1,(.c (.str [111,117,116]))),(1,1,(.c (.int .i64 8)))]),xO 45 (.build [.str [],.int .i64 0] [(0,1,(.c (.str [100,114,111,112]))),(1,1,(.c (.int .i64 1)))]),xO 46 (.build [.str [],.int .i64 0,.str [],.int .i64 0,.str [],.int .i64 0] [(0,2,(.t 43)),(2,2,(.t 44)),(4,2,(.t 45))]),ya9 47] (yam 2 c_147_l1)
def c_147:AFn:=⟨1,[],ybs [ydi 1] [xF 7 2 1,xL 8 7,xN 9 8,xK 10 .gtr 9 12,ybe 11 f_228 10 (yao 12),ycs 12 f_227 (.t 11) 2 (yao 0) 0] (ybh [xF 13 2 1,xL 14 13,ybe 15 f_234 14 (.c (.func (.func f_235) [] [])),xM 2 15] [xF 16 2 1,xL 17 16,xN 18 17,ya9 19] 0 c_147_l0 c_147_k2)⟩
def c_148_l0:ACode:=yc7 [xB 18 .lss 17 16] 18 0 1 [xM 19 17,xX 20 3 15 17,xA 21 3 20,yax 4 [.str [],ybk,ybk],xM 3 19,xS 3 4 21] [4] (yaa [xA 22 3 4,yb2 23 f_239 22,xM 24 3,ycs 25 f_227 (.t 23) 3 (.t 24) 0] (xR [xM 26 2,xM 27 3,ybf 28 f_233 26 27,ybe 29 f_228 28 (yao 7),xM 30 3,ycs 31 f_227 (.t 29) 3 (.t 30) 0])) [ycc 32 .add 17,xM 17 32]
def c_148_l1:ACode:=yc9 [xB 40 .lss 39 38] 40 2 3 (ycq (xM 41 39) 5 41 (ybs [xA 43 9 1,yb9 44,ybf 45 f_242 43 44,xM 42 45,xE 46 0 42,xE 47 1 42,xM 6 46,xM 7 47] [xM 48 7,yb9 49,xM 50 6,ycg 51 f_227 (.t 48) 4 (.t 49) (.t 50)] (xR [xM 52 2,yb9 53,ybf 54 f_233 52 53,ybe 55 f_228 54 (yao 7),yb9 56,ycs 57 f_227 (.t 55) 4 (.t 56) 0]))) [ycc 58 .add 39,xM 39 58]
def c_148_l2:ACode:=yc9 [xB 66 .lss 65 64] 66 4 5 (ycq (xM 67 65) 8 67 (ybs [xA 69 9 1,xM 70 8,ybf 71 f_175 69 70,xM 68 71,xE 72 0 68,xE 73 1 68,xM 9 72,xM 10 73] [xM 74 10,xM 75 8,xM 76 9,ycg 77 f_227 (.t 74) 5 (.t 75) (.t 76)] (xR [xM 78 2,xM 79 8,ybf 80 f_233 78 79,ybe 81 f_228 80 (yao 7),xM 82 8,ycs 83 f_227 (.t 81) 5 (.t 82) 0]))) [ycc 84 .add 65,xM 65 84]
def c_148_k3:ACode:=ybs [xF 59 5 1,xL 60 59,ybe 61 f_243 60 (.c (.func (.func f_244) [] [])),xM 2 61] [xF 62 5 1,xL 63 62,xN 64 63,ya9 65] (yam 4 c_148_l2)
def c_148_k4:ACode:=ybh [xF 33 4 1,xL 34 33,ybe 35 f_240 34 (.c (.func (.func f_241) [] [])),xM 2 35] [xF 36 4 1,xL 37 36,xN 38 37,ya9 39] 2 c_148_l1 c_148_k3
def c_148:AFn:=⟨1,[],ydb [ydi 1] [xF 11 3 1,xL 12 11,ybe 13 f_237 12 (.c (.func (.func f_238) [] [])),xM 2 13] [xF 14 3 1,xL 15 14,xN 16 15,ya9 17] 0 c_148_l0 c_148_k4⟩
def c_149:AFn:=⟨1,[],ybs [ydi 1] [xA 7 9 1,yb2 8 f_245 7,xM 6 8,xE 9 0 6,xE 10 1 6,xE 11 2 6,xM 2 9,xM 3 10,ydn 11] (ybs [xM 12 4,xM 13 2,xM 14 3,ycg 15 f_227 (.t 12) 6 (.t 13) (.t 14)] [xA 17 9 1,yb2 18 f_246 17,xM 16 18,xE 19 0 16,xE 20 1 16,ydk 19,ydn 20] (ybs [xM 21 4,yb9 22,ycs 23 f_227 (.t 21) 7 (.t 22) 0] [xA 25 9 1,yb2 26 f_247 25,xM 24 26,xE 27 0 24,xE 28 1 24,ydk 27,ydn 28] (xR [xM 29 4,yb9 30,ycs 31 f_227 (.t 29) 8 (.t 30) 0])))⟩
def c_150:AFn:=⟨2,[.tmp 3],yb0 [ydi 2,ybg 3] [yce 4 2,xA 5 4 4,yce 6 1,xA 7 4 6,ybf 8 f_89 5 7,xM 3 8]⟩
def c_151_l0:ACode:=ycu [xM 12 4,ycb 13,xN 14 13,xB 15 .lss 12 14] 15 0 1 (xR [xM 18 3,ycb 19,xM 20 4,xX 21 1 19 20,xL 22 21,xO 23 (.minmax true [.t 18,.t 22]),xM 3 23]) [xM 16 4,ycc 17 .add 16,ydn 17]
def c_151_k1:ACode:=ycn (xM 24 3) 2 24
def c_151:AFn:=⟨1,[.tmp 2],yan [xC 2 (ycw 0)] [ycb 5,xN 6 5,ycc 7 .lss 6] (ybu 7 (xR [xO 8 (.mkiface 9 (.c (.str [115,108,105,99,101,115,46,77,97,120,58,32,101,109,112,116,121,32,108,105,115,116]))),⟨none,none,.panic (.t 8)⟩])) (ybh [ycb 9,xO 10 (yb8 1 9 (yao 0)),xL 11 10,xM 3 11] [xI 4 1] 0 c_151_l0 c_151_k1)⟩
def c_152:AFn:=⟨1,[.tmp 2],ya3 [xC 2 (ycw 0)] [ycb 3,xO 4 (.bslice .imm 1 (List.replicate 1 [.int .i64 0]) [(0,(.t 3))]),yb2 5 f_248 4,ybj 6 5] 6 [xC 2 (ycw 0)] (yae [ycb 7,xO 8 (.bin .sub (yao 32) (.t 7)),xO 9 (.bin .shr (.c (ycw 4294967295)) (.t 8)),xM 2 9])⟩
def c_153_l0:ACode:=ydh [xM 29 10,xM 30 9,xN 31 30,xB 32 .lss 29 31] 32 0 1 [yb6 35 5,xL 36 35,xM 37 10,xX 38 2 36 37,xA 39 2 38,xM 40 9,xM 41 10,xX 42 1 40 41,xL 43 42,xF 44 5 3,xL 45 44,yca 46,xX 47 6 45 46,yce 48 47,xL 49 48,xM 50 10,xX 51 3 49 50,xF 52 2 51,xL 53 52,yc4 54 f_250 39 43 53,xM 8 54] (ya4 [xM 55 8,yc5 56 .neq 55] 56 [xM 57 8,xM 6 57]) [xM 33 10,ycc 34 .add 33,xM 10 34]
def c_153_k1:ACode:=ycy 2 [yce 59 5,xL 60 59,yc5 61 .lss 60,xM 62 61,yc0 63 62 5,ybr 64 62 63,ybm 65 62 .gtr 64 255,xW 66 62 65,xM 58 66] 58 [xI 6 9] (ybo [yce 68 5,xL 69 68,yc5 70 .gtr 69,xM 71 70,yas 72 71 (yda 9 (.t 3)),ybn 73 71 1,ycm 74 71 f_251 [.t 72,.t 73],ydd 75 71 .neq 74 3,xV 76 71 75,xM 67 76] 67 [xI 6 11] (ya4 [xA 78 9 3,yca 79,xF 80 2 5,yb6 81 80,xL 82 81,yc4 83 f_155 78 79 82,ybj 84 83,xM 77 84] 77 [xI 6 8])) (yae [xA 85 9 3,xF 86 2 5,xA 87 2 86,ybf 88 f_156 85 87,xM 6 88])
def c_153:AFn:=⟨3,[.tmp 6],yaa [ydi 3,xJ 5 2,ydc] (ya3 [xA 12 9 3,yca 13,ybf 14 f_200 12 13,xM 11 14,xE 15 0 11,xE 16 1 11,xM 7 15,xM 8 16] [xM 17 8,yc5 18 .neq 17] 18 [xM 19 8,xM 6 19] (yde [xA 20 9 3,yca 21,ybf 22 f_249 20 21,xM 9 22] [yb6 23 5,xL 24 23,xN 25 24,xM 26 9,xN 27 26,xB 28 .neq 25 27] 28 [xI 6 2] [ya9 10] 0 c_153_l0 c_153_k1))⟩
def c_154_l0:ACode:=ydh [yb9 6,ycb 7,xN 8 7,xB 9 .lss 6 8] 9 0 1 [ycb 12,yb9 13,xX 14 5 12 13,yce 15 14,xA 16 4 15,xA 17 4 3,ybf 18 f_85 16 17] (yai 18 [xC 4 ybx]) [yb9 10,ycc 11 .add 10,ydk 11]
def c_154_k1:ACode:=ydl yc6
def c_154:AFn:=⟨2,[.tmp 4],ybh [xJ 3 1,yc6] [ycv] 0 c_154_l0 c_154_k1⟩
def c_155:AFn:=⟨3,[.tmp 6],yb0 [ydi 3,ybg 6] [xA 7 9 3,yca 8,ybf 9 f_252 7 8,xM 10 9,ybw 11 10 5 3,yb7 12 10 1 11,ybn 13 10 1,yas 14 10 (ycz 6 12 13),ybw 15 10 2 14,yb7 16 10 1 15,ybn 17 10 2,ycm 18 10 f_253 [.t 16,.t 17],ydd 19 10 .geq 18 0,xV 20 10 19,xM 6 20]⟩
def c_156_l0:ACode:=ydh [xM 31 6,yb9 32,xN 33 32,xB 34 .lss 31 33] 34 0 1 [yce 37 3,xL 38 37,xM 39 6,xX 40 1 38 39,xL 41 40,yb9 42,xM 43 6,xX 44 2 42 43,yce 45 44,xL 46 45,ybf 47 f_254 41 46,ybj 48 47] (yai 48 [xI 4 9]) [xM 35 6,ycc 36 .add 35,xM 6 36]
def c_156_k1:ACode:=ydl yby
def c_156:AFn:=⟨2,[.tmp 4],ya3 [ydi 2,xJ 3 1,yby] [yb6 7 3,xL 8 7,yc5 9 .lss 8,xM 10 9,yaw 11 10 0 3,ybr 12 10 11,yaw 13 10 4 2,ybr 14 10 13,ybc 15 10 14,ybz 16 10 .geq 12 15,xW 17 10 16] 17 [xI 4 8] (yde [xF 18 4 2,xL 19 18,yb6 20 3,xL 21 20,xX 22 3 19 21,yce 23 22,xL 24 23,ydk 24] [yce 25 3,xL 26 25,xN 27 26,yb9 28,xN 29 28,xB 30 .neq 27 29] 30 [xI 4 2] [ydc] 0 c_156_l0 c_156_k1)⟩
def c_157_l0:ACode:=ycu [xM 7 6,yca 8,xB 9 .lss 7 8] 9 0 1 (xR [yb9 12,xO 13 (.bin .mul (.c (.int .u64 2)) (.t 12)),ydk 13]) [xM 10 6,ycc 11 .add 10,xM 6 11]
def c_157_k1:ACode:=yae [ycb 14,xO 15 (.conv .u64 (.t 14)),yb9 16,xB 17 .lss 15 16,ydn 17]
def c_157:AFn:=⟨2,[.tmp 4],ydb [yc6] [xC 5 (.int .u64 1)] [ydc] 0 c_157_l0 c_157_k1⟩
def c_158:AFn:=⟨1,[.tmp 2],ya3 [ydi 1,ya9 2] [yce 3 1,xL 4 3,ycc 5 .lss 4,yb9 6,yc0 7 6 1,ybr 8 6 7,ybm 9 6 .gtr 8 32,xW 10 6 9] 10 [ya9 2] (yae [yce 11 1,xL 12 11,xM 2 12])⟩
def c_159_l0:ACode:=ydh [yb9 11,ycb 12,xN 13 12,xB 14 .lss 11 13] 14 0 1 [ycb 17,yb9 18,xX 19 1 17 18,xL 20 19,yca 21,yb9 22,xX 23 1 21 22,xL 24 23,xB 25 .neq 20 24] (yai 25 [yc6]) [yb9 15,ycc 16 .add 15,ydk 16]
def c_159_k1:ACode:=ydl (xC 4 ybx)
def c_159:AFn:=⟨2,[.tmp 4],yde [yc6] [ycb 6,xN 7 6,yca 8,xN 9 8,xB 10 .neq 7 9] 10 [yc6] [ycv] 0 c_159_l0 c_159_k1⟩
def c_160:AFn:=⟨1,[.tmp 2],yb0 [ydi 1,ybg 2] [xF 3 2 1,xL 4 3,ycc 5 .geq 4,yb9 6,ybw 7 6 2 1,yb7 8 6 1 7,ydd 9 6 .leq 8 64,xV 10 6 9,xM 2 10]⟩
def c_163:AFn:=⟨1,[.cell 2 true 5],ya0 [ydi 1,yax 2 [ybk,.fslice 2 [],ybk,ybk,.fslice 1 []]] (xD [yb6 3 1,xL 4 3,yce 5 1,xA 6 4 5,yb2 7 f_90 6,xO 8 (.build [.int .i64 0,.fslice 2 [],.int .i64 0,.int .i64 0,.fslice 1 []] [(0,1,(.t 4)),(1,4,(.t 7))]),xS 5 2 8]) .ret⟩
def c_164_l0:ACode:=ycu [xM 16 10,yb6 17 4,xL 18 17,xN 19 18,xB 20 .lss 16 19] 20 0 1 (yaa [xM 23 10,yca 24,xB 25 .eql 23 24] (yab 25 (yaa [yb6 26 9,xL 27 26,xM 28 2,xO 29 (.bslice .imm 1 (List.replicate 1 [.fslice 5 []]) [(0,(.t 28))]),ycx 30 1 24 27 29,yb6 31 9,xS 1 31 30] (xR [yce 32 9,xL 33 32,xM 34 3,xO 35 (.bslice .imm 1 (List.replicate 1 [.int .i64 0]) [(0,(.t 34))]),ycx 36 1 8 33 35,yce 37 9,xS 1 37 36])) (ycd [yb6 38 9,xL 39 38,yb6 40 4,xL 41 40,xM 42 10,xX 43 1 41 42,xL 44 43,xO 45 (.bslice .imm 1 (List.replicate 1 [.fslice 5 []]) [(0,(.t 44))]),ycx 46 1 24 39 45,yb6 47 9,xS 1 47 46] (xD [yce 48 9,xL 49 48,yce 50 4,xL 51 50,xM 52 10,xX 53 1 51 52,xL 54 53,xO 55 (.bslice .imm 1 (List.replicate 1 [.int .i64 0]) [(0,(.t 54))]),ycx 56 1 8 49 55,yce 57 9,xS 1 57 56])))) [xM 21 10,ycc 22 .add 21,xM 10 22]
def c_164_k1:ACode:=yb5 (xA 58 4 9) (xS 4 8 58)
def c_164:AFn:=⟨4,[.cell 8 true 4],ycp (ydi 4) (yc8 8 (.fslice 1 []) (.fslice 1 []) (.fslice 2 []) (.fslice 1 [])) (ybh [xF 11 2 4,xL 12 11,xF 13 3 4,xL 14 13,xO 15 (.build [.fslice 1 [],.fslice 1 [],.fslice 2 [],.fslice 1 []] [(2,1,(.t 12)),(3,1,(.t 14))]),yc8 9 (.fslice 1 []) (.fslice 1 []) (.fslice 2 []) (.fslice 1 []),xS 4 9 15] [ya9 10] 0 c_164_l0 c_164_k1)⟩
def c_165_l0:ACode:=ycu [yb9 6,ycb 7,xN 8 7,xB 9 .lss 6 8] 9 0 1 (ya4 [ycb 12,yb9 13,xX 14 5 12 13,yb6 15 14,xL 16 15,yca 17,xB 18 .eql 16 17] 18 [yb9 19,ydn 19]) [yb9 10,ycc 11 .add 10,ydk 11]
def c_165_k1:ACode:=ydl (yb4 4)
def c_165:AFn:=⟨2,[.tmp 4],ybh [yby] [ycv] 0 c_165_l0 c_165_k1⟩
def c_175:AFn:=⟨2,[.tmp 4,.tmp 5],ya3 [ydi 2,yby,ycv] [yca 7,yc5 8 .lss 7,xM 9 8,ya2 10 9 1,yaw 11 9 5 2,ybr 12 9 11,ybc 13 9 12,ybz 14 9 .geq 10 13,xW 15 9 14] 15 [yb4 4,xI 5 8] (.seq (xQ [xF 16 5 2,xL 17 16,yca 18,xX 19 6 17 18,xA 20 6 19,yax 6 [.str [],.fslice 3 [],.fslice 1 [],ybk,.fslice 1 [],ybk],xS 6 6 20] [6]) (ycy 0 [yb6 22 6,xL 23 22,yb2 24 f_257 23,ybj 25 24,xM 21 25] 21 [yb4 4,xI 5 6] (ybo [yce 27 6,xL 28 27,xN 29 28,xK 30 .gtr 29 6,xM 31 30,yaw 32 31 2 6,ybr 33 31 32,ybc 34 31 33,ybm 35 31 .gtr 34 16,xW 36 31 35,xM 26 36] 26 [yb4 4,xI 5 12] (ya4 [xF 38 5 6,xL 39 38,ycc 40 .lss 39,xM 41 40,yaw 42 41 5 6,ybr 43 41 42,ybm 44 41 .gtr 43 256,xW 45 41 44,xM 37 45] 37 [yb4 4,xI 5 9])) (yad [xA 47 9 2,xA 48 6 6,ybf 49 f_258 47 48,xM 46 49,xE 50 0 46,xE 51 1 46,ydn 50,ydk 51] (ya4 [yb9 52,yc5 53 .neq 52] 53 [xM 54 4,yb9 55,ydn 54,ydk 55]) (yad [xA 56 9 2,xA 57 6 6,ybf 58 f_259 56 57,ydk 58] (ya4 [yb9 59,yc5 60 .neq 59] 60 [yb9 61,xI 4 (-3),ydk 61]) (yb5 yby ycv)))))⟩
def c_176_l0:ACode:=yc7 [xB 20 .lss 19 18] 20 0 1 [xX 21 3 17 19,xA 22 3 21,yax 7 [ybk,ybk,ybk],xS 3 7 22] [7] (xR [yb9 23,xA 24 9 2,yb6 25 7,xA 26 2 25,ybf 27 f_261 24 26,xO 28 (.bslice .imm 1 (List.replicate 1 [.int .i64 0]) [(0,(.t 27))]),ycx 29 1 8 23 28,ydk 29]) [ycc 30 .add 19,xM 19 30]
def c_176_k1:ACode:=ycn (yb9 31) 4 31
def c_176:AFn:=⟨2,[.tmp 4],ya3 [ydi 2,xC 4 (.fslice 1 [])] [xA 8 9 2,yca 9,ybf 10 f_260 8 9,ybj 11 10] 11 [xC 4 (.fslice 1 [])] (ybh [yco 5 1] [xF 12 5 2,xL 13 12,yca 14,xX 15 6 13 14,yce 16 15,xL 17 16,xN 18 17,ya9 19] 0 c_176_l0 c_176_k1)⟩
def c_177:AFn:=⟨3,[.tmp 6],ycp (ydi 3) ydc (ycy 0 [yb6 10 3,xL 11 10,xM 12 2,ybf 13 f_262 11 12,ybj 14 13,xM 15 14,yc0 16 15 3,ybr 17 15 16,ya2 18 15 2,yct 19 15 f_262 [.t 17,.t 18],ydj 20 15 19,xW 21 15 20,xM 9 21] 9 [xI 6 9] (ybo [yb6 23 3,xL 24 23,yce 25 3,xL 26 25,xB 27 .andNot 24 26,xO 28 (yar .neq 27 (.c (ycw 0))),xM 22 28] 22 [xI 6 5] (ycd [yca 30,ycc 31 .eql 30,xM 32 31,ybw 33 32 1 3,yb7 34 32 1 33,ybn 35 32 2,ycm 36 32 f_152 [.t 35],ybt 37 32 .neq 34 (.t 36),xV 38 32 37,xM 29 38] (yai 29 [xI 6 11]))) (yad [yca 39,xK 40 .eql 39 2] (ybu 40 (yaa [yce 42 3,xL 43 42,xM 44 2,ybf 45 f_263 43 44,xM 41 45,xE 46 0 41,xE 47 1 41,xM 7 46,xM 8 47] (ya4 [xM 48 8,ybj 49 48] 49 [xI 6 11]))) (ydl ydc)))⟩
def c_178_l0:ACode:=yc7 [xB 20 .lss 19 18] 20 0 1 [xX 21 3 17 19,xA 22 3 21,yax 7 [ybk,ybk,ybk],xS 3 7 22] [7] (.block 2 (ybo [xF 24 2 7,xL 25 24,xK 26 .eql 25 3,xM 23 26] 23 [xI 4 3] (yaa [xF 28 2 7,xL 29 28,xK 30 .eql 29 2,xM 27 30] (ybu 27 (xR [xI 5 2]))))) [ycc 31 .add 19,xM 19 31]
def c_178_k1:ACode:=ycn (yb9 32) 4 32
def c_178:AFn:=⟨2,[.tmp 4],ya3 [ydi 2,yby] [xA 8 9 2,yca 9,ybf 10 f_260 8 9,ybj 11 10] 11 [yby] (ybh [xI 5 1] [xF 12 5 2,xL 13 12,yca 14,xX 15 6 13 14,yce 16 15,xL 17 16,xN 18 17,ya9 19] 0 c_178_l0 c_178_k1)⟩
def c_179_l0:ACode:=yc9 [xB 21 .lss 20 19] 21 0 1 (yaa [xX 22 1 18 20,xL 23 22,xM 8 23] (ya4 [xM 24 8,xM 25 2,xB 26 .eql 24 25] 26 [xC 6 ybx])) [ycc 27 .add 20,xM 20 27]
def c_179_k1:ACode:=ydl (ybg 6)
def c_179:AFn:=⟨3,[.tmp 6],yde [ydi 3,ybg 6] [xA 9 9 3,yca 10,ybf 11 f_260 9 10,ybj 12 11] 12 [ybg 6] [xF 13 5 3,xL 14 13,yca 15,xX 16 6 14 15,xF 17 2 16,xL 18 17,xN 19 18,ya9 20] 0 c_179_l0 c_179_k1⟩
def c_180_l0:ACode:=yc9 [xB 36 .lss 35 34] 36 0 1 (yaa [xM 37 35,xX 38 1 33 35,xL 39 38,xM 6 37,xM 7 39] (ya4 [xM 40 7,yb9 41,xM 42 6,xX 43 2 41 42,yce 44 43,xL 45 44,ybf 46 f_262 40 45,ybj 47 46] 47 [xI 4 9])) [ycc 48 .add 35,xM 35 48]
def c_180_k1:ACode:=ydl yby
def c_180:AFn:=⟨2,[.tmp 4],ya3 [ydi 2,xJ 3 1,yby] [yb6 8 3,xL 9 8,yc5 10 .lss 9,xM 11 10,yaw 12 11 0 3,ybr 13 11 12,yaw 14 11 4 2,ybr 15 11 14,ybc 16 11 15,ybz 17 11 .geq 13 16,xW 18 11 17] 18 [xI 4 8] (yde [xF 19 4 2,xL 20 19,yb6 21 3,xL 22 21,xX 23 3 20 22,yce 24 23,xL 25 24,ydk 25] [yce 26 3,xL 27 26,xN 28 27,yb9 29,xN 30 29,xB 31 .neq 28 30] 31 [xI 4 2] [yce 32 3,xL 33 32,xN 34 33,ya9 35] 0 c_180_l0 c_180_k1)⟩
def c_181_l0:ACode:=yc9 [xB 9 .lss 8 7] 9 0 1 (ycq (xM 10 8) 5 10 (ya4 [yca 11,ycb 12,yb9 13,xX 14 5 12 13,xA 15 5 14,xO 16 (ydf 11 [.t 15])] 16 [yb9 17,ydn 17])) [ycc 18 .add 8,xM 8 18]
def c_181_k1:ACode:=ydl (yb4 4)
def c_181:AFn:=⟨2,[.tmp 4],ybh [yby] [ycb 6,xN 7 6,ya9 8] 0 c_181_l0 c_181_k1⟩
def c_183_l0:ACode:=ycu [xM 7 3,ycb 8,xN 9 8,xB 10 .lss 7 9] 10 0 1 (ya4 [ycb 13,xM 14 3,xX 15 2 13 14,yb6 16 15,xL 17 16,xO 18 (.slen (.t 17)),xK 19 .gtr 18 40] 19 [ybg 2]) [xM 11 3,ycc 12 .add 11,xM 3 12]
def c_183_k1:ACode:=ydl (xC 2 ybx)
def c_183:AFn:=⟨1,[.tmp 2],yde [ybg 2] [ycb 4,xN 5 4,xK 6 .gtr 5 16] 6 [ybg 2] [ya9 3] 0 c_183_l0 c_183_k1⟩
def c_184_l0:ACode:=ycu [xM 20 3,xF 21 2 1,xL 22 21,xN 23 22,xB 24 .lss 20 23] 24 0 1 (ya4 [xF 27 2 1,xL 28 27,xM 29 3,xX 30 7 28 29,xF 31 5 30,xL 32 31,xN 33 32,xK 34 .gtr 33 40,xM 35 34,yaw 36 35 2 1,ybr 37 35 36,ya2 38 35 3,ydm 39 35 7 37 38,yaw 40 35 6 39,ybr 41 35 40,ybc 42 35 41,ybm 43 35 .gtr 42 40,xW 44 35 43] 44 [ybg 2]) [xM 25 3,ycc 26 .add 25,xM 3 26]
def c_184_k1:ACode:=ydl (xC 2 ybx)
def c_184:AFn:=⟨1,[.tmp 2],yde [ydi 1,ybg 2] [yb6 4 1,xL 5 4,xO 6 (.slen (.t 5)),xK 7 .gtr 6 40,xM 8 7,yc0 9 8 1,ybr 10 8 9,yct 11 8 f_183 [.t 10],ydj 12 8 11,xW 13 8 12,xM 14 13,yaw 15 14 2 1,ybr 16 14 15,ybc 17 14 16,ybm 18 14 .gtr 17 16,xW 19 14 18] 19 [ybg 2] [ya9 3] 0 c_184_l0 c_184_k1⟩
def c_185_l0:ACode:=ycu [xM 9 8,ycb 10,xN 11 10,xB 12 .lss 9 11,xM 13 12,ybn 14 13 7,ybn 15 13 1,ybt 16 13 .leq 14 (.t 15),xV 17 13 16] 17 0 1 (ya3 [xM 20 7,ycc 21 .add 20,xM 7 21] [ycb 22,xM 23 8,xX 24 5 22 23,xF 25 2 24,xL 26 25,xN 27 26,xK 28 .gtr 27 40,xM 29 28,ya2 30 29 2,ybm 31 29 .eql 30 0,xW 32 29 31] 32 [yca 33,ycc 34 .add 33,xM 6 34] (ybs [xM 35 7,ycb 36,xM 37 8,xX 38 5 36 37,xF 39 3 38,xL 40 39,yca 41,xM 42 7,xB 43 .sub 41 42,xM 44 2,ycc 45 .sub 44,yc4 46 f_185 40 43 45,xB 47 .add 35 46,xM 7 47] [xM 48 7,yca 49,xB 50 .leq 48 49] (ybu 50 (xR [xM 51 7,ycb 52,xM 53 8,xX 54 5 52 53,xF 55 4 54,xL 56 55,yca 57,xM 58 7,xB 59 .sub 57 58,xM 60 2,ycc 61 .sub 60,yc4 62 f_185 56 59 61,xB 63 .add 51 62,xM 7 63])))) [xM 18 8,ycc 19 .add 18,xM 8 19]
def c_185_k1:ACode:=ycn (xM 64 7) 6 64
def c_185:AFn:=⟨3,[.tmp 6],ydb [ydc] [ya9 7] [ya9 8] 0 c_185_l0 c_185_k1⟩
def c_186_l0:ACode:=yc7 [xB 17 .lss 16 15] 17 0 1 [xX 18 2 14 16,xA 19 2 18,yax 6 [ycw 0,ycw 0],xS 2 6 19] [6] (xR [xM 20 4,yb6 21 6,xL 22 21,xO 23 (.conv .u64 (.t 22)),xO 24 (yar .shl 23 (.c (.int .u64 32))),yce 25 6,xL 26 25,xO 27 (.conv .u64 (.t 26)),xB 28 .or 24 27,xO 29 (.tcallv (.t 20) [.t 28])]) [ycc 30 .add 16,xM 16 30]
def c_186_k1:ACode:=yae [xL 31 3,xO 32 (.b2s (.t 31)),xM 2 32]
def c_186:AFn:=⟨1,[.tmp 2],ycp (ydi 1) (xC 2 (.str [])) (ybs [yax 3 [.fslice 1 []]] [xO 7 (.mkfunc (.func f_264) [] [.t 3]),ydn 7] (ybh [xM 8 4,yce 9 1,xL 10 9,xO 11 (.conv .u64 (.t 10)),xO 12 (.tcallv (.t 8) [.t 11])] [yb6 13 1,xL 14 13,xN 15 14,ya9 16] 0 c_186_l0 c_186_k1))⟩
def c_187:AFn:=⟨2,[.tmp 4],yb0 [ycj 2 0,ycj 3 1,yc6] [xA 5 4 2,xA 6 4 3,ybf 7 f_89 5 6,xM 8 7,ybw 9 8 2 2,ybw 10 8 0 9,yb7 11 8 1 10,ybw 12 8 2 3,ybw 13 8 0 12,yb7 14 8 1 13,ybt 15 8 .eql 11 (.t 14),xV 16 8 15,xM 17 16,ybw 18 17 2 2,ybw 19 17 1 18,yb7 20 17 1 19,ybw 21 17 2 3,ybw 22 17 1 21,yb7 23 17 1 22,ycm 24 17 f_265 [.t 20,.t 23],xV 25 17 24,ydn 25]⟩
def c_190:AFn:=⟨3,[.cell 6 true 4,.tmp 7,.tmp 8],yan [ydi 3,xJ 4 1,xJ 5 2,yc8 6 (.fslice 1 []) (.fslice 1 []) (.fslice 2 []) (.fslice 1 []),ya9 7,ya9 8] [yb6 15 5,xL 16 15] (.block 0 (ybo [ycc 18 .eql 16,xM 17 18] 17 [xA 19 9 3,xA 20 4 4,yce 21 5,xL 22 21,xF 23 3 5,xA 24 4 23,ycf 25 f_77 (.t 19) (.t 20) (.t 22) (.t 24),xE 26 0 25,xE 27 1 25,xE 28 2 25,xS 4 6 26,xM 7 27,xM 8 28] (ycq (xK 30 .eql 16 2) 29 30 (yab 29 (.seq (xQ [xA 32 9 3,xA 33 4 4,yce 34 5,xL 35 34,xF 36 2 5,xL 37 36,xF 38 7 5,xA 39 2 38,yaf 40 f_78 [.t 32,.t 33,.t 35,.t 37,.t 39],xM 31 40,xE 41 0 31,xE 42 1 31,yc8 9 (.fslice 1 []) (.fslice 1 []) (.fslice 2 []) (.fslice 1 []),xS 4 9 41,xM 10 42] [9]) (yae [xA 43 4 9,xM 44 10,xS 4 6 43,ya9 7,xM 8 44])) (ycq (xK 46 .eql 16 3) 45 46 (yab 45 (.seq (xQ [xA 48 9 3,xA 49 4 4,yce 50 5,xL 51 50,xF 52 2 5,xL 53 52,ycf 54 f_79 (.t 48) (.t 49) (.t 51) (.t 53),xM 47 54,xE 55 0 47,xE 56 1 47,yc8 11 (.fslice 1 []) (.fslice 1 []) (.fslice 2 []) (.fslice 1 []),xS 4 11 55,xM 12 56] [11]) (yae [xA 57 4 11,xM 58 12,xS 4 6 57,ya9 7,xM 8 58])) (ycq (xK 60 .eql 16 4) 59 60 (ybu 59 (.seq (xQ [xA 62 9 3,xA 63 4 4,yce 64 5,xL 65 64,xF 66 7 5,xA 67 2 66,ycf 68 f_80 (.t 62) (.t 63) (.t 65) (.t 67),xM 61 68,xE 69 0 61,xE 70 1 61,yc8 13 (.fslice 1 []) (.fslice 1 []) (.fslice 2 []) (.fslice 1 []),xS 4 13 69,xM 14 70] [13]) (yae [xA 71 4 13,xM 72 14,xS 4 6 71,ya9 7,xM 8 72])))))))))) (yae [xA 73 4 4,xS 4 6 73,ya9 7,xI 8 11])⟩
def c_194_l0:ACode:=ycu [xM 17 3,ycb 18,xO 19 (.slen (.t 18)),xB 20 .lss 17 19] 20 0 1 (ya4 [ycb 23,xM 24 3,xO 25 (.idxs (.t 23) (.t 24)),yb2 26 f_267 25,ybj 27 26,xM 28 27,ybn 29 28 0,ybn 30 28 3,yas 31 28 (.idxs (.t 29) (.t 30)),ycm 32 28 f_268 [.t 31],yas 33 28 (ya7 32),xV 34 28 33,xM 35 34,ybn 36 35 0,ybn 37 35 3,yas 38 35 (.idxs (.t 36) (.t 37)),ybt 39 35 .neq 38 (.c (.int .u8 95)),xV 40 35 39] 40 [ybg 2]) [xM 21 3,ycc 22 .add 21,xM 3 22]
def c_194_k1:ACode:=ydl (xC 2 ybx)
def c_194:AFn:=⟨1,[.tmp 2],yde [ybg 2] [ycb 4,xO 5 (yar .eql 4 (.c (.str []))),yb9 6,ya2 7 6 0,yac 8 6 (.slen (.t 7)),ybm 9 6 .gtr 8 16,xW 10 6 9,xM 11 10,ya2 12 11 0,yac 13 11 (.idxs (.t 12) (yao 0)),yct 14 11 f_267 [.t 13],ydj 15 11 14,xW 16 11 15] 16 [ybg 2] [ya9 3] 0 c_194_l0 c_194_k1⟩
def c_195:AFn:=⟨4,[.cell 8 true 4],yb0 [yc8 8 ybk ybk ybk ybk] [ycb 9,yca 10,xM 11 2,xM 12 3,xO 13 (.build [.int .i64 0,.int .i64 0,.int .i64 0,.int .i64 0] [(0,1,(.t 9)),(1,1,(.t 10)),(2,1,(.t 11)),(3,1,(.t 12))]),xS 4 8 13]⟩
def c_196_l0:ACode:=ych [xM 23 4,yce 24 1,xL 25 24,xN 26 25,xB 27 .lss 23 26] 27 1 2 (xQ [yce 30 1,xL 31 30,xM 32 4,xX 33 2 31 32,xA 34 2 33,yax 5 [.str [],ybk],xS 2 5 34] [5]) (yaa [xA 36 2 1,yb6 37 5,xL 38 37,ybf 39 f_269 36 38,xM 35 39,xE 40 0 35,xE 41 1 35,xM 6 40,xM 7 41] (ya1 3 (ybo [yb6 43 5,xL 44 43,yb2 45 f_194 44,ybj 46 45,xM 42 46] 42 [xI 2 6] (ybo [yce 48 5,xL 49 48,ycc 50 .lss 49,xM 51 50,yc0 52 51 5,ybr 53 51 52,ybm 54 51 .gtr 53 32,xW 55 51 54,xM 47 55] 47 [xI 2 10] (ya4 [xM 57 6,xM 58 4,xB 59 .lss 57 58,xM 56 59] 56 [xI 2 7]))) [xM 60 3,yce 61 5,xL 62 61,xB 63 .add 60 62,xM 3 63])) [xM 28 4,ycc 29 .add 28,ydn 29]
def c_196_k1:ACode:=ybl [xM 64 3,xK 65 .rem 64 8,yc5 66 .neq 65] 66 [xI 2 10] (ydl (ya9 2))
def c_196:AFn:=⟨1,[.tmp 2],ycp (ydi 1) (ya9 2) (ycy 0 [yb6 9 1,xL 10 9,yb2 11 f_194 10,ybj 12 11,xM 8 12] 8 [xI 2 6] (ybo [yce 14 1,xL 15 14,xN 16 15,yc5 17 .eql 16,xM 13 17] 13 [xI 2 8] (ya4 [yce 19 1,xL 20 19,xN 21 20,xK 22 .gtr 21 12,xM 18 22] 18 [xI 2 12])) (ybh [ya9 3] [yby] 1 c_196_l0 c_196_k1))⟩
def c_197_l0:ACode:=ydh [yb9 27,yca 28,xB 29 .lss 27 28] 29 0 1 [ycb 32,yb9 33,xX 34 2 32 33,yb6 35 34,xL 36 35,ycb 37,yca 38,xX 39 2 37 38,yb6 40 39,xL 41 40,xB 42 .eql 36 41] (yai 42 [xI 4 7]) [yb9 30,ycc 31 .add 30,ydk 31]
def c_197_k1:ACode:=ydl yby
def c_197:AFn:=⟨2,[.tmp 4],ya3 [yby] [ycb 6,yca 7,xX 8 2 6 7,yb6 9 8,xL 10 9,yb2 11 f_194 10,ybj 12 11] 12 [xI 4 6] (ybl [ycb 13,yca 14,xX 15 2 13 14,yce 16 15,xL 17 16,ycc 18 .lss 17,xM 19 18,ya2 20 19 0,ya2 21 19 1,ydm 22 19 2 20 21,yc0 23 19 22,ybr 24 19 23,ybm 25 19 .gtr 24 32,xW 26 19 25] 26 [xI 4 10] (ybq [ycv] 0 c_197_l0 c_197_k1))⟩
def c_198:AFn:=⟨1,[.tmp 2],ya3 [ydi 1,ya9 2] [yb6 3 1,xL 4 3,yb2 5 f_194 4,ybj 6 5] 6 [xI 2 6] (ybl [yce 7 1,xL 8 7,ycc 9 .lss 8,xM 10 9,yc0 11 10 1,ybr 12 10 11,ybm 13 10 .gtr 12 32,xW 14 10 13] 14 [xI 2 10] (ybl [xF 15 2 1,xL 16 15,ycc 17 .lss 16,xM 18 17,yaw 19 18 2 1,ybr 20 18 19,ybm 21 18 .gtr 20 64,xW 22 18 21] 22 [xI 2 9] (ydl (ya9 2))))⟩
def c_199_l0:ACode:=ydh [xM 47 7,xF 48 2 6,xL 49 48,xN 50 49,xB 51 .lss 47 50] 51 1 2 [xA 54 9 2,xF 55 2 6,xL 56 55,xM 57 7,xX 58 7 56 57,xA 59 7 58,xA 60 9 2,yca 61,ybf 62 f_272 60 61,yc4 63 f_271 54 59 62,xM 8 63] (ya4 [xM 64 8,yc5 65 .neq 64] 65 [xM 66 7,xM 67 8,ydn 66,ydk 67]) [xM 52 7,ycc 53 .add 52,xM 7 53]
def c_199_k1:ACode:=yb5 yby ycv
def c_199:AFn:=⟨2,[.tmp 4,.tmp 5],ya3 [ydi 2,yby,ycv] [yca 9,yc5 10 .lss 9,xM 11 10,ya2 12 11 1,yaw 13 11 4 2,ybr 14 11 13,ybc 15 11 14,ybz 16 11 .geq 12 15,xW 17 11 16] 17 [yb4 4,xI 5 8] (.seq (xQ [xF 18 4 2,xL 19 18,yca 20,xX 21 3 19 20,xA 22 3 21,yax 6 [.str [],.fslice 2 [],.fslice 7 []],xS 3 6 22] [6]) (ycy 0 [yb6 24 6,xL 25 24,yb2 26 f_194 25,ybj 27 26,xM 23 27] 23 [yb4 4,xI 5 6] (ybo [yce 29 6,xL 30 29,xN 31 30,xK 32 .gtr 31 4,xM 33 32,yaw 34 33 2 6,ybr 35 33 34,ybc 36 33 35,ybm 37 33 .gtr 36 12,xW 38 33 37,xM 28 38] 28 [yb4 4,xI 5 12] (ya4 [yce 40 6,xL 41 40,yb2 42 f_270 41,yc5 43 .neq 42,xM 39 43] 39 [yce 44 6,xL 45 44,yb2 46 f_270 45,yb4 4,ydk 46])) (ybq [ya9 7] 1 c_199_l0 c_199_k1)))⟩
def c_200:AFn:=⟨2,[.tmp 4,.tmp 5],ya3 [ydi 2,yby,ycv] [yca 9,yc5 10 .lss 9,xM 11 10,ya2 12 11 1,yaw 13 11 5 2,ybr 14 11 13,ybc 15 11 14,ybz 16 11 .geq 12 15,xW 17 11 16] 17 [yb4 4,xI 5 8] (.seq (xQ [xF 18 5 2,xL 19 18,yca 20,xX 21 6 19 20,xA 22 6 21,yax 6 [.str [],.fslice 3 [],.fslice 1 [],ybk,.fslice 1 [],ybk],xS 6 6 22] [6]) (ycy 0 [yb6 24 6,xL 25 24,yb2 26 f_194 25,ybj 27 26,xM 23 27] 23 [yb4 4,xI 5 6] (ybo [yce 29 6,xL 30 29,xN 31 30,xK 32 .gtr 31 6,xM 33 32,yaw 34 33 2 6,ybr 35 33 34,ybc 36 33 35,ybm 37 33 .gtr 36 16,xW 38 33 37,xM 28 38] 28 [yb4 4,xI 5 12] (ya4 [xF 40 5 6,xL 41 40,ycc 42 .lss 41,xM 43 42,yaw 44 43 5 6,ybr 45 43 44,ybm 46 43 .gtr 45 256,xW 47 43 46,xM 39 47] 39 [yb4 4,xI 5 9])) (ya3 [xA 49 9 2,xA 50 6 6,ybf 51 f_273 49 50,xM 48 51,xE 52 0 48,xE 53 1 48,xM 7 52,xM 8 53] [xM 54 8,yc5 55 .neq 54] 55 [xM 56 7,xM 57 8,ydn 56,ydk 57] (ya3 [xA 58 9 2,xA 59 6 6,ybf 60 f_274 58 59,xM 8 60] [xM 61 8,yc5 62 .neq 61] 62 [xM 63 8,xI 4 (-3),ydk 63] (yb5 yby ycv)))))⟩
def c_201_l0:ACode:=ycu [yb9 16,xF 17 6 1,xL 18 17,xN 19 18,xB 20 .lss 16 19] 20 0 1 (yaa [xA 24 9 1,yb9 25,ybf 26 f_275 24 25,xM 23 26,xE 27 0 23,xE 28 1 23,xM 6 27,xM 7 28] (ya4 [xM 29 7,yc5 30 .neq 29] 30 [yb9 31,xM 32 6,xM 33 7,xM 2 31,xM 3 32,ydn 33])) [yb9 21,ycc 22 .add 21,ydk 22]
def c_201_k1:ACode:=yae [ya9 2,ya9 3,yby]
def c_201:AFn:=⟨1,[.tmp 2,.tmp 3,.tmp 4],ya3 [ydi 1,ya9 2,ya9 3,yby] [xF 8 6 1,xL 9 8,xN 10 9,yc5 11 .eql 10] 11 [yb4 2,yb4 3,xI 4 8] (ybl [xF 12 6 1,xL 13 12,xN 14 13,xK 15 .gtr 14 12] 15 [yb4 2,yb4 3,xI 4 12] (ybq [ycv] 0 c_201_l0 c_201_k1))⟩
def c_202_l0:ACode:=ycu [yb9 20,xM 21 4,xN 22 21,xB 23 .lss 20 22] 23 1 2 (yaa [xA 26 9 1,xM 27 4,yb9 28,yc4 29 f_279 26 27 28,xM 6 29] (ya4 [xM 30 6,yc5 31 .neq 30] 31 [yb9 32,xM 33 6,xM 2 32,xM 3 33])) [yb9 24,ycc 25 .add 24,ydk 25]
def c_202_k1:ACode:=yb5 (ya9 2) (ya9 3)
def c_202:AFn:=⟨1,[.tmp 2,.tmp 3],yaa [ydi 1,ya9 2,ya9 3] (ycy 0 [xF 8 7 1,xL 9 8,yb2 10 f_276 9,xK 11 .gtr 10 24,xM 7 11] 7 [yb4 2,xI 3 12] (ya4 [xF 13 7 1,xL 14 13,yb2 15 f_277 14,xK 16 .gtr 15 6,xM 12 16] 12 [yb4 2,xI 3 14]) (ybh [xF 17 7 1,xL 18 17,yb2 19 f_278 18,ydn 19] [ycv] 1 c_202_l0 c_202_k1))⟩
def c_203_l0:ACode:=ydh [yb9 35,xM 36 4,xB 37 .lss 35 36] 37 2 3 [xF 40 8 1,xL 41 40,yb9 42,xX 43 1 41 42,xL 44 43,xF 45 8 1,xL 46 45,xM 47 4,xX 48 1 46 47,xL 49 48,xB 50 .eql 44 49] (yai 50 [xM 51 4,xM 2 51,xI 3 7]) [yb9 38,ycc 39 .add 38,ydk 39]
def c_203_k1:ACode:=xR [xM 15 4,ycc 16 .add 15,ydn 16]
def c_203_l2:ACode:=yba [xM 10 4,xF 11 8 1,xL 12 11,xN 13 12,xB 14 .lss 10 13] 14 0 (yaj 1 (.seq (ycd [xF 17 8 1,xL 18 17,xM 19 4,xX 20 1 18 19,xL 21 20,yc5 22 .lss 21,xM 23 22,yaw 24 23 8 1,ybr 25 23 24,ya2 26 23 4,ydm 27 23 1 25 26,ybr 28 23 27,yc0 29 23 1,ybr 30 23 29,ybc 31 23 30,ybz 32 23 .geq 28 31,xW 33 23 32] (yai 33 [xM 34 4,xM 2 34,xI 3 8])) (yaa [ycv] (yam 2 c_203_l0))) c_203_k1)
def c_203_k3:ACode:=yb5 (ya9 2) (ya9 3)
def c_203:AFn:=⟨1,[.tmp 2,.tmp 3],yde [ydi 1,ya9 2,ya9 3] [xF 6 8 1,xL 7 6,xN 8 7,xK 9 .gtr 8 8] 9 [yb4 2,xI 3 12] [yby] 0 c_203_l2 c_203_k3⟩
def c_212_l0:ACode:=yc7 [xB 11 .lss 10 9] 11 0 1 [xX 12 2 8 10,xA 13 2 12,yax 7 [.str [],.fslice 2 []],xS 2 7 13] [7] (xR [yb9 14,yca 15,xA 16 2 7,xO 17 (ydf 15 [.t 16]),xO 18 (.bslice .imm 2 (List.replicate 1 [.str [],.fslice 2 []]) [(0,(.t 17))]),ycx 19 2 40 14 18,ydk 19]) [ycc 20 .add 10,xM 10 20]
def c_212_k1:ACode:=ycn (yb9 21) 4 21
def c_212:AFn:=⟨2,[.tmp 4],ydb [xC 4 (.fslice 2 [])] [yco 5 2] [ycb 8,xN 9 8,ya9 10] 0 c_212_l0 c_212_k1⟩
def c_213:AFn:=⟨1,[.cell 2 true 2],ybs [ycj 1 0,yax 2 [.str [],.fslice 2 []]] [yce 3 1,xL 4 3,yb2 5 f_214 4,yce 6 1,xS 1 6 5] (yb5 (xA 7 2 1) (xS 2 2 7))⟩
def c_216_l0:ACode:=yc7 [xB 11 .lss 10 9] 11 0 1 [xX 12 3 8 10,xA 13 3 12,yax 7 [.str [],.fslice 2 [],.fslice 7 []],xS 3 7 13] [7] (xR [yb9 14,yca 15,xA 16 3 7,xO 17 (ydf 15 [.t 16]),xO 18 (.bslice .imm 3 (List.replicate 1 [.str [],.fslice 2 [],.fslice 7 []]) [(0,(.t 17))]),ycx 19 3 64 14 18,ydk 19]) [ycc 20 .add 10,xM 10 20]
def c_216_k1:ACode:=ycn (yb9 21) 4 21
def c_216:AFn:=⟨2,[.tmp 4],ydb [xC 4 (.fslice 3 [])] [yco 5 3] [ycb 8,xN 9 8,ya9 10] 0 c_216_l0 c_216_k1⟩
def c_217:AFn:=⟨1,[.cell 2 true 3],ya0 [ycj 1 0,yax 2 [.str [],.fslice 2 [],.fslice 7 []]] (xD [yce 3 1,xL 4 3,yb2 5 f_214 4,xF 6 2 1,xL 7 6,ybe 8 f_287 7 (.c (.func (.func f_288) [] [])),yce 9 1,xS 1 9 5,xF 10 2 1,xS 1 10 8]) (yb5 (xA 11 3 1) (xS 3 2 11))⟩
def c_218_l0:ACode:=yc7 [xB 11 .lss 10 9] 11 0 1 [xX 12 6 8 10,xA 13 6 12,yax 7 [.str [],.fslice 3 [],.fslice 1 [],ybk,.fslice 1 [],ybk],xS 6 7 13] [7] (xR [yb9 14,yca 15,xA 16 6 7,xO 17 (ydf 15 [.t 16]),xO 18 (.bslice .imm 6 (List.replicate 1 [.str [],.fslice 3 [],.fslice 1 [],.int .i64 0,.fslice 1 [],.int .i64 0]) [(0,(.t 17))]),ycx 19 6 104 14 18,ydk 19]) [ycc 20 .add 10,xM 10 20]
def c_218_k1:ACode:=ycn (yb9 21) 4 21
def c_218:AFn:=⟨2,[.tmp 4],ydb [xC 4 (.fslice 6 [])] [yco 5 6] [ycb 8,xN 9 8,ya9 10] 0 c_218_l0 c_218_k1⟩
def c_219:AFn:=⟨1,[.cell 2 true 6],ya0 [ycj 1 0,yax 2 [.str [],.fslice 3 [],.fslice 1 [],ybk,.fslice 1 [],ybk]] (xD [yce 3 1,xL 4 3,yb2 5 f_289 4,xF 6 2 1,xL 7 6,yb2 8 f_162 7,xF 9 3 1,yce 10 9,xL 11 10,yb2 12 f_161 11,yce 13 1,xS 1 13 5,xF 14 2 1,xS 1 14 8,xF 15 3 1,yce 16 15,xS 1 16 12]) (yb5 (xA 17 6 1) (xS 6 2 17))⟩
def c_220_l0:ACode:=yc7 [xB 11 .lss 10 9] 11 0 1 [xX 12 7 8 10,xA 13 7 12,yax 7 [.str [],.fslice 1 [],yap,ybk,ybk,.fslice 3 [],ybk],xS 7 7 13] [7] (xR [yb9 14,yca 15,xA 16 7 7,xO 17 (ydf 15 [.t 16]),xO 18 (.bslice .imm 7 (List.replicate 1 [.str [],.fslice 1 [],.bool false,.int .i64 0,.int .i64 0,.fslice 3 [],.int .i64 0]) [(0,(.t 17))]),ycx 19 7 96 14 18,ydk 19]) [ycc 20 .add 10,xM 10 20]
def c_220_k1:ACode:=ycn (yb9 21) 4 21
def c_220:AFn:=⟨2,[.tmp 4],ydb [xC 4 (.fslice 7 [])] [yco 5 7] [ycb 8,xN 9 8,ya9 10] 0 c_220_l0 c_220_k1⟩
def c_221:AFn:=⟨1,[.cell 2 true 7],ya0 [ycj 1 0,yax 2 [.str [],.fslice 1 [],yap,ybk,ybk,.fslice 3 [],ybk]] (xD [yce 3 1,xL 4 3,yb2 5 f_162 4,xF 6 5 1,xL 7 6,yb2 8 f_290 7,yce 9 1,xS 1 9 5,xF 10 5 1,xS 1 10 8]) (yb5 (xA 11 7 1) (xS 7 2 11))⟩
def c_222_l0:ACode:=yc7 [xB 11 .lss 10 9] 11 0 1 [xX 12 5 8 10,xA 13 5 12,yax 7 [ybk,ybk,.fslice 3 [],.fslice 5 [],.fslice 5 []],xS 5 7 13] [7] (xR [yb9 14,yca 15,xA 16 5 7,xO 17 (ydf 15 [.t 16]),xO 18 (.bslice .imm 5 (List.replicate 1 [.int .i64 0,.int .i64 0,.fslice 3 [],.fslice 5 [],.fslice 5 []]) [(0,(.t 17))]),ycx 19 5 88 14 18,ydk 19]) [ycc 20 .add 10,xM 10 20]
def c_222_k1:ACode:=ycn (yb9 21) 4 21
def c_222:AFn:=⟨2,[.tmp 4],ydb [xC 4 (.fslice 5 [])] [yco 5 5] [ycb 8,xN 9 8,ya9 10] 0 c_222_l0 c_222_k1⟩
def c_223:AFn:=⟨1,[.cell 2 true 5],ya0 [ycj 1 0,yax 2 [ybk,ybk,.fslice 3 [],.fslice 5 [],.fslice 5 []]] (xD [xF 3 2 1,xL 4 3,yb2 5 f_291 4,xF 6 3 1,xL 7 6,ybe 8 f_222 7 (.c (.func (.func f_223) [] [])),xF 9 4 1,xL 10 9,ybe 11 f_222 10 (.c (.func (.func f_223) [] [])),xF 12 2 1,xS 1 12 5,xF 13 3 1,xS 1 13 8,xF 14 4 1,xS 1 14 11]) (yb5 (xA 15 5 1) (xS 5 2 15))⟩
def c_227:AFn:=⟨4,[],ycp (ycb 8) (yc5 9 .neq 8) (ybu 9 (xR [ycb 10,yca 11,xM 12 2,xM 13 3,xO 14 (.build [.int .i64 0,.int .i64 0,.int .i64 0,.int .i64 0] [(0,1,(.t 10)),(1,1,(.t 11)),(2,1,(.t 12)),(3,1,(.t 13))]),xO 15 (.build [.int .i64 0,.int .i64 0,.int .i64 0,.int .i64 0] [(0,4,(.t 14))]),xO 16 (.mkiface 207 (.t 15)),⟨none,none,.panic (.t 16)⟩]))⟩
def c_228:AFn:=⟨2,[.tmp 4],ya3 [yby] [ycb 5] 5 [yca 6,ydn 6] (ydl yby)⟩
def c_229:AFn:=⟨1,[.tmp 2],yb0 [ybg 2] [ycb 3,yb2 4 f_257 3,ybj 5 4,yb9 2]⟩
def c_230_l0:ACode:=yc7 [xB 11 .lss 10 9] 11 0 1 [xX 12 2 8 10,xA 13 2 12,yax 7 [.str [],.fslice 2 []],xS 2 7 13] [7] (xR [yb9 14,yca 15,xA 16 2 7,xO 17 (ydf 15 [.t 16]),xO 18 (.bslice .imm 1 (List.replicate 1 [.str []]) [(0,(.t 17))]),ycx 19 1 16 14 18,ydk 19]) [ycc 20 .add 10,xM 10 20]
def c_230_k1:ACode:=ycn (yb9 21) 4 21
def c_230:AFn:=⟨2,[.tmp 4],ydb [xC 4 (.fslice 1 [])] [yco 5 1] [ycb 8,xN 9 8,ya9 10] 0 c_230_l0 c_230_k1⟩
def c_231:AFn:=⟨1,[.tmp 2],yb0 [ydi 1,xC 2 (.str [])] [yb6 3 1,xL 4 3,xM 2 4]⟩
def c_232_l0:ACode:=yc9 [xB 48 .lss 47 46] 48 3 4 (ybs [xX 49 2 45 47,xA 50 2 49,yax 6 [.str [],ybk],xS 2 6 50] [yce 51 4,xL 52 51,yce 53 6,xS 1 53 52] (ya4 [xA 54 2 6,xA 55 2 4,xO 56 (.eqs false true [.s,.i] (.t 54) (.t 55))] 56 [xI 2 7])) [ycc 57 .add 47,xM 47 57]
def c_232_k1:ACode:=xR [ycc 58 .add 25,xM 25 58]
def c_232_l2:ACode:=ybi [xB 26 .lss 25 24] 26 1 (yaj 2 (.seq (xQ [xM 27 25,xX 28 2 23 25,xA 29 2 28,yax 4 [.str [],ybk],xM 3 27,xS 2 4 29] [4]) (ybl [yb6 30 4,xL 31 30,yb2 32 f_257 31,ybj 33 32] 33 [xI 2 6] (ybl [yce 34 4,xL 35 34,ycc 36 .lss 35,xM 37 36,yc0 38 37 4,ybr 39 37 38,ybm 40 37 .gtr 39 32,xW 41 37 40] 41 [xI 2 10] (yaa [yce 42 1,xL 43 42,xM 44 3,xO 45 (.slc 2 (.t 43) none (some (.t 44)) none),xN 46 45,ya9 47] (yam 3 c_232_l0))))) c_232_k1)
def c_232_k3:ACode:=ybl [xA 59 2 1,yb2 60 f_294 59,yb2 61 f_293 60,xK 62 .rem 61 8,yc5 63 .neq 62] 63 [xI 2 10] (ydl (ya9 2))
def c_232:AFn:=⟨1,[.tmp 2],ycp (ydi 1) (ya9 2) (ycy 0 [yb6 8 1,xL 9 8,yb2 10 f_257 9,ybj 11 10,xM 7 11] 7 [xI 2 6] (ybo [yce 13 1,xL 14 13,xN 15 14,yc5 16 .eql 15,xM 12 16] 12 [xI 2 8] (ya4 [yce 18 1,xL 19 18,xN 20 19,xK 21 .gtr 20 12,xM 17 21] 17 [xI 2 12])) (ybq [yce 22 1,xL 23 22,xN 24 23,ya9 25] 1 c_232_l2 c_232_k3))⟩
def c_233:AFn:=⟨2,[.tmp 4],ya0 [yc6] (xD [ycb 5,yca 6,xO 7 (.slc 1 (.t 5) none (some (.t 6)) none),ycb 8,yca 9,xX 10 1 8 9,xL 11 10,ybf 12 f_295 7 11,ydn 12]) .ret⟩
def c_234_l0:ACode:=yc7 [xB 11 .lss 10 9] 11 0 1 [xX 12 2 8 10,xA 13 2 12,yax 7 [.str [],ybk],xS 2 7 13] [7] (xR [yb9 14,yca 15,xA 16 2 7,xO 17 (ydf 15 [.t 16]),xO 18 (.bslice .imm 1 (List.replicate 1 [.str []]) [(0,(.t 17))]),ycx 19 1 16 14 18,ydk 19]) [ycc 20 .add 10,xM 10 20]
def c_234_k1:ACode:=ycn (yb9 21) 4 21
def c_234:AFn:=⟨2,[.tmp 4],ydb [xC 4 (.fslice 1 [])] [yco 5 1] [ycb 8,xN 9 8,ya9 10] 0 c_234_l0 c_234_k1⟩
def c_235:AFn:=⟨1,[.tmp 2],yb0 [ydi 1,xC 2 (.str [])] [yb6 3 1,xL 4 3,xM 2 4]⟩
def c_236:AFn:=⟨1,[.tmp 2],yb0 [ybg 2] [ycb 3,ycc 4 .lss 3,ydk 4,ya2 6 5 0,ybm 7 5 .gtr 6 32,xW 8 5 7,xM 2 8]⟩
def c_237_l0:ACode:=yc7 [xB 11 .lss 10 9] 11 0 1 [xX 12 3 8 10,xA 13 3 12,yax 7 [.str [],ybk,ybk],xS 3 7 13] [7] (xR [yb9 14,yca 15,xA 16 3 7,xO 17 (ydf 15 [.t 16]),xO 18 (.bslice .imm 1 (List.replicate 1 [.str []]) [(0,(.t 17))]),ycx 19 1 16 14 18,ydk 19]) [ycc 20 .add 10,xM 10 20]
def c_237_k1:ACode:=ycn (yb9 21) 4 21
def c_237:AFn:=⟨2,[.tmp 4],ydb [xC 4 (.fslice 1 [])] [yco 5 1] [ycb 8,xN 9 8,ya9 10] 0 c_237_l0 c_237_k1⟩
def c_238:AFn:=⟨1,[.tmp 2],yb0 [ydi 1,xC 2 (.str [])] [yb6 3 1,xL 4 3,xM 2 4]⟩
def c_239:AFn:=⟨1,[.tmp 2],ycp (ydi 1) (ya9 2) (ycy 0 [yb6 4 1,xL 5 4,yb2 6 f_257 5,ybj 7 6,xM 3 7] 3 [xI 2 6] (ybo [yce 9 1,xL 10 9,yb2 11 f_152 10,xO 12 (yar .eql 11 (.c (ycw 0))),xM 8 12] 8 [xI 2 10] (ya4 [xA 14 3 1,yb2 15 f_160 14,ybj 16 15,xM 13 16] 13 [xI 2 9])) (ydl (ya9 2)))⟩
def c_240_l0:ACode:=yc7 [xB 11 .lss 10 9] 11 0 1 [xX 12 3 8 10,xA 13 3 12,yax 7 [.str [],.fslice 2 [],.fslice 7 []],xS 3 7 13] [7] (xR [yb9 14,yca 15,xA 16 3 7,xO 17 (ydf 15 [.t 16]),xO 18 (.bslice .imm 1 (List.replicate 1 [.str []]) [(0,(.t 17))]),ycx 19 1 16 14 18,ydk 19]) [ycc 20 .add 10,xM 10 20]
def c_240_k1:ACode:=ycn (yb9 21) 4 21
def c_240:AFn:=⟨2,[.tmp 4],ydb [xC 4 (.fslice 1 [])] [yco 5 1] [ycb 8,xN 9 8,ya9 10] 0 c_240_l0 c_240_k1⟩
def c_241:AFn:=⟨1,[.tmp 2],yb0 [ydi 1,xC 2 (.str [])] [yb6 3 1,xL 4 3,xM 2 4]⟩
def c_242_l0:ACode:=yc7 [xB 38 .lss 37 36] 38 0 1 [xM 39 37,xX 40 7 35 37,xA 41 7 40,yax 9 [ybk,ybk,ybk,ybk,ybk,.fslice 3 [],.fslice 3 []],xM 8 39,xS 7 9 41] [9] (yaa [xA 42 10 7,xA 43 7 9,ybf 44 f_297 42 43,ydk 44] (ya4 [yb9 45,yc5 46 .neq 45] 46 [xM 47 8,yb9 48,ydn 47,ydk 48])) [ycc 49 .add 37,xM 37 49]
def c_242_k1:ACode:=yb5 yby ycv
def c_242:AFn:=⟨2,[.tmp 4,.tmp 5],ya3 [ydi 2,yby,ycv] [yca 10,yc5 11 .lss 10,xM 12 11,ya2 13 12 1,yaw 14 12 4 2,ybr 15 12 14,ybc 16 12 15,ybz 17 12 .geq 13 16,xW 18 12 17] 18 [yb4 4,xI 5 8] (.seq (xQ [xF 19 4 2,xL 20 19,yca 21,xX 22 3 20 21,xA 23 3 22,yax 6 [.str [],.fslice 2 [],.fslice 7 []],xS 3 6 23] [6]) (yad [xA 24 3 6,yb2 25 f_296 24,ydk 25] (ya4 [yb9 26,yc5 27 .neq 26] 27 [yb9 28,yb4 4,ydk 28]) (.seq (xQ [xA 29 9 2,yce 30 6,xL 31 30,xO 32 (.build [.str [],.fslice 2 [],.fslice 2 [],.fslice 3 [],.fslice 3 [],.fslice 6 [],.fslice 7 [],.fslice 5 [],.fslice 1 [],.fslice 2 []] [(0,9,(.t 29)),(9,1,(.t 31))]),xO 33 (.build [.str [],.fslice 2 [],.fslice 2 [],.fslice 3 [],.fslice 3 [],.fslice 6 [],.fslice 7 [],.fslice 5 [],.fslice 1 [],.fslice 2 []] [(0,10,(.t 32))]),yax 7 [.str [],.fslice 2 [],.fslice 2 [],.fslice 3 [],.fslice 3 [],.fslice 6 [],.fslice 7 [],.fslice 5 [],.fslice 1 [],.fslice 2 []],xS 10 7 33] [7]) (ybq [xF 34 2 6,xL 35 34,xN 36 35,ya9 37] 0 c_242_l0 c_242_k1))))⟩
def c_243_l0:ACode:=yc7 [xB 11 .lss 10 9] 11 0 1 [xX 12 6 8 10,xA 13 6 12,yax 7 [.str [],.fslice 3 [],.fslice 1 [],ybk,.fslice 1 [],ybk],xS 6 7 13] [7] (xR [yb9 14,yca 15,xA 16 6 7,xO 17 (ydf 15 [.t 16]),xO 18 (.bslice .imm 1 (List.replicate 1 [.str []]) [(0,(.t 17))]),ycx 19 1 16 14 18,ydk 19]) [ycc 20 .add 10,xM 10 20]
def c_243_k1:ACode:=ycn (yb9 21) 4 21
def c_243:AFn:=⟨2,[.tmp 4],ydb [xC 4 (.fslice 1 [])] [yco 5 1] [ycb 8,xN 9 8,ya9 10] 0 c_243_l0 c_243_k1⟩
def c_244:AFn:=⟨1,[.tmp 2],yb0 [ydi 1,xC 2 (.str [])] [yb6 3 1,xL 4 3,xM 2 4]⟩
def c_245_l0:ACode:=yc7 [xB 25 .lss 24 23] 25 1 2 [xM 26 24,xX 27 7 22 24,xA 28 7 27,yax 7 [.str [],.fslice 1 [],yap,ybk,ybk,.fslice 3 [],ybk],xM 6 26,xS 7 7 28] [7] (ycy 3 [yb6 30 7,xL 31 30,yb2 32 f_257 31,ybj 33 32,xM 29 33] 29 [xM 34 6,xM 2 34,yb4 3,xI 4 6] (ya4 [yb9 36,yb6 37 7,xL 38 37,xO 39 (.lookup .s (.bool false) false (.t 36) (.t 38)),xM 35 39] 35 [xM 40 6,xM 2 40,yb4 3,xI 4 7]) (ybs [yb9 41,yb6 42 7,xL 43 42,⟨none,none,.update .s (.t 41) (.t 43) (.c (.bool true))⟩] [xA 45 9 1,xM 46 6,ybf 47 f_298 45 46,xM 44 47,xE 48 0 44,xE 49 1 44,xM 8 48,xM 9 49] (ya4 [xM 50 9,yc5 51 .neq 50] 51 [xM 52 6,xM 53 8,xM 54 9,xM 2 52,xM 3 53,ydn 54]))) [ycc 55 .add 24,xM 24 55]
def c_245_k1:ACode:=yae [ya9 2,ya9 3,yby]
def c_245:AFn:=⟨1,[.tmp 2,.tmp 3,.tmp 4],yaa [ydi 1,ya9 2,ya9 3,yby] (ycy 0 [xF 11 6 1,xL 12 11,xN 13 12,yc5 14 .eql 13,xM 10 14] 10 [yb4 2,yb4 3,xI 4 8] (ya4 [xF 16 6 1,xL 17 16,xN 18 17,xK 19 .gtr 18 12,xM 15 19] 15 [yb4 2,yb4 3,xI 4 12]) (ybh [xO 20 .mkmap,ydk 20] [xF 21 6 1,xL 22 21,xN 23 22,ya9 24] 1 c_245_l0 c_245_k1))⟩
def c_246:AFn:=⟨1,[.tmp 2,.cell 3 false 1],ya3 [ydi 1,ya9 2,yax 3 [ybk]] [xF 6 7 1,xL 7 6,yb2 8 f_299 7,xK 9 .gtr 8 24] 9 [yb4 2,⟨none,none,.store 1 (.t 3) (.c (.int .i64 12))⟩] (ybl [xF 10 7 1,xL 11 10,yb2 12 f_300 11,xK 13 .gtr 12 6] 13 [yb4 2,⟨none,none,.store 1 (.t 3) (.c (.int .i64 14))⟩] (ybs [yax 4 [ybk],⟨none,none,.store 1 (.t 4) (.c (.int .i64 0))⟩] [yax 5 [.fslice 1 []]] (yan [xF 14 7 1,xL 15 14,xO 16 (.mkfunc (.func f_302) [] [.t 1,.t 5,.t 3,.t 4]),ycl 17 f_301 [.t 15,.t 16]] [xL 18 3,yc5 19 .neq 18] (ybu 19 (ycd [xL 20 4,xL 21 3,xM 2 20,xS 1 3 21] .ret)) (yb5 (ya9 2) ⟨none,none,.store 1 (.t 3) (.c (.int .i64 0))⟩))))⟩
def c_247_l0:ACode:=yc9 [xB 14 .lss 13 12] 14 0 1 (yaa [xM 15 13,xX 16 1 11 13,xL 17 16,ydn 15,ydk 17] (.block 2 (ybo [yb9 19,yc5 20 .lss 19,xM 21 20,ya2 22 21 5,yc0 23 21 1,ybr 24 21 23,ybc 25 21 24,ybz 26 21 .geq 22 25,xW 27 21 26,xM 18 27] 18 [xM 28 4,xM 2 28,xI 3 8] (ya4 [xF 30 8 1,xL 31 30,xM 32 4,xO 33 (.slc 1 (.t 31) none (some (.t 32)) none),yb9 34,ybf 35 f_305 33 34,xM 29 35] 29 [xM 36 4,xM 2 36,xI 3 7])))) [ycc 37 .add 13,xM 13 37]
def c_247_k1:ACode:=yb5 (ya9 2) (ya9 3)
def c_247:AFn:=⟨1,[.tmp 2,.tmp 3],yde [ydi 1,ya9 2,ya9 3] [xF 6 8 1,xL 7 6,xN 8 7,xK 9 .gtr 8 8] 9 [yb4 2,xI 3 12] [xF 10 8 1,xL 11 10,xN 12 11,ya9 13] 0 c_247_l0 c_247_k1⟩
def c_248_l0:ACode:=yc9 [xB 8 .lss 7 6] 8 0 1 (yaa [xX 9 1 5 7,xL 10 9,ydn 10] (ya4 [xM 11 4,ycc 12 .lss 11,xM 13 12,ya2 14 13 4,ybm 15 13 .gtr 14 32,xW 16 13 15] 16 [ybg 2])) [ycc 17 .add 7,xM 7 17]
def c_248_k1:ACode:=ydl (xC 2 ybx)
def c_248:AFn:=⟨1,[.tmp 2],ybh [ybg 2] [ycb 5,xN 6 5,ya9 7] 0 c_248_l0 c_248_k1⟩
def c_249_l0:ACode:=ycu [xM 11 6,xF 12 5 2,xL 13 12,yca 14,xX 15 6 13 14,yce 16 15,xL 17 16,xN 18 17,xB 19 .lss 11 18] 19 0 1 (xD [yb9 22,xA 23 9 2,xF 24 5 2,xL 25 24,yca 26,xX 27 6 25 26,yce 28 27,xL 29 28,xM 30 6,xX 31 3 29 30,yb6 32 31,xA 33 2 32,ybf 34 f_306 23 33,xO 35 (.bslice .imm 1 (List.replicate 1 [.int .i64 0]) [(0,(.t 34))]),ycx 36 1 8 22 35,ydk 36]) [xM 20 6,ycc 21 .add 20,xM 6 21]
def c_249_k1:ACode:=ycn (yb9 37) 4 37
def c_249:AFn:=⟨2,[.tmp 4],ya3 [ydi 2,xC 4 (.fslice 1 [])] [xA 7 9 2,yca 8,ybf 9 f_252 7 8,ybj 10 9] 10 [xC 4 (.fslice 1 [])] (ybh [yco 5 1] [ydc] 0 c_249_l0 c_249_k1)⟩
def c_250:AFn:=⟨3,[.tmp 6],ybs [ydi 3,ydc] [yce 10 3,xL 11 10,yca 12,ybf 13 f_307 11 12,xM 9 13,xE 14 0 9,xE 15 1 9,xM 7 14,xM 8 15] (ycy 0 [yb6 17 3,xL 18 17,yca 19,ybf 20 f_254 18 19,ybj 21 20,xM 22 21,yc0 23 22 3,ybr 24 22 23,ya2 25 22 1,yct 26 22 f_254 [.t 24,.t 25],ydj 27 22 26,xW 28 22 27,xM 16 28] 16 [xI 6 9] (ybo [yb6 30 3,xL 31 30,yce 32 3,xL 33 32,xB 34 .and 31 33,yb6 35 3,xL 36 35,xB 37 .neq 34 36,xM 29 37] 29 [xI 6 5] (ycd [xM 39 2,ycc 40 .eql 39,xM 41 40,ybw 42 41 1 3,yb7 43 41 1 42,ybn 44 41 1,ycm 45 41 f_308 [.t 44],ybt 46 41 .neq 43 (.t 45),xV 47 41 46,xM 48 47,ya2 49 48 2,ybm 50 48 .eql 49 2,ya2 51 48 50,ybn 52 51 8,yas 53 51 (ya7 52),yac 54 48 (.pick (.t 51) (.t 53) (.c yap)),xW 55 48 54,xM 38 55] (yai 38 [xI 6 11]))) (ydl ydc))⟩
def c_251_l0:ACode:=ycu [xM 11 6,xF 12 5 2,xL 13 12,yca 14,xX 15 6 13 14,yce 16 15,xL 17 16,xN 18 17,xB 19 .lss 11 18] 19 0 1 (xR [yb9 22,xF 23 5 2,xL 24 23,yca 25,xX 26 6 24 25,yce 27 26,xL 28 27,xM 29 6,xX 30 3 28 29,xF 31 2 30,xL 32 31,xO 33 (.minmax true [.t 22,.t 32]),ydk 33]) [xM 20 6,ycc 21 .add 20,xM 6 21]
def c_251_k1:ACode:=ycn (yb9 34) 4 34
def c_251:AFn:=⟨2,[.tmp 4],ya3 [ydi 2,yby] [xA 7 9 2,yca 8,ybf 9 f_252 7 8,ybj 10 9] 10 [yby] (ybh [xI 5 1] [ydc] 0 c_251_l0 c_251_k1)⟩
def c_252:AFn:=⟨2,[.tmp 4],ybs [ydi 2,yc6] [xA 8 9 2,yca 9,ybf 10 f_200 8 9,xM 7 10,xE 11 0 7,xE 12 1 7,ydk 11,xM 6 12] (yae [xM 13 6,yc5 14 .eql 13,ydn 14])⟩
def c_253_l0:ACode:=ycu [yb9 6,ycb 7,xN 8 7,xB 9 .lss 6 8] 9 0 1 (ya4 [ycb 12,yb9 13,xX 14 1 12 13,xL 15 14,yca 16,xB 17 .eql 15 16] 17 [yb9 18,ydn 18]) [yb9 10,ycc 11 .add 10,ydk 11]
def c_253_k1:ACode:=ydl (yb4 4)
def c_253:AFn:=⟨2,[.tmp 4],ybh [yby] [ycv] 0 c_253_l0 c_253_k1⟩
def c_254:AFn:=⟨2,[.tmp 4],yb0 [yc6] [yca 5,yb2 6 f_309 5,xM 7 6,ybn 8 7 0,yas 9 7 (.conv .u64 (.t 8)),ybn 10 7 1,ycm 11 7 f_310 [.t 10],ybt 12 7 .lss 9 (.t 11),xV 13 7 12,ydn 13]⟩
def c_257:AFn:=⟨1,[.tmp 2],ya3 [ybg 2] [ycb 3,xO 4 (.slen (.t 3)),yc5 5 .eql 4,yb9 6,ya2 7 6 0,yac 8 6 (.slen (.t 7)),ybm 9 6 .gtr 8 16,xW 10 6 9,xM 11 10,ya2 12 11 0,yac 13 11 (.idxs (.t 12) (yao 0)),yct 14 11 f_313 [.t 13],ydj 15 11 14,xW 16 11 15] 16 [ybg 2] (yae [ycb 17,ybe 18 f_314 17 (.c (.func (.func f_315) [] [])),ycb 19,xO 20 (.slen (.t 19)),xB 21 .eql 18 20,xM 2 21])⟩
def c_258_l0:ACode:=yc7 [xB 15 .lss 14 13] 15 0 1 [xM 16 14,xX 17 3 12 14,xA 18 3 17,yax 9 [ybk,ybk,ybk],xM 8 16,xS 3 9 18] [9] (ya3 [xA 19 9 2,yb6 20 9,xA 21 2 20,ybf 22 f_261 19 21,xM 10 22] [xM 23 10,yc5 24 .eql 23] 24 [xM 25 8,ydn 25,xI 5 8] (yad [xF 26 2 9,xL 27 26] (.block 2 (ycq (xK 30 .eql 27 2) 29 30 (yab 29 (xR [xM 31 6,ycc 32 .add 31,xM 6 32]) (yad [ycc 34 .eql 27,xM 33 34] (ydg 33 (xR [xK 35 .eql 27 3,xM 33 35])) (ydg 33 (yae [xM 28 8,ydn 28,xI 5 11])))))) (xR [xM 36 7,xM 37 10,xB 38 .add 36 37,xM 7 38]))) [ycc 39 .add 14,xM 14 39]
def c_258_k1:ACode:=ybl [xM 40 6,ycc 41 .gtr 40] 41 [xI 4 (-2),xI 5 7] (ybl [xM 42 7,xK 43 .gtr 42 64] 43 [xI 4 (-2),xI 5 10] (yb5 yby ycv))
def c_258:AFn:=⟨2,[.tmp 4,.tmp 5],ydb [ydi 2,xJ 3 1,yby,ycv] [ydc,ya9 7] [yce 11 3,xL 12 11,xN 13 12,ya9 14] 0 c_258_l0 c_258_k1⟩
def c_259_l0:ACode:=yc9 [xB 13 .lss 12 11] 13 0 1 (ya3 [xX 14 1 10 12,xL 15 14,xM 7 15] [xM 16 7,yc5 17 .lss 16,xM 18 17,ya2 19 18 7,yaw 20 18 4 2,ybr 21 18 20,ybc 22 18 21,ybz 23 18 .geq 19 22,xW 24 18 23] 24 [xI 4 8] (ybl [yb9 25,xM 26 7,xO 27 (.lookup .i (.bool false) false (.t 25) (.t 26))] 27 [xI 4 7] (xR [yb9 28,xM 29 7,⟨none,none,.update .i (.t 28) (.t 29) (.c (.bool true))⟩]))) [ycc 30 .add 12,xM 12 30]
def c_259_k1:ACode:=ybl [yb9 31,xF 32 3 3,yb6 33 32,xL 34 33,xO 35 (.lookup .i (.bool false) false (.t 31) (.t 34)),ybj 36 35] 36 [xI 4 8] (yae [xA 37 9 2,xF 38 3 3,xA 39 2 38,ybf 40 f_180 37 39,ydn 40])
def c_259:AFn:=⟨2,[.tmp 4],ydb [ydi 2,xJ 3 1,yby] [xO 8 .mkmap,ydk 8] [xF 9 2 3,xL 10 9,xN 11 10,ya9 12] 0 c_259_l0 c_259_k1⟩
def c_260:AFn:=⟨2,[.tmp 4],ybs [ydi 2,yc6] [xA 8 9 2,yca 9,ybf 10 f_175 8 9,xM 7 10,xE 11 0 7,xE 12 1 7,ydk 11,xM 6 12] (yae [xM 13 6,yc5 14 .eql 13,ydn 14])⟩
def c_261:AFn:=⟨2,[.tmp 4],ya0 [ydi 2,xJ 3 1,yby] (xD [xA 6 9 2,yb6 7 3,xL 8 7,ybf 9 f_318 6 8,yce 10 3,xL 11 10,ybf 12 f_317 9 11,xO 13 (.fld false 1 1 (.t 12)),ydk 13]) (ybl [yb9 14,yb2 15 f_152 14,xO 16 (yar .eql 15 (.c (ycw 0)))] 16 [yby] (ycn (yb9 17) 4 17))⟩
def c_262:AFn:=⟨2,[.tmp 4],yb0 [yc6] [yca 5,xO 6 (.bslice .imm 1 (List.replicate 1 [.int .i64 0]) [(0,(.t 5))]),yb2 7 f_248 6,xM 8 7,ybn 9 8 0,ybn 10 8 1,ycm 11 8 f_152 [.t 10],ybt 12 8 .leq 9 (.t 11),xV 13 8 12,ydn 13]⟩
def c_263_l0:ACode:=yc9 [xB 14 .lss 13 12] 14 0 1 (ycq (xM 15 13) 6 15 (ya4 [xM 16 6,yca 17,ybf 18 f_319 16 17,ycb 19,xB 20 .eql 18 19] 20 [xM 21 6,ydn 21,xC 5 ybx])) [ycc 22 .add 13,xM 13 22]
def c_263_k1:ACode:=yb5 yby (ybg 5)
def c_263:AFn:=⟨2,[.tmp 4,.tmp 5],yde [yby,ybg 5] [yca 7,xO 8 (.bslice .imm 1 (List.replicate 1 [.int .i64 0]) [(0,(.t 7))]),yb2 9 f_248 8,ybj 10 9] 10 [yby,ybg 5] [yca 11,ycc 12 .add 11,ya9 13] 0 c_263_l0 c_263_k1⟩
def c_264_l0:ACode:=yc9 [xK 5 .lss 4 8] 5 0 1 (ycq (xM 6 4) 3 6 (xD [xL 7 1,ycb 8,xM 9 3,xO 10 (.bin .mul (yao 8) (.t 9)),xB 11 .shr 8 10,xO 12 (.conv .u8 (.t 11)),xO 13 (.bslice .imm 1 (List.replicate 1 [.int .u8 0]) [(0,(.t 12))]),ycx 14 1 1 7 13,xS 1 1 14])) [ycc 15 .add 4,ydn 15]
def c_264:AFn:=⟨2,[],yaa [yby] (yam 0 c_264_l0)⟩
def c_265_l0:ACode:=yc9 [xB 15 .lss 14 13] 15 0 1 (yaa [xM 16 14,xX 17 1 12 14,xL 18 17,ydk 16,xM 6 18] (ya4 [xM 19 6,yca 20,yb9 21,xX 22 1 20 21,xL 23 22,xB 24 .neq 19 23] 24 [yc6])) [ycc 25 .add 14,xM 14 25]
def c_265_k1:ACode:=ydl (xC 4 ybx)
def c_265:AFn:=⟨2,[.tmp 4],yde [yc6] [ycb 7,xN 8 7,yca 9,xN 10 9,xB 11 .neq 8 10] 11 [yc6] [ycb 12,xN 13 12,ya9 14] 0 c_265_l0 c_265_k1⟩
def c_267:AFn:=⟨1,[.tmp 2],yb0 [ybg 2] [ycb 3,xO 4 (yar .geq 3 (.c (.int .u8 97))),ydk 4,ybn 6 5 0,ybt 7 5 .leq 6 (.c (.int .u8 122)),xV 8 5 7,xM 9 8,ya2 10 9 0,yaz 11 9 .geq 10 (.c (.int .u8 65)),ya2 12 9 11,ybn 13 12 0,ybt 14 12 .leq 13 (.c (.int .u8 90)),yac 15 9 (.pick (.t 12) (.t 14) (.c yap)),xW 16 9 15,xM 2 16]⟩
def c_268:AFn:=⟨1,[.tmp 2],yb0 [ybg 2] [ycb 3,xO 4 (yar .geq 3 (.c (.int .u8 48))),ydk 4,ybn 6 5 0,ybt 7 5 .leq 6 (.c (.int .u8 57)),xV 8 5 7,xM 2 8]⟩
def c_269_l0:ACode:=ycu [xM 7 6,yce 8 2,xL 9 8,xN 10 9,xB 11 .lss 7 10] 11 0 1 (ya4 [yce 14 2,xL 15 14,xM 16 6,xX 17 2 15 16,yb6 18 17,xL 19 18,yca 20,xB 21 .eql 19 20] 21 [xM 22 6,ydn 22,xC 5 ybx]) [xM 12 6,ycc 13 .add 12,xM 6 13]
def c_269_k1:ACode:=yb5 yby (ybg 5)
def c_269:AFn:=⟨2,[.tmp 4,.tmp 5],ybh [ydi 2,yby,ybg 5] [ydc] 0 c_269_l0 c_269_k1⟩
def c_270_l0:ACode:=ydh [xM 34 4,xM 35 3,xB 36 .lss 34 35] 36 3 4 [ycb 39,xM 40 4,xX 41 2 39 40,yb6 42 41,xL 43 42,ycb 44,xM 45 3,xX 46 2 44 45,yb6 47 46,xL 48 47,xB 49 .eql 43 48] (yai 49 [xI 2 7]) [xM 37 4,ycc 38 .add 37,ydn 38]
def c_270_k1:ACode:=xR [xM 9 3,ycc 10 .add 9,xM 3 10]
def c_270_l2:ACode:=yba [ydk 3,ycb 6,xN 7 6,xB 8 .lss 5 7] 8 0 (yaj 1 (ycy 2 [ycb 12,xM 13 3,xX 14 2 12 13,yb6 15 14,xL 16 15,yb2 17 f_194 16,ybj 18 17,xM 11 18] 11 [xI 2 6] (ya4 [ycb 20,xM 21 3,xX 22 2 20 21,yce 23 22,xL 24 23,ycc 25 .lss 24,xM 26 25,ya2 27 26 0,ya2 28 26 3,ydm 29 26 2 27 28,yc0 30 26 29,ybr 31 26 30,ybm 32 26 .gtr 31 32,xW 33 26 32,xM 19 33] 19 [xI 2 10]) (yaa [yby] (yam 3 c_270_l0))) c_270_k1)
def c_270_k3:ACode:=ydl (ya9 2)
def c_270:AFn:=⟨1,[.tmp 2],ybh [ya9 2] [ya9 3] 0 c_270_l2 c_270_k3⟩
def c_271:AFn:=⟨3,[.tmp 6],ybs [ydi 3,xJ 4 1,xJ 5 2,ydc] [xA 15 9 3,yce 16 4,xA 17 2 16,ybf 18 f_320 15 17,xM 14 18,xE 19 0 14,xE 20 1 14,xM 7 19,xM 8 20] (yan [xF 21 3 4,xL 22 21,yc5 23 .geq 22,xM 24 23,ybw 25 24 3 4,yb7 26 24 1 25,ybw 27 24 3 3,yb7 28 24 1 27,yas 29 24 (ya5 28),ybt 30 24 .lss 26 (.t 29),xV 31 24 30,xM 9 31] [yb6 32 4,xL 33 32] (.block 0 (ycq (ycc 35 .eql 33) 34 35 (yab 34 (ybl [xM 36 8,ybj 37 36] 37 [xI 6 8] (yae [xF 38 6 4,xL 39 38,xA 40 10 5,xM 41 7,yc4 42 f_321 39 40 41,xM 6 42])) (yad [xK 44 .eql 33 2,xM 43 44] (ydg 43 (xR [xK 45 .eql 33 3,xM 43 45])) (yab 43 (ybl [xF 46 4 4,xL 47 46,yc5 48 .lss 47,xM 49 48,yaw 50 49 4 4,ybr 51 49 50,yc0 52 49 3,ybr 53 49 52,ybc 54 49 53,ybz 55 49 .geq 51 54,xW 56 49 55] 56 [xI 6 8] (ydl ydc)) (ycq (xK 58 .eql 33 4) 57 58 (yab 57 (ybl [xM 59 8,ybj 60 59,xM 61 60,ya2 62 61 9,ydj 63 61 62,xW 64 61 63] 64 [xI 6 8] (ya3 [xF 66 5 4,xL 67 66,xA 68 10 5,ybf 69 f_322 67 68,xM 65 69,xE 70 0 65,xE 71 1 65,xM 10 70,xM 11 71] [xM 72 11,yc5 73 .eql 72,xM 74 73,ybn 75 74 7,ybw 76 74 3 3,yb7 77 74 1 76,ybw 78 74 3 4,yb7 79 74 1 78,yas 80 74 (ycz 3 77 79),ybw 81 74 1 80,yb7 82 74 1 81,ybt 83 74 .neq 75 (.t 82),xV 84 74 83] 84 [xI 6 10] (ycn (xM 85 11) 6 85))) (ycq (xK 87 .eql 33 5) 86 87 (ybu 86 (ybl [xM 88 9,ybj 89 88] 89 [xI 6 8] (ya3 [xF 91 5 4,xL 92 91,xA 93 10 5,ybf 94 f_322 92 93,xM 90 94,xE 95 0 90,xE 96 1 90,xM 12 95,xM 13 96] [xM 97 13,yc5 98 .neq 97] 98 [xM 99 13,xM 6 99] (ycd [xF 100 6 4,xL 101 100,xA 102 10 5,xF 103 3 3,xL 104 103,xF 105 3 4,xL 106 105,xX 107 3 104 106,yce 108 107,xL 109 108,yc4 110 f_321 101 102 109,xM 6 110] .ret)))))))))))) (ydl (xI 6 11)))⟩
def c_272:AFn:=⟨2,[.cell 4 true 10],ya0 [ydi 2,yax 4 [.str [],.fslice 2 [],.fslice 2 [],.fslice 3 [],.fslice 3 [],.fslice 6 [],.fslice 7 [],.fslice 5 [],.fslice 1 [],.fslice 2 []]] (xD [xA 5 9 2,xF 6 4 2,xL 7 6,yca 8,xX 9 3 7 8,yce 10 9,xL 11 10,xO 12 (.build [.str [],.fslice 2 [],.fslice 2 [],.fslice 3 [],.fslice 3 [],.fslice 6 [],.fslice 7 [],.fslice 5 [],.fslice 1 [],.fslice 2 []] [(0,9,(.t 5)),(9,1,(.t 11))]),xS 10 4 12]) .ret⟩
def c_273_l0:ACode:=ydh [xM 11 8,yce 12 3,xL 13 12,xN 14 13,xB 15 .lss 11 14] 15 0 1 [xA 18 9 2,yce 19 3,xL 20 19,xM 21 8,xX 22 3 20 21,yb6 23 22,xA 24 2 23,ybf 25 f_306 18 24,xM 9 25] (yaa [yce 26 3,xL 27 26,xM 28 8,xX 29 3 27 28,xF 30 2 29,xL 31 30,xM 10 31] (ya1 2 (ybo [xM 33 9,yc5 34 .eql 33,xM 32 34] 32 [xM 35 8,ydn 35,xI 5 8] (ybo [xM 37 10,ycc 38 .neq 37,xM 39 38,ybn 40 39 10,ydd 41 39 .neq 40 2,xV 42 39 41,xM 43 42,ybn 44 43 10,ydd 45 43 .neq 44 3,xV 46 43 45,xM 36 46] 36 [xM 47 8,ydn 47,xI 5 11] (yaa [xM 49 10,xK 50 .eql 49 2,xM 48 50] (ybu 48 (xR [xM 51 7,ycc 52 .add 51,xM 7 52]))))) [xM 53 6,xM 54 9,xB 55 .add 53 54,xM 6 55])) [xM 16 8,ycc 17 .add 16,xM 8 17]
def c_273_k1:ACode:=ycy 3 [xM 57 7,ycc 58 .gtr 57,xM 56 58] 56 [xI 4 (-2),xI 5 7] (ya4 [xM 60 6,xK 61 .gtr 60 64,xM 59 61] 59 [xI 4 (-2),xI 5 10]) (yb5 yby ycv)
def c_273:AFn:=⟨2,[.tmp 4,.tmp 5],ybs [ydi 2,xJ 3 1,yby,ycv] [ydc] (ybh [ya9 7] [ya9 8] 0 c_273_l0 c_273_k1)⟩
def c_274_l0:ACode:=ycu [yb9 6,xF 7 2 3,xL 8 7,xN 9 8,xB 10 .lss 6 9] 10 0 1 (.block 2 (ycd [xF 14 2 3,xL 15 14,yb9 16,xX 17 1 15 16,xL 18 17,yc5 19 .lss 18,xM 20 19,yaw 21 20 2 3,ybr 22 20 21,ya2 23 20 5,ydm 24 20 1 22 23,ybr 25 20 24,yaw 26 20 4 2,ybr 27 20 26,ybc 28 20 27,ybz 29 20 .geq 25 28,xW 30 20 29,xM 13 30] (yah 13 [xI 4 8] (ycd [xF 32 2 3,xL 33 32,xF 34 2 3,xL 35 34,yb9 36,xX 37 1 35 36,xL 38 37,ybf 39 f_253 33 38,yb9 40,xB 41 .lss 39 40,xM 31 41] (yai 31 [xI 4 7]))))) [yb9 11,ycc 12 .add 11,ydk 12]
def c_274_k1:ACode:=ybl [xF 42 2 3,xL 43 42,xF 44 3 3,yb6 45 44,xL 46 45,ybf 47 f_253 43 46,yc5 48 .lss 47] 48 [xI 4 8] (yae [xA 49 9 2,xF 50 3 3,xA 51 2 50,ybf 52 f_156 49 51,ydn 52])
def c_274:AFn:=⟨2,[.tmp 4],ybh [ydi 2,xJ 3 1,yby] [ycv] 0 c_274_l0 c_274_k1⟩
def c_275_l0:ACode:=ydh [xM 20 7,yca 21,xB 22 .lss 20 21] 22 0 1 [xF 25 6 2,xL 26 25,xM 27 7,xX 28 7 26 27,yb6 29 28,xL 30 29,yb6 31 6,xL 32 31,xB 33 .eql 30 32] (yai 33 [yb4 4,xI 5 7]) [xM 23 7,ycc 24 .add 23,xM 7 24]
def c_275_l1:ACode:=ydh [xM 44 8,yce 45 6,xL 46 45,xN 47 46,xB 48 .lss 44 47] 48 2 3 [yce 51 6,xL 52 51,xM 53 8,xX 54 1 52 53,xL 55 54,yc5 56 .lss 55,xM 57 56,yc0 58 57 6,ybr 59 57 58,ya2 60 57 8,ydm 61 57 1 59 60,ybr 62 57 61,yc0 63 57 2,ybr 64 57 63,ybc 65 57 64,ybz 66 57 .geq 62 65,xW 67 57 66] (yai 67 [yb4 4,xI 5 8]) [xM 49 8,ycc 50 .add 49,xM 8 50]
def c_275_k2:ACode:=ybl [xF 68 2 6,xL 69 68,xM 70 69,yas 71 70 (yda 9 (.t 2)),ybw 72 70 3 6,yas 73 70 (yda 2 (.t 72)),ycm 74 70 f_323 [.t 71,.t 73],ydd 75 70 .eql 74 0,xV 76 70 75] 76 [yb4 4,xI 5 8] (ybl [xF 77 2 6,xL 78 77,ybj 79 78,xM 80 79,ybw 81 80 5 6,yb7 82 80 1 81,yas 83 80 (ya5 82),ydd 84 80 .gtr 83 0,xV 85 80 84] 85 [yb4 4,xI 5 11] (ya3 [xA 87 9 2,yca 88,ybf 89 f_324 87 88,xM 86 89,xE 90 0 86,xE 91 1 86,xM 9 90,xM 10 91] [xM 92 10,yc5 93 .neq 92] 93 [xM 94 9,xM 95 10,ydn 94,ydk 95] (ybl [xA 96 9 2,yca 97,xF 98 6 6,xL 99 98,yc4 100 f_325 96 97 99,ybj 101 100] 101 [yb4 4,xI 5 14] (yb5 yby ycv))))
def c_275_k3:ACode:=ybl [yce 34 6,xL 35 34,xN 36 35,xK 37 .gtr 36 4,xM 38 37,yaw 39 38 5 6,ybr 40 38 39,ybc 41 38 40,ybm 42 38 .gtr 41 8,xW 43 38 42] 43 [yb4 4,xI 5 12] (ybq [ya9 8] 2 c_275_l1 c_275_k2)
def c_275:AFn:=⟨2,[.tmp 4,.tmp 5],ya0 [ydi 2,yby,ycv] (xQ [xF 11 6 2,xL 12 11,yca 13,xX 14 7 12 13,xA 15 7 14,yax 6 [.str [],.fslice 1 [],yap,ybk,ybk,.fslice 3 [],ybk],xS 7 6 15] [6]) (ybl [yb6 16 6,xL 17 16,yb2 18 f_194 17,ybj 19 18] 19 [yb4 4,xI 5 6] (ybq [ya9 7] 0 c_275_l0 c_275_k3))⟩
def c_276_l0:ACode:=ycu [ydk 4,ycb 6,xN 7 6,xB 8 .lss 5 7] 8 0 1 (xD [xM 11 3,ycb 12,xM 13 4,xX 14 5 12 13,xF 15 3 14,xL 16 15,yb2 17 f_276 16,xO 18 (.bin .add (yao 1) (.t 17)),ycb 19,xM 20 4,xX 21 5 19 20,xF 22 4 21,xL 23 22,yb2 24 f_276 23,xB 25 .add 18 24,xB 26 .add 11 25,xM 3 26]) [xM 9 4,ycc 10 .add 9,ydn 10]
def c_276_k1:ACode:=ycn (xM 27 3) 2 27
def c_276:AFn:=⟨1,[.tmp 2],ydb [ya9 2] [ya9 3] [yby] 0 c_276_l0 c_276_k1⟩
def c_277_l0:ACode:=ycu [ydk 4,ycb 6,xN 7 6,xB 8 .lss 5 7] 8 0 1 (xD [xM 11 3,ycb 12,xM 13 4,xX 14 5 12 13,xF 15 3 14,xL 16 15,yb2 17 f_277 16,xO 18 (.bin .add (yao 1) (.t 17)),ycb 19,xM 20 4,xX 21 5 19 20,xF 22 4 21,xL 23 22,yb2 24 f_277 23,xO 25 (.bin .add (yao 1) (.t 24)),xO 26 (.minmax true [.t 11,.t 18,.t 25]),xM 3 26]) [xM 9 4,ycc 10 .add 9,ydn 10]
def c_277_k1:ACode:=ycn (xM 27 3) 2 27
def c_277:AFn:=⟨1,[.tmp 2],ydb [ya9 2] [ya9 3] [yby] 0 c_277_l0 c_277_k1⟩
def c_278_l0:ACode:=ycu [ydk 4,ycb 6,xN 7 6,xB 8 .lss 5 7] 8 0 1 (ybs [xM 11 3,ycb 12,xM 13 4,xX 14 5 12 13,xA 15 5 14,xO 16 (.bslice .imm 5 (List.replicate 1 [.int .i64 0,.int .i64 0,.fslice 3 [],.fslice 5 [],.fslice 5 []]) [(0,(.t 15))]),ycx 17 5 88 11 16,xM 3 17] [xM 18 3,ycb 19,xM 20 4,xX 21 5 19 20,xF 22 3 21,xL 23 22,yb2 24 f_278 23,ycx 25 5 88 18 24,xM 3 25] (xR [xM 26 3,ycb 27,xM 28 4,xX 29 5 27 28,xF 30 4 29,xL 31 30,yb2 32 f_278 31,ycx 33 5 88 26 32,xM 3 33])) [xM 9 4,ycc 10 .add 9,ydn 10]
def c_278_k1:ACode:=ycn (xM 34 3) 2 34
def c_278:AFn:=⟨1,[.tmp 2],ydb [xC 2 (.fslice 5 [])] [yco 3 5] [yby] 0 c_278_l0 c_278_k1⟩
def c_279:AFn:=⟨3,[.tmp 6],ya0 [ydi 3,ydc] (xQ [yca 10,xM 11 2,xX 12 5 10 11,xA 13 5 12,yax 7 [ybk,ybk,.fslice 3 [],.fslice 5 [],.fslice 5 []],xS 5 7 13] [7]) (ycy 0 [yb6 15 7,xL 16 15,ycc 17 .lss 16,xM 18 17,yaw 19 18 0 7,ybr 20 18 19,ybm 21 18 .gtr 20 3,xW 22 18 21,xM 14 22] 14 [xI 6 11] (yaa [yb6 24 7,xL 25 24,xK 26 .eql 25 2,xM 23 26] (yab 23 (yan [xF 28 2 7,xL 29 28,xA 30 9 3,xO 31 (.build [.str [],.fslice 2 [],.fslice 2 [],.fslice 3 [],.fslice 3 [],.fslice 6 [],.fslice 7 [],.fslice 5 [],.fslice 1 [],.fslice 2 []] [(0,9,(.t 30))]),ybf 32 f_322 29 31,xM 27 32,xE 33 0 27,xE 34 1 27,xM 8 33,xM 9 34] [xM 35 9,yc5 36 .eql 35,xM 37 36,ybn 38 37 8,ydd 39 37 .neq 38 1,xV 40 37 39] (ybu 40 (xR [xI 9 10])) (ycn (xM 41 9) 6 41)) (ybo [yce 43 7,xL 44 43,yc5 45 .lss 44,xM 46 45,yc0 47 46 7,ybr 48 46 47,yaw 49 46 5 3,ybr 50 46 49,ybc 51 46 50,ybz 52 46 .geq 48 51,xW 53 46 52,xM 42 53] 42 [xI 6 8] (ybo [yca 55,xM 56 2,ybf 57 f_326 55 56,xM 54 57] 54 [xI 6 7] (ya4 [yb6 59 7,xL 60 59,ycc 61 .eql 60,xM 62 61,ybw 63 62 3 7,yb7 64 62 1 63,yas 65 62 (ya5 64),ybw 66 62 4 7,yb7 67 62 1 66,yas 68 62 (ya5 67),ybt 69 62 .add 65 (.t 68),ydd 70 62 .gtr 69 0,xV 71 62 70,xM 58 71] 58 [xI 6 5]))))) (ydl ydc))⟩
def c_287_l0:ACode:=yc7 [xB 11 .lss 10 9] 11 0 1 [xX 12 7 8 10,xA 13 7 12,yax 7 [ybk,ybk,ybk,ybk,ybk,.fslice 3 [],.fslice 3 []],xS 7 7 13] [7] (xR [yb9 14,yca 15,xA 16 7 7,xO 17 (ydf 15 [.t 16]),xO 18 (.bslice .imm 7 (List.replicate 1 [.int .i64 0,.int .i64 0,.int .i64 0,.int .i64 0,.int .i64 0,.fslice 3 [],.fslice 3 []]) [(0,(.t 17))]),ycx 19 7 88 14 18,ydk 19]) [ycc 20 .add 10,xM 10 20]
def c_287_k1:ACode:=ycn (yb9 21) 4 21
def c_287:AFn:=⟨2,[.tmp 4],ydb [xC 4 (.fslice 7 [])] [yco 5 7] [ycb 8,xN 9 8,ya9 10] 0 c_287_l0 c_287_k1⟩
def c_288:AFn:=⟨1,[.cell 2 true 7],ya0 [ycj 1 0,yax 2 [ybk,ybk,ybk,ybk,ybk,.fslice 3 [],.fslice 3 []]] (xD [xF 3 5 1,xL 4 3,yb2 5 f_291 4,xF 6 6 1,xL 7 6,yb2 8 f_291 7,xF 9 5 1,xS 1 9 5,xF 10 6 1,xS 1 10 8]) (yb5 (xA 11 7 1) (xS 7 2 11))⟩
def c_293_l0:ACode:=yc9 [xB 9 .lss 8 7] 9 0 1 (yaa [xX 10 1 6 8,xL 11 10,ydk 11] (xR [xM 12 3,yb9 13,xB 14 .add 12 13,xM 3 14])) [ycc 15 .add 8,xM 8 15]
def c_293_k1:ACode:=ycn (xM 16 3) 2 16
def c_293:AFn:=⟨1,[.tmp 2],ydb [ya9 2] [ya9 3] [ycb 6,xN 7 6,ya9 8] 0 c_293_l0 c_293_k1⟩
def c_294_l0:ACode:=yc7 [xB 10 .lss 9 8] 10 0 1 [xX 11 2 7 9,xA 12 2 11,yax 5 [.str [],ybk],xS 2 5 12] [5] (xR [xM 13 3,yce 14 5,xL 15 14,xO 16 (.bslice .imm 1 (List.replicate 1 [.int .i64 0]) [(0,(.t 15))]),ycx 17 1 8 13 16,xM 3 17]) [ycc 18 .add 9,xM 9 18]
def c_294_k1:ACode:=ycn (xM 19 3) 2 19
def c_294:AFn:=⟨1,[.tmp 2],ycp (ydi 1) (xC 2 (.fslice 1 [])) (ybh [yco 3 1] [yce 6 1,xL 7 6,xN 8 7,ya9 9] 0 c_294_l0 c_294_k1)⟩
def c_295:AFn:=⟨2,[.tmp 4],yb0 [yc6] [ycb 5,yca 6,ybf 7 f_328 5 6,yc5 8 .geq 7,ydn 8]⟩
def c_296_l0:ACode:=yc7 [xB 25 .lss 24 23] 25 1 2 [xM 26 24,xX 27 2 22 24,xA 28 2 27,yax 4 [.str [],ybk],xM 3 26,xS 2 4 28] [4] (.block 3 (ybo [yb6 30 4,xL 31 30,yb2 32 f_257 31,ybj 33 32,xM 29 33] 29 [xI 2 6] (ybo [yce 35 4,xL 36 35,ycc 37 .lss 36,xM 38 37,yc0 39 38 4,ybr 40 38 39,ybm 41 38 .gtr 40 32,xW 42 38 41,xM 34 42] 34 [xI 2 10] (ya4 [yce 44 1,xL 45 44,xM 46 3,xO 47 (.slc 2 (.t 45) none (some (.t 46)) none),xO 48 (.mkfunc (.func f_330) [] [.t 4]),ybf 49 f_329 47 48,xM 43 49] 43 [xI 2 7])))) [ycc 50 .add 24,xM 24 50]
def c_296_k1:ACode:=ydl (ya9 2)
def c_296:AFn:=⟨1,[.tmp 2],ycp (ydi 1) (ya9 2) (ycy 0 [yb6 6 1,xL 7 6,yb2 8 f_257 7,ybj 9 8,ydk 9] 5 [xI 2 6] (ya4 [yce 11 1,xL 12 11,xN 13 12,xK 14 .gtr 13 4,xM 15 14,yaw 16 15 2 1,ybr 17 15 16,ybc 18 15 17,ybm 19 15 .gtr 18 12,xW 20 15 19,xM 10 20] 10 [xI 2 12]) (ybq [yce 21 1,xL 22 21,xN 23 22,ya9 24] 1 c_296_l0 c_296_k1))⟩
def c_297:AFn:=⟨2,[.tmp 4],ya0 [ydi 2,xJ 3 1,yby] (xQ [yb6 11 2,yb6 12 11,xA 13 9 12,yax 5 [.str [],.fslice 2 [],.fslice 2 [],.fslice 3 [],.fslice 3 [],.fslice 6 [],.fslice 7 [],.fslice 5 [],.fslice 1 []],xS 9 5 13] [5]) (yaa [xA 15 9 5,yce 16 3,xA 17 2 16,ybf 18 f_331 15 17,xM 14 18,xE 19 0 14,xE 20 1 14,xM 6 19,xM 7 20] (yan [xF 21 3 3,xL 22 21,yc5 23 .geq 22,xM 24 23,ybw 25 24 3 3,yb7 26 24 1 25,ybw 27 24 3 5,yb7 28 24 1 27,yas 29 24 (ya5 28),ybt 30 24 .lss 26 (.t 29),xV 31 24 30,xM 8 31] [yb6 32 3,xL 33 32] (.block 0 (ycq (ycc 35 .eql 33) 34 35 (yab 34 (ybl [xM 36 7,ybj 37 36] 37 [xI 4 8] (yae [xA 38 10 2,xF 39 6 3,xL 40 39,xM 41 6,yc4 42 f_332 38 40 41,ydn 42])) (yad [xK 44 .eql 33 2,xM 43 44] (ydg 43 (xR [xK 45 .eql 33 3,xM 43 45])) (yab 43 (ybl [xF 46 4 3,xL 47 46,yc5 48 .lss 47,xM 49 48,yaw 50 49 4 3,ybr 51 49 50,yc0 52 49 5,ybr 53 49 52,ybc 54 49 53,ybz 55 49 .geq 51 54,xW 56 49 55] 56 [xI 4 8] (ydl yby)) (yad [xK 58 .eql 33 4,xM 57 58] (ydg 57 (xR [xK 59 .eql 33 5,xM 57 59])) (ybu 57 (ybl [xM 60 8,ybj 61 60,xM 62 61,yaw 63 62 0 3,ybr 64 62 63,ybm 65 62 .eql 64 4,ya2 66 62 65,ybn 67 66 7,yas 68 66 (ya7 67),yac 69 62 (.pick (.t 66) (.t 68) (.c yap)),xW 70 62 69] 70 [xI 4 8] (yad [xF 72 5 3,xL 73 72,yb6 74 2,xA 75 10 74,ybf 76 f_333 73 75,xM 71 76,xE 77 0 71,xE 78 1 71,xM 9 77,xM 10 78] (ya4 [xM 79 10,yc5 80 .neq 79] 80 [xM 81 10,ydn 81]) (yad [yb6 82 3,xL 83 82,xK 84 .eql 83 5] (ybu 84 (ycd [xA 85 10 2,xF 86 6 3,xL 87 86,xF 88 3 5,xL 89 88,xF 90 3 3,xL 91 90,xX 92 3 89 91,yce 93 92,xL 94 93,yc4 95 f_332 85 87 94,ydn 95] .ret)) (ybl [xM 96 6,xF 97 3 5,xL 98 97,xF 99 3 3,xL 100 99,xX 101 3 98 100,yce 102 101,xL 103 102,xB 104 .neq 96 103] 104 [xI 4 10] (ydl yby)))))))))))) (ydl (xI 4 11))))⟩
def c_298_l0:ACode:=yc9 [xB 31 .lss 30 29] 31 0 1 (yaa [xX 32 1 28 30,xL 33 32,xM 8 33] (ya4 [xM 34 8,yc5 35 .lss 34,xM 36 35,ya2 37 36 8,yc0 38 36 2,ybr 39 36 38,ybc 40 36 39,ybz 41 36 .geq 37 40,xW 42 36 41] 42 [yb4 4,xI 5 8])) [ycc 43 .add 30,xM 30 43]
def c_298_l1:ACode:=yc7 [xB 68 .lss 67 66] 68 3 4 [xM 69 67,xX 70 3 65 67,xA 71 3 70,yax 10 [ycw 0,ycw 0,ybk],xM 9 69,xS 3 10 71] [10] (yaa [xA 72 9 2,yca 73,xA 74 3 10,yc4 75 f_334 72 73 74,xM 11 75] (ya4 [xM 76 11,yc5 77 .neq 76] 77 [xM 78 9,xM 79 11,ydn 78,ydk 79])) [ycc 80 .add 67,xM 67 80]
def c_298_k2:ACode:=ybl [xA 81 9 2,yca 82,xF 83 6 6,xL 84 83,yc4 85 f_335 81 82 84,ybj 86 85] 86 [yb4 4,xI 5 14] (yb5 yby ycv)
def c_298_k3:ACode:=ycy 2 [xF 45 2 6,xL 46 45,xM 47 46,yas 48 47 (yda 9 (.t 2)),ybw 49 47 3 6,yas 50 47 (yda 2 (.t 49)),ycm 51 47 f_261 [.t 48,.t 50],ydd 52 47 .eql 51 0,xV 53 47 52,xM 44 53] 44 [yb4 4,xI 5 8] (ya4 [xF 55 2 6,xL 56 55,ybj 57 56,xM 58 57,ybw 59 58 5 6,yb7 60 58 1 59,yas 61 58 (ya5 60),ydd 62 58 .gtr 61 0,xV 63 58 62,xM 54 63] 54 [yb4 4,xI 5 11]) (ybq [xF 64 5 6,xL 65 64,xN 66 65,ya9 67] 3 c_298_l1 c_298_k2)
def c_298:AFn:=⟨2,[.tmp 4,.tmp 5],ya0 [ydi 2,yby,ycv] (xQ [xF 12 6 2,xL 13 12,yca 14,xX 15 7 13 14,xA 16 7 15,yax 6 [.str [],.fslice 1 [],yap,ybk,ybk,.fslice 3 [],ybk],xS 7 6 16] [6]) (ybl [yce 17 6,xL 18 17,xN 19 18,xK 20 .gtr 19 4,xM 21 20,yaw 22 21 5 6,ybr 23 21 22,ybc 24 21 23,ybm 25 21 .gtr 24 8,xW 26 21 25] 26 [yb4 4,xI 5 12] (ybq [yce 27 6,xL 28 27,xN 29 28,ya9 30] 0 c_298_l0 c_298_k3))⟩
def c_299:AFn:=⟨1,[.tmp 2],yaa [ya9 2] (ybs [yax 3 [ybk],⟨none,none,.store 1 (.t 3) (.c (.int .i64 0))⟩] [ycb 4,xO 5 (.mkfunc (.func f_336) [] [.t 3]),ycl 6 f_301 [.t 4,.t 5]] (ycn (xL 7 3) 2 7))⟩
def c_300_l0:ACode:=yc7 [xB 12 .lss 11 10] 12 0 1 [xX 13 5 9 11,xA 14 5 13,yax 5 [ybk,ybk,.fslice 3 [],.fslice 5 [],.fslice 5 []],xS 5 5 14] [5] (xD [xM 15 3,xF 16 3 5,xL 17 16,yb2 18 f_300 17,xF 19 4 5,xL 20 19,yb2 21 f_300 20,xO 22 (.minmax true [.t 15,.t 18,.t 21]),xM 3 22]) [ycc 23 .add 11,xM 11 23]
def c_300_k1:ACode:=yae [xM 24 3,ycc 25 .add 24,xM 2 25]
def c_300:AFn:=⟨1,[.tmp 2],ya3 [ya9 2] [ycb 6,xN 7 6,yc5 8 .eql 7] 8 [ya9 2] (ybh [ya9 3] [ycb 9,xN 10 9,ya9 11] 0 c_300_l0 c_300_k1)⟩
def c_301_l0:ACode:=yc7 [xB 10 .lss 9 8] 10 0 1 [xX 11 5 7 9,xA 12 5 11,yax 6 [ybk,ybk,.fslice 3 [],.fslice 5 [],.fslice 5 []],xS 5 6 12] [6] (ya4 [yca 13,xA 14 5 6,xO 15 (.tcallv (.t 13) [.t 14]),ybj 16 15,xM 17 16,yaw 18 17 3 6,ybr 19 17 18,ya2 20 17 1,yac 21 17 (.tcall f_301 [.t 19,.t 20]),ydj 22 17 21,xW 23 17 22,xM 24 23,yaw 25 24 4 6,ybr 26 24 25,ya2 27 24 1,yac 28 24 (.tcall f_301 [.t 26,.t 27]),ydj 29 24 28,xW 30 24 29] 30 [yc6]) [ycc 31 .add 9,xM 9 31]
def c_301_k1:ACode:=ydl (xC 4 ybx)
def c_301:AFn:=⟨2,[.tmp 4],ybh [yc6] [ycb 7,xN 8 7,ya9 9] 0 c_301_l0 c_301_k1⟩
def c_302:AFn:=⟨5,[.tmp 6],yan [ydi 5,ybg 6] [xA 7 9 1,xA 8 5 5,xL 9 2,yc4 10 f_303 7 8 9,xS 1 3 10] (ya4 [xL 11 3,yc5 12 .neq 11] 12 [ybg 6]) (yad [xA 13 5 5,yb2 14 f_304 13] (ybu 14 (xR [xL 15 2,yce 16 5,xL 17 16,xO 18 (.bslice .imm 1 (List.replicate 1 [.int .i64 0]) [(0,(.t 17))]),ycx 19 1 8 15 18,xS 1 2 19])) (yb0 [xL 20 4,ycc 21 .add 20,xS 1 4 21] [xC 6 ybx]))⟩
def c_303_l0:ACode:=yc9 [xB 30 .lss 29 28] 30 1 2 (yaa [xX 31 1 27 29,xL 32 31,xM 8 32] (ya4 [xM 33 8,yce 34 4,xL 35 34,xB 36 .eql 33 35] 36 [xI 6 7])) [ycc 37 .add 29,xM 29 37]
def c_303_k1:ACode:=ya4 [yb6 38 4,xL 39 38,ycc 40 .eql 39,xM 41 40,ybw 42 41 3 4,yb7 43 41 1 42,yas 44 41 (ya5 43),ybw 45 41 4 4,yb7 46 41 1 45,yas 47 41 (ya5 46),ybt 48 41 .add 44 (.t 47),ydd 49 41 .gtr 48 0,xV 50 41 49] 50 [xI 6 5]
def c_303_k2:ACode:=ydl ydc
def c_303:AFn:=⟨3,[.tmp 6],yan [ydi 3,xJ 4 1,ydc] [yb6 11 4,xL 12 11] (.block 0 (yad [ycc 14 .eql 12,xM 13 14] (ydg 13 (xR [xK 15 .eql 12 3,xM 13 15])) (yab 13 (ybl [yce 16 4,xL 17 16,yc5 18 .lss 17,xM 19 18,yc0 20 19 4,ybr 21 19 20,yaw 22 19 5 3,ybr 23 19 22,ybc 24 19 23,ybz 25 19 .geq 21 24,xW 26 19 25] 26 [xI 6 8] (ybq [xM 27 2,xN 28 27,ya9 29] 1 c_303_l0 c_303_k1)) (ycq (xK 52 .eql 12 2) 51 52 (yab 51 (ya3 [xF 54 2 4,xL 55 54,xA 56 9 3,xO 57 (.build [.str [],.fslice 2 [],.fslice 2 [],.fslice 3 [],.fslice 3 [],.fslice 6 [],.fslice 7 [],.fslice 5 [],.fslice 1 [],.fslice 2 []] [(0,9,(.t 56))]),ybf 58 f_333 55 57,xM 53 58,xE 59 0 53,xE 60 1 53,xM 9 59,xM 10 60] [xM 61 10,yc5 62 .neq 61] 62 [xM 63 10,xM 6 63] (ya4 [xM 64 9,ycc 65 .neq 64] 65 [xI 6 10])) (ydl (xI 6 11))))))) c_303_k2⟩
def c_304:AFn:=⟨1,[.tmp 2],yb0 [ydi 1,ybg 2] [yb6 3 1,xL 4 3,ycc 5 .eql 4,yb9 6,yaw 7 6 0 1,ybr 8 6 7,ybm 9 6 .eql 8 3,xW 10 6 9,xM 2 10]⟩
def c_305:AFn:=⟨2,[.tmp 4],yb0 [yc6] [ycb 5,yca 6,ybf 7 f_337 5 6,yc5 8 .geq 7,ydn 8]⟩
def c_306:AFn:=⟨2,[.tmp 4],yaa [ydi 2,xJ 3 1,yby] (yan [xF 6 2 2,xL 7 6,ydk 7] [yb6 8 3,xL 9 8,yc5 10 .geq 9] (ybu 10 (ybl [yb6 11 3,xL 12 11,yce 13 2,xL 14 13,xN 15 14,xB 16 .geq 12 15] 16 [yby] (xR [yce 17 2,xL 18 17,yb6 19 3,xL 20 19,xX 21 2 18 20,yce 22 21,xL 23 22,ydk 23]))) (ybl [yb6 24 3,xL 25 24,xK 26 .lss 25 (-1),xM 27 26,yc0 28 27 3,ybr 29 27 28,ybm 30 27 .lss 29 0,xW 31 27 30,xM 32 31,yc0 33 32 3,ybr 34 32 33,ya2 35 32 5,ybc 36 32 35,ybz 37 32 .geq 34 36,xW 38 32 37,xM 39 38,ya2 40 39 5,yc0 41 39 3,ybr 42 39 41,ydm 43 39 2 40 42,yc0 44 39 43,ybr 45 39 44,ybm 46 39 .lss 45 1,xW 47 39 46,xM 48 47,ya2 49 48 5,yc0 50 48 3,ybr 51 48 50,ydm 52 48 2 49 51,yc0 53 48 52,ybr 54 48 53,ybm 55 48 .gtr 54 32,xW 56 48 55] 56 [yby] (yae [yb9 57,yce 58 3,xL 59 58,xX 60 2 57 59,yce 61 60,xL 62 61,ydn 62])))⟩
def c_307_l0:ACode:=ycu [xM 7 6,yca 8,xB 9 .leq 7 8,xM 10 9,ybn 11 10 1,ycm 12 10 f_309 [.t 11],xV 13 10 12] 13 0 1 (ya4 [xM 16 6,yca 17,ybf 18 f_338 16 17,ycb 19,xB 20 .eql 18 19] 20 [xM 21 6,ydn 21,xC 5 ybx]) [xM 14 6,ycc 15 .add 14,xM 6 15]
def c_307_k1:ACode:=yb5 yby (ybg 5)
def c_307:AFn:=⟨2,[.tmp 4,.tmp 5],ybh [yby,ybg 5] [ydc] 0 c_307_l0 c_307_k1⟩
def c_308:AFn:=⟨1,[.tmp 2],ya3 [xC 2 (ycw 0)] [ycb 3,yb2 4 f_309 3,ybj 5 4] 5 [xC 2 (ycw 0)] (yae [ycb 6,yb2 7 f_310 6,xO 8 (yar .sub 7 (.c (.int .u64 1))),xO 9 (.conv .u32 (.t 8)),xM 2 9])⟩
def c_309:AFn:=⟨1,[.tmp 2],yb0 [ybg 2] [ycb 3,ycc 4 .geq 3,ydk 4,ybn 6 5 0,ydd 7 5 .leq 6 32,xV 8 5 7,xM 2 8]⟩
def c_310_l0:ACode:=ycu [ydk 4,ycb 6,xB 7 .lss 5 6] 7 0 1 (xR [xM 10 3,xO 11 (.bin .mul (.c (.int .u64 2)) (.t 10)),xM 3 11]) [xM 8 4,ycc 9 .add 8,ydn 9]
def c_310_k1:ACode:=ycn (xM 12 3) 2 12
def c_310:AFn:=⟨1,[.tmp 2],ydb [xC 2 (.int .u64 0)] [xC 3 (.int .u64 1)] [yby] 0 c_310_l0 c_310_k1⟩
def c_313:AFn:=⟨1,[.tmp 2],yb0 [ybg 2] [ycb 3,xO 4 (yar .geq 3 (.c (.int .u8 97))),ydk 4,ybn 6 5 0,ybt 7 5 .leq 6 (.c (.int .u8 122)),xV 8 5 7,xM 9 8,ya2 10 9 0,yaz 11 9 .geq 10 (.c (.int .u8 65)),ya2 12 9 11,ybn 13 12 0,ybt 14 12 .leq 13 (.c (.int .u8 90)),yac 15 9 (.pick (.t 12) (.t 14) (.c yap)),xW 16 9 15,xM 2 16]⟩
def c_314_l0:ACode:=yba [yb9 6,ycb 7,xO 8 (.slen (.t 7)),xB 9 .lss 6 8,xM 10 9,ybn 11 10 1,ybn 12 10 0,ybn 13 10 5,yas 14 10 (.idxs (.t 12) (.t 13)),yas 15 10 (ydf 11 [.t 14]),xV 16 10 15] 16 0 (.block 1 (xR [yb9 17,ycc 18 .add 17,ydk 18]))
def c_314_k1:ACode:=ycn (yb9 19) 4 19
def c_314:AFn:=⟨2,[.tmp 4],ybs [yby] [ycv] (yaj 0 (.loop c_314_l0) c_314_k1)⟩
def c_315:AFn:=⟨1,[.tmp 2],yb0 [ybg 2] [ycb 3,yb2 4 f_313 3,ydk 4,ya2 6 5 0,yct 7 5 f_316 [.t 6],xW 8 5 7,xM 9 8,ya2 10 9 0,yaz 11 9 .eql 10 (.c (.int .u8 95)),xW 12 9 11,xM 2 12]⟩
def c_316:AFn:=⟨1,[.tmp 2],yb0 [ybg 2] [ycb 3,xO 4 (yar .geq 3 (.c (.int .u8 48))),ydk 4,ybn 6 5 0,ybt 7 5 .leq 6 (.c (.int .u8 57)),xV 8 5 7,xM 2 8]⟩
def c_317:AFn:=⟨2,[.cell 4 true 2],yaa [yax 4 [.str [],ybk]] (ya3 [yax 5 [.str [],ybk]] [yca 6,yc5 7 .lss 6,xM 8 7,ya2 9 8 1,ya2 10 8 0,ybc 11 8 10,ybz 12 8 .geq 9 11,xW 13 8 12] 13 [xA 14 2 5,xS 2 4 14] (yae [ycb 15,yca 16,xX 17 2 15 16,xA 18 2 17,xS 2 4 18]))⟩
def c_318:AFn:=⟨2,[.tmp 4],ya3 [ydi 2,xC 4 (.fslice 2 [])] [yca 5,xK 6 .eql 5 (-1)] 6 [xF 7 2 2,xL 8 7,ydn 8] (yae [yce 9 2,xL 10 9,yca 11,ybf 12 f_339 10 11,xO 13 (.fld false 1 1 (.t 12)),ydn 13])⟩
def c_319:AFn:=⟨2,[.tmp 4],ya3 [xC 4 (ycw 0)] [yca 5,xO 6 (.bslice .imm 1 (List.replicate 1 [.int .i64 0]) [(0,(.t 5))]),yb2 7 f_248 6,ybj 8 7] 8 [xC 4 (ycw 0)] (yae [yca 9,yb2 10 f_152 9,yca 11,yb2 12 f_152 11,ycb 13,xO 14 (.minmax true [.t 13,.c (.int .i64 0)]),yca 15,xO 16 (.minmax false [.t 14,.t 15]),xB 17 .shr 12 16,xB 18 .andNot 10 17,ydn 18])⟩
def c_320:AFn:=⟨2,[.tmp 4,.tmp 5],yaa [ydi 2,xJ 3 1,yby,ybg 5] (yan [xF 7 2 2,xL 8 7,xM 6 8] [yb6 9 3,xL 10 9,xK 11 .neq 10 (-1)] (ybu 11 (ybl [yb6 12 3,xL 13 12,yc5 14 .lss 13,xM 15 14,yaw 16 15 0 3,ybr 17 15 16,yc0 18 15 2,ybr 19 15 18,ybc 20 15 19,ybz 21 15 .geq 17 20,xW 22 15 21] 22 [yby,ybg 5] (xR [yce 23 2,xL 24 23,yb6 25 3,xL 26 25,xX 27 2 24 26,yce 28 27,xL 29 28,xM 6 29]))) (ybl [yce 30 3,xL 31 30,yc5 32 .lss 31,xM 33 32,yc0 34 33 3,ybr 35 33 34,ya2 36 33 6,ybc 37 33 36,ybz 38 33 .geq 35 37,xW 39 33 38] 39 [yby,ybg 5] (yae [xM 40 6,yce 41 3,xL 42 41,xX 43 2 40 42,yce 44 43,xL 45 44,ydn 45,xC 5 ybx])))⟩
def c_321:AFn:=⟨3,[.tmp 6],ycp (xJ 4 1) ydc (ya3 [ycb 10,xA 11 10 4,ybf 12 f_322 10 11,xM 9 12,xE 13 0 9,xE 14 1 9,xM 7 13,xM 8 14] [xM 15 8,yc5 16 .eql 15,xM 17 16,ybn 18 17 7,ybn 19 17 2,ybt 20 17 .neq 18 (.t 19),xV 21 17 20] 21 [xI 6 10] (ycn (xM 22 8) 6 22))⟩
def c_322:AFn:=⟨2,[.tmp 4,.tmp 5],ya3 [xJ 3 1,yby,ycv] [ycb 9,xN 10 9,xK 11 .gtr 10 24] 11 [yby,xI 5 12] (yaa [ycb 13,xA 14 10 3,yc2 15 f_340 13 (yao 0) (.t 14),xM 12 15,xE 16 0 12,xE 17 1 12,xE 18 2 12,xM 6 16,xM 7 17,xM 8 18] (ycy 0 [xM 20 8,yc5 21 .neq 20,xM 19 21] 19 [xM 22 8,yby,ydk 22] (ya4 [xM 24 7,ycb 25,xN 26 25,xB 27 .lss 24 26,xM 23 27] 23 [yby,xI 5 4]) (yae [xM 28 6,ydn 28,ycv])))⟩
def c_323:AFn:=⟨2,[.tmp 4],yaa [ydi 2,xJ 3 1,yby] (yan [xF 6 2 2,xL 7 6,ydk 7] [yb6 8 3,xL 9 8,yc5 10 .geq 9] (ybu 10 (ybl [yb6 11 3,xL 12 11,yce 13 2,xL 14 13,xN 15 14,xB 16 .geq 12 15] 16 [yby] (xR [yce 17 2,xL 18 17,yb6 19 3,xL 20 19,xX 21 2 18 20,yce 22 21,xL 23 22,ydk 23]))) (ybl [yb6 24 3,xL 25 24,xK 26 .lss 25 (-1),xM 27 26,yc0 28 27 3,ybr 29 27 28,ybm 30 27 .lss 29 0,xW 31 27 30,xM 32 31,yc0 33 32 3,ybr 34 32 33,ya2 35 32 5,ybc 36 32 35,ybz 37 32 .geq 34 36,xW 38 32 37,xM 39 38,ya2 40 39 5,yc0 41 39 3,ybr 42 39 41,ydm 43 39 2 40 42,yc0 44 39 43,ybr 45 39 44,ybm 46 39 .lss 45 1,xW 47 39 46,xM 48 47,ya2 49 48 5,yc0 50 48 3,ybr 51 48 50,ydm 52 48 2 49 51,yc0 53 48 52,ybr 54 48 53,ybm 55 48 .gtr 54 32,xW 56 48 55] 56 [yby] (yae [yb9 57,yce 58 3,xL 59 58,xX 60 2 57 59,yce 61 60,xL 62 61,ydn 62])))⟩
def c_324_l0:ACode:=ych [xM 19 8,xF 20 5 6,xL 21 20,xN 22 21,xB 23 .lss 19 22] 23 0 1 (xQ [xF 26 5 6,xL 27 26,xM 28 8,xX 29 3 27 28,xA 30 3 29,yax 9 [ycw 0,ycw 0,ybk],xS 3 9 30] [9]) (ybl [yb6 31 9,xL 32 31,xM 33 7,ybf 34 f_157 32 33,ybj 35 34,xM 36 35,yc0 37 36 9,ybr 38 36 37,ya2 39 36 7,yct 40 36 f_157 [.t 38,.t 39],ydj 41 36 40,xW 42 36 41] 42 [xM 43 8,ydn 43,xI 5 9] (ybl [yb6 44 9,xL 45 44,yce 46 9,xL 47 46,xB 48 .and 45 47,yb6 49 9,xL 50 49,xB 51 .neq 48 50] 51 [xM 52 8,ydn 52,xI 5 5] (ya4 [xA 53 9 2,yca 54,xF 55 2 9,xL 56 55,yc4 57 f_325 53 54 56,ybj 58 57] 58 [xM 59 8,ydn 59,xI 5 14]))) [xM 24 8,ycc 25 .add 24,xM 8 25]
def c_324_k1:ACode:=yb5 (yb4 4) ycv
def c_324:AFn:=⟨2,[.tmp 4,.tmp 5],ya0 [ydi 2,yby,ycv] (xQ [xF 10 6 2,xL 11 10,yca 12,xX 13 7 11 12,xA 14 7 13,yax 6 [.str [],.fslice 1 [],yap,ybk,ybk,.fslice 3 [],ybk],xS 7 6 14] [6]) (ybh [xA 15 9 2,xF 16 3 6,xA 17 2 16,ybf 18 f_323 15 17,xM 7 18] [ya9 8] 0 c_324_l0 c_324_k1)⟩
def c_325:AFn:=⟨3,[.tmp 6],yb0 [ydi 3,ybg 6] [xM 7 2,xK 8 .eql 7 (-1),xM 9 8,ya2 10 9 2,ybm 11 9 .eql 10 (-2),xW 12 9 11,xM 13 12,ya2 14 13 2,ya2 15 13 1,ybz 16 13 .gtr 14 15,ya2 17 13 16,ybn 18 17 2,ybw 19 17 6 3,yb7 20 17 1 19,yas 21 17 (ya5 20),ybt 22 17 .lss 18 (.t 21),yac 23 13 (.pick (.t 17) (.t 22) (.c yap)),xW 24 13 23,xM 6 24]⟩
def c_326_l0:ACode:=ydh [yb9 6,yca 7,xB 8 .lss 6 7] 8 0 1 [ycb 11,yb9 12,xX 13 5 11 12,xA 14 5 13,yb2 15 f_341 14,xM 16 15,ybn 17 16 0,ybn 18 16 5,yas 19 16 (ycz 5 17 18),ybw 20 16 1 19,yb7 21 16 1 20,ybn 22 16 0,ybn 23 16 1,yas 24 16 (ycz 5 22 23),ybw 25 16 1 24,yb7 26 16 1 25,ybt 27 16 .eql 21 (.t 26),xV 28 16 27] (yai 28 [xC 4 ybx]) [yb9 9,ycc 10 .add 9,ydk 10]
def c_326_k1:ACode:=ydl yc6
def c_326:AFn:=⟨2,[.tmp 4],ybh [yc6] [ycv] 0 c_326_l0 c_326_k1⟩
def c_328_l0:ACode:=yc9 [xB 9 .lss 8 7] 9 0 1 (ycq (xM 10 8) 5 10 (ya4 [yca 11,ycb 12,yb9 13,xX 14 1 12 13,xL 15 14,xB 16 .eql 11 15] 16 [yb9 17,ydn 17])) [ycc 18 .add 8,xM 8 18]
def c_328_k1:ACode:=ydl (yb4 4)
def c_328:AFn:=⟨2,[.tmp 4],ybh [yby] [ycb 6,xN 7 6,ya9 8] 0 c_328_l0 c_328_k1⟩
def c_329:AFn:=⟨2,[.tmp 4],yb0 [yc6] [ycb 5,yca 6,ybf 7 f_342 5 6,yc5 8 .geq 7,ydn 8]⟩
def c_330:AFn:=⟨2,[.tmp 3],yb0 [ydi 2,ybg 3] [yb6 4 2,xL 5 4,yb6 6 1,xL 7 6,xB 8 .eql 5 7,xM 3 8]⟩
def c_331:AFn:=⟨2,[.tmp 4,.tmp 5],yaa [ydi 2,xJ 3 1,yby,ybg 5] (yan [xF 7 2 2,xL 8 7,xM 6 8] [yb6 9 3,xL 10 9,xK 11 .neq 10 (-1)] (ybu 11 (ybl [yb6 12 3,xL 13 12,yc5 14 .lss 13,xM 15 14,yaw 16 15 0 3,ybr 17 15 16,yc0 18 15 2,ybr 19 15 18,ybc 20 15 19,ybz 21 15 .geq 17 20,xW 22 15 21] 22 [yby,ybg 5] (xR [yce 23 2,xL 24 23,yb6 25 3,xL 26 25,xX 27 2 24 26,yce 28 27,xL 29 28,xM 6 29]))) (ybl [yce 30 3,xL 31 30,yc5 32 .lss 31,xM 33 32,yc0 34 33 3,ybr 35 33 34,ya2 36 33 6,ybc 37 33 36,ybz 38 33 .geq 35 37,xW 39 33 38] 39 [yby,ybg 5] (yae [xM 40 6,yce 41 3,xL 42 41,xX 43 2 40 42,yce 44 43,xL 45 44,ydn 45,xC 5 ybx])))⟩
def c_332:AFn:=⟨3,[.tmp 6],ycp (ydi 3) ydc (ya3 [yca 10,yb6 11 3,xA 12 10 11,ybf 13 f_333 10 12,xM 9 13,xE 14 0 9,xE 15 1 9,xM 7 14,xM 8 15] [xM 16 8,yc5 17 .eql 16,xM 18 17,ybn 19 18 7,ybn 20 18 2,ybt 21 18 .neq 19 (.t 20),xV 22 18 21] 22 [xI 6 10] (ycn (xM 23 8) 6 23))⟩
def c_333:AFn:=⟨2,[.tmp 4,.tmp 5],ya3 [xJ 3 1,yby,ycv] [ycb 7,xN 8 7,xK 9 .gtr 8 24] 9 [yby,xI 5 12] (yaa [xA 11 10 3,ycb 12,yc3 13 f_343 11 12 (yao 0),xM 10 13,xE 14 0 10,xE 15 1 10,xE 16 2 10,ydn 14,xM 6 15,ydk 16] (ycy 0 [yb9 18,yc5 19 .neq 18,xM 17 19] 17 [yb9 20,yby,ydk 20] (ya4 [xM 22 6,ycb 23,xN 24 23,xB 25 .lss 22 24,xM 21 25] 21 [yby,xI 5 4]) (yae [xM 26 4,ydn 26,ycv])))⟩
def c_334:AFn:=⟨3,[.tmp 6],ya0 [ydi 3,xJ 5 2,ydc] (xD [xA 8 9 3,xF 9 6 3,xL 10 9,yca 11,xX 12 7 10 11,xF 13 3 12,xA 14 2 13,ybf 15 f_261 8 14,xM 7 15]) (ycy 0 [yb6 17 5,xL 18 17,xM 19 7,ybf 20 f_262 18 19,ybj 21 20,xM 22 21,yc0 23 22 5,ybr 24 22 23,ya2 25 22 7,yct 26 22 f_262 [.t 24,.t 25],ydj 27 22 26,xW 28 22 27,xM 16 28] 16 [xI 6 9] (ybo [yb6 30 5,xL 31 30,yce 32 5,xL 33 32,xB 34 .andNot 31 33,xO 35 (yar .neq 34 (.c (ycw 0))),xM 29 35] 29 [xI 6 5] (ya4 [xA 37 9 3,yca 38,xF 39 2 5,xL 40 39,yc4 41 f_335 37 38 40,ybj 42 41,xM 36 42] 36 [xI 6 14])) (ydl ydc))⟩
def c_335:AFn:=⟨3,[.tmp 6],yan [ydi 3,ybg 6] [xM 7 2] (.block 0 (yaj 2 (.block 1 (.seq (yad [xK 9 .eql 7 (-1),xM 8 9] (ybu 8 (.exit 1)) (ycq (xK 11 .eql 7 (-2)) 10 11 (ybu 10 (.exit 2)))) (.exit 0))) (yad [xC 6 ybx] .ret (.exit 0)))) (yae [xM 12 2,yca 13,xB 14 .gtr 12 13,xM 15 14,ybn 16 15 2,ybw 17 15 6 3,yb7 18 15 1 17,yas 19 15 (ya5 18),ybt 20 15 .lss 16 (.t 19),xV 21 15 20,xM 6 21])⟩
def c_336:AFn:=⟨2,[.tmp 3],ybs [ydi 2,ybg 3] [xL 4 1,ycc 5 .add 4,xS 1 1 5] (ydl (xC 3 ybx))⟩
def c_337_l0:ACode:=yc9 [xB 9 .lss 8 7] 9 0 1 (ycq (xM 10 8) 5 10 (ya4 [yca 11,ycb 12,yb9 13,xX 14 1 12 13,xL 15 14,xB 16 .eql 11 15] 16 [yb9 17,ydn 17])) [ycc 18 .add 8,xM 8 18]
def c_337_k1:ACode:=ydl (yb4 4)
def c_337:AFn:=⟨2,[.tmp 4],ybh [yby] [ycb 6,xN 7 6,ya9 8] 0 c_337_l0 c_337_k1⟩
def c_338:AFn:=⟨2,[.tmp 4],ya3 [xC 4 (ycw 0)] [yca 5,yb2 6 f_309 5,ybj 7 6] 7 [xC 4 (ycw 0)] (yb0 [ycb 8,xO 9 (.minmax true [.t 8,.c (.int .i64 0)]),yca 10,xO 11 (.minmax false [.t 9,.t 10]),xM 0 11] [yca 12,yb2 13 f_310 12,yca 14,ycb 15,xB 16 .sub 14 15,yb2 17 f_310 16,xB 18 .sub 13 17,xO 19 (.conv .u32 (.t 18)),ydn 19])⟩
def c_339:AFn:=⟨2,[.cell 4 true 2],yaa [yax 4 [.str [],.fslice 2 []]] (ya3 [yax 5 [.str [],.fslice 2 []]] [yca 6,yc5 7 .lss 6,xM 8 7,ya2 9 8 1,ya2 10 8 0,ybc 11 8 10,ybz 12 8 .geq 9 11,xW 13 8 12] 13 [xA 14 2 5,xS 2 4 14] (yae [ycb 15,yca 16,xX 17 2 15 16,xA 18 2 17,xS 2 4 18]))⟩
def c_340_l0:ACode:=ycu [xM 51 14,xM 52 9,xB 53 .lss 51 52] 53 0 1 (ya3 [ycb 57,xM 58 13,xA 59 10 5,yc4 60 f_340 57 58 59,xM 56 60,xE 61 0 56,xE 62 1 56,xE 63 2 56,xM 15 61,xM 16 62,xM 17 63] [xM 64 17,yc5 65 .neq 64] 65 [xM 66 16,xM 67 17,ydc,xM 7 66,xM 8 67] (yaa [xM 68 12,xM 69 15,xO 70 (.bslice .imm 1 (List.replicate 1 [.int .i64 0]) [(0,(.t 69))]),ycx 71 1 8 68 70,xM 12 71] (xR [xM 72 16,xM 13 72]))) [xM 54 14,ycc 55 .add 54,xM 14 55]
def c_340_k1:ACode:=yb0 [ycb 74,yca 75,xX 76 3 74 75,xA 77 3 76,xM 78 12,ybf 79 f_346 77 78,xM 73 79,xE 80 0 73,xE 81 1 73,xM 18 80,xM 19 81] [xM 82 18,xM 83 13,xM 84 19,xM 6 82,xM 7 83,xM 8 84]
def c_340:AFn:=⟨3,[.tmp 6,.tmp 7,.tmp 8],ya3 [xJ 5 2,ydc,ya9 7,ya9 8] [yca 20,ycb 21,xN 22 21,xB 23 .geq 20 22] 23 [yca 24,ydc,xM 7 24,xI 8 3] (ya3 [ycb 25,yca 26,xX 27 3 25 26,yb6 28 27,xL 29 28,yb2 30 f_344 29,xM 9 30] [xM 31 9,yc5 32 .lss 31] 32 [yca 33,ydc,xM 7 33,xI 8 11] (yad [xM 34 9,yc5 35 .eql 34] (ybu 35 (ycd [ycb 37,yca 38,xX 39 3 37 38,xA 40 3 39,xA 41 10 5,ybf 42 f_345 40 41,xM 36 42,xE 43 0 36,xE 44 1 36,xM 10 43,xM 11 44] (yae [xM 45 10,yca 46,ycc 47 .add 46,xM 48 11,xM 6 45,xM 7 47,xM 8 48]))) (ydb [yco 12 1] [yca 49,ycc 50 .add 49,xM 13 50] [ya9 14] 0 c_340_l0 c_340_k1)))⟩
def c_341:AFn:=⟨1,[.tmp 2],yb0 [ydi 1,ybg 2] [yb6 3 1,xL 4 3,ycc 5 .eql 4,yb9 6,yaw 7 6 0 1,ybr 8 6 7,ybm 9 6 .eql 8 3,xW 10 6 9,xM 2 10]⟩
def c_342_l0:ACode:=yc9 [xB 9 .lss 8 7] 9 0 1 (ycq (xM 10 8) 5 10 (ya4 [yca 11,ycb 12,yb9 13,xX 14 2 12 13,xA 15 2 14,xO 16 (ydf 11 [.t 15])] 16 [yb9 17,ydn 17])) [ycc 18 .add 8,xM 8 18]
def c_342_k1:ACode:=ydl (yb4 4)
def c_342:AFn:=⟨2,[.tmp 4],ybh [yby] [ycb 6,xN 7 6,ya9 8] 0 c_342_l0 c_342_k1⟩
def c_343_l0:ACode:=yc9 [xB 45 .lss 44 43] 45 1 2 (ybs [xM 46 44,xM 11 46] [xM 48 11,xA 49 10 3,yca 50,xM 51 7,yc4 52 f_343 49 50 51,xM 47 52,xE 53 0 47,xE 54 1 47,xE 55 2 47,xO 56 (ybb 1 (some 3) 10 (.t 48)),xS 1 56 53,xM 7 54,xM 8 55] (ya4 [xM 57 8,yc5 58 .neq 57] 58 [xM 59 8,ydc,ya9 7,xM 8 59])) [ycc 60 .add 44,xM 44 60]
def c_343_k1:ACode:=ycd [yca 62,xM 63 2,xX 64 3 62 63,xA 65 3 64,xA 66 3 10,ybf 67 f_349 65 66,xM 61 67,xE 68 0 61,xE 69 1 61,xM 6 68,xM 8 69] (yae [xM 70 6,xM 71 7,xM 72 8,xM 6 70,xM 7 71,xM 8 72])
def c_343:AFn:=⟨3,[.tmp 6,.tmp 7,.tmp 8],ya3 [ydi 3,ydc,ya9 7,ya9 8] [xM 12 2,yca 13,xN 14 13,xB 15 .geq 12 14] 15 [ydc,ya9 7,xI 8 3] (yaa [yca 16,xM 17 2,xX 18 3 16 17,yb6 19 18,xL 20 19,yb2 21 f_347 20,xM 9 21] (ycy 0 [xM 23 9,yc5 24 .lss 23,xM 22 24] 22 [ydc,ya9 7,xI 8 11] (yaa [xM 26 9,yc5 27 .eql 26,xM 25 27] (ybu 25 (ycd [xA 29 10 3,yca 30,xM 31 2,xX 32 3 30 31,xA 33 3 32,ybf 34 f_348 29 33,xM 28 34,xE 35 0 28,xE 36 1 28,xM 6 35,xM 8 36] (yae [xM 37 6,xM 38 2,ycc 39 .add 38,xM 40 8,xM 6 37,xM 7 39,xM 8 40])))) (ydb [yax 10 [ybk,ybk,ybk]] [xM 41 2,ycc 42 .add 41,xM 7 42] [xM 43 9,ya9 44] 1 c_343_l0 c_343_k1)))⟩
def c_344:AFn:=⟨1,[.tmp 2],yaa [ya9 2] (ycy 0 [ycb 4,ycc 5 .geq 4,yb9 6,ybn 7 6 0,ydd 8 6 .leq 7 4,xV 9 6 8,xM 3 9] 3 [ya9 2] (ybo [ycb 11,xK 12 .geq 11 5,xM 13 12,ybn 14 13 0,ydd 15 13 .leq 14 8,xV 16 13 15,xM 10 16] 10 [xI 2 1] (ybo [ycb 18,xK 19 .geq 18 9,xM 20 19,ybn 21 20 0,ydd 22 20 .leq 21 16,xV 23 20 22,xM 17 23] 17 [xI 2 2] (ya4 [ycb 25,xK 26 .eql 25 17,xM 24 26] 24 [xI 2 3]))) (ydl (yb4 2)))⟩
def c_345:AFn:=⟨2,[.tmp 4,.tmp 5],yan [ydi 2,xJ 3 1,yby,ycv] [yb6 10 2,xL 11 10] (.block 0 (ycq (ycc 13 .eql 11) 12 13 (yab 12 (ya0 [xF 15 2 2,xL 16 15,yb2 17 f_350 16,xM 14 17,xE 18 0 14,xE 19 1 14,xM 6 18,xM 7 19] (ycd [xM 20 7,yc5 21 .eql 20,xM 22 21,ybw 23 22 1 2,yb7 24 22 1 23,ydd 25 22 .lss 24 0,ybn 26 22 25,yc0 27 26 2,ybr 28 26 27,ya2 29 26 6,yct 30 26 f_308 [.t 29],yac 31 26 (.conv .i64 (.t 30)),ybz 32 26 .gtr 28 31,yas 33 22 (.pick (.t 26) (.c ybx) (.t 32)),xV 34 22 33] (yai 34 [yby,xI 5 9])) (yae [xM 35 6,xM 36 7,ydn 35,ydk 36])) (ycq (xK 38 .eql 11 2) 37 38 (yab 37 (ya3 [yb6 40 3,xA 41 9 40,yce 42 2,xL 43 42,xF 44 2 2,xL 45 44,xO 46 (.build [.int .i64 0,.int .i64 0] [(0,1,(.t 43)),(1,1,(.t 45))]),ybf 47 f_320 41 46,xM 39 47,xE 48 0 39,xE 49 1 39,xM 8 48,xM 9 49] [xM 50 9,ybj 51 50] 51 [yby,xI 5 8] (yae [xM 52 8,yb2 53 f_350 52,xE 54 0 53,xE 55 1 53,ydn 54,ydk 55])) (ycq (xK 57 .eql 11 3) 56 57 (ybu 56 (ybl [yce 58 2,xL 59 58,yc5 60 .lss 59,xM 61 60,yc0 62 61 2,ybr 63 61 62,yaw 64 61 9 3,ybr 65 61 64,ybc 66 61 65,ybz 67 61 .geq 63 66,xW 68 61 67] 68 [yby,xI 5 8] (yae [xF 69 9 3,xL 70 69,yce 71 2,xL 72 71,xX 73 2 70 72,yce 74 73,xL 75 74,yb2 76 f_350 75,xE 77 0 76,xE 78 1 76,ydn 77,ydk 78]))))))))) (ybl [yce 79 2,xL 80 79,yc5 81 .lss 80,xM 82 81,yc0 83 82 2,ybr 84 82 83,yaw 85 82 0 3,yc0 86 82 85,ybr 87 82 86,ybc 88 82 87,ybz 89 82 .geq 84 88,xW 90 82 89] 90 [yby,xI 5 8] (yb5 (xI 4 1) ycv))⟩
def c_346:AFn:=⟨2,[.tmp 4,.tmp 5],yan [ydi 2,yby,ycv] [yb6 6 2,xL 7 6] (.block 0 (ybo [xK 9 .eql 7 5,xM 8 9] 8 [yca 10,xO 11 (yb8 1 10 (yao 0)),xL 12 11,ydn 12,ycv] (yad [xK 14 .eql 7 6,xM 13 14] (ydg 13 (xR [xK 15 .eql 7 7,xM 13 15])) (yab 13 (ybl [yce 16 2,xL 17 16,yc5 18 .lss 17,xM 19 18,yc0 20 19 2,ybr 21 19 20,ybm 22 19 .gtr 21 31,xW 23 19 22] 23 [yby,xI 5 9] (yae [yca 24,xO 25 (yb8 1 24 (yao 0)),xL 26 25,ydn 26,ycv])) (ycq (xK 28 .eql 7 8) 27 28 (yab 27 (ycy 1 [yce 30 2,xL 31 30,yc5 32 .lss 31,xM 29 32] 29 [yby,xI 5 9] (ycd [xF 34 2 2,xL 35 34,ycc 36 .lss 35,xM 37 36,yaw 38 37 2 2,ybr 39 37 38,ybm 40 37 .gtr 39 32,xW 41 37 40,xM 42 41,yc0 43 42 2,ybr 44 42 43,ya2 45 42 1,yac 46 42 (yb8 1 45 (yao 0)),ybr 47 42 46,yaw 48 42 2 2,ybr 49 42 48,ybz 50 42 .sub 47 49,ybz 51 42 .gtr 44 50,xW 52 42 51,xM 33 52] (yai 33 [yby,xI 5 10])) (yae [xF 53 2 2,xL 54 53,ydn 54,ycv])) (ycq (xK 56 .eql 7 14) 55 56 (yab 55 (ycd [yca 57,xO 58 (yb8 1 57 (yao 0)),xL 59 58,yca 60,xO 61 (yb8 1 60 (yao 1)),xL 62 61,xB 63 .add 59 62,yb2 64 f_350 63,xE 65 0 64,xE 66 1 64,ydn 65,ydk 66] .ret) (ycq (xK 68 .eql 7 17) 67 68 (ybu 67 (.seq (ycd [yca 69,xO 70 (yb8 1 69 (yao 0)),xL 71 70,ycc 72 .neq 71,xM 73 72,ya2 74 73 1,yac 75 73 (yb8 1 74 (yao 1)),ybr 76 73 75,ya2 77 73 1,yac 78 73 (yb8 1 77 (yao 2)),ybr 79 73 78,ybz 80 73 .neq 76 79,xW 81 73 80] (yai 81 [yby,xI 5 10])) (yae [yca 82,xO 83 (yb8 1 82 (yao 1)),xL 84 83,ydn 84,ycv])))))))))))) (yaj 2 (ycd [yca 86,xO 87 (yb8 1 86 (yao 0)),xL 88 87,yca 89,xO 90 (yb8 1 89 (yao 1)),xL 91 90,xB 92 .neq 88 91,xM 85 92] (yah 85 [yby,xI 5 10] (ya4 [yb6 94 2,xL 95 94,xK 96 .eql 95 15,xM 97 96,yaw 98 97 0 2,ybr 99 97 98,ybm 100 97 .eql 99 16,xW 101 97 100,xM 93 101] 93 [xI 4 1,ycv]))) (yae [yca 102,xO 103 (yb8 1 102 (yao 0)),xL 104 103,ydn 104,ycv]))⟩
def c_347:AFn:=⟨1,[.tmp 2],yan [ya9 2] [ycb 3] (.block 0 (yad [ycc 5 .eql 3,yb9 4] (ydg 4 (ycq (xK 6 .eql 3 2) 4 6 (ydg 4 (ycq (xK 7 .eql 3 3) 4 7 (ydg 4 (xR [xK 8 .eql 3 4,ydn 8])))))) (yah 4 [ya9 2] (yad [xK 10 .eql 3 5,xM 9 10] (ydg 9 (ycq (xK 11 .eql 3 6) 9 11 (ydg 9 (ycq (xK 12 .eql 3 7) 9 12 (ydg 9 (xR [xK 13 .eql 3 8,xM 9 13])))))) (yah 9 [xI 2 1] (yad [xK 15 .eql 3 9,xM 14 15] (ydg 14 (ycq (xK 16 .eql 3 10) 14 16 (ydg 14 (ycq (xK 17 .eql 3 11) 14 17 (ydg 14 (ycq (xK 18 .eql 3 12) 14 18 (ydg 14 (ycq (xK 19 .eql 3 13) 14 19 (ydg 14 (ycq (xK 20 .eql 3 14) 14 20 (ydg 14 (ycq (xK 21 .eql 3 15) 14 21 (ydg 14 (xR [xK 22 .eql 3 16,xM 14 22])))))))))))))) (yah 14 [xI 2 2] (ya4 [xK 24 .eql 3 17,xM 23 24] 23 [xI 2 3])))))))) (ydl (yb4 2))⟩
def c_348:AFn:=⟨2,[.tmp 4,.tmp 5],yan [ydi 2,xJ 3 1,yby,ycv] [yb6 10 3,xL 11 10] (.block 0 (ycq (ycc 13 .eql 11) 12 13 (yab 12 (ya0 [xF 15 2 3,xL 16 15,yb2 17 f_351 16,xM 14 17,xE 18 0 14,xE 19 1 14,xM 6 18,xM 7 19] (ycd [xM 20 7,yc5 21 .eql 20,xM 22 21,ybw 23 22 1 3,yb7 24 22 1 23,ydd 25 22 .lss 24 0,ybn 26 22 25,yc0 27 26 3,ybr 28 26 27,ya2 29 26 6,yct 30 26 f_152 [.t 29],yac 31 26 (.conv .i64 (.t 30)),ybz 32 26 .gtr 28 31,yas 33 22 (.pick (.t 26) (.c ybx) (.t 32)),xV 34 22 33] (yai 34 [yby,xI 5 9])) (yae [xM 35 6,xM 36 7,ydn 35,ydk 36])) (ycq (xK 38 .eql 11 2) 37 38 (yab 37 (.seq (xQ [xA 40 10 2,yce 41 3,xL 42 41,xF 43 2 3,xL 44 43,yc4 45 f_352 40 42 44,xM 39 45,xE 46 0 39,xE 47 1 39,yax 8 [.str [],ybk],xS 2 8 46,xM 9 47] [8]) (ybl [xM 48 9,ybj 49 48] 49 [yby,xI 5 8] (yae [yce 50 8,xL 51 50,yb2 52 f_351 51,xE 53 0 52,xE 54 1 52,ydn 53,ydk 54]))) (ycq (xK 56 .eql 11 3) 55 56 (ybu 55 (ybl [yce 57 3,xL 58 57,yc5 59 .lss 58,xM 60 59,yc0 61 60 3,ybr 62 60 61,yaw 63 60 9 2,ybr 64 60 63,ybc 65 60 64,ybz 66 60 .geq 62 65,xW 67 60 66] 67 [yby,xI 5 8] (yae [xF 68 9 2,xL 69 68,yce 70 3,xL 71 70,xX 72 2 69 71,yce 73 72,xL 74 73,yb2 75 f_351 74,xE 76 0 75,xE 77 1 75,ydn 76,ydk 77]))))))))) (ybl [yce 78 3,xL 79 78,yc5 80 .lss 79,xM 81 80,yc0 82 81 3,ybr 83 81 82,yaw 84 81 0 2,yc0 85 81 84,ybr 86 81 85,ybc 87 81 86,ybz 88 81 .geq 83 87,xW 89 81 88] 89 [yby,xI 5 8] (yb5 (xI 4 1) ycv))⟩
def c_349:AFn:=⟨2,[.tmp 4,.tmp 5],yan [ydi 2,xJ 3 1,yby,ycv] [yb6 8 2,xL 9 8] (.block 0 (yad [xK 11 .eql 9 6,xM 10 11] (ydg 10 (xR [xK 12 .eql 9 7,xM 10 12])) (yab 10 (ya4 [yce 13 2,xL 14 13,yc5 15 .lss 14,xM 16 15,yc0 17 16 2,ybr 18 16 17,ybm 19 16 .gtr 18 31,xW 20 16 19] 20 [yby,xI 5 9]) (ycq (xK 22 .eql 9 8) 21 22 (yab 21 (ybl [yce 23 2,xL 24 23,yc5 25 .lss 24] 25 [yby,xI 5 9] (yad [xF 27 2 2,xL 28 27,yb2 29 f_351 28,xM 26 29,xE 30 0 26,xE 31 1 26,xM 6 30,xM 7 31] (ya4 [xM 32 7,yc5 33 .neq 32,xM 34 33,yc0 35 34 2,ybr 36 34 35,yac 37 34 (ybb 1 (some 3) 3 (yao 0)),ybr 38 34 37,yaw 39 34 2 2,ybr 40 34 39,ybz 41 34 .sub 38 40,ybz 42 34 .gtr 36 41,xW 43 34 42] 43 [yby,xI 5 10]) (yae [xF 44 2 2,xL 45 44,ydn 45,ycv]))) (ybo [xK 47 .eql 9 14,xM 46 47] 46 [xO 48 (ybb 1 (some 3) 3 (yao 0)),xL 49 48,xO 50 (ybb 1 (some 3) 3 (yao 1)),xL 51 50,xB 52 .add 49 51,yb2 53 f_351 52,xE 54 0 53,xE 55 1 53,ydn 54,ydk 55] (ycq (xK 57 .eql 9 17) 56 57 (ybu 56 (ybl [xO 58 (ybb 1 (some 3) 3 (yao 0)),xL 59 58,ycc 60 .neq 59,xM 61 60,yac 62 61 (ybb 1 (some 3) 3 (yao 1)),ybr 63 61 62,yac 64 61 (ybb 1 (some 3) 3 (yao 2)),ybr 65 61 64,ybz 66 61 .neq 63 65,xW 67 61 66] 67 [yby,xI 5 10] (yae [xO 68 (ybb 1 (some 3) 3 (yao 1)),xL 69 68,ydn 69,ycv])))))))))) (ybl [yb6 70 2,xL 71 70,yb2 72 f_347 71,xK 73 .eql 72 2,xM 74 73,yas 75 74 (ybb 1 (some 3) 3 (yao 0)),yb7 76 74 1 75,yas 77 74 (ybb 1 (some 3) 3 (yao 1)),yb7 78 74 1 77,ybt 79 74 .neq 76 (.t 78),xV 80 74 79] 80 [yby,xI 5 10] (ybl [yb6 81 2,xL 82 81,xK 83 .eql 82 15,xM 84 83,yaw 85 84 0 2,ybr 86 84 85,ybm 87 84 .eql 86 16,xW 88 84 87] 88 [xI 4 1,ycv] (yae [xO 89 (ybb 1 (some 3) 3 (yao 0)),xL 90 89,ydn 90,ycv])))⟩
def c_350:AFn:=⟨1,[.tmp 2,.tmp 3],ya3 [ya9 2,ya9 3] [ycb 4,ycc 5 .lss 4,yb9 6,ya2 7 6 0,ybm 8 6 .gtr 7 32,xW 9 6 8] 9 [ya9 2,xI 3 10] (yae [ycb 10,xM 2 10,ya9 3])⟩
def c_351:AFn:=⟨1,[.tmp 2,.tmp 3],ya3 [ya9 2,ya9 3] [ycb 4,ycc 5 .lss 4,yb9 6,ya2 7 6 0,ybm 8 6 .gtr 7 32,xW 9 6 8] 9 [ya9 2,xI 3 10] (yae [ycb 10,xM 2 10,ya9 3])⟩
def c_352:AFn:=⟨3,[.cell 6 true 2,.tmp 7],yaa [ydi 3,yax 6 [.str [],ybk],ybg 7] (yan [yb6 9 3,xF 10 2 9,xL 11 10,xM 8 11] [yca 12,xK 13 .neq 12 (-1)] (ybu 13 (ybl [yca 14,yc5 15 .lss 14,xM 16 15,ya2 17 16 1,yaw 18 16 0 3,yc0 19 16 18,ybr 20 16 19,ybc 21 16 20,ybz 22 16 .geq 17 21,xW 23 16 22] 23 [xO 24 (.build [.str [],.int .i64 0] []),xS 2 6 24,ybg 7] (xR [yb6 25 3,yce 26 25,xL 27 26,yca 28,xX 29 2 27 28,yce 30 29,xL 31 30,xM 8 31]))) (ybl [xM 32 2,yc5 33 .lss 32,xM 34 33,ya2 35 34 2,ya2 36 34 8,ybc 37 34 36,ybz 38 34 .geq 35 37,xW 39 34 38] 39 [xO 40 (.build [.str [],.int .i64 0] []),xS 2 6 40,ybg 7] (yae [xM 41 8,xM 42 2,xX 43 2 41 42,xA 44 2 43,xS 2 6 44,xC 7 ybx])))⟩
def tabL:List (Nat×AFn):=[(f_10,c_10),
  (f_12,c_12),
  (f_17,c_17),
  (f_18,c_18),
  (f_19,c_19),
  (f_20,c_20),
  (f_24,c_24),
  (f_31,c_31),
  (f_33,c_33),
  (f_34,c_34),
  (f_35,c_35),
  (f_36,c_36),
  (f_37,c_37),
  (f_38,c_38),
  (f_40,c_40),
  (f_43,c_43),
  (f_44,c_44),
  (f_45,c_45),
  (f_46,c_46),
  (f_48,c_48),
  (f_50,c_50),
  (f_55,c_55),
  (f_64,c_64),
  (f_65,c_65),
  (f_66,c_66),
  (f_67,c_67),
  (f_68,c_68),
  (f_69,c_69),
  (f_70,c_70),
  (f_71,c_71),
  (f_72,c_72),
  (f_74,c_74),
  (f_76,c_76),
  (f_77,c_77),
  (f_78,c_78),
  (f_79,c_79),
  (f_80,c_80),
  (f_81,c_81),
  (f_82,c_82),
  (f_85,c_85),
  (f_86,c_86),
  (f_87,c_87),
  (f_88,c_88),
  (f_89,c_89),
  (f_90,c_90),
  (f_91,c_91),
  (f_92,c_92),
  (f_93,c_93),
  (f_94,c_94),
  (f_95,c_95),
  (f_96,c_96),
  (f_97,c_97),
  (f_101,c_101),
  (f_102,c_102),
  (f_103,c_103),
  (f_104,c_104),
  (f_105,c_105),
  (f_106,c_106),
  (f_109,c_109),
  (f_110,c_110),
  (f_111,c_111),
  (f_117,c_117),
  (f_125,c_125),
  (f_126,c_126),
  (f_127,c_127),
  (f_128,c_128),
  (f_129,c_129),
  (f_130,c_130),
  (f_131,c_131),
  (f_139,c_139),
  (f_145,c_145),
  (f_146,c_146),
  (f_147,c_147),
  (f_148,c_148),
  (f_149,c_149),
  (f_150,c_150),
  (f_151,c_151),
  (f_152,c_152),
  (f_153,c_153),
  (f_154,c_154),
  (f_155,c_155),
  (f_156,c_156),
  (f_157,c_157),
  (f_158,c_158),
  (f_159,c_159),
  (f_160,c_160),
  (f_163,c_163),
  (f_164,c_164),
  (f_165,c_165),
  (f_175,c_175),
  (f_176,c_176),
  (f_177,c_177),
  (f_178,c_178),
  (f_179,c_179),
  (f_180,c_180),
  (f_181,c_181),
  (f_183,c_183),
  (f_184,c_184),
  (f_185,c_185),
  (f_186,c_186),
  (f_187,c_187),
  (f_190,c_190),
  (f_194,c_194),
  (f_195,c_195),
  (f_196,c_196),
  (f_197,c_197),
  (f_198,c_198),
  (f_199,c_199),
  (f_200,c_200),
  (f_201,c_201),
  (f_202,c_202),
  (f_203,c_203),
  (f_212,c_212),
  (f_213,c_213),
  (f_216,c_216),
  (f_217,c_217),
  (f_218,c_218),
  (f_219,c_219),
  (f_220,c_220),
  (f_221,c_221),
  (f_222,c_222),
  (f_223,c_223),
  (f_227,c_227),
  (f_228,c_228),
  (f_229,c_229),
  (f_230,c_230),
  (f_231,c_231),
  (f_232,c_232),
  (f_233,c_233),
  (f_234,c_234),
  (f_235,c_235),
  (f_236,c_236),
  (f_237,c_237),
  (f_238,c_238),
  (f_239,c_239),
  (f_240,c_240),
  (f_241,c_241),
  (f_242,c_242),
  (f_243,c_243),
  (f_244,c_244),
  (f_245,c_245),
  (f_246,c_246),
  (f_247,c_247),
  (f_248,c_248),
  (f_249,c_249),
  (f_250,c_250),
  (f_251,c_251),
  (f_252,c_252),
  (f_253,c_253),
  (f_254,c_254),
  (f_257,c_257),
  (f_258,c_258),
  (f_259,c_259),
  (f_260,c_260),
  (f_261,c_261),
  (f_262,c_262),
  (f_263,c_263),
  (f_264,c_264),
  (f_265,c_265),
  (f_267,c_267),
  (f_268,c_268),
  (f_269,c_269),
  (f_270,c_270),
  (f_271,c_271),
  (f_272,c_272),
  (f_273,c_273),
  (f_274,c_274),
  (f_275,c_275),
  (f_276,c_276),
  (f_277,c_277),
  (f_278,c_278),
  (f_279,c_279),
  (f_287,c_287),
  (f_288,c_288),
  (f_293,c_293),
  (f_294,c_294),
  (f_295,c_295),
  (f_296,c_296),
  (f_297,c_297),
  (f_298,c_298),
  (f_299,c_299),
  (f_300,c_300),
  (f_301,c_301),
  (f_302,c_302),
  (f_303,c_303),
  (f_304,c_304),
  (f_305,c_305),
  (f_306,c_306),
  (f_307,c_307),
  (f_308,c_308),
  (f_309,c_309),
  (f_310,c_310),
  (f_313,c_313),
  (f_314,c_314),
  (f_315,c_315),
  (f_316,c_316),
  (f_317,c_317),
  (f_318,c_318),
  (f_319,c_319),
  (f_320,c_320),
  (f_321,c_321),
  (f_322,c_322),
  (f_323,c_323),
  (f_324,c_324),
  (f_325,c_325),
  (f_326,c_326),
  (f_328,c_328),
  (f_329,c_329),
  (f_330,c_330),
  (f_331,c_331),
  (f_332,c_332),
  (f_333,c_333),
  (f_334,c_334),
  (f_335,c_335),
  (f_336,c_336),
  (f_337,c_337),
  (f_338,c_338),
  (f_339,c_339),
  (f_340,c_340),
  (f_341,c_341),
  (f_342,c_342),
  (f_343,c_343),
  (f_344,c_344),
  (f_345,c_345),
  (f_346,c_346),
  (f_347,c_347),
  (f_348,c_348),
  (f_349,c_349),
  (f_350,c_350),
  (f_351,c_351),
  (f_352,c_352)]
def tabD:List (Nat×ADFn):=[(f_51,c_51),
  (f_63,c_63)]
def tabC:List CloneD:=[⟨f_161,1,4,.app⟩,⟨f_162,1,8,.row⟩,⟨f_182,2,8,.app⟩,⟨f_214,2,24,.app⟩,⟨f_215,3,32,.app⟩,⟨f_226,1,1,.app⟩,⟨f_289,3,24,.app⟩,⟨f_290,3,16,.app⟩,⟨f_291,3,24,.app⟩]
def nilL:List (Nat×Nat):=[(f_41,9),(f_51,9),(f_52,13),(f_52,17),(f_53,13),(f_53,14),(f_75,3),(f_77,13),(f_79,11),(f_101,8),(f_107,10),(f_137,6),(f_176,5),(f_188,5),(f_212,5),(f_216,5),(f_218,5),(f_220,5),(f_222,5),(f_230,5),(f_234,5),(f_237,5),(f_240,5),(f_243,5),(f_249,5),(f_278,3),(f_287,5),(f_294,3),(f_340,12)]
def thr:List Nat:=[f_18,f_23,f_24,f_26,f_28,f_29,f_32,f_33,f_34,f_35,f_36,f_51,f_57,f_58,f_66,f_76,f_81,f_82,f_88,f_91,f_93,f_94,f_117,f_118,f_133,f_134,f_135,f_136,f_141,f_205,f_207,f_208,f_209,f_211,f_281,f_282,f_285,f_286,f_292,f_301,f_327]
def thrAt:List (Nat×Nat):=[(f_140,f_226),(f_58,f_140),(f_206,f_280),(f_29,f_83),(f_83,f_168),(f_169,f_168),(f_39,f_40),(f_76,f_162),(f_39,f_21)]
def thrV:List Nat:=[f_292,f_186,f_40,f_301]
def rowAt:List (Nat×Nat):=[(f_33,112),(f_78,48),(f_80,41),(f_53,42),(f_162,7)]
def thrVAt:List (Nat×Nat):=[]
def rowF:List Nat:=[f_76,f_21]
def rowFB:List Nat:=[]
def appAt:List (Nat×Nat):=[(f_21,32),(f_76,70)]
def immAt:List (Nat×Nat):=[(f_75,27)]
def slcHL:List Nat:=[f_93]
def browAt:List (Nat×Nat):=[(f_76,39)]
def boxiAt:List (Nat×Nat):=[(f_66,2),(f_18,2),(f_18,3),(f_23,1),(f_21,1)]
def takeAt:List (Nat×Nat):=[(f_78,65)]
def boxiL:List (Nat×List Nat):=[(3,[2,3]),(4,[1]),(5,[1]),(6,[1]),(7,[3,4,5]),(8,[3,4,5]),(9,[3,4,5]),(10,[3,4,5]),(11,[3,4]),(12,[3,4]),(13,[3,4]),(14,[2]),(17,[2,3]),(19,[2,3]),(22,[1]),(27,[3,4,5]),(30,[4,5]),(37,[2,3]),(41,[3,4,5]),(44,[3,4]),(46,[2]),(48,[3,4]),(52,[3,4]),(53,[3,4]),(54,[1]),(55,[1]),(64,[5,9]),(65,[2]),(67,[4]),(68,[3,5]),(69,[2]),(73,[1]),(74,[1]),(75,[1]),(77,[4,5,7]),(78,[5,6,9]),(79,[4,5]),(80,[4,5,7]),(84,[4]),(86,[3,5]),(90,[1]),(92,[3,5]),(95,[1]),(103,[2,3]),(107,[4,5]),(109,[3,4]),(120,[3]),(122,[1]),(123,[1]),(124,[1]),(125,[1]),(126,[1]),(127,[1]),(128,[1]),(129,[1]),(130,[1]),(131,[1]),(139,[1]),(145,[1]),(146,[1]),(147,[1]),(148,[1]),(149,[1]),(150,[2]),(153,[3,5]),(154,[3]),(155,[3]),(156,[2,3]),(158,[1]),(160,[1]),(163,[1]),(164,[4]),(166,[2]),(167,[2]),(169,[5]),(170,[5]),(171,[4,6,7]),(173,[2]),(174,[4,6,7]),(175,[2]),(176,[2]),(177,[3]),(178,[2]),(179,[3]),(180,[2,3]),(184,[1]),(186,[1]),(190,[3,4,5]),(196,[1]),(198,[1]),(199,[2]),(200,[2]),(201,[1]),(202,[1]),(203,[1]),(231,[1]),(232,[1]),(235,[1]),(238,[1]),(239,[1]),(241,[1]),(242,[2]),(244,[1]),(245,[1]),(246,[1]),(247,[1]),(249,[2]),(250,[3]),(251,[2]),(252,[2]),(255,[3,5]),(256,[3,5]),(258,[2,3]),(259,[2,3]),(260,[2]),(261,[2,3]),(266,[5]),(269,[2]),(271,[3,4,5]),(272,[2]),(273,[2,3]),(274,[2,3]),(275,[2]),(279,[3]),(294,[1]),(296,[1]),(297,[2,3]),(298,[2]),(302,[5]),(303,[3,4]),(304,[1]),(306,[2,3]),(318,[2]),(320,[2,3]),(321,[4]),(322,[3]),(323,[2,3]),(324,[2]),(325,[3]),(330,[2]),(331,[2,3]),(332,[3]),(333,[3]),(334,[3,5]),(335,[3]),(336,[2]),(340,[5]),(341,[1]),(343,[3]),(345,[2,3]),(346,[2]),(348,[2,3]),(349,[2,3]),(352,[3])]
def keepL:List (Nat×List (Nat×List Nat)):=[(4,[(10,[6]),(11,[7]),(16,[12]),(17,[14])]),(5,[(14,[7])]),(6,[(9,[5])]),(8,[(3,[7])]),(10,[(6,[9])]),(11,[(3,[7]),(4,[11]),(5,[15])]),(16,[(9,[12]),(10,[14])]),(17,[(1,[5])]),(21,[(4,[5])]),(23,[(1,[4])]),(27,[(5,[9]),(8,[11]),(11,[13])]),(40,[(10,[11]),(17,[18]),(30,[22])]),(44,[(1,[10])]),(49,[(1,[1]),(2,[2]),(3,[3]),(4,[7])]),(52,[(1,[8]),(10,[15]),(20,[20]),(30,[25])]),(53,[(1,[8]),(4,[11]),(11,[16]),(29,[18])]),(56,[(1,[1]),(5,[4])]),(59,[(2,[6])]),(64,[(6,[13]),(15,[15])]),(73,[(4,[5])]),(76,[(8,[8]),(15,[10])]),(83,[(3,[10]),(4,[11])]),(86,[(9,[12])]),(94,[(3,[5])]),(95,[(21,[7])]),(98,[(1,[1])]),(101,[(4,[7]),(11,[11])]),(106,[(4,[7])]),(109,[(10,[12])]),(113,[(1,[1])]),(118,[(5,[9])]),(146,[(4,[4])]),(147,[(5,[4]),(12,[6])]),(148,[(4,[4])]),(167,[(5,[6])]),(168,[(3,[7])]),(169,[(3,[7])]),(175,[(3,[6])]),(176,[(6,[7])]),(178,[(6,[7])]),(186,[(6,[6])]),(190,[(5,[9]),(8,[11]),(11,[13])]),(196,[(11,[5])]),(199,[(3,[6])]),(200,[(3,[6])]),(212,[(4,[7])]),(216,[(4,[7])]),(218,[(4,[7])]),(220,[(4,[7])]),(222,[(4,[7])]),(230,[(4,[7])]),(232,[(9,[4])]),(234,[(4,[7])]),(237,[(4,[7])]),(240,[(4,[7])]),(242,[(3,[6]),(7,[7]),(10,[9])]),(243,[(4,[7])]),(245,[(8,[7])]),(255,[(5,[8])]),(258,[(4,[9])]),(275,[(1,[6])]),(279,[(1,[7])]),(287,[(4,[7])]),(294,[(4,[5])]),(296,[(7,[4])]),(297,[(1,[5])]),(298,[(1,[6]),(16,[10])]),(300,[(6,[5])]),(301,[(3,[6])]),(324,[(1,[6]),(6,[9])]),(348,[(8,[8])])]
def qald:List (Nat×List Nat):=[(145,[1,2,3,4,5]),(146,[5,6,7]),(147,[1,6,7,8,13]),(148,[5,6,13,14,21,22]),(149,[2,4,6]),(151,[2]),(227,[1])]
def ann:Ann:=
  { pure:=fun fn f _=> !(qce f thr)&& !(thrAt.any fun p=>p.1 == fn&&p.2 == f)
    purev:=fun fn d=> !(qce fn thrV)&& !(match d with | some t=>thrVAt.any (fun q=>q.1 == fn&&q.2 == t) | none=>false),bmode:=fun fn d=>if qce fn rowFB || (match d with | some t=>browAt.any (fun q=>q.1 == fn&&q.2 == t) | none=>false) then .row else .imm,smode:=fun fn d=>match d with | some t=>if immAt.any (fun q=>q.1 == fn&&q.2 == t) then .imm else .row | none=> .row,amode:=fun fn d=>match d with | some t=>if rowAt.any (fun q=>q.1 == fn&&q.2 == t) || (qce fn rowF&& !(appAt.any fun q=>q.1 == fn&&q.2 == t)) then .row else .app | none=> .app
    nilapp:=fun fn d=>match d with | some t=>nilL.any (fun q=>q.1 == fn&&q.2 == t) | none=>false
    slch:=fun fn d=>(qce fn slcHL&&(match d with | some t=>t == 13 || t == 31 | none=>false)) || (match d with | some t=>takeAt.any (fun q=>q.1 == fn&&q.2 == t) | none=>false)
    boxi:=fun fn d=>match d with | some t=>boxiAt.any (fun q=>q.1 == fn&&q.2 == t) || (match look fn boxiL with | some l=>qce t l | none=>false) | none=>false
    keep:=fun fn id=>(look fn keepL).bind (look id)
    split:=fun fn id=>match look fn qald with | some l=>qce id l | none=>false }
def ktabL:List Nat:=[100,47,112,114,113,49,99,98,39,42,73,21,116,115,52,192,193,191,118]
def qtp (b:FuncId->Option AFun) (P:Program) (A:Ann) (l:List Nat) (f:FuncId):Option AFun:=match b f with
  | some x=>some x
  | none=>if qce f l then (cFn P A f).map .code else none
def Φ:FuncId->Option AFun:=qtp (qtv tabL tabD tabC) Go.Proofs.Tryz.prog ann ktabL
end
end Go.Av
