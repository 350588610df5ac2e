/-
  The compact form of the program's functions, printed by a program.
-/
import Derived.Test.YtjdbnnnakpacjaaGreatAvD
import Derived.Test.YtjdbnnnakpacjaaGreatRows
set_option linter.unusedVariables false
set_option linter.unusedSimpArgs false
set_option linter.constructorNameAsVariable false
namespace Go.Av
noncomputable section
abbrev xM (d s:Nat):Xw:=⟨some d,none,.mov (.t s)⟩
abbrev xI (d:Nat) (n:Int):Xw:=⟨some d,none,.mov (.c (.int .i64 n))⟩
abbrev xC (d:Nat) (v:AV):Xw:=⟨some d,none,.mov (.c v)⟩
abbrev xF (d o s:Nat):Xw:=⟨some d,none,.faddr o (.t s)⟩
abbrev xL (d s:Nat):Xw:=⟨some d,none,.load false 1 (.t s)⟩
abbrev xA (d n s:Nat):Xw:=⟨some d,none,.load true n (.t s)⟩
abbrev xX (d z a i:Nat):Xw:=⟨some d,none,.iaddr z none (.t a) (.t i)⟩
abbrev xS (n p v:Nat):Xw:=⟨none,none,.store n (.t p) (.t v)⟩
abbrev xN (d s:Nat):Xw:=⟨some d,none,.len (.t s)⟩
abbrev xE (d i s:Nat):Xw:=⟨some d,none,.ext i (.t s)⟩
abbrev xB (d:Nat) (p:BinOp) (a b:Nat):Xw:=⟨some d,none,.bin p (.t a) (.t b)⟩
abbrev xK (d:Nat) (p:BinOp) (a:Nat) (n:Int):Xw:=⟨some d,none,.bin p (.t a) (.c (.int .i64 n))⟩
abbrev xW (d a b:Nat):Xw:=⟨some d,none,.pick (.t a) (.c (.bool true)) (.t b)⟩
abbrev xV (d a b:Nat):Xw:=⟨some d,none,.pick (.t a) (.t b) (.c (.bool false))⟩
abbrev xJ (d s:Nat):Xw:=⟨some d,none,.boxi (.t s)⟩
abbrev xO (d:Nat) (p:AOp):Xw:=⟨some d,none,p⟩
abbrev xG (d g:Nat) (b:Bool) (p:AOp):Xw:=⟨some d,some (g,b),p⟩
abbrev xR (l:List Xw):Xv:= .region false [] l none
abbrev xD (l:List Xw):Xv:= .region true [] l none
abbrev xQ (l:List Xw) (k:List Nat):Xv:= .region false [] l (some k)
abbrev yaa (a:List Xw) (b:Xv):Xv:= .seq (xR a) b
abbrev yab (a:Nat) (b c:Xv):Xv:= .cond (.t a) b c
abbrev yac (a b:Nat) (c:AOp):Xw:=xG a b false c
abbrev yad (a:List Xw):Xv:=yaa a .ret
abbrev yae (a:List Xw) (b c:Xv):Xv:= .seq (yaa a b) c
abbrev yaf (a b:Nat) (c:List AX):Xw:=xO a (.pcall b c)
abbrev yag (a:Int):AV:= .int .i64 a
abbrev yah (a:Nat) (b:List Xw) (c:Xv):Xv:=yab a (yad b) c
abbrev yai (a:Nat) (b:List Xw):Xv:=yah a b .skip
abbrev yaj (a:Nat) (b c:Xv):Xv:= .seq (.block a b) c
abbrev yak (a b:Nat):AOp:= .faddr a (.t b)
abbrev yal (a:Nat) (b:AX):AOp:= .load false a b
abbrev yam (a:Nat) (b:Xv):Xv:= .block a (.loop b)
abbrev yan (a:Int):AX:= .c (yag a)
abbrev yao (a b:List Xw) (c d:Xv):Xv:=yaa a (yae b c d)
abbrev yap (a b:Nat) (c:AOp):Xw:=xG a b true c
abbrev yaq (a:BinOp) (b:Nat) (c:AX):AOp:= .bin a (.t b) c
abbrev yar (a:Nat) (b:Bool):Xw:=xC a (.bool b)
abbrev yas (a:Nat) (b:Xv) (c:Nat):Xv:=yab a b (.exit c)
abbrev yat (a:Nat):AOp:= .mov (.t a)
abbrev yau (a b:Nat):AOp:=yal a (.t b)
abbrev yav (a:Nat) (b:List AV):Xw:=xO a (.alloc b)
abbrev yaw (a b c d:Nat):Xw:=yac a b (yau c d)
abbrev yax (a b c d:Nat):Xw:=yac a b (yak c d)
abbrev yay (a b:Nat):Xv:=yas a .skip b
abbrev yaz (a:List Xw) (b c:Xv):Xv:=yaa a (.seq b c)
abbrev ya0 (a:Nat):Xw:=yar a false
abbrev ya1 (a b:Nat) (c:BinOp) (d:Nat) (e:AX):Xw:=yac a b (yaq c d e)
abbrev ya2 (a:Nat) (b:Xv) (c:List Xw):Xv:=yaj a b (xR c)
abbrev ya3 (a b c:Nat):Xw:=yac a b (yat c)
abbrev ya4 (a b:List Xw) (c:Nat) (d:List Xw) (e:Xv):Xv:=yao a b (yai c d) e
abbrev ya5 (a:List Xw) (b:Nat) (c:List Xw):Xv:=yaa a (yai b c)
abbrev ya6 (a:SM) (b c d:Nat) (e:AX):AOp:= .append a b c (.t d) e
abbrev ya7 (a:Nat):AOp:= .len (.t a)
abbrev ya8 (a:Nat):Xw:=xI a 0
abbrev ya9 (a:AX):AOp:= .un .not a
abbrev yba (a:Nat):AOp:=ya9 (.t a)
abbrev ybb (a:Nat):AOp:= .nilchk (.t a)
abbrev ybc (a b:List Xw) (c:Nat) (d e:Xv):Xv:=yao a b (yam c d) e
abbrev ybd (a:List Xw) (b c:Nat) (d:Xv):Xv:=yaz a (yay b c) d
abbrev ybe (a:List Xw) (b c:Nat) (d:Xv):Xv:=yae a (yay b c) d
abbrev ybf (a b:Nat) (c:BinOp) (d:Nat) (e:Int):Xw:=ya1 a b c d (yan e)
abbrev ybg (a:Nat) (b:Option Nat) (c:Nat) (d:AX):AOp:= .iaddr a b (.t c) d
abbrev ybh (a:List Xw) (b:Nat) (c:List Xw) (d:Xv):Xv:=yaa a (yah b c d)
abbrev ybi (a:List Xw) (b:Nat) (c:List Xw) (d:Xv):Xv:=yae a (yai b c) d
abbrev ybj (a b c d:Nat):Xw:=yap a b (yak c d)
abbrev ybk (a:Nat) (b c:Xv) (d:List Xw):Xv:=ya2 a (.seq b c) d
abbrev ybl (a b:Nat) (c d:AX):Xw:=yaf a b [c,d]
abbrev ybm (a b c:Nat) (d:AX):Xw:=ybl a b (.t c) d
abbrev ybn (a b c d:Nat):Xw:=ybm a b c (.t d)
abbrev ybo:AV:=yag 0
abbrev ybp (a b c:Nat):Xw:=yap a b (yat c)
abbrev ybq (a b c:Nat):Xw:=yac a b (ya7 c)
abbrev ybr (a b:List Xw) (c:Xv):Xv:=yaa a (yaa b c)
abbrev ybs (a b:Nat):Xw:=xO a (yba b)
abbrev ybt (a b:Nat) (c:List AX):Xw:=xO a (.tcall b c)
abbrev ybu (a b:Nat) (c:BinOp) (d:Nat) (e:AX):Xw:=yap a b (yaq c d e)
abbrev ybv (a:SM) (b c d e:Nat):AOp:=ya6 a b c d (.t e)
abbrev ybw (a:Nat) (b:SM) (c d e f:Nat):Xw:=xO a (ybv b c d e f)
abbrev ybx (a:List Xw) (b:Nat) (c d:Xv):Xv:=yae a (yam b c) d
abbrev yby (a b c:Nat):Xw:=yaw a b 1 c
abbrev ybz (a b c d:Nat):Xw:=yap a b (yau c d)
abbrev yb0 (a b:List Xw):Xv:=yaa a (yad b)
abbrev yb1 (a b:Nat) (c:AX):Xw:=yaf a b [c]
abbrev yb2 (a b c:Nat):Xw:=yb1 a b (.t c)
abbrev yb3 (a:Nat) (b:Xv):Xv:=yab a b .skip
abbrev yb4 (a b c d e:Nat):Xw:=ybw a .app b c d e
abbrev yb5:Xw:=ya8 4
abbrev yb6 (a:Nat):Xw:=xM a 0
abbrev yb7 (a:IntKind) (b:Nat):AOp:= .conv a (.t b)
abbrev yb8 (a b:Xw):Xv:=yad [a,b]
abbrev yb9 (a b:Nat) (c:BinOp) (d e:Nat):Xw:=ya1 a b c d (.t e)
abbrev yca (a b:Nat):Xw:=xF a 0 b
abbrev ycb (a:Nat):AOp:= .box (.t a)
abbrev ycc (a:Nat):Xw:=xI a (-1)
abbrev ycd (a:Nat):Xw:=xM a 1
abbrev yce (a:Int):AV:= .int .u32 a
abbrev ycf (a:Xw) (b c:Nat):Xv:=yb8 a (xM b c)
abbrev ycg (a b:Nat):Xw:=xF a 1 b
abbrev ych (a b c:Nat) (d:List AX):Xw:=yap a b (.pcall c d)
abbrev yci (a:List Xw) (b:Xv):Xv:= .seq (xD a) b
abbrev ycj (a b:Nat):Xw:=xO a (ybb b)
abbrev yck (a:Nat) (b:BinOp) (c:Nat):Xw:=xK a b c 1
abbrev ycl (a b:Nat) (c:AX):AOp:=ybg a none b c
abbrev ycm (a:Nat):Xw:=yar a true
abbrev ycn (a b:Nat) (c d e f:AX):Xw:=yaf a b [c,d,e,f]
abbrev yco (a b:Nat) (c:AX) (d:Int) (e f:AX):Xw:=ycn a b c (yan d) e f
abbrev ycp (a:List Xw) (b c d:Nat) (e:Xv) (f:List Xw):Xv:=ybe a b c (ya2 d e f)
abbrev ycq (a:Nat):Xw:=xM a 5
abbrev ycr (a b:Xw) (c:Xv):Xv:=yaa [a,b] c
abbrev ycs (a:Xw) (b c:Nat) (d:Xv):Xv:=ycr a (xM b c) d
abbrev yct (a:List Xw) (b c d:Nat) (e:Xv) (f:List Xw):Xv:=ybd a b c (ya2 d e f)
abbrev ycu (a b:Nat):Xw:=xO a (ycb b)
abbrev ycv (a b:Nat):Xw:=xO a (.nilapp b)
abbrev ycw (a b:Nat) (c:AX) (d:Int) (e:AX) (f:Int):Xw:=yco a b c d e (yan f)
abbrev ycx (a b:Nat) (c:BinOp) (d:Nat) (e:Int):Xw:=ybu a b c d (yan e)
abbrev ycy (a:Nat) (b:List AX):AOp:= .pcallv (.t a) b
abbrev ycz (a:List Xw) (b c d:Nat) (e f:Xv) (g:List Xw):Xv:=ybd a b c (ybk d e f g)
abbrev yc0 (a:Nat) (b:IntKind) (c:Nat):Xw:=xO a (yb7 b c)
abbrev yc1 (a:List Xw) (b:Nat) (c d:List Xw) (e:Nat) (f:List Xw):Xv:=ybh a b c (ya5 d e f)
abbrev yc2 (a:Nat) (b c d e:AV):Xw:=yav a [b,c,d,e]
abbrev yc3 (a:Nat) (b:BinOp) (c:Nat):Xw:=xK a b c 0
abbrev yc4 (a:IntKind) (b:Int):AX:= .c (.int a b)
abbrev yc5:Xw:=ya8 5
abbrev yc6 (a:Nat):Xw:=xM a 3
abbrev yc7 (a:Nat):Xw:=xM 4 a
abbrev yc8 (a b c:Nat):AOp:=ycl a b (.t c)
abbrev yc9 (a b c:List Xw) (d:Nat) (e f:Xv):Xv:=yaa a (ybc b c d e f)
abbrev yda (a:Nat):Xw:=xJ a 0
abbrev ydb (a:Nat) (b:AX):AOp:= .load true a b
abbrev ydc:Xw:=ya8 6
abbrev ydd (a:Nat) (b:Xv):Xv:=yab a .skip b
abbrev yde (a b:Nat) (c d e:AX):Xw:=yaf a b [c,d,e]
abbrev ydf (a b c:Nat) (d e:AX):Xw:=yde a b (.t c) d e
abbrev ydg (a b c d:Nat) (e:AX):Xw:=ydf a b c (.t d) e
abbrev ydh (a b c d e:Nat):Xw:=ydg a b c d (.t e)
abbrev ydi (a:Nat):Xw:=yca a 3
abbrev ydj (a:Nat):Xw:=xM 5 a
abbrev ydk (a:Xw):Xv:=yad [a]
abbrev ydl (a b:List Xw) (c:Nat) (d e:List Xw) (f:Nat) (g h:Xv):Xv:=ya4 a b c d (ybx e f g h)
abbrev ydm (a b:Nat):Xw:=xA a 9 b
abbrev ydn (a:List Xw) (b c d:Nat) (e:List Xw) (f:List Nat) (g:Xv) (h:List Xw):Xv:=ycz a b c d (xQ e f) g h
def f_6:Nat:=6
def f_8:Nat:=8
def f_12:Nat:=12
def f_13:Nat:=13
def f_17:Nat:=17
def f_18:Nat:=18
def f_19:Nat:=19
def f_20:Nat:=20
def f_21:Nat:=21
def f_22:Nat:=22
def f_24:Nat:=24
def f_25:Nat:=25
def f_26:Nat:=26
def f_27:Nat:=27
def f_28:Nat:=28
def f_29:Nat:=29
def f_31:Nat:=31
def f_32:Nat:=32
def f_38:Nat:=38
def f_41:Nat:=41
def f_42:Nat:=42
def f_43:Nat:=43
def f_44:Nat:=44
def f_45:Nat:=45
def f_52:Nat:=52
def f_53:Nat:=53
def f_54:Nat:=54
def f_55:Nat:=55
def f_57:Nat:=57
def f_58:Nat:=58
def f_59:Nat:=59
def f_61:Nat:=61
def f_62:Nat:=62
def f_63:Nat:=63
def f_64:Nat:=64
def f_65:Nat:=65
def f_66:Nat:=66
def f_67:Nat:=67
def f_68:Nat:=68
def f_69:Nat:=69
def f_70:Nat:=70
def f_71:Nat:=71
def f_72:Nat:=72
def f_73:Nat:=73
def f_74:Nat:=74
def f_75:Nat:=75
def f_76:Nat:=76
def f_77:Nat:=77
def f_78:Nat:=78
def f_79:Nat:=79
def f_80:Nat:=80
def f_84:Nat:=84
def f_85:Nat:=85
def f_87:Nat:=87
def f_88:Nat:=88
def f_89:Nat:=89
def f_90:Nat:=90
def f_91:Nat:=91
def f_92:Nat:=92
def f_93:Nat:=93
def f_94:Nat:=94
def f_95:Nat:=95
def f_96:Nat:=96
def f_98:Nat:=98
def f_99:Nat:=99
def f_100:Nat:=100
def f_101:Nat:=101
def f_102:Nat:=102
def f_103:Nat:=103
def f_104:Nat:=104
def f_105:Nat:=105
def f_106:Nat:=106
def f_107:Nat:=107
def f_108:Nat:=108
def f_109:Nat:=109
def f_110:Nat:=110
def f_111:Nat:=111
def f_112:Nat:=112
def f_113:Nat:=113
def f_114:Nat:=114
def f_115:Nat:=115
def f_116:Nat:=116
def f_117:Nat:=117
def f_118:Nat:=118
def f_119:Nat:=119
def f_120:Nat:=120
def f_122:Nat:=122
def f_123:Nat:=123
def f_124:Nat:=124
def f_125:Nat:=125
def f_126:Nat:=126
def f_127:Nat:=127
def f_128:Nat:=128
def f_129:Nat:=129
def f_130:Nat:=130
def f_131:Nat:=131
def f_132:Nat:=132
def f_133:Nat:=133
def f_134:Nat:=134
def f_135:Nat:=135
def f_136:Nat:=136
def f_137:Nat:=137
def f_138:Nat:=138
def f_139:Nat:=139
def f_140:Nat:=140
def f_141:Nat:=141
def f_142:Nat:=142
def f_143:Nat:=143
def f_147:Nat:=147
def f_148:Nat:=148
def f_149:Nat:=149
def f_150:Nat:=150
def f_151:Nat:=151
def f_152:Nat:=152
def f_153:Nat:=153
def f_154:Nat:=154
def f_155:Nat:=155
def f_156:Nat:=156
def f_157:Nat:=157
def f_158:Nat:=158
def f_159:Nat:=159
def f_160:Nat:=160
def f_161:Nat:=161
def f_162:Nat:=162
def f_163:Nat:=163
def f_164:Nat:=164
def f_165:Nat:=165
def f_166:Nat:=166
def f_167:Nat:=167
def f_168:Nat:=168
def f_169:Nat:=169
def f_170:Nat:=170
def f_171:Nat:=171
def f_172:Nat:=172
def f_173:Nat:=173
def f_174:Nat:=174
def f_175:Nat:=175
def f_176:Nat:=176
def f_177:Nat:=177
def f_178:Nat:=178
def f_179:Nat:=179
def f_180:Nat:=180
def f_181:Nat:=181
def f_182:Nat:=182
def f_183:Nat:=183
def f_184:Nat:=184
def f_185:Nat:=185
def f_186:Nat:=186
def f_187:Nat:=187
def f_188:Nat:=188
def f_189:Nat:=189
def f_190:Nat:=190
def f_191:Nat:=191
def f_192:Nat:=192
def f_193:Nat:=193
def f_194:Nat:=194
def f_195:Nat:=195
def f_196:Nat:=196
def f_197:Nat:=197
def f_198:Nat:=198
def f_199:Nat:=199
def f_200:Nat:=200
def f_201:Nat:=201
def f_202:Nat:=202
def f_203:Nat:=203
def f_204:Nat:=204
def f_205:Nat:=205
def f_206:Nat:=206
def f_207:Nat:=207
def f_208:Nat:=208
def f_209:Nat:=209
def f_210:Nat:=210
def f_211:Nat:=211
def f_215:Nat:=215
def f_216:Nat:=216
def f_217:Nat:=217
def f_218:Nat:=218
def f_219:Nat:=219
def f_220:Nat:=220
def f_221:Nat:=221
def f_222:Nat:=222
def f_223:Nat:=223
def f_224:Nat:=224
def f_225:Nat:=225
def f_226:Nat:=226
def f_227:Nat:=227
def f_228:Nat:=228
def f_229:Nat:=229
def f_230:Nat:=230
def f_231:Nat:=231
def f_232:Nat:=232
def f_233:Nat:=233
def f_234:Nat:=234
def f_235:Nat:=235
def f_236:Nat:=236
def f_237:Nat:=237
def f_238:Nat:=238
def f_239:Nat:=239
def f_240:Nat:=240
def f_241:Nat:=241
def f_242:Nat:=242
def f_243:Nat:=243
def f_244:Nat:=244
def f_245:Nat:=245
def f_246:Nat:=246
def f_247:Nat:=247
def f_248:Nat:=248
def f_249:Nat:=249
def f_250:Nat:=250
def f_251:Nat:=251
def f_252:Nat:=252
def f_253:Nat:=253
def f_254:Nat:=254
def f_255:Nat:=255
def f_256:Nat:=256
def f_257:Nat:=257
def f_258:Nat:=258
def f_259:Nat:=259
def f_260:Nat:=260
def f_261:Nat:=261
def f_262:Nat:=262
def f_263:Nat:=263
def f_264:Nat:=264
def f_265:Nat:=265
def f_266:Nat:=266
def f_267:Nat:=267
def f_268:Nat:=268
def f_269:Nat:=269
def f_270:Nat:=270
def f_271:Nat:=271
def f_272:Nat:=272
def f_273:Nat:=273
def f_274:Nat:=274
def f_275:Nat:=275
def f_276:Nat:=276
def f_277:Nat:=277
def f_278:Nat:=278
def f_279:Nat:=279
def f_280:Nat:=280
def f_281:Nat:=281
def f_282:Nat:=282
def f_283:Nat:=283
def f_284:Nat:=284
def f_285:Nat:=285
def f_286:Nat:=286
def f_287:Nat:=287
def f_288:Nat:=288
def f_289:Nat:=289
def f_290:Nat:=290
def f_291:Nat:=291
def f_292:Nat:=292
def f_293:Nat:=293
def f_294:Nat:=294
def f_295:Nat:=295
def f_296:Nat:=296
def f_297:Nat:=297
def f_298:Nat:=298
def f_299:Nat:=299
def f_300:Nat:=300
def f_301:Nat:=301
def f_302:Nat:=302
def f_303:Nat:=303
def f_304:Nat:=304
def f_305:Nat:=305
def f_306:Nat:=306
def f_307:Nat:=307
def f_308:Nat:=308
def f_309:Nat:=309
def f_310:Nat:=310
def f_311:Nat:=311
def f_312:Nat:=312
def f_313:Nat:=313
def f_314:Nat:=314
def f_315:Nat:=315
def f_316:Nat:=316
def f_317:Nat:=317
def f_318:Nat:=318
def f_319:Nat:=319
def f_320:Nat:=320
def f_321:Nat:=321
def f_322:Nat:=322
def f_323:Nat:=323
def c_6_l0:Xv:=ycp [xM 41 9,ycd 42,xN 43 42,xB 44 .lss 41 43,xM 45 44,ybp 46 45 5,yap 47 45 (.eqn true (.t 46) (.c .nilptr)),xV 48 45 47] 48 0 1 (yaz [ycq 52,ycd 53,xM 54 9,xX 55 1 53 54,xL 56 55,ybt 57 f_20 [.t 52,.t 56],xM 51 57,xE 58 0 51,xE 59 1 51,xE 60 2 51,xM 10 58,xM 11 59,xM 12 60] (.region true [(0,11),(4,11),(5,11)] [⟨some 62,none,.load true 15 (.t 7)⟩,⟨some 63,none,.mov (.t 1)⟩,⟨some 64,none,.mov (.t 9)⟩,⟨some 65,none,.iaddr 1 none (.t 63) (.t 64)⟩,⟨some 66,none,.load false 1 (.t 65)⟩,⟨some 67,none,.pcall f_26 [.t 62,.t 66]⟩,⟨some 61,none,.mov (.t 67)⟩,⟨some 68,none,.ext 0 (.t 61)⟩,⟨some 69,none,.ext 1 (.t 61)⟩,⟨some 70,none,.ext 2 (.t 61)⟩,⟨some 71,none,.ext 3 (.t 61)⟩,⟨some 13,none,.alloc [.str [],.Xu 2 [],.Xu 2 [],.Xu 3 [],.Xu 3 [],.Xu 6 [],.Xu 7 [],.Xu 5 [],.Xu 1 [],.Xu 1 [],.Xu 1 [],.Xu 2 [],.Xu 1 [],.Xu 1 [],.int .i64 0]⟩,⟨none,none,.store 15 (.t 13) (.t 68)⟩,⟨some 14,none,.mov (.t 69)⟩,⟨some 15,none,.mov (.t 70)⟩,⟨some 16,none,.mov (.t 71)⟩] (some [13])) (ycr (xA 72 15 13) (xS 15 7 72) (ya5 [xM 73 12,xM 74 16,xB 75 .neq 73 74,xM 76 75,ya3 77 76 11,ya3 78 76 15,yb9 79 76 .neq 77 78,xW 80 76 79,xM 81 80,ya3 82 81 10,ya3 83 81 14,yac 84 81 (.pcall f_27 [.t 82,.t 83]),yac 85 81 (yba 84),xW 86 81 85,xM 87 86,ya3 88 87 5,yac 89 87 (ydb 15 (.t 7)),yac 90 87 (.pcall f_28 [.t 88,.t 89]),yac 91 87 (yba 90),xW 92 87 91] 92 [ya0 4]))) [xM 49 9,yck 50 .add 49,xM 9 50]
def c_6_k1:Xv:=ycf (yaf 93 f_19 []) 4 93
def c_6:AFn:=⟨2,[.tmp 4],ya4 [yda 2,ya0 4] [ydm 17 2,ycd 18,ybn 19 f_18 17 18] 19 [yaf 20 f_19 [],yc7 20] (yaa [ydm 22 2,ybt 23 f_17 [.t 22],xM 21 23,xE 24 0 21,xE 25 1 21,ydj 24,xM 6 25] (ydl [ydm 27 2,yb2 28 f_25 27,xM 26 28,xE 29 0 26,xE 30 1 26,yav 7 [.str [],.Xu 2 [],.Xu 2 [],.Xu 3 [],.Xu 3 [],.Xu 6 [],.Xu 7 [],.Xu 5 [],.Xu 1 [],.Xu 1 [],.Xu 1 [],.Xu 2 [],.Xu 1 [],.Xu 1 [],ybo],xS 15 7 29,xM 8 30] [xM 31 6,xM 32 8,xB 33 .neq 31 32,xM 34 33,ya3 35 34 5,yac 36 34 (.eqn false (.t 35) (.c .nilptr)),ya3 37 34 8,ybf 38 34 .neq 37 0,yac 39 34 (.eqs true false [.b] (.t 36) (.t 38)),xW 40 34 39] 40 [ya0 4] [ya8 9] 0 c_6_l0 c_6_k1))⟩
def c_12:AFn:=⟨3,[.cell 6 true 4,.tmp 7,.tmp 8,.tmp 9],yaa [yda 3,xJ 4 1,yc2 6 (.Xu 1 []) (.Xu 1 []) (.Xu 2 []) (.Xu 1 []),xC 7 (.Xu 1 []),ya8 8,ya8 9] (ya4 [ydm 12 3,xA 13 4 4,ybt 14 f_41 [.t 12,.t 13],xM 11 14,xE 15 0 11,xE 16 1 11,xM 10 15,xM 9 16] [xM 17 9,yc3 18 .neq 17] 18 [xO 19 (.build [.Xu 1 [],.Xu 1 [],.Xu 2 [],.Xu 1 []] []),xM 20 9,xS 4 6 19,xC 7 (.Xu 1 []),ycc 8,xM 9 20] (ya4 [xM 22 10,xM 23 2,ybt 24 f_42 [.t 22,.t 23],xM 21 24,xE 25 0 21,xE 26 1 21,xE 27 2 21,xM 7 25,xM 8 26,xM 9 27] [xM 28 9,yc3 29 .neq 28] 29 [xO 30 (.build [.Xu 1 [],.Xu 1 [],.Xu 2 [],.Xu 1 []] []),xM 31 8,xM 32 9,xS 4 6 30,xC 7 (.Xu 1 []),xM 8 31,xM 9 32] (yad [xM 33 10,ybt 34 f_43 [.t 33],xM 35 7,xS 4 6 34,xM 7 35,ya8 8,ya8 9])))⟩
def c_17:AFn:=⟨1,[.tmp 2,.tmp 3],yao [ycu 1 0,xC 2 .nilptr,ya8 3] [ydm 5 1,yb2 6 f_52 5,xO 7 (.fld false 0 1 (.t 6)),yc7 7] (ya5 [xM 8 4,yc3 9 .neq 8] 9 [xM 10 4,xC 2 .nilptr,xM 3 10]) (yci [ydm 11 1,yb2 12 f_53 11,ydm 13 1,yb2 14 f_38 13,xO 15 (.build [.bool false,.str [],.Xu 2 [],.Xu 2 [],.Xu 3 [],.Xu 3 [],.Xu 6 [],.Xu 7 [],.Xu 5 [],.Xu 1 [],.Xu 1 [],.Xu 1 [],.Xu 2 [],.Xu 1 [],.Xu 1 [],.int .i64 0] [(0,1,(.c (.bool true))),(1,9,(.t 12)),(10,4,(.t 14))]),ycu 16 15,xM 2 16,ya8 3] .ret)⟩
def c_18_l0:Xv:=ycp [ycq 13,ycd 14,xN 15 14,xB 16 .lss 13 15] 16 0 1 (ya5 [ycd 19,ycq 20,xX 21 1 19 20,xL 22 21,yb2 23 f_55 22] 23 [ycm 4]) [ycq 17,yck 18 .add 17,ydj 18]
def c_18_k1:Xv:=ydk (ya0 4)
def c_18:AFn:=⟨2,[.tmp 4],ydl [yda 2,ya0 4] [ydm 6 2,yb2 7 f_54 6,xM 8 7,ya3 9 8 1,ybq 10 8 9,ybf 11 8 .gtr 10 12,xW 12 8 11] 12 [ycm 4] [yc5] 0 c_18_l0 c_18_k1⟩
def c_20:ADFn:=⟨2,[.tmp 4,.tmp 5,.cell 6 false 1],.seq (xR [xO 2 (.box (.t 0)),xC 4 (.Xu 1 []),xI 5 0,xO 6 (.alloc [.int .i64 0])]) (.seq (.seq (xR [xL 8 2,xO 9 (.eqn false (.t 8) (.c (.nilptr))),xM 10 9,xG 11 10 false (.load false 1 (.t 2)),xG 12 10 false (.nilchk (.t 11)),xG 13 10 false (.faddr 0 (.t 12)),xG 14 10 false (.load false 1 (.t 13)),xG 15 10 false (.un .not (.t 14)),xW 16 10 15]) (.cond (.t 16) (.seq (xR [xC 4 (.Xu 1 []),xI 5 0,⟨none,none,.store 1 (.t 6) (.c (.int .i64 1))⟩]) (.ret)) (.skip))) (.seq (xR [xL 17 2,xO 18 (.nilchk (.t 17)),xF 19 10 18,xA 20 4 19,xO 7 (.alloc [.Xu 1 [],.Xu 1 [],.Xu 2 [],.Xu 1 []]),xS 4 7 20]) (.dfr [⟨some 21,none,.mkfunc (.func f_58) [] [.t 6,.t 7,.t 2]⟩] 21 (.seq (xD [xL 23 2,xL 24 2,xO 25 (.nilchk (.t 24)),xF 26 1 25,xA 27 9 26,xL 28 2,xO 29 (.nilchk (.t 28)),xF 30 10 29,xA 31 4 30,xM 32 1,xO 33 (.pcall f_12 [.t 27,.t 31,.t 32]),xM 22 33,xE 34 0 22,xE 35 1 22,xE 36 2 22,xE 37 3 22,xO 38 (.nilchk (.t 23)),xF 39 10 38,xS 4 39 34,xM 4 35,xM 5 36,xS 1 6 37]) (.seq (.seq (xR [xL 40 6,xK 41 .neq 40 0]) (.cond (.t 41) (.seq (xD [xM 42 5,xL 43 6,xC 4 (.Xu 1 []),xM 5 42,xS 1 6 43]) (.ret)) (.skip))) (.seq (.region true [(0,8)] [⟨some 44,none,.load false 1 (.t 2)⟩,⟨some 45,none,.load false 1 (.t 2)⟩,⟨some 46,none,.nilchk (.t 45)⟩,⟨some 47,none,.faddr 14 (.t 46)⟩,⟨some 48,none,.load false 1 (.t 47)⟩,⟨some 49,none,.mov (.t 1)⟩,⟨some 50,none,.pcall f_24 [.t 49]⟩,⟨some 51,none,.pcall f_59 [.t 50]⟩,⟨some 52,none,.append .app 1 1 (.t 48) (.t 51)⟩,⟨some 53,none,.nilchk (.t 44)⟩,⟨some 54,none,.faddr 14 (.t 53)⟩,⟨none,none,.store 1 (.t 54) (.t 52)⟩] none) (.seq (xR [xL 55 2,xO 56 (.nilchk (.t 55)),xF 57 15 56,xL 58 57,xK 59 .add 58 1,xO 60 (.nilchk (.t 55)),xF 61 15 60,xS 1 61 59]) (.seq (xR [xM 62 4,xM 4 62,xI 5 0,⟨none,none,.store 1 (.t 6) (.c (.int .i64 0))⟩]) (.ret))))))))),f_58,3,none,.seq (xR [xL 3 0,xK 4 .neq 3 0]) (.cond (.t 4) (xR [xL 5 2,xA 6 4 1,xO 7 (.nilchk (.t 5)),xF 8 10 7,xS 4 8 6]) (.skip))⟩
def c_21:AFn:=⟨1,[.tmp 2],ya4 [xC 2 (.Xu 1 [])] [yb6 4,xO 5 (.eqn false (.t 4) (.c .nilptr))] 5 [xC 2 (.Xu 1 [])] (yaz [yb6 6,ycj 7 6,xF 8 14 7,xL 9 8,xN 10 9,xO 11 (.mkslice .row 1 1 [.int .u8 0] (.t 10) (.t 10)),xM 3 11] (xQ [yc6 12,yb6 13,ycj 14 13,xF 15 14 14,xL 16 15,xO 17 (.copy 1 (.t 12) (.t 16))] [3]) (ycf (yc6 18) 2 18))⟩
def c_22:AFn:=⟨1,[.tmp 2],ya4 [ya8 2] [yb6 3,xO 4 (.eqn false (.t 3) (.c .nilptr))] 4 [ya8 2] (yad [yb6 5,ycj 6 5,xF 7 15 6,xL 8 7,xM 2 8])⟩
def c_24_l0:Xv:=yct [xB 16 .lss 15 14] 16 0 1 (ya4 [xX 17 9 13 15,ydm 18 17,yav 5 [ybo,ybo,ybo,.Xu 2 [],ybo,ybo,.Xu 1 [],ybo,.Xu 1 []],xS 9 5 18] [ydm 19 5,yb2 20 f_63 19,ybs 21 20] 21 [xC 2 (.Xu 1 [])] (xR [yc6 22,ydm 23 5,ybt 24 f_64 [.t 22,.t 23],xM 3 24])) [yck 25 .add 15,xM 15 25]
def c_24_k1:Xv:=ycf (yc6 26) 2 26
def c_24:AFn:=⟨1,[.tmp 2],ya4 [xC 2 (.Xu 1 [])] [yb6 6,xN 7 6,xK 8 .gtr 7 64] 8 [xC 2 (.Xu 1 [])] (ybc [yb6 9,xN 10 9,yc0 11 .u8 10,xO 12 (.bslice .imm 1 (List.replicate 1 [.int .u8 0]) [(0,(.t 11))]),xM 3 12] [yb6 13,xN 14 13,ya8 15] 0 c_24_l0 c_24_k1)⟩
def c_25:AFn:=⟨1,[.cell 2 true 15,.tmp 3],yaz [yda 1,yav 2 [.str [],.Xu 2 [],.Xu 2 [],.Xu 3 [],.Xu 3 [],.Xu 6 [],.Xu 7 [],.Xu 5 [],.Xu 1 [],.Xu 1 [],.Xu 1 [],.Xu 2 [],.Xu 1 [],.Xu 1 [],ybo],ya8 3] (xQ [ydm 5 1,yb2 6 f_65 5,yc2 4 ybo ybo ybo ybo,xS 4 4 6] [4]) (yae [yca 7 4,xL 8 7,yc3 9 .neq 8] (yb3 9 (.seq (.region true [(2,3)] [⟨some 10,none,.build [.str [],.Xu 2 [],.Xu 2 [],.Xu 3 [],.Xu 3 [],.Xu 6 [],.Xu 7 [],.Xu 5 [],.Xu 1 [],.Xu 1 [],.Xu 1 [],.Xu 2 [],.Xu 1 [],.Xu 1 [],.int .i64 0] []⟩,⟨some 11,none,.faddr 0 (.t 4)⟩,⟨some 12,none,.load false 1 (.t 11)⟩,⟨none,none,.store 15 (.t 2) (.t 10)⟩,⟨some 3,none,.mov (.t 12)⟩] none) .ret)) (yci [ydm 13 1,ydm 14 1,yb2 15 f_66 14,xO 16 (.build [.str [],.Xu 2 [],.Xu 2 [],.Xu 3 [],.Xu 3 [],.Xu 6 [],.Xu 7 [],.Xu 5 [],.Xu 1 [],.Xu 1 [],.Xu 1 [],.Xu 2 [],.Xu 1 [],.Xu 1 [],.int .i64 0] [(0,9,(.t 13)),(9,4,(.t 15))]),xS 15 2 16,ya8 3] .ret))⟩
def c_26:AFn:=⟨2,[.cell 4 true 15,.tmp 5,.tmp 6,.tmp 7],yaz [ycu 2 0,yav 4 [.str [],.Xu 2 [],.Xu 2 [],.Xu 3 [],.Xu 3 [],.Xu 6 [],.Xu 7 [],.Xu 5 [],.Xu 1 [],.Xu 1 [],.Xu 1 [],.Xu 2 [],.Xu 1 [],.Xu 1 [],ybo],xC 5 (.Xu 1 []),ydc,ya8 7] (xQ [yca 13 2,ydm 14 13,xF 15 9 2,xA 16 4 15,ycd 17,ydh 18 f_67 14 16 17,xM 12 18,xE 19 0 12,xE 20 1 12,xE 21 2 12,xE 22 3 12,yc2 8 (.Xu 1 []) (.Xu 1 []) (.Xu 2 []) (.Xu 1 []),xS 4 8 19,xM 9 20,xM 10 21,xM 11 22] [8]) (ybi [xM 23 11,yc3 24 .neq 23] 24 [xA 25 15 2,xM 26 10,xM 27 11,xS 15 4 25,xC 5 (.Xu 1 []),xM 6 26,xM 7 27] (yaa [xA 28 4 8,xF 29 9 2,xS 4 29 28] (ybr [xO 30 (.bslice .imm 1 [] []),xF 31 13 2,xL 32 31,yb4 33 1 1 30 32,ycd 34,yb2 35 f_69 34,yb2 36 f_68 35,yb4 37 1 1 33 36,xF 38 13 2,xS 1 38 37] [xF 39 14 2,xL 40 39,yck 41 .add 40,xF 42 14 2,xS 1 42 41] (yad [xA 43 15 2,xM 44 9,xS 15 4 43,ydj 44,ydc,ya8 7]))))⟩
def c_27_l0:Xv:=ybe [ycq 11,yb6 12,xN 13 12,xB 14 .lss 11 13] 14 0 (ybk 1 (xD [yb6 17,ycq 18,xX 19 1 17 18,xL 20 19,ycd 21,ycq 22,xX 23 1 21 22,xL 24 23,xB 25 .neq 20 24]) (yai 25 [ya0 4]) [ycq 15,yck 16 .add 15,ydj 16])
def c_27_k1:Xv:=ydk (ycm 4)
def c_27:AFn:=⟨2,[.tmp 4],ydl [ya0 4] [yb6 6,xN 7 6,ycd 8,xN 9 8,xB 10 .neq 7 9] 10 [ya0 4] [yc5] 0 c_27_l0 c_27_k1⟩
def c_28:AFn:=⟨2,[.tmp 4],yaz [xJ 3 1,ya0 4] (.region true [(1,4),(1,5),(9,11),(16,18)] [⟨some 5,none,.mov (.t 0)⟩,⟨some 6,none,.tcall f_21 [.t 5]⟩,⟨some 7,none,.b2s (.t 6)⟩,⟨some 8,none,.faddr 13 (.t 3)⟩,⟨some 9,none,.load false 1 (.t 8)⟩,⟨some 10,none,.b2s (.t 9)⟩,⟨some 11,none,.bin .eql (.t 7) (.t 10)⟩,⟨some 12,none,.mov (.t 11)⟩,⟨some 13,some (12,true),.mov (.t 0)⟩,⟨some 14,some (12,true),.tcall f_22 [.t 13]⟩,⟨some 15,some (12,true),.faddr 14 (.t 3)⟩,⟨some 16,some (12,true),.load false 1 (.t 15)⟩,⟨some 17,some (12,true),.bin .eql (.t 14) (.t 16)⟩,⟨some 18,none,.pick (.t 12) (.t 17) (.c (.bool false))⟩,⟨some 19,none,.mov (.t 18)⟩,⟨some 20,some (19,true),.mov (.t 0)⟩,⟨some 21,some (19,true),.tcall f_31 [.t 20]⟩,⟨some 22,some (19,true),.faddr 9 (.t 3)⟩,⟨some 23,some (19,true),.load true 4 (.t 22)⟩,⟨some 24,some (19,true),.pcall f_32 [.t 21,.t 23]⟩,⟨some 25,none,.pick (.t 19) (.t 24) (.c (.bool false))⟩,⟨some 4,none,.mov (.t 25)⟩] none) .ret⟩
def c_31:AFn:=⟨1,[.cell 2 true 4],ya4 [yc2 2 (.Xu 1 []) (.Xu 1 []) (.Xu 2 []) (.Xu 1 [])] [yb6 5,xO 6 (.eqn false (.t 5) (.c .nilptr)),xM 7 6,ya3 8 7 0,yac 9 7 (ybb 8),yax 10 7 0 9,yby 11 7 10,yac 12 7 (yba 11),xW 13 7 12] 13 [xO 14 (.build [.Xu 1 [],.Xu 1 [],.Xu 2 [],.Xu 1 []] []),xS 4 2 14] (yci [yb6 16,ycj 17 16,ycg 18 17,ydm 19 18,yb6 20,ycj 21 20,xF 22 10 21,xA 23 4 22,ybt 24 f_41 [.t 19,.t 23],xM 15 24,xE 25 0 15,xE 26 1 15,xM 3 25,yc7 26] (ybi [xM 27 4,yc3 28 .neq 27] 28 [xO 29 (.build [.Xu 1 [],.Xu 1 [],.Xu 2 [],.Xu 1 []] []),xS 4 2 29] (yad [yc6 30,ybt 31 f_43 [.t 30],xS 4 2 31])))⟩
def c_32:AFn:=⟨2,[.tmp 4],yb0 [ycu 2 0,ycu 3 1,ya0 4] [yca 5 2,xL 6 5,ydi 7,xL 8 7,ydg 9 f_73 6 8 (.c (.func (.func f_74) [] [])),xM 10 9,ybj 11 10 1 2,ybz 12 10 1 11,ybj 13 10 1 3,ybz 14 10 1 13,ych 15 10 f_75 [.t 12,.t 14],xV 16 10 15,xM 17 16,ybj 18 17 2 2,ybz 19 17 1 18,ybj 20 17 2 3,ybz 21 17 1 20,ych 22 17 f_76 [.t 19,.t 21,.c (.func (.func f_77) [] [])],xV 23 17 22,xM 24 23,ybj 25 24 3 2,ybz 26 24 1 25,ybj 27 24 3 3,ybz 28 24 1 27,ych 29 24 f_78 [.t 26,.t 28,.c (.func (.func f_79) [] [])],xV 30 24 29,yc7 30]⟩
def c_38_l0:Xv:=ydn [xB 13 .lss 12 11] 13 0 1 [xX 14 6 10 12,xA 15 6 14,yav 5 [.str [],.Xu 3 [],.Xu 1 [],ybo,.Xu 1 [],ybo],xS 6 5 15] [5] (ybr [ydi 16,xL 17 16,xO 18 (.bslice .imm 1 (List.replicate 1 [.Xu 5 []]) [(0,(.c (.Xu 5 [])))]),ybw 19 .row 1 24 17 18,ydi 20,xS 1 20 19] [ycg 21 3,xL 22 21,xO 23 (.bslice .imm 1 (List.replicate 1 [.int .i64 0]) [(0,(.c (.int .i64 1)))]),ybw 24 .row 1 8 22 23,ycg 25 3,xS 1 25 24] (xD [xF 26 2 3,xL 27 26,xF 28 3 5,xA 29 2 28,yb2 30 f_85 29,xO 31 (.bslice .imm 2 (List.replicate 1 [.int .i64 0,.Xu 1 []]) [(0,(.t 30))]),yb4 32 2 32 27 31,xF 33 2 3,xS 1 33 32])) [yck 34 .add 12,xM 12 34]
def c_38_k1:Xv:=yb8 (xA 35 4 3) (xS 4 2 35)
def c_38:AFn:=⟨1,[.cell 2 true 4],ycr (yda 1) (yc2 2 (.Xu 1 []) (.Xu 1 []) (.Xu 2 []) (.Xu 1 [])) (ybc [ydm 6 1,yb2 7 f_84 6,xO 8 (.build [.Xu 1 [],.Xu 1 [],.Xu 2 [],.Xu 1 []] [(3,1,(.t 7))]),yc2 3 (.Xu 1 []) (.Xu 1 []) (.Xu 2 []) (.Xu 1 []),xS 4 3 8] [xF 9 5 1,xL 10 9,xN 11 10,ya8 12] 0 c_38_l0 c_38_k1)⟩
def c_41:AFn:=⟨2,[.tmp 4,.tmp 5],yao [yda 2,xJ 3 1,xC 4 .nilptr,yc5] [ydm 7 2,xA 8 4 3,ybn 9 f_87 7 8,xM 6 9] (ya5 [xM 10 6,yc3 11 .neq 10] 11 [xM 12 6,xC 4 .nilptr,ydj 12]) (yad [ydm 13 2,xA 14 4 3,ybt 15 f_88 [.t 13,.t 14],yc7 15,yc5])⟩
def c_42_l0:Xv:=yct [xB 37 .lss 36 35] 37 0 1 (yaa [xM 38 36,xX 39 9 34 36,ydm 40 39,yav 11 [ybo,ybo,ybo,.Xu 2 [],ybo,ybo,.Xu 1 [],ybo,.Xu 1 []],xM 10 38,xS 9 11 40] (ya4 [xL 42 2,ydm 43 11,ybt 44 f_45 [.t 42,.t 43],xM 41 44,xE 45 0 41,xE 46 1 41,xM 12 45,xM 13 46] [xM 47 13,yc3 48 .neq 47] 48 [xM 49 10,xM 50 13,xC 4 (.Xu 1 []),ydj 49,xS 1 6 50] (xR [xM 51 9,xM 52 12,xO 53 (.bslice .imm 1 (List.replicate 1 [.int .i64 0]) [(0,(.t 52))]),yb4 54 1 8 51 53,xM 9 54]))) [yck 55 .add 36,xM 36 55]
def c_42_k1:Xv:=yad [xM 56 9,yc7 56,yc5,⟨none,none,.store 1 (.t 6) (.c (.int .i64 0))⟩]
def c_42:ADFn:=⟨2,[.tmp 4,.tmp 5,.cell 6 false 1],.seq (xR [xO 2 (.box (.t 0)),xC 4 (.Xu 1 []),xI 5 0,xO 6 (.alloc [.int .i64 0])]) (.seq (xR [xL 14 2,xO 15 (.tcall f_89 [.t 14]),xO 7 (.alloc [.nilptr]),xS 1 7 15]) (.seq (.seq (xR [xL 16 2,xO 17 (.build [.int .i64 0,.Xu 1 []] []),xO 18 (.tcall f_90 [.t 16,.c (.int .i64 (-1)),.c (.int .i64 0),.t 17]),xK 19 .eql 18 1,xM 20 19,xG 21 20 false (.load false 1 (.t 7)),xG 22 20 false (.eqn false (.t 21) (.c (.nilptr))),xW 23 20 22]) (.cond (.t 23) (.seq (xR [xC 4 (.Xu 1 []),xI 5 (-1),⟨none,none,.store 1 (.t 6) (.c (.int .i64 1))⟩]) (.ret)) (.skip))) (.seq (.seq (xR [xM 24 1,xN 25 24,xK 26 .gtr 25 64]) (.cond (.t 26) (.seq (xR [xC 4 (.Xu 1 []),xI 5 (-1),⟨none,none,.store 1 (.t 6) (.c (.int .i64 12))⟩]) (.ret)) (.skip))) (.dfr [⟨some 27,none,.mkfunc (.func f_91) [] [.t 6,.t 7,.t 2]⟩] 27 (.seq (xR [xM 28 1,xN 29 28,xO 30 (.mkslice .row 9 120 [.int .i64 0,.int .i64 0,.int .i64 0,.Xu 2 [],.int .i64 0,.int .i64 0,.Xu 1 [],.int .i64 0,.Xu 1 []] (.t 29) (.t 29)),xM 8 30]) (.seq (xR [xM 31 8,xM 32 1,xO 33 (.copy 9 (.t 31) (.t 32))]) (.seq (xR [xO 9 (.nilapp 1)]) (.seq (.seq (xR [xM 34 8,xN 35 34,xI 36 0]) (.block 0 (.loop c_42_l0))) c_42_k1)))))))),f_91,3,none,.seq (xR [xL 3 0,xK 4 .neq 3 0]) (.cond (.t 4) (xD [xL 5 2,xL 6 1,xO 7 (.nilchk (.t 6)),xA 8 15 7,xO 9 (.nilchk (.t 5)),xS 15 9 8]) (.skip))⟩
def c_43:AFn:=⟨1,[.cell 2 true 4],ya4 [yc2 2 (.Xu 1 []) (.Xu 1 []) (.Xu 2 []) (.Xu 1 [])] [yb6 3,xO 4 (.eqn false (.t 3) (.c .nilptr)),ydj 4,ya3 6 5 0,yac 7 5 (ybb 6),yax 8 5 14 7,yby 9 5 8,yac 10 5 (yba 9),xW 11 5 10] 11 [xO 12 (.build [.Xu 1 [],.Xu 1 [],.Xu 2 [],.Xu 1 []] []),xS 4 2 12] (yad [yb6 13,ycj 14 13,yca 15 14,xA 16 4 15,ybt 17 f_92 [.t 16],xS 4 2 17])⟩
def c_45:AFn:=⟨2,[.tmp 4,.tmp 5],yao [ycu 3 1,yb5,yc5] [ydi 6,xL 7 6] (.block 0 (ybh [yck 9 .eql 7,xM 8 9] 8 [yb6 10,ycg 11 3,xL 12 11,xF 13 3 3,xA 14 4 13,ybt 15 f_93 [.t 10,.t 12,.t 14],xE 16 0 15,xE 17 1 15,yc7 16,ydj 17] (ybh [xK 19 .eql 7 2,xM 18 19] 18 [yb6 20,ycg 21 3,xL 22 21,xF 23 2 3,xL 24 23,xF 25 7 3,xA 26 2 25,ybt 27 f_90 [.t 20,.t 22,.t 24,.t 26],yb5,ydj 27] (yc1 [xK 29 .eql 7 3,xM 28 29] 28 [yb6 30,ycg 31 3,xL 32 31,xF 33 2 3,xL 34 33,ybt 35 f_94 [.t 30,.t 32,.t 34],yb5,ydj 35] [xK 37 .eql 7 4,xM 36 37] 36 [yb6 38,ycg 39 3,xL 40 39,xF 41 7 3,xA 42 2 41,ybt 43 f_95 [.t 38,.t 40,.t 42],yb5,ydj 43])))) (yb8 yb5 (xI 5 11))⟩
def c_52:ADFn:=⟨1,[.cell 2 true 4],.seq (xR [xO 1 (.box (.t 0)),xO 2 (.alloc [.int .i64 0,.int .i64 0,.int .i64 0,.int .i64 0])]) (.dfr [⟨some 3,none,.mkfunc (.func f_98) [] [.t 2]⟩] 3 (.seq (xR [xA 4 9 1,xO 5 (.pcall f_99 [.t 4])]) (.seq (xR [xA 6 9 1,xO 7 (.pcall f_100 [.t 6])]) (.seq (xR [xA 8 9 1,xO 9 (.pcall f_101 [.t 8])]) (.seq (xR [xA 10 9 1,xO 11 (.pcall f_102 [.t 10])]) (.seq (xR [xA 12 9 1,xO 13 (.pcall f_103 [.t 12])]) (.seq (xR [xO 14 (.build [.int .i64 0,.int .i64 0,.int .i64 0,.int .i64 0] []),xS 4 2 14]) (.ret)))))))),f_98,1,(some (4,1)),.seq (.seq (xR [xM 5 1,xO 6 (.eqs false false [] (.t 5) (.c (.niliface)))]) (.cond (.t 6) (.ret) (.skip))) (.seq (.seq (xR [xM 8 1,xO 9 (.tassert 172 true (.agg [.int .i64 0,.int .i64 0,.int .i64 0,.int .i64 0]) (.t 8)),xM 7 9,xE 10 0 7,xE 11 1 7,xO 2 (.alloc [.int .i64 0,.int .i64 0,.int .i64 0,.int .i64 0]),xS 4 2 10,xM 3 11]) (.seq (xR [xM 12 3]) (.cond (.t 12) (.seq (xR [xF 13 0 2,xA 14 4 13,xS 4 0 14]) (.ret)) (.skip)))) (xR [xM 15 1,⟨none,none,.panic (.t 15)⟩]))⟩
def c_53:AFn:=⟨1,[.cell 2 true 9],yaz [yda 1,yav 2 [.str [],.Xu 2 [],.Xu 2 [],.Xu 3 [],.Xu 3 [],.Xu 6 [],.Xu 7 [],.Xu 5 [],.Xu 1 []]] (xD [yca 3 1,xL 4 3,ycg 5 1,xL 6 5,ybm 7 f_104 6 (.c (.func (.func f_105) [] [])),xF 8 2 1,xL 9 8,yb2 10 f_106 9,xF 11 3 1,xL 12 11,yb2 13 f_107 12,xF 14 4 1,xL 15 14,ybm 16 f_108 15 (.c (.func (.func f_109) [] [])),xF 17 5 1,xL 18 17,ybm 19 f_110 18 (.c (.func (.func f_111) [] [])),xF 20 6 1,xL 21 20,ybm 22 f_112 21 (.c (.func (.func f_113) [] [])),xF 23 7 1,xL 24 23,ybm 25 f_114 24 (.c (.func (.func f_115) [] [])),xF 26 8 1,xL 27 26,yb2 28 f_116 27,xO 29 (.build [.str [],.Xu 2 [],.Xu 2 [],.Xu 3 [],.Xu 3 [],.Xu 6 [],.Xu 7 [],.Xu 5 [],.Xu 1 []] [(0,1,(.t 4)),(1,1,(.t 7)),(2,1,(.t 10)),(3,1,(.t 13)),(4,1,(.t 16)),(5,1,(.t 19)),(6,1,(.t 22)),(7,1,(.t 25)),(8,1,(.t 28))]),xS 9 2 29]) .ret⟩
def c_54_l0:Xv:=ycp [yc6 59,ycg 60 1,xL 61 60,xN 62 61,xB 63 .lss 59 62] 63 0 1 (ya5 [ycg 66 1,xL 67 66,yc6 68,xX 69 2 67 68,xA 70 2 69,yb2 71 f_118 70,ybs 72 71] 72 [ycm 2]) [yc6 64,yck 65 .add 64,xM 3 65]
def c_54_l1:Xv:=ycp [xM 73 4,xF 74 4 1,xL 75 74,xN 76 75,xB 77 .lss 73 76] 77 2 3 (ya5 [xF 80 4 1,xL 81 80,xM 82 4,xX 83 3 81 82,xA 84 3 83,yb2 85 f_119 84] 85 [ycm 2]) [xM 78 4,yck 79 .add 78,yc7 79]
def c_54_l2:Xv:=ycp [ycq 86,xF 87 5 1,xL 88 87,xN 89 88,xB 90 .lss 86 89] 90 4 5 (ya5 [xF 93 5 1,xL 94 93,ycq 95,xX 96 6 94 95,ycg 97 96,xL 98 97,xN 99 98,xK 100 .gtr 99 10,xM 101 100,yax 102 101 5 1,yby 103 101 102,ya3 104 101 5,yac 105 101 (yc8 6 103 104),yax 106 101 2 105,yby 107 101 106,ybq 108 101 107,ybf 109 101 .gtr 108 24,xW 110 101 109,xM 111 110,yax 112 111 5 1,yby 113 111 112,ya3 114 111 5,yac 115 111 (yc8 6 113 114),yax 116 111 3 115,yax 117 111 1 116,yby 118 111 117,ybq 119 111 118,ybf 120 111 .gtr 119 8,xW 121 111 120,xM 122 121,yax 123 122 5 1,yby 124 122 123,ya3 125 122 5,yac 126 122 (yc8 6 124 125),yax 127 122 0 126,yby 128 122 127,yac 129 122 (.slen (.t 128)),ybf 130 122 .gtr 129 60,xW 131 122 130] 131 [ycm 2]) [ycq 91,yck 92 .add 91,ydj 92]
def c_54_l3:Xv:=ycp [xM 132 6,xF 133 6 1,xL 134 133,xN 135 134,xB 136 .lss 132 135] 136 6 7 (ya5 [xF 139 6 1,xL 140 139,xM 141 6,xX 142 7 140 141,xA 143 7 142,yb2 144 f_120 143] 144 [ycm 2]) [xM 137 6,yck 138 .add 137,xM 6 138]
def c_54_k4:Xv:=ydk (ya0 2)
def c_54_k5:Xv:=ybx [ydc] 6 c_54_l3 c_54_k4
def c_54_k6:Xv:=ybx [yc5] 4 c_54_l2 c_54_k5
def c_54_k7:Xv:=ybx [yb5] 2 c_54_l1 c_54_k6
def c_54:AFn:=⟨1,[.tmp 2],ydl [yda 1,ya0 2] [yca 7 1,xL 8 7,xO 9 (.slen (.t 8)),xK 10 .gtr 9 60,xM 11 10,yax 12 11 1 1,yby 13 11 12,ybq 14 11 13,ybf 15 11 .gtr 14 16,xW 16 11 15,xM 17 16,yax 18 17 2 1,yby 19 17 18,ybq 20 17 19,ybf 21 17 .gtr 20 20,xW 22 17 21,xM 23 22,yax 24 23 3 1,yby 25 23 24,ybq 26 23 25,ybf 27 23 .gtr 26 8,xW 28 23 27,xM 29 28,yax 30 29 4 1,yby 31 29 30,ybq 32 29 31,ybf 33 29 .gtr 32 24,xW 34 29 33,xM 35 34,yax 36 35 5 1,yby 37 35 36,ybq 38 35 37,ybf 39 35 .gtr 38 16,xW 40 35 39,xM 41 40,yax 42 41 6 1,yby 43 41 42,ybq 44 41 43,ybf 45 41 .gtr 44 16,xW 46 41 45,xM 47 46,yax 48 47 8 1,yby 49 47 48,ybq 50 47 49,ybf 51 47 .gtr 50 16,xW 52 47 51,xM 53 52,yax 54 53 7 1,yby 55 53 54,yac 56 53 (.pcall f_117 [.t 55,yan 10]),ybf 57 53 .gtr 56 60,xW 58 53 57] 58 [ycm 2] [ya8 3] 0 c_54_l0 c_54_k7⟩
def c_55_l0:Xv:=ycp [yc6 7,yb6 8,xN 9 8,xB 10 .lss 7 9] 10 0 1 (ya5 [yb6 13,yc6 14,xX 15 9 13 14,xF 16 3 15,yca 17 16,xL 18 17,xN 19 18,xK 20 .gtr 19 300,xM 21 20,ya3 22 21 0,ya3 23 21 3,yac 24 21 (yc8 9 22 23),yax 25 21 3 24,yax 26 21 2 25,yax 27 21 1 26,yby 28 21 27,ybq 29 21 28,ybf 30 21 .gtr 29 300,xW 31 21 30,xM 32 31,ya3 33 32 0,ya3 34 32 3,yac 35 32 (yc8 9 33 34),yax 36 32 7 35,yax 37 32 1 36,yby 38 32 37,ybq 39 32 38,ybf 40 32 .gtr 39 300,xW 41 32 40] 41 [ycm 2]) [yc6 11,yck 12 .add 11,xM 3 12]
def c_55_k1:Xv:=ydk (ya0 2)
def c_55:AFn:=⟨1,[.tmp 2],ydl [ya0 2] [yb6 4,xN 5 4,xK 6 .gtr 5 80] 6 [ycm 2] [ya8 3] 0 c_55_l0 c_55_k1⟩
def c_59:AFn:=⟨1,[.tmp 2],ybr [xC 2 (.Xu 1 [])] [yb6 4,xN 5 4,yc0 6 .u32 5,ybt 7 f_125 [.t 6],yb6 8,yb4 9 1 1 7 8,xM 3 9] (yad [yc6 10,yc6 11,yb2 12 f_61 11,ybt 13 f_125 [.t 12],yb4 14 1 1 10 13,xM 2 14])⟩
def c_61:AFn:=⟨1,[.tmp 2],yaa [xC 2 (yce 0)] (ybr [xO 4 (.build [.int .u32 0] [(0,1,(.c (.int .u32 2166136261)))]),xO 5 (.build [.int .u32 0,.int .i64 0] [(0,1,(.t 4))]),yav 3 [yce 0,ybo],xS 2 3 5] [yb6 6,ybt 7 f_126 [.t 3,.t 6]] (yad [ydi 8,yca 9 8,xL 10 9,xM 2 10]))⟩
def c_63:AFn:=⟨1,[.tmp 2],ycr (ycu 1 0) (ya0 2) (yao [xF 4 2 1,xL 5 4,yc3 6 .geq 5,xM 7 6,ybj 8 7 2 1,ybz 9 7 1 8,ycx 10 7 .leq 9 2147483647,xV 11 7 10,xM 3 11] [yca 12 1,xL 13 12] (.block 0 (ybh [yck 15 .eql 13,xM 14 15] 14 [ycg 16 1,xL 17 16,yb2 18 f_127 17,xM 19 18,ybj 20 19 3 1,ybj 21 19 1 20,ybz 22 19 1 21,ych 23 19 f_127 [.t 22],xV 24 19 23,xM 25 24,ybj 26 25 3 1,ybj 27 25 0 26,ybz 28 25 1 27,yap 29 25 (ya7 28),ycx 30 25 .leq 29 255,xV 31 25 30,xM 32 31,ybj 33 32 3 1,ybj 34 32 2 33,yap 35 32 (ydb 2 (.t 34)),ych 36 32 f_128 [.t 35],xV 37 32 36,xM 2 37] (ybh [xK 39 .eql 13 2,xM 38 39] 38 [ycg 40 1,xL 41 40,yb2 42 f_127 41,xM 43 42,ybp 44 43 3,xV 45 43 44,xM 46 45,ybj 47 46 7 1,yap 48 46 (ydb 2 (.t 47)),ych 49 46 f_128 [.t 48],xV 50 46 49,xM 2 50] (yc1 [xK 52 .eql 13 3,xM 51 52] 51 [ycg 53 1,xL 54 53,yb2 55 f_127 54,xM 56 55,ybp 57 56 3,xV 58 56 57,xM 2 58] [xK 60 .eql 13 4,xM 59 60] 59 [ycg 61 1,xL 62 61,yb2 63 f_127 62,xM 64 63,ybj 65 64 7 1,yap 66 64 (ydb 2 (.t 65)),ych 67 64 f_128 [.t 66],xV 68 64 67,xM 2 68])))) (ydk (ya0 2)))⟩
def c_64_l0:Xv:=yct [xB 39 .lss 38 37] 39 1 2 (ybr [xX 40 2 36 38,xA 41 2 40,yav 6 [yce 0,yce 0],xS 2 6 41] [yb6 42,yca 43 6,xL 44 43,yc0 45 .i64 44,ybt 46 f_129 [.t 42,.t 45,yan 4],xM 0 46] (xR [yb6 47,ycg 48 6,xL 49 48,yc0 50 .i64 49,ybt 51 f_129 [.t 47,.t 50,yan 4],xM 0 51])) [yck 52 .add 38,xM 38 52]
def c_64_k1:Xv:=yad [yb6 53,xF 54 3 3,xF 55 2 54,xA 56 2 55,ybt 57 f_130 [.t 53,.t 56],yc7 57]
def c_64_k2:Xv:=yad [yb6 73,xF 74 7 3,xA 75 2 74,ybt 76 f_130 [.t 73,.t 75],yc7 76]
def c_64:AFn:=⟨2,[.tmp 4],ybr [ycu 3 1,xC 4 (.Xu 1 [])] [yb6 7,ydi 8,xL 9 8,yc0 10 .u8 9,xO 11 (.bslice .imm 1 (List.replicate 1 [.int .u8 0]) [(0,(.t 10))]),yb4 12 1 1 7 11,xM 0 12] (yao [yb6 13,ycg 14 3,xL 15 14,ybt 16 f_129 [.t 13,.t 15,yan 2],xM 0 16] [ydi 17,xL 18 17] (.block 0 (ycs (yck 20 .eql 18) 19 20 (yab 19 (yc9 [yb6 21,xF 22 3 3,ycg 23 22,xL 24 23,ybt 25 f_129 [.t 21,.t 24,yan 2],xM 0 25] [yb6 26,xF 27 3 3,yca 28 27,xL 29 28,xN 30 29,yc0 31 .u8 30,xO 32 (.bslice .imm 1 (List.replicate 1 [.int .u8 0]) [(0,(.t 31))]),yb4 33 1 1 26 32,xM 0 33] [xF 34 3 3,yca 35 34,xL 36 35,xN 37 36,ya8 38] 1 c_64_l0 c_64_k1) (ycs (xK 59 .eql 18 2) 58 59 (yab 58 (.seq (.region true [(3,5)] [⟨some 60,none,.mov (.t 0)⟩,⟨some 61,none,.faddr 2 (.t 3)⟩,⟨some 62,none,.load false 1 (.t 61)⟩,⟨some 63,none,.tcall f_129 [.t 60,.t 62,.c (.int .i64 4)]⟩,⟨some 64,none,.faddr 7 (.t 3)⟩,⟨some 65,none,.load true 2 (.t 64)⟩,⟨some 66,none,.tcall f_130 [.t 63,.t 65]⟩,⟨some 4,none,.mov (.t 66)⟩] none) .ret) (ya5 [xK 68 .eql 18 3,xM 67 68] 67 [yb6 69,xF 70 2 3,xL 71 70,ybt 72 f_129 [.t 69,.t 71,yan 4],yc7 72])))))) c_64_k2)⟩
def c_65:AFn:=⟨1,[.cell 2 true 4],ycr (yda 1) (yc2 2 ybo ybo ybo ybo) (yao [ydm 4 1,yb2 5 f_131 4,yc2 3 ybo ybo ybo ybo,xS 4 3 5] [ydi 6,xL 7 6,yc3 8 .eql 7] (yb3 8 (xR [ydm 9 1,yb2 10 f_132 9,xS 4 3 10])) (yae [ydi 11,xL 12 11,yc3 13 .eql 12] (yb3 13 (xR [ydm 14 1,yb2 15 f_133 14,xS 4 3 15])) (yae [ydi 16,xL 17 16,yc3 18 .eql 17] (yb3 18 (xR [ydm 19 1,yb2 20 f_134 19,xS 4 3 20])) (yae [ydi 21,xL 22 21,yc3 23 .eql 22] (yb3 23 (xR [ydm 24 1,yb2 25 f_135 24,xS 4 3 25])) (yae [ydi 26,xL 27 26,yc3 28 .eql 27] (yb3 28 (xR [ydm 29 1,yb2 30 f_136 29,xS 4 3 30])) (yae [ydi 31,xL 32 31,yc3 33 .eql 32] (yb3 33 (xR [ydm 34 1,yb2 35 f_137 34,xS 4 3 35])) (yb8 (xA 36 4 3) (xS 4 2 36))))))))⟩
def c_66_l0:Xv:=ycp [xM 8 4,xF 9 5 1,xL 10 9,xN 11 10,xB 12 .lss 8 11] 12 0 1 (ybr [ydi 15,xL 16 15,xO 17 (.bslice .imm 1 (List.replicate 1 [.Xu 5 []]) [(0,(.c (.Xu 5 [])))]),yb4 18 1 24 16 17,ydi 19,xS 1 19 18] [ycg 20 3,xL 21 20,xO 22 (.bslice .imm 1 (List.replicate 1 [.int .i64 0]) [(0,(.c (.int .i64 1)))]),yb4 23 1 8 21 22,ycg 24 3,xS 1 24 23] (xD [xF 25 2 3,xL 26 25,xF 27 5 1,xL 28 27,xM 29 4,xX 30 6 28 29,xF 31 3 30,xA 32 2 31,xO 33 (.bslice .imm 2 (List.replicate 1 [.int .i64 0,.Xu 1 []]) [(0,(.t 32))]),yb4 34 2 32 26 33,xF 35 2 3,xS 1 35 34])) [xM 13 4,yck 14 .add 13,yc7 14]
def c_66_k1:Xv:=yb8 (xA 36 4 3) (xS 4 2 36)
def c_66:AFn:=⟨1,[.cell 2 true 4],ycr (yda 1) (yc2 2 (.Xu 1 []) (.Xu 1 []) (.Xu 2 []) (.Xu 1 [])) (ybc [ydm 5 1,yb2 6 f_138 5,xO 7 (.build [.Xu 1 [],.Xu 1 [],.Xu 2 [],.Xu 1 []] [(3,1,(.t 6))]),yc2 3 (.Xu 1 []) (.Xu 1 []) (.Xu 2 []) (.Xu 1 []),xS 4 3 7] [yb5] 0 c_66_l0 c_66_k1)⟩
def c_67:AFn:=⟨3,[.cell 6 true 4,.tmp 7,.tmp 8,.tmp 9],yaz [yda 3,xJ 4 1,yc2 6 (.Xu 1 []) (.Xu 1 []) (.Xu 2 []) (.Xu 1 []),xC 7 (.Xu 1 []),ya8 8,ya8 9] (xQ [ydm 14 3,xA 15 4 4,xM 16 2,ydh 17 f_139 14 15 16,xM 13 17,xE 18 0 13,xE 19 1 13,xE 20 2 13,yav 10 [.Xu 4 [],.Xu 1 []],xS 2 10 18,xM 11 19,xM 12 20] [10]) (ybi [xM 21 12,yc3 22 .neq 21] 22 [xO 23 (.build [.Xu 1 [],.Xu 1 [],.Xu 2 [],.Xu 1 []] []),xM 24 11,xM 25 12,xS 4 6 23,xC 7 (.Xu 1 []),xM 8 24,xM 9 25] (.seq (.region true [(7,8)] [⟨some 26,none,.faddr 0 (.t 10)⟩,⟨some 27,none,.load false 1 (.t 26)⟩,⟨some 28,none,.mov (.t 2)⟩,⟨some 29,none,.len (.t 28)⟩,⟨some 30,none,.iaddr 4 none (.t 27) (.t 29)⟩,⟨some 31,none,.load true 4 (.t 30)⟩,⟨some 32,none,.faddr 1 (.t 10)⟩,⟨some 33,none,.load false 1 (.t 32)⟩,⟨none,none,.store 4 (.t 6) (.t 31)⟩,⟨some 7,none,.mov (.t 33)⟩,⟨some 8,none,.mov (.c (.int .i64 0))⟩,⟨some 9,none,.mov (.c (.int .i64 0))⟩] none) .ret))⟩
def c_68:AFn:=⟨1,[.tmp 2],ybr [xC 2 (.Xu 1 [])] [ycv 3 1] (ybr [yc6 4,yb6 5,xN 6 5,yc0 7 .u32 6,yb2 8 f_140 7,yb4 9 1 1 4 8,xM 3 9] [yc6 10,yb6 11,yb4 12 1 1 10 11,xM 3 12] (yad [yc6 13,yc6 14,yb2 15 f_141 14,yb2 16 f_140 15,yb4 17 1 1 13 16,xM 2 17]))⟩
def c_69_l0:Xv:=ycp [xM 12 4,yb6 13,xN 14 13,xB 15 .lss 12 14] 15 0 1 (ybi [yb6 18,xM 19 4,xX 20 9 18 19,ydm 21 20,yb2 22 f_142 21,ybs 23 22] 23 [xC 2 (.Xu 1 [])] (xR [yc6 24,yb6 25,xM 26 4,xX 27 9 25 26,ydm 28 27,yb2 29 f_143 28,yb4 30 1 1 24 29,xM 3 30])) [xM 16 4,yck 17 .add 16,yc7 17]
def c_69_k1:Xv:=ycf (yc6 31) 2 31
def c_69:AFn:=⟨1,[.tmp 2],ya4 [xC 2 (.Xu 1 [])] [yb6 5,xN 6 5,xK 7 .gtr 6 64] 7 [xC 2 (.Xu 1 [])] (ybc [yb6 8,xN 9 8,yc0 10 .u8 9,xO 11 (.bslice .imm 1 (List.replicate 1 [.int .u8 0]) [(0,(.t 10))]),xM 3 11] [yb5] 0 c_69_l0 c_69_k1)⟩
def c_73_l0:Xv:=yct [xB 18 .lss 17 16] 18 0 1 (ybr [xM 19 17,xX 20 1 15 17,xL 21 20,xM 7 19,xM 8 21] [ycd 22,xM 23 7,xX 24 1 22 23,xL 25 24,xM 9 25] (ya5 [xM 26 2,xM 27 8,xM 28 9,xO 29 (ycy 26 [.t 27,.t 28]),ybs 30 29] 30 [ya0 6])) [yck 31 .add 17,xM 17 31]
def c_73_k1:Xv:=ydk (ycm 6)
def c_73:AFn:=⟨3,[.tmp 6],ydl [ya0 6] [yb6 10,xN 11 10,ycd 12,xN 13 12,xB 14 .neq 11 13] 14 [ya0 6] [yb6 15,xN 16 15,ya8 17] 0 c_73_l0 c_73_k1⟩
def c_74:AFn:=⟨2,[.tmp 4],yb0 [ya0 4] [yb6 5,ycd 6,ydg 7 f_147 5 6 (.c (.func (.func f_148) [] [])),yc7 7]⟩
def c_75_l0:Xv:=yct [xB 14 .lss 13 12] 14 0 1 (yaz [xM 15 13,ydj 15] (xD [yb6 16,ycq 17,xX 18 1 16 17,xL 19 18,ycd 20,ycq 21,xX 22 1 20 21,xL 23 22,xB 24 .neq 19 23]) (yai 24 [ya0 4])) [yck 25 .add 13,xM 13 25]
def c_75_k1:Xv:=ydk (ycm 4)
def c_75:AFn:=⟨2,[.tmp 4],ydl [ya0 4] [yb6 6,xN 7 6,ycd 8,xN 9 8,xB 10 .neq 7 9] 10 [ya0 4] [yb6 11,xN 12 11,ya8 13] 0 c_75_l0 c_75_k1⟩
def c_76_l0:Xv:=yct [xB 18 .lss 17 16] 18 0 1 (ybr [xM 19 17,xX 20 2 15 17,xA 21 2 20,yav 8 [ybo,.Xu 1 []],xM 7 19,xS 2 8 21] [ycd 22,xM 23 7,xX 24 2 22 23,xA 25 2 24,yav 9 [ybo,.Xu 1 []],xS 2 9 25] (ya5 [xM 26 2,xA 27 2 8,xA 28 2 9,xO 29 (ycy 26 [.t 27,.t 28]),ybs 30 29] 30 [ya0 6])) [yck 31 .add 17,xM 17 31]
def c_76_k1:Xv:=ydk (ycm 6)
def c_76:AFn:=⟨3,[.tmp 6],ydl [ya0 6] [yb6 10,xN 11 10,ycd 12,xN 13 12,xB 14 .neq 11 13] 14 [ya0 6] [yb6 15,xN 16 15,ya8 17] 0 c_76_l0 c_76_k1⟩
def c_77:AFn:=⟨2,[.tmp 4],yb0 [ycu 2 0,ycu 3 1,ya0 4] [yca 5 2,xL 6 5,ydi 7,xL 8 7,xB 9 .eql 6 8,xM 10 9,ybj 11 10 1 2,ybz 12 10 1 11,ybj 13 10 1 3,ybz 14 10 1 13,ych 15 10 f_80 [.t 12,.t 14],xV 16 10 15,yc7 16]⟩
def c_78_l0:Xv:=yct [xB 18 .lss 17 16] 18 0 1 (ybr [xM 19 17,xX 20 1 15 17,xL 21 20,xM 7 19,xM 8 21] [ycd 22,xM 23 7,xX 24 1 22 23,xL 25 24,xM 9 25] (ya5 [xM 26 2,xM 27 8,xM 28 9,xO 29 (ycy 26 [.t 27,.t 28]),ybs 30 29] 30 [ya0 6])) [yck 31 .add 17,xM 17 31]
def c_78_k1:Xv:=ydk (ycm 6)
def c_78:AFn:=⟨3,[.tmp 6],ydl [ya0 6] [yb6 10,xN 11 10,ycd 12,xN 13 12,xB 14 .neq 11 13] 14 [ya0 6] [yb6 15,xN 16 15,ya8 17] 0 c_78_l0 c_78_k1⟩
def c_79:AFn:=⟨2,[.tmp 4],yb0 [ya0 4] [yb6 5,ycd 6,ybn 7 f_80 5 6,yc7 7]⟩
def c_80_l0:Xv:=yct [xB 14 .lss 13 12] 14 0 1 (yaz [xM 15 13,ydj 15] (xD [yb6 16,ycq 17,xX 18 1 16 17,xL 19 18,ycd 20,ycq 21,xX 22 1 20 21,xL 23 22,xB 24 .neq 19 23]) (yai 24 [ya0 4])) [yck 25 .add 13,xM 13 25]
def c_80_k1:Xv:=ydk (ycm 4)
def c_80:AFn:=⟨2,[.tmp 4],ydl [ya0 4] [yb6 6,xN 7 6,ycd 8,xN 9 8,xB 10 .neq 7 9] 10 [ya0 4] [yb6 11,xN 12 11,ya8 13] 0 c_80_l0 c_80_k1⟩
def c_84_l0:Xv:=ydn [xB 14 .lss 13 12] 14 0 1 [xM 15 13,xX 16 3 11 13,xA 17 3 16,yav 5 [.str [],ybo,ybo],yc7 15,xS 3 5 17] [5] (ycr (xA 18 3 5) (yb2 19 f_149 18) (yb3 19 (xR [yc6 20,xM 21 4,xF 22 2 5,xL 23 22,xO 24 (.mkslice .row 1 4 [.int .u32 0] (.t 23) (.t 23)),xX 25 1 20 21,xS 1 25 24]))) [yck 26 .add 13,xM 13 26]
def c_84_k1:Xv:=ycf (yc6 27) 2 27
def c_84:AFn:=⟨1,[.tmp 2],ycr (yda 1) (xC 2 (.Xu 1 [])) (ybc [xF 6 3 1,xL 7 6,xN 8 7,xO 9 (.mkslice .row 1 24 [.Xu 1 []] (.t 8) (.t 8)),xM 3 9] [xF 10 3 1,xL 11 10,xN 12 11,ya8 13] 0 c_84_l0 c_84_k1)⟩
def c_85:AFn:=⟨1,[.cell 2 true 2],yaz [yda 1,yav 2 [ybo,.Xu 1 []]] (xD [yca 3 1,xL 4 3,ycg 5 1,xL 6 5,yb2 7 f_150 6,xO 8 (.build [.int .i64 0,.Xu 1 []] [(0,1,(.t 4)),(1,1,(.t 7))]),xS 2 2 8]) .ret⟩
def c_87_l0:Xv:=yct [xB 40 .lss 39 38] 40 0 1 (yaz [xM 41 39,xM 7 41] (xD [ydm 42 2,xM 43 7,ydi 44,xL 45 44,xM 46 7,xX 47 1 45 46,xL 48 47,ycg 49 3,xL 50 49,xM 51 7,xX 52 1 50 51,xL 53 52,xF 54 2 3,xL 55 54,xM 56 7,xX 57 2 55 56,xA 58 2 57,yaf 59 f_152 [.t 42,.t 43,.t 48,.t 53,.t 58],xM 8 59]) (ya5 [xM 60 8,yc3 61 .neq 60] 61 [xM 62 8,yc7 62])) [yck 63 .add 39,xM 39 63]
def c_87_k1:Xv:=yad [ydm 64 2,xF 65 3 3,xL 66 65,ybn 67 f_153 64 66,yc7 67]
def c_87:AFn:=⟨2,[.tmp 4],yaz [yda 2,xJ 3 1,yb5] (.seq (xQ [ydm 9 2,yb2 10 f_52 9,yc2 5 ybo ybo ybo ybo,xS 4 5 10] [5]) (ya5 [yca 11 5,xL 12 11,yc3 13 .neq 12] 13 [yca 14 5,xL 15 14,yc7 15])) (ydl [xF 16 5 2,xL 17 16,xN 18 17,xM 6 18] [ydi 19,xL 20 19,xN 21 20,xM 22 6,xB 23 .neq 21 22,xM 24 23,yax 25 24 1 3,yby 26 24 25,ybq 27 24 26,ya3 28 24 6,yb9 29 24 .neq 27 28,xW 30 24 29,xM 31 30,yax 32 31 2 3,yby 33 31 32,ybq 34 31 33,ya3 35 31 6,yb9 36 31 .neq 34 35,xW 37 31 36] 37 [xI 4 2] [xM 38 6,ya8 39] 0 c_87_l0 c_87_k1)⟩
def c_88_l0:Xv:=yct [xB 30 .lss 29 28] 30 0 1 (ycs (xM 31 29) 6 31 (xR [ycq 32,xM 33 6,ybt 34 f_154 [.t 32,.t 33]])) [yck 35 .add 29,xM 29 35]
def c_88_k1:Xv:=ycf (ycq 36) 4 36
def c_88:AFn:=⟨2,[.tmp 4],yaz [yda 2,ycu 3 1,xC 4 .nilptr] (.region true [(1,2)] [⟨some 7,none,.load true 4 (.t 3)⟩,⟨some 8,none,.tcall f_92 [.t 7]⟩,⟨some 9,none,.load true 9 (.t 2)⟩,⟨some 10,none,.pcall f_53 [.t 9]⟩,⟨some 11,none,.build [.Xu 1 [],.Xu 1 [],.Xu 2 [],.Xu 1 [],.str [],.Xu 2 [],.Xu 2 [],.Xu 3 [],.Xu 3 [],.Xu 6 [],.Xu 7 [],.Xu 5 [],.Xu 1 [],.Xu 1 [],.bool false] [(0,4,(.t 8)),(4,9,(.t 10)),(14,1,(.c (.bool true)))]⟩,⟨some 12,none,.box (.t 11)⟩,⟨some 5,none,.mov (.t 12)⟩] none) (ybc [ycq 13,ycq 14,ycj 15 14,yca 16 15,yca 17 16,xL 18 17,xN 19 18,xO 20 (.mkslice .row 1 8 [.nilmap] (.t 19) (.t 19)),ycj 21 13,xF 22 13 21,xS 1 22 20] [ycq 23,ycj 24 23,yca 25 24,yca 26 25,xL 27 26,xN 28 27,ya8 29] 0 c_88_l0 c_88_k1)⟩
def c_89:AFn:=⟨1,[.tmp 2],ya4 [xC 2 .nilptr] [yb6 3,xO 4 (.eqn false (.t 3) (.c .nilptr)),ydj 4,ya3 6 5 0,yac 7 5 (ybb 6),yax 8 5 14 7,yby 9 5 8,yac 10 5 (yba 9),xW 11 5 10] 11 [xC 2 .nilptr] (yci [yb6 12,ycj 13 12,xF 14 4 13,ydm 15 14,yb6 16,ycj 17 16,yca 18 17,xA 19 4 18,ybt 20 f_88 [.t 15,.t 19],xM 2 20] .ret)⟩
def c_90:AFn:=⟨4,[.tmp 8],ycr (ycu 7 3) (ya8 8) (yao [yb6 12,ycd 13,xM 14 2,ybt 15 f_155 [.t 12,.t 13,.t 14],xM 11 15,xE 16 0 11,xE 17 1 11,xM 9 16,xM 10 17] [xM 18 10,yc3 19 .eql 18] (yb3 19 (xD [yb6 20,ycj 21 20,xF 22 4 21,ydm 23 22,ycd 24,xA 25 2 7,ydh 26 f_156 23 24 25,xM 10 26])) (yae [xM 27 10,yc3 28 .eql 27] (yb3 28 (xD [yb6 29,ycj 30 29,yca 31 30,yca 32 31,xL 33 32,ycd 34,xX 35 1 33 34,xL 36 35,xM 37 9,xA 38 2 7,yb2 39 f_85 38,xX 40 5 36 37,ycg 41 40,xF 42 2 41,xS 2 42 39])) (ycf (xM 43 10) 8 43)))⟩
def c_92_l0:Xv:=ydn [xB 27 .lss 26 25] 27 2 3 [xX 28 5 24 26,xA 29 5 28,yav 8 [ybo,.Xu 2 [],ybo,ybo,.Xu 1 []],xS 5 8 29] [8] (xR [xM 30 6,xA 31 5 8,yb2 32 f_157 31,xO 33 (.bslice .imm 5 (List.replicate 1 [.int .i64 0,.Xu 2 [],.int .i64 0,.int .i64 0,.Xu 1 []]) [(0,(.t 32))]),ybw 34 .row 5 72 30 33,xM 6 34]) [yck 35 .add 26,xM 26 35]
def c_92_k1:Xv:=xR [ydi 36,xL 37 36,xM 38 6,xO 39 (.bslice .row 1 (List.replicate 1 [.Xu 5 []]) [(0,(.t 38))]),ybw 40 .row 1 24 37 39,ydi 41,xS 1 41 40]
def c_92_k2:Xv:=xR [yck 42 .add 20,xM 20 42]
def c_92_l3:Xv:=ybd [xB 21 .lss 20 19] 21 0 (yaj 1 (yc9 [xX 22 1 18 20,xL 23 22,ydj 23] [xC 6 (.Xu 5 [])] [ycq 24,xN 25 24,ya8 26] 2 c_92_l0 c_92_k1) c_92_k2)
def c_92_l4:Xv:=ydn [xB 47 .lss 46 45] 47 4 5 [xX 48 2 44 46,xA 49 2 48,yav 10 [ybo,.Xu 1 []],xS 2 10 49] [10] (xD [xF 50 2 3,xL 51 50,xA 52 2 10,yb2 53 f_85 52,xO 54 (.bslice .imm 2 (List.replicate 1 [.int .i64 0,.Xu 1 []]) [(0,(.t 53))]),ybw 55 .row 2 32 51 54,xF 56 2 3,xS 1 56 55]) [yck 57 .add 46,xM 46 57]
def c_92_l5:Xv:=yct [xB 62 .lss 61 60] 62 6 7 (yaa [xX 63 1 59 61,xL 64 63,xM 12 64] (xD [xF 65 3 3,xL 66 65,xM 67 12,yb2 68 f_150 67,xO 69 (.bslice .imm 1 (List.replicate 1 [.Xu 1 []]) [(0,(.t 68))]),yb4 70 1 24 66 69,xF 71 3 3,xS 1 71 70])) [yck 72 .add 61,xM 61 72]
def c_92_k6:Xv:=yb8 (xA 73 4 3) (xS 4 2 73)
def c_92_k7:Xv:=ybx [xF 58 3 1,xL 59 58,xN 60 59,ya8 61] 6 c_92_l5 c_92_k6
def c_92_k8:Xv:=ybx [xF 43 2 1,xL 44 43,xN 45 44,ya8 46] 4 c_92_l4 c_92_k7
def c_92:AFn:=⟨1,[.cell 2 true 4],ycr (ycu 1 0) (yc2 2 (.Xu 1 []) (.Xu 1 []) (.Xu 2 []) (.Xu 1 [])) (ybc [ycg 13 1,xL 14 13,ybt 15 f_116 [.t 14],xO 16 (.build [.Xu 1 [],.Xu 1 [],.Xu 2 [],.Xu 1 []] [(1,1,(.t 15))]),yc2 3 (.Xu 1 []) (.Xu 1 []) (.Xu 2 []) (.Xu 1 []),xS 4 3 16] [yca 17 1,xL 18 17,xN 19 18,ya8 20] 0 c_92_l3 c_92_k8)⟩
def c_93:AFn:=⟨3,[.tmp 6,.tmp 7],yaa [ycu 5 2,ydc,ya8 7] (yaj 0 (yc1 [yb6 11,xO 12 (.eqn false (.t 11) (.c .nilptr)),xM 13 12,ya3 14 13 0,yac 15 13 (ybb 14),yax 16 13 14 15,yby 17 13 16,yac 18 13 (yba 17),xW 19 13 18,xM 10 19] 10 [ydc,xI 7 1] [yb6 21,ycd 22,ybt 23 f_158 [.t 21,.t 22],ybs 24 23,xM 20 24] 20 [ydc,xI 7 8]) (.seq (yci [yb6 25,ycj 26 25,xF 27 4 26,ydm 28 27,ycd 29,xA 30 4 5,ydh 31 f_159 28 29 30,xM 8 31] (ya5 [xM 32 8,yc3 33 .neq 32] 33 [xM 34 8,ydc,xM 7 34])) (ybi [yb6 35,ycj 36 35,yca 37 36,yca 38 37,xL 39 38,ycd 40,xX 41 1 39 40,xL 42 41,xO 43 (.mkfunc (.func f_161) [] [.t 5]),ybn 44 f_160 42 43] 44 [ydc,xI 7 7] (yaz [yb6 45,ycj 46 45,yca 47 46,ycg 48 47,xL 49 48,ycd 50,xX 51 1 49 50,xL 52 51,xM 9 52] (yci [yb6 53,ycj 54 53,yca 55 54,yca 56 55,xL 57 56,ycd 58,xX 59 1 57 58,xL 60 59,xN 61 60,yb6 62,ycj 63 62,xF 64 4 63,xF 65 5 64,xL 66 65,ycd 67,xX 68 6 66 67,xF 69 5 68,xL 70 69,xB 71 .geq 61 70,xM 72 71,ya3 73 72 9,ybf 74 72 .geq 73 1073741824,xW 75 72 74] (yai 75 [ydc,xI 7 13])) (yci [yb6 76,ycj 77 76,xF 78 13 77,xL 79 78,ycd 80,xX 81 1 79 80,xL 82 81,xM 83 9,yb6 84,ycj 85 84,yca 86 85,yca 87 86,xL 88 87,ycd 89,xX 90 1 88 89,xL 91 90,xN 92 91,⟨none,none,.update .i (.t 82) (.t 83) (.t 92)⟩] (.seq (.region true [(4,19)] [⟨some 93,none,.mov (.t 0)⟩,⟨some 94,none,.nilchk (.t 93)⟩,⟨some 95,none,.faddr 0 (.t 94)⟩,⟨some 96,none,.faddr 0 (.t 95)⟩,⟨some 97,none,.load false 1 (.t 96)⟩,⟨some 98,none,.mov (.t 1)⟩,⟨some 99,none,.mov (.t 0)⟩,⟨some 100,none,.nilchk (.t 99)⟩,⟨some 101,none,.faddr 0 (.t 100)⟩,⟨some 102,none,.faddr 0 (.t 101)⟩,⟨some 103,none,.load false 1 (.t 102)⟩,⟨some 104,none,.mov (.t 1)⟩,⟨some 105,none,.iaddr 1 none (.t 103) (.t 104)⟩,⟨some 106,none,.load false 1 (.t 105)⟩,⟨some 107,none,.mov (.t 9)⟩,⟨some 108,none,.load true 4 (.t 5)⟩,⟨some 109,none,.pcall f_163 [.t 108]⟩,⟨some 110,none,.build [.int .i64 0,.Xu 2 [],.int .i64 0,.int .i64 0,.Xu 1 []] [(0,1,(.t 107)),(1,4,(.t 109))]⟩,⟨some 111,none,.bslice .imm 5 (List.replicate 1 [.int .i64 0,.Xu 2 [],.int .i64 0,.int .i64 0,.Xu 1 []]) [(0,(.t 110))]⟩,⟨some 112,none,.append .row 5 72 (.t 106) (.t 111)⟩,⟨some 113,none,.iaddr 1 none (.t 97) (.t 98)⟩,⟨none,none,.store 1 (.t 113) (.t 112)⟩] none) (yb0 [yb6 114,ycj 115 114,yca 116 115,ycg 117 116,xL 118 117,ycd 119,xX 120 1 118 119,xL 121 120,yck 122 .add 121,xX 123 1 118 119,xS 1 123 122] [xM 124 9,xM 6 124,ya8 7])))))))⟩
def c_94:AFn:=⟨3,[.tmp 6],yaa [ydc] (yao [yb6 10,ycd 11,xM 12 2,ybt 13 f_155 [.t 10,.t 11,.t 12],xM 9 13,xE 14 0 9,xE 15 1 9,xM 7 14,xM 8 15] [xM 16 8,yc3 17 .eql 16] (yb3 17 (.seq (.region true [(4,17)] [⟨some 18,none,.mov (.t 0)⟩,⟨some 19,none,.nilchk (.t 18)⟩,⟨some 20,none,.faddr 0 (.t 19)⟩,⟨some 21,none,.faddr 0 (.t 20)⟩,⟨some 22,none,.load false 1 (.t 21)⟩,⟨some 23,none,.mov (.t 1)⟩,⟨some 24,none,.mov (.t 0)⟩,⟨some 25,none,.nilchk (.t 24)⟩,⟨some 26,none,.faddr 0 (.t 25)⟩,⟨some 27,none,.faddr 0 (.t 26)⟩,⟨some 28,none,.load false 1 (.t 27)⟩,⟨some 29,none,.mov (.t 1)⟩,⟨some 30,none,.iaddr 1 none (.t 28) (.t 29)⟩,⟨some 31,none,.load false 1 (.t 30)⟩,⟨some 32,none,.mov (.t 7)⟩,⟨some 33,none,.mov (.t 7)⟩,⟨some 34,none,.bin .add (.t 33) (.c (.int .i64 1))⟩,⟨some 35,none,.tcall f_164 [.t 31,.t 32,.t 34]⟩,⟨some 36,none,.iaddr 1 none (.t 22) (.t 23)⟩,⟨none,none,.store 1 (.t 36) (.t 35)⟩] none) (xR [yb6 37,ycd 38,ybt 39 f_154 [.t 37,.t 38]]))) (ycf (xM 40 8) 6 40))⟩
def c_95:AFn:=⟨3,[.tmp 6],ycr (ycu 5 2) ydc (yaj 0 (yc1 [yb6 9,xO 10 (.eqn false (.t 9) (.c .nilptr)),xM 11 10,ya3 12 11 0,yac 13 11 (ybb 12),yax 14 11 14 13,yby 15 11 14,yac 16 11 (yba 15),xW 17 11 16,xM 8 17] 8 [xI 6 1] [yb6 19,ycd 20,ybt 21 f_158 [.t 19,.t 20],ybs 22 21,xM 18 22] 18 [xI 6 8]) (yci [yb6 23,ycj 24 23,xF 25 4 24,ydm 26 25,ycd 27,xA 28 2 5,ydh 29 f_156 26 27 28,xM 7 29] (yae [xM 30 7,yc3 31 .eql 30] (yb3 31 (xD [yb6 32,ycj 33 32,yca 34 33,xF 35 2 34,xL 36 35,ycd 37,xA 38 2 5,yb2 39 f_85 38,xX 40 2 36 37,xS 2 40 39])) (ycf (xM 41 7) 6 41))))⟩
def c_96:AFn:=⟨2,[.tmp 4],yb0 [ycu 2 0,ycu 3 1,ya0 4] [xA 5 4 2,xA 6 4 3,ybn 7 f_162 5 6,xM 8 7,ybj 9 8 2 2,ybj 10 8 0 9,ybz 11 8 1 10,ybj 12 8 2 3,ybj 13 8 0 12,ybz 14 8 1 13,ybu 15 8 .eql 11 (.t 14),xV 16 8 15,xM 17 16,ybj 18 17 2 2,ybj 19 17 1 18,ybz 20 17 1 19,ybj 21 17 2 3,ybj 22 17 1 21,ybz 23 17 1 22,ych 24 17 f_165 [.t 20,.t 23],xV 25 17 24,yc7 25]⟩
def c_99:AFn:=⟨1,[],yaa [yda 1] (ybr [yca 2 1,xL 3 2,yb2 4 f_168 3,ybm 5 f_167 4 (yan 6),ycw 6 f_166 (.t 5) 0 (yan 0) 0] [ycg 7 1,xL 8 7,xN 9 8,xK 10 .gtr 9 8,ybm 11 f_167 10 (yan 12),ycw 12 f_166 (.t 11) 0 (yan 1) 0] (ybr [xF 13 3 1,xL 14 13,xN 15 14,xK 16 .gtr 15 4,ybm 17 f_167 16 (yan 12),ycw 18 f_166 (.t 17) 0 (yan 3) 0] [xF 19 4 1,xL 20 19,xN 21 20,xK 22 .gtr 21 16,ybm 23 f_167 22 (yan 12),ycw 24 f_166 (.t 23) 0 (yan 4) 0] (xR [xF 25 5 1,xL 26 25,xN 27 26,xK 28 .gtr 27 12,ybm 29 f_167 28 (yan 12),ycw 30 f_166 (.t 29) 0 (yan 5) 0])))⟩
def c_100_l0:Xv:=ydn [xB 12 .lss 11 10] 12 0 1 [xM 13 11,xX 14 2 9 11,xA 15 2 14,yav 4 [.str [],.Xu 2 []],xM 3 13,xS 2 4 15] [4] (ybr [xA 16 2 4,yb2 17 f_171 16,yc6 18,ycw 19 f_166 (.t 17) 1 (.t 18) 0] [yca 20 4,xL 21 20,xO 22 (yaq .eql 21 (.c (.str [109,101,116,97]))),ybm 23 f_167 22 (yan 6),yc6 24,ycw 25 f_166 (.t 23) 1 (.t 24) 0] (xR [xM 26 2,yc6 27,ybn 28 f_172 26 27,ybm 29 f_167 28 (yan 7),yc6 30,ycw 31 f_166 (.t 29) 1 (.t 30) 0])) [yck 32 .add 11,xM 11 32]
def c_100:AFn:=⟨1,[],yaa [yda 1] (ybr [ycg 5 1,xL 6 5,ybm 7 f_169 6 (.c (.func (.func f_170) [] [])),xM 2 7] [ycg 8 1,xL 9 8,xN 10 9,ya8 11] (yam 0 c_100_l0))⟩
def c_101_l0:Xv:=ydn [xB 20 .lss 19 18] 20 0 1 [xM 21 19,xX 22 2 17 19,xA 23 2 22,yav 4 [.str [],ybo],xM 3 21,xS 2 4 23] [4] (ybr [yca 24 4,xL 25 24,yb2 26 f_168 25,ybm 27 f_167 26 (yan 6),yc6 28,ycw 29 f_166 (.t 27) 2 (.t 28) 0] [ycg 30 4,xL 31 30,yb2 32 f_175 31,ybm 33 f_167 32 (yan 10),yc6 34,ycw 35 f_166 (.t 33) 2 (.t 34) 0] (xR [xM 36 2,yc6 37,ybn 38 f_172 36 37,ybm 39 f_167 38 (yan 7),yc6 40,ycw 41 f_166 (.t 39) 2 (.t 40) 0])) [yck 42 .add 19,xM 19 42]
def c_101_l1:Xv:=ydn [xK 48 .lss 47 3] 48 2 3 [xM 49 47,xO 50 (.idxa true 3 2 (.t 46) (.t 47)),yav 6 [.str [],ybo],ydj 49,xS 2 6 50] [6] (yci [ycq 51,xF 52 2 1,xL 53 52,xN 54 53,xB 55 .geq 51 54,xM 56 55,yax 57 56 2 1,yby 58 56 57,ya3 59 56 5,yac 60 56 (yc8 2 58 59),yac 61 56 (ydb 2 (.t 60)),yac 62 56 (ydb 2 (.t 6)),yac 63 56 (.eqs true true [.s,.i] (.t 61) (.t 62)),xW 64 56 63,ybm 65 f_167 64 (yan 5),ycq 66] (xR [ycw 67 f_166 (.t 65) 2 (.t 66) 0])) [yck 68 .add 47,xM 47 68]
def c_101_k2:Xv:=yaa [xO 43 (.build [.str [],.int .i64 0] [(0,1,(.c (.str [105,110]))),(1,1,(.c (.int .i64 8)))]),xO 44 (.build [.str [],.int .i64 0] [(0,1,(.c (.str [111,117,116]))),(1,1,(.c (.int .i64 8)))]),xO 45 (.build [.str [],.int .i64 0] [(0,1,(.c (.str [100,114,111,112]))),(1,1,(.c (.int .i64 1)))]),xO 46 (.build [.str [],.int .i64 0,.str [],.int .i64 0,.str [],.int .i64 0] [(0,2,(.t 43)),(2,2,(.t 44)),(4,2,(.t 45))]),ya8 47] (yam 2 c_101_l1)
def c_101:AFn:=⟨1,[],ybr [yda 1] [xF 7 2 1,xL 8 7,xN 9 8,xK 10 .gtr 9 12,ybm 11 f_167 10 (yan 12),ycw 12 f_166 (.t 11) 2 (yan 0) 0] (ybc [xF 13 2 1,xL 14 13,ybm 15 f_173 14 (.c (.func (.func f_174) [] [])),xM 2 15] [xF 16 2 1,xL 17 16,xN 18 17,ya8 19] 0 c_101_l0 c_101_k2)⟩
def c_102_l0:Xv:=ydn [xB 18 .lss 17 16] 18 0 1 [xM 19 17,xX 20 3 15 17,xA 21 3 20,yav 4 [.str [],ybo,ybo],xM 3 19,xS 3 4 21] [4] (yaa [xA 22 3 4,yb2 23 f_178 22,yc6 24,ycw 25 f_166 (.t 23) 3 (.t 24) 0] (xR [xM 26 2,yc6 27,ybn 28 f_172 26 27,ybm 29 f_167 28 (yan 7),yc6 30,ycw 31 f_166 (.t 29) 3 (.t 30) 0])) [yck 32 .add 17,xM 17 32]
def c_102_l1:Xv:=yct [xB 40 .lss 39 38] 40 2 3 (ycs (xM 41 39) 5 41 (ybr [ydm 43 1,ycq 44,ybn 45 f_181 43 44,xM 42 45,xE 46 0 42,xE 47 1 42,xM 6 46,xM 7 47] [xM 48 7,ycq 49,xM 50 6,yco 51 f_166 (.t 48) 4 (.t 49) (.t 50)] (xR [xM 52 2,ycq 53,ybn 54 f_172 52 53,ybm 55 f_167 54 (yan 7),ycq 56,ycw 57 f_166 (.t 55) 4 (.t 56) 0]))) [yck 58 .add 39,xM 39 58]
def c_102_l2:Xv:=yct [xB 66 .lss 65 64] 66 4 5 (ycs (xM 67 65) 8 67 (ybr [ydm 69 1,xM 70 8,ybn 71 f_184 69 70,xM 68 71,xE 72 0 68,xE 73 1 68,xM 9 72,xM 10 73] [xM 74 10,xM 75 8,xM 76 9,yco 77 f_166 (.t 74) 5 (.t 75) (.t 76)] (xR [xM 78 2,xM 79 8,ybn 80 f_172 78 79,ybm 81 f_167 80 (yan 7),xM 82 8,ycw 83 f_166 (.t 81) 5 (.t 82) 0]))) [yck 84 .add 65,xM 65 84]
def c_102_k3:Xv:=ybr [xF 59 5 1,xL 60 59,ybm 61 f_182 60 (.c (.func (.func f_183) [] [])),xM 2 61] [xF 62 5 1,xL 63 62,xN 64 63,ya8 65] (yam 4 c_102_l2)
def c_102_k4:Xv:=ybc [xF 33 4 1,xL 34 33,ybm 35 f_179 34 (.c (.func (.func f_180) [] [])),xM 2 35] [xF 36 4 1,xL 37 36,xN 38 37,ya8 39] 2 c_102_l1 c_102_k3
def c_102:AFn:=⟨1,[],yc9 [yda 1] [xF 11 3 1,xL 12 11,ybm 13 f_176 12 (.c (.func (.func f_177) [] [])),xM 2 13] [xF 14 3 1,xL 15 14,xN 16 15,ya8 17] 0 c_102_l0 c_102_k4⟩
def c_103:AFn:=⟨1,[],ybr [yda 1] [ydm 7 1,yb2 8 f_185 7,xM 6 8,xE 9 0 6,xE 10 1 6,xE 11 2 6,xM 2 9,xM 3 10,yc7 11] (ybr [xM 12 4,xM 13 2,yc6 14,yco 15 f_166 (.t 12) 6 (.t 13) (.t 14)] [ydm 17 1,yb2 18 f_186 17,xM 16 18,xE 19 0 16,xE 20 1 16,ydj 19,yc7 20] (ybr [xM 21 4,ycq 22,ycw 23 f_166 (.t 21) 7 (.t 22) 0] [ydm 25 1,yb2 26 f_187 25,xM 24 26,xE 27 0 24,xE 28 1 24,ydj 27,yc7 28] (xR [xM 29 4,ycq 30,ycw 31 f_166 (.t 29) 8 (.t 30) 0])))⟩
def c_104_l0:Xv:=ydn [xB 11 .lss 10 9] 11 0 1 [xX 12 2 8 10,xA 13 2 12,yav 7 [.str [],.Xu 2 []],xS 2 7 13] [7] (xR [ycq 14,ycd 15,xA 16 2 7,xO 17 (ycy 15 [.t 16]),xO 18 (.bslice .imm 2 (List.replicate 1 [.str [],.Xu 2 []]) [(0,(.t 17))]),yb4 19 2 40 14 18,ydj 19]) [yck 20 .add 10,xM 10 20]
def c_104_k1:Xv:=ycf (ycq 21) 4 21
def c_104:AFn:=⟨2,[.tmp 4],yc9 [xC 4 (.Xu 2 [])] [ycv 5 2] [yb6 8,xN 9 8,ya8 10] 0 c_104_l0 c_104_k1⟩
def c_105:AFn:=⟨1,[.cell 2 true 2],ybr [ycu 1 0,yav 2 [.str [],.Xu 2 []]] [ycg 3 1,xL 4 3,yb2 5 f_106 4,ycg 6 1,xS 1 6 5] (yb8 (xA 7 2 1) (xS 2 2 7))⟩
def c_108_l0:Xv:=ydn [xB 11 .lss 10 9] 11 0 1 [xX 12 3 8 10,xA 13 3 12,yav 7 [.str [],.Xu 2 [],.Xu 7 []],xS 3 7 13] [7] (xR [ycq 14,ycd 15,xA 16 3 7,xO 17 (ycy 15 [.t 16]),xO 18 (.bslice .imm 3 (List.replicate 1 [.str [],.Xu 2 [],.Xu 7 []]) [(0,(.t 17))]),yb4 19 3 64 14 18,ydj 19]) [yck 20 .add 10,xM 10 20]
def c_108_k1:Xv:=ycf (ycq 21) 4 21
def c_108:AFn:=⟨2,[.tmp 4],yc9 [xC 4 (.Xu 3 [])] [ycv 5 3] [yb6 8,xN 9 8,ya8 10] 0 c_108_l0 c_108_k1⟩
def c_109:AFn:=⟨1,[.cell 2 true 3],yaz [ycu 1 0,yav 2 [.str [],.Xu 2 [],.Xu 7 []]] (xD [ycg 3 1,xL 4 3,yb2 5 f_106 4,xF 6 2 1,xL 7 6,ybm 8 f_188 7 (.c (.func (.func f_189) [] [])),ycg 9 1,xS 1 9 5,xF 10 2 1,xS 1 10 8]) (yb8 (xA 11 3 1) (xS 3 2 11))⟩
def c_110_l0:Xv:=ydn [xB 11 .lss 10 9] 11 0 1 [xX 12 6 8 10,xA 13 6 12,yav 7 [.str [],.Xu 3 [],.Xu 1 [],ybo,.Xu 1 [],ybo],xS 6 7 13] [7] (xR [ycq 14,ycd 15,xA 16 6 7,xO 17 (ycy 15 [.t 16]),xO 18 (.bslice .imm 6 (List.replicate 1 [.str [],.Xu 3 [],.Xu 1 [],.int .i64 0,.Xu 1 [],.int .i64 0]) [(0,(.t 17))]),yb4 19 6 104 14 18,ydj 19]) [yck 20 .add 10,xM 10 20]
def c_110_k1:Xv:=ycf (ycq 21) 4 21
def c_110:AFn:=⟨2,[.tmp 4],yc9 [xC 4 (.Xu 6 [])] [ycv 5 6] [yb6 8,xN 9 8,ya8 10] 0 c_110_l0 c_110_k1⟩
def c_111:AFn:=⟨1,[.cell 2 true 6],yaz [ycu 1 0,yav 2 [.str [],.Xu 3 [],.Xu 1 [],ybo,.Xu 1 [],ybo]] (xD [ycg 3 1,xL 4 3,yb2 5 f_190 4,xF 6 2 1,xL 7 6,yb2 8 f_116 7,xF 9 3 1,ycg 10 9,xL 11 10,yb2 12 f_150 11,ycg 13 1,xS 1 13 5,xF 14 2 1,xS 1 14 8,xF 15 3 1,ycg 16 15,xS 1 16 12]) (yb8 (xA 17 6 1) (xS 6 2 17))⟩
def c_112_l0:Xv:=ydn [xB 11 .lss 10 9] 11 0 1 [xX 12 7 8 10,xA 13 7 12,yav 7 [.str [],.Xu 1 [],.bool false,ybo,ybo,.Xu 3 [],ybo],xS 7 7 13] [7] (xR [ycq 14,ycd 15,xA 16 7 7,xO 17 (ycy 15 [.t 16]),xO 18 (.bslice .imm 7 (List.replicate 1 [.str [],.Xu 1 [],.bool false,.int .i64 0,.int .i64 0,.Xu 3 [],.int .i64 0]) [(0,(.t 17))]),yb4 19 7 96 14 18,ydj 19]) [yck 20 .add 10,xM 10 20]
def c_112_k1:Xv:=ycf (ycq 21) 4 21
def c_112:AFn:=⟨2,[.tmp 4],yc9 [xC 4 (.Xu 7 [])] [ycv 5 7] [yb6 8,xN 9 8,ya8 10] 0 c_112_l0 c_112_k1⟩
def c_113:AFn:=⟨1,[.cell 2 true 7],yaz [ycu 1 0,yav 2 [.str [],.Xu 1 [],.bool false,ybo,ybo,.Xu 3 [],ybo]] (xD [ycg 3 1,xL 4 3,yb2 5 f_116 4,xF 6 5 1,xL 7 6,yb2 8 f_191 7,ycg 9 1,xS 1 9 5,xF 10 5 1,xS 1 10 8]) (yb8 (xA 11 7 1) (xS 7 2 11))⟩
def c_114_l0:Xv:=ydn [xB 11 .lss 10 9] 11 0 1 [xX 12 5 8 10,xA 13 5 12,yav 7 [ybo,ybo,.Xu 3 [],.Xu 5 [],.Xu 5 []],xS 5 7 13] [7] (xR [ycq 14,ycd 15,xA 16 5 7,xO 17 (ycy 15 [.t 16]),xO 18 (.bslice .imm 5 (List.replicate 1 [.int .i64 0,.int .i64 0,.Xu 3 [],.Xu 5 [],.Xu 5 []]) [(0,(.t 17))]),yb4 19 5 88 14 18,ydj 19]) [yck 20 .add 10,xM 10 20]
def c_114_k1:Xv:=ycf (ycq 21) 4 21
def c_114:AFn:=⟨2,[.tmp 4],yc9 [xC 4 (.Xu 5 [])] [ycv 5 5] [yb6 8,xN 9 8,ya8 10] 0 c_114_l0 c_114_k1⟩
def c_115:AFn:=⟨1,[.cell 2 true 5],yaz [ycu 1 0,yav 2 [ybo,ybo,.Xu 3 [],.Xu 5 [],.Xu 5 []]] (xD [xF 3 2 1,xL 4 3,yb2 5 f_192 4,xF 6 3 1,xL 7 6,ybm 8 f_114 7 (.c (.func (.func f_115) [] [])),xF 9 4 1,xL 10 9,ybm 11 f_114 10 (.c (.func (.func f_115) [] [])),xF 12 2 1,xS 1 12 5,xF 13 3 1,xS 1 13 8,xF 14 4 1,xS 1 14 11]) (yb8 (xA 15 5 1) (xS 5 2 15))⟩
def c_117_l0:Xv:=ycp [xM 9 6,yb6 10,xN 11 10,xB 12 .lss 9 11,xM 13 12,ybp 14 13 5,ycx 15 13 .lss 14 100,xV 16 13 15] 16 0 1 (ybi [ycd 19,yc3 20 .eql 19,xM 21 20,ya3 22 21 0,ya3 23 21 6,yac 24 21 (yc8 5 22 23),yax 25 21 2 24,yby 26 21 25,ybq 27 21 26,ybf 28 21 .gtr 27 40,xW 29 21 28] 29 [xI 4 100] (xD [ycq 30,yb6 31,xM 32 6,xX 33 5 31 32,xF 34 3 33,xL 35 34,ycd 36,yck 37 .sub 36,ybn 38 f_117 35 37,xB 39 .add 30 38,yb6 40,xM 41 6,xX 42 5 40 41,xF 43 4 42,xL 44 43,ycd 45,yck 46 .sub 45,ybn 47 f_117 44 46,xB 48 .add 39 47,ydj 48])) [xM 17 6,yck 18 .add 17,xM 6 18]
def c_117_k1:Xv:=ycf (ycq 49) 4 49
def c_117:AFn:=⟨2,[.tmp 4],yc9 [yb5] [yb6 7,xN 8 7,ydj 8] [ydc] 0 c_117_l0 c_117_k1⟩
def c_118_l0:Xv:=ycp [yc6 14,ycg 15 1,xL 16 15,xN 17 16,xB 18 .lss 14 17] 18 0 1 (ya5 [ycg 21 1,xL 22 21,yc6 23,xX 24 2 22 23,yca 25 24,xL 26 25,xO 27 (.slen (.t 26)),xK 28 .gtr 27 30] 28 [ya0 2]) [yc6 19,yck 20 .add 19,xM 3 20]
def c_118_k1:Xv:=ydk (ycm 2)
def c_118:AFn:=⟨1,[.tmp 2],ydl [yda 1,ya0 2] [yca 4 1,xL 5 4,xO 6 (.slen (.t 5)),xK 7 .gtr 6 30,xM 8 7,yax 9 8 1 1,yby 10 8 9,ybq 11 8 10,ybf 12 8 .gtr 11 20,xW 13 8 12] 13 [ya0 2] [ya8 3] 0 c_118_l0 c_118_k1⟩
def c_119_l0:Xv:=ycp [yc6 20,xF 21 2 1,xL 22 21,xN 23 22,xB 24 .lss 20 23] 24 0 1 (ya5 [xF 27 2 1,xL 28 27,yc6 29,xX 30 7 28 29,xF 31 5 30,xL 32 31,xN 33 32,xK 34 .gtr 33 40,xM 35 34,yax 36 35 2 1,yby 37 35 36,ya3 38 35 3,yac 39 35 (yc8 7 37 38),yax 40 35 6 39,yby 41 35 40,ybq 42 35 41,ybf 43 35 .gtr 42 40,xW 44 35 43] 44 [ycm 2]) [yc6 25,yck 26 .add 25,xM 3 26]
def c_119_k1:Xv:=ydk (ya0 2)
def c_119:AFn:=⟨1,[.tmp 2],ydl [yda 1,ya0 2] [ycg 4 1,xL 5 4,xN 6 5,xK 7 .gtr 6 8,xM 8 7,yax 9 8 2 1,yby 10 8 9,ybq 11 8 10,ybf 12 8 .gtr 11 16,xW 13 8 12,xM 14 13,yax 15 14 0 1,yby 16 14 15,yac 17 14 (.slen (.t 16)),ybf 18 14 .gtr 17 60,xW 19 14 18] 19 [ycm 2] [ya8 3] 0 c_119_l0 c_119_k1⟩
def c_120:AFn:=⟨1,[.tmp 2],yb0 [yda 1,ya0 2] [ycg 3 1,xL 4 3,xN 5 4,xK 6 .gtr 5 8,xM 7 6,yax 8 7 5 1,yby 9 7 8,ybq 10 7 9,ybf 11 7 .gtr 10 12,xW 12 7 11,xM 13 12,yax 14 13 0 1,yby 15 13 14,yac 16 13 (.slen (.t 15)),ybf 17 13 .gtr 16 60,xW 18 13 17,xM 2 18]⟩
def c_122_l0:Xv:=yct [xB 38 .lss 37 36] 38 0 1 (yaa [xX 39 1 35 37,xL 40 39,xM 7 40] (xR [ycq 41,xO 42 (yaq .shl 41 (yc4 .u64 8)),xM 43 7,yc0 44 .u32 43,xB 45 .or 42 44,ydj 45])) [yck 46 .add 37,xM 37 46]
def c_122_k1:Xv:=yb0 [yb6 47,yb6 48,ycj 49 48,yca 50 49,xL 51 50,ycd 52,xO 53 (.slc 1 (.t 51) (some (.t 52)) none none),ycj 54 47,yca 55 54,xS 1 55 53] [ycq 56,yc7 56]
def c_122:AFn:=⟨2,[.tmp 4],yao [xC 4 (yce 0)] [yb6 8,ycj 9 8,ycg 10 9,xL 11 10,yc3 12 .eql 11,xM 13 12,ybp 14 13 0,yap 15 13 (ybb 14),ybj 16 13 0 15,ybz 17 13 1 16,yap 18 13 (ya7 17),ybp 19 13 1,ybu 20 13 .lss 18 (.t 19),xV 21 13 20] (yb3 21 (xR [yb6 22,ycj 23 22,ycg 24 23,⟨none,none,.store 1 (.t 24) (.c (.int .i64 3))⟩])) (ybi [yb6 25,ycj 26 25,ycg 27 26,xL 28 27,yc3 29 .neq 28] 29 [xC 4 (yce 0)] (ybc [xC 5 (yce 0)] [yb6 30,ycj 31 30,yca 32 31,xL 33 32,ycd 34,xO 35 (.slc 1 (.t 33) none (some (.t 34)) none),xN 36 35,ya8 37] 0 c_122_l0 c_122_k1))⟩
def c_123:AFn:=⟨3,[],yaa [yb6 6,ycj 7 6,ycg 8 7,xL 9 8,yc3 10 .eql 9,xM 11 10,ybp 12 11 1,yap 13 11 (yba 12),xV 14 11 13] (yb3 14 (xR [yb6 15,xM 16 2,ycj 17 15,ycg 18 17,xS 1 18 16]))⟩
def c_125:AFn:=⟨1,[.tmp 2],yb0 [xC 2 (.Xu 1 [])] [yb6 3,xO 4 (yaq .shr 3 (yc4 .u64 24)),yc0 5 .u8 4,yb6 6,xO 7 (yaq .shr 6 (yc4 .u64 16)),yc0 8 .u8 7,yb6 9,xO 10 (yaq .shr 9 (yc4 .u64 8)),yc0 11 .u8 10,yb6 12,yc0 13 .u8 12,xO 14 (.bslice .imm 1 (List.replicate 4 [.int .u8 0]) [(0,(.t 5)),(1,(.t 8)),(2,(.t 11)),(3,(.t 13))]),xM 2 14]⟩
def c_126_l0:Xv:=yct [xB 14 .lss 13 12] 14 0 1 (yaa [xX 15 1 11 13,xL 16 15,xM 6 16] (xR [xM 17 4,xM 18 6,xO 19 (.tcallv (.t 17) [.t 18])])) [yck 20 .add 13,xM 13 20]
def c_126_k1:Xv:=xR [yb6 21,ycj 22 21,ycg 23 22,xL 24 23,ycd 25,xN 26 25,xB 27 .add 24 26,ycj 28 21,ycg 29 28,xS 1 29 27]
def c_126:AFn:=⟨2,[],ybc [yb6 7,ycj 8 7,yca 9 8,xO 10 (.mkfunc (.func f_195) [.t 9] []),yc7 10] [ycd 11,xN 12 11,ya8 13] 0 c_126_l0 c_126_k1⟩
def c_127:AFn:=⟨1,[.tmp 2],yb0 [ya0 2] [yb6 3,yc3 4 .geq 3,ydj 4,ybp 6 5 0,ycx 7 5 .leq 6 65535,xV 8 5 7,xM 2 8]⟩
def c_128:AFn:=⟨1,[.tmp 2],yb0 [ycu 1 0,ya0 2] [yca 3 1,xL 4 3,yb2 5 f_127 4,ycq 6,ybj 7 6 1 1,ybz 8 6 1 7,yap 9 6 (ya7 8),ycx 10 6 .leq 9 255,xV 11 6 10,xM 2 11]⟩
def c_129_l0:Xv:=ycp [xM 10 7,yc3 11 .geq 10] 11 0 1 (xR [yb6 14,ycd 15,xM 16 7,xO 17 (.bin .mul (yan 8) (.t 16)),xB 18 .shr 15 17,yc0 19 .u8 18,xO 20 (.bslice .imm 1 (List.replicate 1 [.int .u8 0]) [(0,(.t 19))]),yb4 21 1 1 14 20,xM 0 21]) [xM 12 7,yck 13 .sub 12,xM 7 13]
def c_129_k1:Xv:=ycf (yb6 22) 6 22
def c_129:AFn:=⟨3,[.tmp 6],ybc [xC 6 (.Xu 1 [])] [xM 8 2,yck 9 .sub 8,xM 7 9] 0 c_129_l0 c_129_k1⟩
def c_130_l0:Xv:=yct [xB 22 .lss 21 20] 22 0 1 (yaa [xX 23 1 19 21,xL 24 23,xM 6 24] (xR [yb6 25,xM 26 6,yc0 27 .i64 26,ybt 28 f_129 [.t 25,.t 27,yan 4],xM 0 28])) [yck 29 .add 21,xM 21 29]
def c_130_k1:Xv:=ycf (yb6 30) 4 30
def c_130:AFn:=⟨2,[.tmp 4],ybr [ycu 3 1,xC 4 (.Xu 1 [])] [yb6 7,ydi 8,xL 9 8,ybt 10 f_129 [.t 7,.t 9,yan 2],xM 0 10] (ybc [yb6 11,ycg 12 3,xL 13 12,xN 14 13,yc0 15 .u8 14,xO 16 (.bslice .imm 1 (List.replicate 1 [.int .u8 0]) [(0,(.t 15))]),yb4 17 1 1 11 16,xM 0 17] [ycg 18 3,xL 19 18,xN 20 19,ya8 21] 0 c_130_l0 c_130_k1)⟩
def c_131:AFn:=⟨1,[.cell 2 true 4],ycr (yda 1) (yc2 2 ybo ybo ybo ybo) (yaj 0 (ybh [yca 4 1,xL 5 4,yb2 6 f_196 5,ybs 7 6,xM 3 7] 3 [ycw 8 f_197 (yan 6) 0 (yan 0) 0,xS 4 2 8] (ybh [ycg 10 1,xL 11 10,xN 12 11,xK 13 .gtr 12 8,xM 9 13] 9 [ycw 14 f_197 (yan 12) 0 (yan 1) 0,xS 4 2 14] (ybh [xF 16 3 1,xL 17 16,xN 18 17,xK 19 .gtr 18 4,xM 15 19] 15 [ycw 20 f_197 (yan 12) 0 (yan 3) 0,xS 4 2 20] (yc1 [xF 22 4 1,xL 23 22,xN 24 23,xK 25 .gtr 24 16,xM 21 25] 21 [ycw 26 f_197 (yan 12) 0 (yan 4) 0,xS 4 2 26] [xF 28 5 1,xL 29 28,xN 30 29,xK 31 .gtr 30 12,xM 27 31] 27 [ycw 32 f_197 (yan 12) 0 (yan 5) 0,xS 4 2 32])))) (yb8 (xO 33 (.build [.int .i64 0,.int .i64 0,.int .i64 0,.int .i64 0] [])) (xS 4 2 33)))⟩
def c_132_l0:Xv:=ybe [ycq 30,yc6 31,xB 32 .lss 30 31,xM 33 32,ybp 34 33 4,ycx 35 33 .eql 34 0,xV 36 33 35] 36 2 (ybk 3 (xD [ycg 39 1,xL 40 39,ycq 41,xX 42 2 40 41,yca 43 42,xL 44 43,ycg 45 1,xL 46 45,yc6 47,xX 48 2 46 47,yca 49 48,xL 50 49,xB 51 .eql 44 50]) (yb3 51 (xR [xI 4 7])) [ycq 37,yck 38 .add 37,ydj 38])
def c_132_k1:Xv:=ya5 [xM 52 4,yc3 53 .neq 52] 53 [xM 54 4,yc6 55,ycw 56 f_197 (.t 54) 1 (.t 55) 0,xS 4 2 56]
def c_132_k2:Xv:=xR [yc6 11,yck 12 .add 11,xM 3 12]
def c_132_l3:Xv:=ybe [yc6 6,ycg 7 1,xL 8 7,xN 9 8,xB 10 .lss 6 9] 10 0 (yaj 1 (yao [ycg 13 1,xL 14 13,yc6 15,xX 16 2 14 15,xA 17 2 16,yb2 18 f_198 17,yc7 18] [xM 19 4,yc3 20 .eql 19,xM 21 20,ybj 22 21 1 1,ybz 23 21 1 22,ybp 24 21 3,yap 25 21 (yc8 2 23 24),ybj 26 21 0 25,ybz 27 21 1 26,ybu 28 21 .eql 27 (.c (.str [109,101,116,97])),xV 29 21 28] (yb3 29 (xR [xI 4 6])) (ybx [yc5] 2 c_132_l0 c_132_k1)) c_132_k2)
def c_132_k4:Xv:=yb8 (xO 57 (.build [.int .i64 0,.int .i64 0,.int .i64 0,.int .i64 0] [])) (xS 4 2 57)
def c_132:AFn:=⟨1,[.cell 2 true 4],ybc [yda 1,yc2 2 ybo ybo ybo ybo] [ya8 3] 0 c_132_l3 c_132_k4⟩
def c_133_l0:Xv:=ycp [yc6 12,xF 13 2 1,xL 14 13,xN 15 14,xB 16 .lss 12 15] 16 0 1 (yaa [xF 19 2 1,xL 20 19,yc6 21,ybn 22 f_199 20 21,yc7 22] (ya5 [xM 23 4,yc3 24 .neq 23] 24 [xM 25 4,yc6 26,ycw 27 f_197 (.t 25) 2 (.t 26) 0,xS 4 2 27])) [yc6 17,yck 18 .add 17,xM 3 18]
def c_133_l1:Xv:=ybe [xM 32 6,ycq 33,xN 34 33,xB 35 .lss 32 34] 35 2 (ybk 3 (xD [xM 38 6,xF 39 2 1,xL 40 39,xN 41 40,xB 42 .geq 38 41,xM 43 42,yax 44 43 2 1,yby 45 43 44,ya3 46 43 6,yac 47 43 (yc8 2 45 46),yac 48 43 (ydb 2 (.t 47)),ya3 49 43 5,ya3 50 43 6,yac 51 43 (yc8 2 49 50),yac 52 43 (ydb 2 (.t 51)),yac 53 43 (.eqs true true [.s,.i] (.t 48) (.t 52)),xW 54 43 53]) (yai 54 [xM 55 6,ycw 56 f_197 (yan 5) 2 (.t 55) 0,xS 4 2 56]) [xM 36 6,yck 37 .add 36,xM 6 37])
def c_133_k2:Xv:=yb8 (xO 57 (.build [.int .i64 0,.int .i64 0,.int .i64 0,.int .i64 0] [])) (xS 4 2 57)
def c_133_k3:Xv:=ybc [xO 28 (.build [.str [],.int .i64 0] [(0,1,(.c (.str [105,110]))),(1,1,(.c (.int .i64 8)))]),xO 29 (.build [.str [],.int .i64 0] [(0,1,(.c (.str [111,117,116]))),(1,1,(.c (.int .i64 8)))]),xO 30 (.build [.str [],.int .i64 0] [(0,1,(.c (.str [100,114,111,112]))),(1,1,(.c (.int .i64 1)))]),xO 31 (.bslice .imm 2 (List.replicate 3 [.str [],.int .i64 0]) [(0,(.t 28)),(1,(.t 29)),(2,(.t 30))]),ydj 31] [ydc] 2 c_133_l1 c_133_k2
def c_133:AFn:=⟨1,[.cell 2 true 4],ydl [yda 1,yc2 2 ybo ybo ybo ybo] [xF 7 2 1,xL 8 7,xN 9 8,xK 10 .gtr 9 12] 10 [ycw 11 f_197 (yan 12) 2 (yan 0) 0,xS 4 2 11] [ya8 3] 0 c_133_l0 c_133_k3⟩
def c_134_l0:Xv:=ybe [ycq 19,yc6 20,xB 21 .lss 19 20,xM 22 21,ybp 23 22 4,ycx 24 22 .eql 23 0,xV 25 22 24] 25 2 (ybk 3 (xD [xF 28 3 1,xL 29 28,ycq 30,xX 31 3 29 30,yca 32 31,xL 33 32,xF 34 3 1,xL 35 34,yc6 36,xX 37 3 35 36,yca 38 37,xL 39 38,xB 40 .eql 33 39]) (yb3 40 (xR [xI 4 7])) [ycq 26,yck 27 .add 26,ydj 27])
def c_134_k1:Xv:=ya5 [xM 41 4,yc3 42 .neq 41] 42 [xM 43 4,yc6 44,ycw 45 f_197 (.t 43) 3 (.t 44) 0,xS 4 2 45]
def c_134_k2:Xv:=xR [yc6 11,yck 12 .add 11,xM 3 12]
def c_134_l3:Xv:=ybe [yc6 6,xF 7 3 1,xL 8 7,xN 9 8,xB 10 .lss 6 9] 10 0 (yaj 1 (ybc [xF 13 3 1,xL 14 13,yc6 15,xX 16 3 14 15,xA 17 3 16,yb2 18 f_200 17,yc7 18] [yc5] 2 c_134_l0 c_134_k1) c_134_k2)
def c_134_k4:Xv:=yb8 (xO 46 (.build [.int .i64 0,.int .i64 0,.int .i64 0,.int .i64 0] [])) (xS 4 2 46)
def c_134:AFn:=⟨1,[.cell 2 true 4],ybc [yda 1,yc2 2 ybo ybo ybo ybo] [ya8 3] 0 c_134_l3 c_134_k4⟩
def c_135_l0:Xv:=ybe [xM 26 6,yc6 27,xB 28 .lss 26 27] 28 2 (ybk 3 (xD [xF 31 4 1,xL 32 31,xM 33 6,xX 34 3 32 33,yca 35 34,xL 36 35,xF 37 4 1,xL 38 37,yc6 39,xX 40 3 38 39,yca 41 40,xL 42 41,xB 43 .eql 36 42]) (yai 43 [yc6 44,ycw 45 f_197 (yan 7) 4 (.t 44) 0,xS 4 2 45]) [xM 29 6,yck 30 .add 29,xM 6 30])
def c_135_k1:Xv:=xR [yc6 12,yck 13 .add 12,xM 3 13]
def c_135_l2:Xv:=ybe [yc6 7,xF 8 4 1,xL 9 8,xN 10 9,xB 11 .lss 7 10] 11 0 (yaj 1 (ya4 [ydm 15 1,yc6 16,ybn 17 f_201 15 16,xM 14 17,xE 18 0 14,xE 19 1 14,yc7 18,ydj 19] [ycq 20,yc3 21 .neq 20] 21 [ycq 22,yc6 23,xM 24 4,yco 25 f_197 (.t 22) 4 (.t 23) (.t 24),xS 4 2 25] (yaa [ydc] (yam 2 c_135_l0))) c_135_k1)
def c_135_k3:Xv:=yb8 (xO 46 (.build [.int .i64 0,.int .i64 0,.int .i64 0,.int .i64 0] [])) (xS 4 2 46)
def c_135:AFn:=⟨1,[.cell 2 true 4],ybc [yda 1,yc2 2 ybo ybo ybo ybo] [ya8 3] 0 c_135_l2 c_135_k3⟩
def c_136_l0:Xv:=ybe [xM 26 6,yc6 27,xB 28 .lss 26 27] 28 2 (ybk 3 (xD [xF 31 5 1,xL 32 31,xM 33 6,xX 34 6 32 33,yca 35 34,xL 36 35,xF 37 5 1,xL 38 37,yc6 39,xX 40 6 38 39,yca 41 40,xL 42 41,xB 43 .eql 36 42]) (yai 43 [yc6 44,ycw 45 f_197 (yan 7) 5 (.t 44) 0,xS 4 2 45]) [xM 29 6,yck 30 .add 29,xM 6 30])
def c_136_k1:Xv:=xR [yc6 12,yck 13 .add 12,xM 3 13]
def c_136_l2:Xv:=ybe [yc6 7,xF 8 5 1,xL 9 8,xN 10 9,xB 11 .lss 7 10] 11 0 (yaj 1 (ya4 [ydm 15 1,yc6 16,ybn 17 f_202 15 16,xM 14 17,xE 18 0 14,xE 19 1 14,yc7 18,ydj 19] [ycq 20,yc3 21 .neq 20] 21 [ycq 22,yc6 23,xM 24 4,yco 25 f_197 (.t 22) 5 (.t 23) (.t 24),xS 4 2 25] (yaa [ydc] (yam 2 c_136_l0))) c_136_k1)
def c_136_k3:Xv:=yb8 (xO 46 (.build [.int .i64 0,.int .i64 0,.int .i64 0,.int .i64 0] [])) (xS 4 2 46)
def c_136:AFn:=⟨1,[.cell 2 true 4],ybc [yda 1,yc2 2 ybo ybo ybo ybo] [ya8 3] 0 c_136_l2 c_136_k3⟩
def c_137:AFn:=⟨1,[.cell 2 true 4],ycr (yda 1) (yc2 2 ybo ybo ybo ybo) (ya4 [ydm 7 1,yb2 8 f_203 7,xM 6 8,xE 9 0 6,xE 10 1 6,xE 11 2 6,xM 3 9,yc7 10,ydj 11] [ycq 12,yc3 13 .neq 12] 13 [ycq 14,yc6 15,xM 16 4,yco 17 f_197 (.t 14) 6 (.t 15) (.t 16),xS 4 2 17] (ya4 [ydm 19 1,yb2 20 f_204 19,xM 18 20,xE 21 0 18,xE 22 1 18,xM 3 21,ydj 22] [ycq 23,yc3 24 .neq 23] 24 [ycq 25,yc6 26,ycw 27 f_197 (.t 25) 7 (.t 26) 0,xS 4 2 27] (ya4 [ydm 29 1,yb2 30 f_205 29,xM 28 30,xE 31 0 28,xE 32 1 28,xM 3 31,ydj 32] [ycq 33,yc3 34 .neq 33] 34 [ycq 35,yc6 36,ycw 37 f_197 (.t 35) 8 (.t 36) 0,xS 4 2 37] (yb8 (xO 38 (.build [.int .i64 0,.int .i64 0,.int .i64 0,.int .i64 0] [])) (xS 4 2 38)))))⟩
def c_138_l0:Xv:=ycp [xM 6 4,xF 7 3 1,xL 8 7,xN 9 8,xB 10 .lss 6 9] 10 0 1 (yao [xF 13 3 1,xL 14 13,xM 15 4,xX 16 3 14 15,xF 17 2 16,xL 18 17,ydj 18] [ycq 19,yck 20 .lss 19,xM 21 20,ya3 22 21 5,ybf 23 21 .gtr 22 64,xW 24 21 23] (yb3 24 (xR [yc5])) (xR [yc6 25,ycq 26,xO 27 (.mkslice .imm 1 4 [.int .u32 0] (.t 26) (.t 26)),xO 28 (.bslice .imm 1 (List.replicate 1 [.Xu 1 []]) [(0,(.t 27))]),yb4 29 1 24 25 28,xM 3 29])) [xM 11 4,yck 12 .add 11,yc7 12]
def c_138_k1:Xv:=ycf (yc6 30) 2 30
def c_138:AFn:=⟨1,[.tmp 2],ycr (yda 1) (xC 2 (.Xu 1 [])) (ybc [ycv 3 1] [yb5] 0 c_138_l0 c_138_k1)⟩
def c_139_l0:Xv:=ybe [xM 32 11,xM 33 2,xN 34 33,xB 35 .lss 32 34] 35 0 (ybk 1 (.region true [(0,15),(2,15),(5,15),(9,15),(10,15)] [⟨some 39,none,.load true 9 (.t 3)⟩,⟨some 40,none,.faddr 0 (.t 10)⟩,⟨some 41,none,.load false 1 (.t 40)⟩,⟨some 42,none,.mov (.t 11)⟩,⟨some 43,none,.iaddr 4 none (.t 41) (.t 42)⟩,⟨some 44,none,.load true 4 (.t 43)⟩,⟨some 45,none,.mov (.t 2)⟩,⟨some 46,none,.mov (.t 11)⟩,⟨some 47,none,.iaddr 9 none (.t 45) (.t 46)⟩,⟨some 48,none,.load true 9 (.t 47)⟩,⟨some 49,none,.pcall f_207 [.t 39,.t 44,.t 48]⟩,⟨some 38,none,.mov (.t 49)⟩,⟨some 50,none,.ext 0 (.t 38)⟩,⟨some 51,none,.ext 1 (.t 38)⟩,⟨some 52,none,.ext 2 (.t 38)⟩,⟨some 12,none,.alloc [.Xu 1 [],.Xu 1 [],.Xu 2 [],.Xu 1 []]⟩,⟨none,none,.store 4 (.t 12) (.t 50)⟩,⟨some 13,none,.mov (.t 51)⟩,⟨some 14,none,.mov (.t 52)⟩] (some [12])) (ybi [xM 53 14,yc3 54 .neq 53] 54 [xO 55 (.build [.Xu 4 [],.Xu 1 []] []),xM 56 11,xM 57 14,xS 2 6 55,xM 7 56,xM 8 57] (yaa [yca 58 10,xL 59 58,xA 60 4 12,xO 61 (.bslice .imm 4 (List.replicate 1 [.Xu 1 [],.Xu 1 [],.Xu 2 [],.Xu 1 []]) [(0,(.t 60))]),yb4 62 4 96 59 61,yca 63 10,xS 1 63 62] (xR [ycg 64 10,xL 65 64,xM 66 13,xO 67 (.bslice .imm 1 (List.replicate 1 [.int .i64 0]) [(0,(.t 66))]),yb4 68 1 8 65 67,ycg 69 10,xS 1 69 68]))) [xM 36 11,yck 37 .add 36,xM 11 37])
def c_139_k1:Xv:=yad [xA 70 2 10,xS 2 6 70,ya8 7,ya8 8]
def c_139:AFn:=⟨3,[.cell 6 true 2,.tmp 7,.tmp 8],yaa [yda 3,xJ 4 1,yav 6 [.Xu 4 [],.Xu 1 []],ya8 7,ya8 8] (yao [ydm 15 3,xA 16 4 4,ybn 17 f_206 15 16,xM 9 17] [xM 18 9,yc3 19 .eql 18,xM 20 19,ybp 21 20 2,yap 22 20 (ya7 21),ycx 23 20 .gtr 22 64,xV 24 20 23] (yb3 24 (xR [xI 9 12])) (ybi [xM 25 9,yc3 26 .neq 25] 26 [xO 27 (.build [.Xu 4 [],.Xu 1 []] []),xM 28 9,xS 2 6 27,ycc 7,xM 8 28] (ybc [xA 29 4 4,xO 30 (.bslice .imm 4 (List.replicate 1 [.Xu 1 [],.Xu 1 [],.Xu 2 [],.Xu 1 []]) [(0,(.t 29))]),xO 31 (.build [.Xu 4 [],.Xu 1 []] [(0,1,(.t 30))]),yav 10 [.Xu 4 [],.Xu 1 []],xS 2 10 31] [ya8 11] 0 c_139_l0 c_139_k1)))⟩
def c_140:AFn:=⟨1,[.tmp 2],yb0 [xC 2 (.Xu 1 [])] [yb6 3,xO 4 (yaq .quo 3 (.c (yce 16777216))),yc0 5 .u8 4,yb6 6,xO 7 (yaq .quo 6 (.c (yce 65536))),yc0 8 .u8 7,yb6 9,xO 10 (yaq .quo 9 (.c (yce 256))),yc0 11 .u8 10,yb6 12,yc0 13 .u8 12,xO 14 (.bslice .imm 1 (List.replicate 4 [.int .u8 0]) [(0,(.t 5)),(1,(.t 8)),(2,(.t 11)),(3,(.t 13))]),xM 2 14]⟩
def c_141_l0:Xv:=ycp [ydj 4,yb6 6,xN 7 6,xB 8 .lss 5 7] 8 0 1 (xR [yc6 11,yb6 12,xM 13 4,xX 14 1 12 13,xL 15 14,yc0 16 .u64 15,xB 17 .xor 11 16,xO 18 (yaq .mul 17 (yc4 .u64 16777619)),xO 19 (yaq .rem 18 (yc4 .u64 4294967296)),xM 3 19]) [xM 9 4,yck 10 .add 9,yc7 10]
def c_141_k1:Xv:=yad [yc6 20,yc0 21 .u32 20,xM 2 21]
def c_141:AFn:=⟨1,[.tmp 2],yc9 [xC 2 (yce 0)] [xC 3 (.int .u64 2166136261)] [yb5] 0 c_141_l0 c_141_k1⟩
def c_142:AFn:=⟨1,[.tmp 2],ya4 [ycu 1 0,ya0 2] [ycg 4 1,xL 5 4,yb2 6 f_208 5,ybs 7 6] 7 [ya0 2] (yao [xF 8 2 1,xL 9 8,yc3 10 .geq 9,xM 11 10,ybj 12 11 2 1,ybz 13 11 1 12,ycx 14 11 .leq 13 2147483647,xV 15 11 14,xM 3 15] [yca 16 1,xL 17 16] (.block 0 (ybh [yck 19 .eql 17,xM 18 19] 18 [xF 20 3 1,ycg 21 20,xL 22 21,yb2 23 f_208 22,xM 24 23,ybj 25 24 3 1,ybj 26 24 0 25,ybz 27 24 1 26,yap 28 24 (ya7 27),ycx 29 24 .leq 28 255,xV 30 24 29,xM 31 30,ybj 32 31 3 1,ybj 33 31 2 32,yap 34 31 (ydb 2 (.t 33)),ych 35 31 f_209 [.t 34],xV 36 31 35,xM 2 36] (ybh [xK 38 .eql 17 2,xM 37 38] 37 [yc6 39,xM 40 39,ybj 41 40 7 1,yap 42 40 (ydb 2 (.t 41)),ych 43 40 f_209 [.t 42],xV 44 40 43,xM 2 44] (yc1 [xK 46 .eql 17 3,xM 45 46] 45 [yc6 47,xM 2 47] [xK 49 .eql 17 4,xM 48 49] 48 [xF 50 7 1,xA 51 2 50,yb2 52 f_209 51,xM 2 52])))) (ydk (ya0 2)))⟩
def c_143_l0:Xv:=ycp [xM 30 4,xF 31 3 1,yca 32 31,xL 33 32,xN 34 33,xB 35 .lss 30 34] 35 0 1 (yaa [yc6 38,xF 39 3 1,yca 40 39,xL 41 40,xM 42 4,xX 43 2 41 42,yca 44 43,xL 45 44,yc0 46 .i64 45,ybm 47 f_210 46 (yan 4),yb4 48 1 1 38 47,xM 3 48] (xR [yc6 49,xF 50 3 1,yca 51 50,xL 52 51,xM 53 4,xX 54 2 52 53,ycg 55 54,xL 56 55,yc0 57 .i64 56,ybm 58 f_210 57 (yan 4),yb4 59 1 1 49 58,xM 3 59])) [xM 36 4,yck 37 .add 36,yc7 37]
def c_143_k1:Xv:=yad [yc6 60,xF 61 3 1,xF 62 2 61,xA 63 2 62,yb2 64 f_211 63,yb4 65 1 1 60 64,xM 2 65]
def c_143_k2:Xv:=yae [yca 66 1,xL 67 66,xK 68 .neq 67 4] (yb3 68 (xR [yc6 69,xF 70 2 1,xL 71 70,ybm 72 f_210 71 (yan 4),yb4 73 1 1 69 72,xM 3 73])) (yae [yca 74 1,xL 75 74,xK 76 .neq 75 3] (yb3 76 (xR [yc6 77,xF 78 7 1,xA 79 2 78,yb2 80 f_211 79,yb4 81 1 1 77 80,xM 3 81])) (ycf (yc6 82) 2 82))
def c_143:AFn:=⟨1,[.tmp 2],yaz [ycu 1 0,xC 2 (.Xu 1 [])] (xD [yca 5 1,xL 6 5,yc0 7 .u8 6,xO 8 (.bslice .imm 1 (List.replicate 1 [.int .u8 0]) [(0,(.t 7))]),ycg 9 1,xL 10 9,ybm 11 f_210 10 (yan 2),yb4 12 1 1 8 11,xM 3 12]) (yae [yca 13 1,xL 14 13,yck 15 .eql 14] (yb3 15 (yc9 [yc6 16,xF 17 3 1,ycg 18 17,xL 19 18,ybm 20 f_210 19 (yan 2),yb4 21 1 1 16 20,xM 3 21] [yc6 22,xF 23 3 1,yca 24 23,xL 25 24,xN 26 25,yc0 27 .u8 26,xO 28 (.bslice .imm 1 (List.replicate 1 [.int .u8 0]) [(0,(.t 27))]),yb4 29 1 1 22 28,xM 3 29] [yb5] 0 c_143_l0 c_143_k1)) c_143_k2)⟩
def c_147_l0:Xv:=yct [xB 18 .lss 17 16] 18 0 1 (ybr [xM 19 17,xX 20 5 15 17,xA 21 5 20,yav 8 [ybo,.Xu 2 [],ybo,ybo,.Xu 1 []],xM 7 19,xS 5 8 21] [ycd 22,xM 23 7,xX 24 5 22 23,xA 25 5 24,yav 9 [ybo,.Xu 2 [],ybo,ybo,.Xu 1 []],xS 5 9 25] (ya5 [xM 26 2,xA 27 5 8,xA 28 5 9,xO 29 (ycy 26 [.t 27,.t 28]),ybs 30 29] 30 [ya0 6])) [yck 31 .add 17,xM 17 31]
def c_147_k1:Xv:=ydk (ycm 6)
def c_147:AFn:=⟨3,[.tmp 6],ydl [ya0 6] [yb6 10,xN 11 10,ycd 12,xN 13 12,xB 14 .neq 11 13] 14 [ya0 6] [yb6 15,xN 16 15,ya8 17] 0 c_147_l0 c_147_k1⟩
def c_148:AFn:=⟨2,[.tmp 4],yb0 [ycu 2 0,ycu 3 1,ya0 4] [yca 5 2,xL 6 5,ydi 7,xL 8 7,xB 9 .eql 6 8,xM 10 9,ybj 11 10 1 2,yap 12 10 (ydb 4 (.t 11)),ybj 13 10 1 3,yap 14 10 (ydb 4 (.t 13)),ych 15 10 f_96 [.t 12,.t 14],xV 16 10 15,yc7 16]⟩
def c_149:AFn:=⟨1,[.tmp 2],yb0 [yda 1,ya0 2] [xF 3 2 1,xL 4 3,yck 5 .geq 4,ycq 6,ybj 7 6 2 1,ybz 8 6 1 7,ycx 9 6 .leq 8 64,xV 10 6 9,xM 2 10]⟩
def c_151_l0:Xv:=ybe [ycq 20,yca 21 2,xL 22 21,xN 23 22,xB 24 .lss 20 23] 24 0 (ybk 1 (xD [yca 27 2,xL 28 27,ycq 29,xX 30 2 28 29,xA 31 2 30,ydi 32,xL 33 32,ycq 34,xX 35 2 33 34,xA 36 2 35,xO 37 (.eqs true true [.i,.i] (.t 31) (.t 36))]) (yai 37 [ya0 4]) [ycq 25,yck 26 .add 25,ydj 26])
def c_151_k1:Xv:=ydk (ycm 4)
def c_151:AFn:=⟨2,[.tmp 4],ydl [ycu 2 0,ycu 3 1,ya0 4] [yca 6 2,xL 7 6,xN 8 7,ydi 9,xL 10 9,xN 11 10,xB 12 .neq 8 11,xM 13 12,yax 14 13 1 2,yby 15 13 14,yax 16 13 1 3,yby 17 13 16,yb9 18 13 .neq 15 17,xW 19 13 18] 19 [ya0 4] [yc5] 0 c_151_l0 c_151_k1⟩
def c_152_l0:Xv:=ydn [xB 29 .lss 28 27] 29 0 1 [xX 30 5 26 28,xA 31 5 30,yav 13 [ybo,.Xu 2 [],ybo,ybo,.Xu 1 []],xS 5 13 31] [13] (ybi [yca 32 13,xL 33 32,xM 34 11,xB 35 .leq 33 34] 35 [xI 10 14] (xR [yca 36 13,xL 37 36,xM 11 37])) [yck 38 .add 28,xM 28 38]
def c_152_l1:Xv:=ydn [xB 53 .lss 52 51] 53 2 3 [xM 54 52,xX 55 5 50 52,xA 56 5 55,yav 15 [ybo,.Xu 2 [],ybo,ybo,.Xu 1 []],xM 14 54,xS 5 15 56] [15] (yae [ydm 57 5,ycd 58,ycg 59 15,xA 60 4 59,ydh 61 f_159 57 58 60,xM 16 61] (ya5 [xM 62 16,yc3 63 .neq 62] 63 [xM 64 16,xM 10 64]) (ya5 [xM 65 2,xM 66 14,xO 67 (.slc 5 (.t 65) none (some (.t 66)) none),xO 68 (.mkfunc (.func f_215) [] [.t 15]),ybn 69 f_160 67 68] 69 [xI 10 7])) [yck 70 .add 52,xM 52 70]
def c_152_k2:Xv:=yad [ydm 71 5,ycd 72,xA 73 2 9,ydh 74 f_156 71 72 73,xM 10 74]
def c_152_k3:Xv:=ybi [yc6 39,xM 40 11,xB 41 .leq 39 40,xM 42 41,ya3 43 42 3,ybf 44 42 .lss 43 1,xW 45 42 44,xM 46 45,ya3 47 46 3,ybf 48 46 .gtr 47 1073741824,xW 49 46 48] 49 [xI 10 14] (ybx [xM 50 2,xN 51 50,ya8 52] 2 c_152_l1 c_152_k2)
def c_152:AFn:=⟨5,[.tmp 10],ya4 [yda 5,xJ 9 4,ya8 10] [xM 17 2,xN 18 17,xF 19 5 5,xL 20 19,ycd 21,xX 22 6 20 21,xF 23 5 22,xL 24 23,xB 25 .gtr 18 24] 25 [xI 10 12] (ybc [ya8 11] [xM 26 2,xN 27 26,ya8 28] 0 c_152_l0 c_152_k3)⟩
def c_153_l0:Xv:=yct [xB 18 .lss 17 16] 18 0 1 (yaa [xM 19 17,xX 20 1 15 17,xL 21 20,ydj 19,xM 6 21] (ya5 [xM 22 6,xN 23 22,xF 24 3 2,xL 25 24,ycq 26,xX 27 3 25 26,xF 28 2 27,xL 29 28,xB 30 .neq 23 29] 30 [xI 4 2])) [yck 31 .add 17,xM 17 31]
def c_153_l1:Xv:=yct [xB 35 .lss 34 33] 35 2 3 (yaz [xM 36 34,xX 37 1 32 34,xL 38 37,xM 7 36,xM 8 38] (xD [xM 39 8,xN 40 39,yc3 41 .gtr 40,xM 42 41,ybp 43 42 8,ych 44 42 f_216 [.t 43],ybj 45 42 3 2,ybz 46 42 1 45,ybp 47 42 7,yap 48 42 (yc8 3 46 47),ybj 49 42 1 48,ybz 50 42 1 49,ych 51 42 f_217 [.t 50],ybu 52 42 .gtr 44 (.t 51),xV 53 42 52]) (yai 53 [xI 4 9])) [yck 54 .add 34,xM 34 54]
def c_153_k2:Xv:=ydk yb5
def c_153_k3:Xv:=ybx [ycd 32,xN 33 32,ya8 34] 2 c_153_l1 c_153_k2
def c_153:AFn:=⟨2,[.tmp 4],ydl [yda 2,yb5] [ycd 9,xN 10 9,xF 11 3 2,xL 12 11,xN 13 12,xB 14 .neq 10 13] 14 [xI 4 2] [ycd 15,xN 16 15,ya8 17] 0 c_153_l0 c_153_k3⟩
def c_154_l0:Xv:=ydn [xB 23 .lss 22 21] 23 0 1 [xM 24 22,xX 25 5 20 22,xA 26 5 25,yav 5 [ybo,.Xu 2 [],ybo,ybo,.Xu 1 []],yc7 24,xS 5 5 26] [5] (xD [yb6 27,ycj 28 27,xF 29 13 28,xL 30 29,ycd 31,xX 32 1 30 31,xL 33 32,yca 34 5,xL 35 34,xM 36 4,⟨none,none,.update .i (.t 33) (.t 35) (.t 36)⟩]) [yck 37 .add 22,xM 22 37]
def c_154:AFn:=⟨2,[],ybr [yb6 6,ycj 7 6,xF 8 13 7,xL 9 8,ycd 10,xO 11 .mkmap,xX 12 1 9 10,xS 1 12 11] [yb6 13,ycj 14 13,yca 15 14,yca 16 15,xL 17 16,ycd 18,xX 19 1 17 18,xL 20 19,xN 21 20,ya8 22] (yam 0 c_154_l0)⟩
def c_155:AFn:=⟨3,[.tmp 6,.tmp 7],ycr ydc (ya8 7) (yaj 0 (yc1 [yb6 11,xO 12 (.eqn false (.t 11) (.c .nilptr)),xM 13 12,ya3 14 13 0,yac 15 13 (ybb 14),yax 16 13 14 15,yby 17 13 16,yac 18 13 (yba 17),xW 19 13 18,xM 10 19] 10 [ydc,xI 7 1] [yb6 21,ycd 22,ybt 23 f_158 [.t 21,.t 22],ybs 24 23,xM 20 24] 20 [ydc,xI 7 8]) (ya4 [yb6 26,ycj 27 26,xF 28 13 27,xL 29 28,ycd 30,xX 31 1 29 30,xL 32 31,xM 33 2,xO 34 (.lookup .i (.int .i64 0) true (.t 32) (.t 33)),xM 25 34,xE 35 0 25,xE 36 1 25,xM 8 35,xM 9 36] [xM 37 9,ybs 38 37] 38 [ydc,xI 7 8] (yad [xM 39 8,xM 6 39,ya8 7])))⟩
def c_156:AFn:=⟨3,[.tmp 6],ya4 [yda 3,xJ 5 2,ydc] [ydm 7 3,ycd 8,yca 9 5,xL 10 9,ydh 11 f_218 7 8 10,ybs 12 11] 12 [xI 6 8] (yad [ydm 13 3,xA 14 2 5,ybn 15 f_219 13 14,xM 6 15])⟩
def c_157:AFn:=⟨1,[.cell 2 true 5],yaz [yda 1,yav 2 [ybo,.Xu 2 [],ybo,ybo,.Xu 1 []]] (xD [yca 3 1,xL 4 3,ycg 5 1,xA 6 4 5,yb2 7 f_163 6,xO 8 (.build [.int .i64 0,.Xu 2 [],.int .i64 0,.int .i64 0,.Xu 1 []] [(0,1,(.t 4)),(1,4,(.t 7))]),xS 5 2 8]) .ret⟩
def c_158:AFn:=⟨2,[.tmp 4],yb0 [ya0 4] [ycd 5,yc3 6 .geq 5,xM 7 6,ybp 8 7 1,ybp 9 7 0,yap 10 7 (ybb 9),ybj 11 7 0 10,ybj 12 7 0 11,ybz 13 7 1 12,yap 14 7 (ya7 13),ybu 15 7 .lss 8 (.t 14),xV 16 7 15,yc7 16]⟩
def c_159_l0:Xv:=ydn [xB 42 .lss 41 40] 42 0 1 [xM 43 41,xX 44 2 39 41,xA 45 2 44,yav 12 [yce 0,yce 0],xM 11 43,xS 2 12 45] [12] (yci [xA 46 2 12,xM 47 9,xM 48 11,xX 49 3 47 48,xF 50 2 49,xL 51 50,xM 52 10,xM 53 11,xX 54 1 52 53,xL 55 54,ydh 56 f_221 46 51 55,xM 13 56] (ya5 [xM 57 13,yc3 58 .neq 57] 58 [xM 59 13,xM 6 59])) [yck 60 .add 41,xM 41 60]
def c_159_k1:Xv:=yaj 2 (ybh [ycg 62 5,xL 63 62,yc3 64 .lss 63,xM 65 64,yax 66 65 1 5,yby 67 65 66,ybf 68 65 .gtr 67 255,xW 69 65 68,xM 61 69] 61 [xI 6 9] (yc1 [ycg 71 5,xL 72 71,yc3 73 .neq 72,xM 74 73,yap 75 74 (ydb 9 (.t 3)),ybp 76 74 1,ych 77 74 f_222 [.t 75,.t 76],ycx 78 74 .neq 77 3,xV 79 74 78,xM 70 79] 70 [xI 6 11] [ydm 81 3,ycd 82,xF 83 2 5,yca 84 83,xL 85 84,ydh 86 f_218 81 82 85,ybs 87 86,xM 80 87] 80 [xI 6 8])) (yad [ydm 88 3,xF 89 2 5,xA 90 2 89,ybn 91 f_219 88 90,xM 6 91])
def c_159:AFn:=⟨3,[.tmp 6],yao [yda 3,xJ 5 2,ydc] [ydm 15 3,ycd 16,ybn 17 f_184 15 16,xM 14 17,xE 18 0 14,xE 19 1 14,xM 7 18,xM 8 19] (ya5 [xM 20 8,yc3 21 .neq 20] 21 [xM 22 8,xM 6 22]) (yci [xF 23 5 3,xL 24 23,ycd 25,xX 26 6 24 25,ycg 27 26,xL 28 27,ydm 29 3,ycd 30,ybn 31 f_220 29 30,xM 9 28,xM 10 31] (ybi [yca 32 5,xL 33 32,xN 34 33,xM 35 9,xN 36 35,xB 37 .neq 34 36] 37 [xI 6 2] (ybx [yca 38 5,xL 39 38,xN 40 39,ya8 41] 0 c_159_l0 c_159_k1)))⟩
def c_160:AFn:=⟨2,[.tmp 4],yb0 [ya0 4] [yb6 5,ycd 6,ybn 7 f_223 5 6,yc3 8 .geq 7,yc7 8]⟩
def c_161:AFn:=⟨2,[.tmp 3],yb0 [ycu 2 0,ya0 3] [ycg 4 2,xA 5 4 4,xA 6 4 1,ybn 7 f_162 5 6,xM 3 7]⟩
def c_162_l0:Xv:=yct [xB 25 .lss 24 23] 25 0 1 (yaz [xM 26 24,xX 27 2 22 24,xA 28 2 27,yav 6 [yce 0,yce 0],ydj 26,xS 2 6 28] (xD [xA 29 2 6,ydi 30,xL 31 30,ycq 32,xX 33 2 31 32,xA 34 2 33,xO 35 (.eqs true true [.i,.i] (.t 29) (.t 34))]) (yai 35 [ya0 4])) [yck 36 .add 24,xM 24 36]
def c_162_k1:Xv:=ydk (ycm 4)
def c_162:AFn:=⟨2,[.tmp 4],ydl [ycu 2 0,ycu 3 1,ya0 4] [ycg 7 2,xL 8 7,ycg 9 3,xL 10 9,xB 11 .neq 8 10,xM 12 11,yax 13 12 0 2,yby 14 12 13,ybq 15 12 14,yax 16 12 0 3,yby 17 12 16,ybq 18 12 17,yb9 19 12 .neq 15 18,xW 20 12 19] 20 [ya0 4] [yca 21 2,xL 22 21,xN 23 22,ya8 24] 0 c_162_l0 c_162_k1⟩
def c_163:AFn:=⟨1,[.cell 2 true 4],yaz [yda 1,yc2 2 (.Xu 2 []) ybo ybo (.Xu 1 [])] (xD [yca 3 1,xL 4 3,yb2 5 f_224 4,ycg 6 1,xL 7 6,xF 8 2 1,xA 9 2 8,yb2 10 f_85 9,xO 11 (.build [.Xu 2 [],.int .i64 0,.int .i64 0,.Xu 1 []] [(0,1,(.t 5)),(1,1,(.t 7)),(2,2,(.t 10))]),xS 4 2 11]) .ret⟩
def c_164:AFn:=⟨3,[.tmp 6],yaa [xC 6 (.Xu 5 [])] (ya4 [yb6 8,ycd 9,xM 10 2,yb6 11,xN 12 11,xO 13 (.slcH 5 (.t 8) (some (.t 9)) (some (.t 10)) (some (.t 12)))] [ycd 14,xM 15 2,xB 16 .eql 14 15] 16 [yb6 17,xM 6 17] (yaz [yb6 18,xN 19 18,xM 7 19] (xD [yb6 20,ycd 21,xO 22 (.slc 5 (.t 20) none (some (.t 21)) none),yb6 23,xM 24 2,xO 25 (.slc 5 (.t 23) (some (.t 24)) none none),yb4 26 5 72 22 25,xM 0 26]) (yb0 [yb6 27,yb6 28,xN 29 28,xM 30 7,xO 31 (.slcH 5 (.t 27) (some (.t 29)) (some (.t 30)) none),⟨none,none,.clear [.int .i64 0,.Xu 2 [],.int .i64 0,.int .i64 0,.Xu 1 []] (.t 31)⟩] [yb6 32,xM 6 32])))⟩
def c_165_l0:Xv:=yct [xB 15 .lss 14 13] 15 0 1 (yaa [xM 16 14,xX 17 1 12 14,xL 18 17,ydj 16,xM 6 18] (ya5 [xM 19 6,ycd 20,ycq 21,xX 22 1 20 21,xL 23 22,xB 24 .neq 19 23] 24 [ya0 4])) [yck 25 .add 14,xM 14 25]
def c_165_k1:Xv:=ydk (ycm 4)
def c_165:AFn:=⟨2,[.tmp 4],ydl [ya0 4] [yb6 7,xN 8 7,ycd 9,xN 10 9,xB 11 .neq 8 10] 11 [ya0 4] [yb6 12,xN 13 12,ya8 14] 0 c_165_l0 c_165_k1⟩
def c_166:AFn:=⟨4,[],ycr (yb6 8) (yc3 9 .neq 8) (yb3 9 (xR [yb6 10,ycd 11,xM 12 2,yc6 13,xO 14 (.build [.int .i64 0,.int .i64 0,.int .i64 0,.int .i64 0] [(0,1,(.t 10)),(1,1,(.t 11)),(2,1,(.t 12)),(3,1,(.t 13))]),xO 15 (.build [.int .i64 0,.int .i64 0,.int .i64 0,.int .i64 0] [(0,4,(.t 14))]),xO 16 (.mkiface 172 (.t 15)),⟨none,none,.panic (.t 16)⟩]))⟩
def c_167:AFn:=⟨2,[.tmp 4],ya4 [yb5] [yb6 5] 5 [ycd 6,yc7 6] (ydk yb5)⟩
def c_168:AFn:=⟨1,[.tmp 2],yb0 [ya0 2] [yb6 3,yb2 4 f_225 3,ybs 5 4,ycq 2]⟩
def c_169_l0:Xv:=ydn [xB 11 .lss 10 9] 11 0 1 [xX 12 2 8 10,xA 13 2 12,yav 7 [.str [],.Xu 2 []],xS 2 7 13] [7] (xR [ycq 14,ycd 15,xA 16 2 7,xO 17 (ycy 15 [.t 16]),xO 18 (.bslice .imm 1 (List.replicate 1 [.str []]) [(0,(.t 17))]),yb4 19 1 16 14 18,ydj 19]) [yck 20 .add 10,xM 10 20]
def c_169_k1:Xv:=ycf (ycq 21) 4 21
def c_169:AFn:=⟨2,[.tmp 4],yc9 [xC 4 (.Xu 1 [])] [ycv 5 1] [yb6 8,xN 9 8,ya8 10] 0 c_169_l0 c_169_k1⟩
def c_170:AFn:=⟨1,[.tmp 2],yb0 [yda 1,xC 2 (.str [])] [yca 3 1,xL 4 3,xM 2 4]⟩
def c_171_l0:Xv:=yct [xB 48 .lss 47 46] 48 3 4 (ybr [xX 49 2 45 47,xA 50 2 49,yav 6 [.str [],ybo],xS 2 6 50] [ycg 51 4,xL 52 51,ycg 53 6,xS 1 53 52] (ya5 [xA 54 2 6,xA 55 2 4,xO 56 (.eqs false true [.s,.i] (.t 54) (.t 55))] 56 [xI 2 7])) [yck 57 .add 47,xM 47 57]
def c_171_k1:Xv:=xR [yck 58 .add 25,xM 25 58]
def c_171_l2:Xv:=ybd [xB 26 .lss 25 24] 26 1 (yaj 2 (.seq (xQ [xM 27 25,xX 28 2 23 25,xA 29 2 28,yav 4 [.str [],ybo],xM 3 27,xS 2 4 29] [4]) (ybi [yca 30 4,xL 31 30,yb2 32 f_225 31,ybs 33 32] 33 [xI 2 6] (ybi [ycg 34 4,xL 35 34,yck 36 .lss 35,xM 37 36,yax 38 37 1 4,yby 39 37 38,ybf 40 37 .gtr 39 32,xW 41 37 40] 41 [xI 2 10] (yaa [ycg 42 1,xL 43 42,yc6 44,xO 45 (.slc 2 (.t 43) none (some (.t 44)) none),xN 46 45,ya8 47] (yam 3 c_171_l0))))) c_171_k1)
def c_171_k3:Xv:=ybi [xA 59 2 1,yb2 60 f_227 59,yb2 61 f_226 60,xK 62 .rem 61 8,yc3 63 .neq 62] 63 [xI 2 10] (ydk (ya8 2))
def c_171:AFn:=⟨1,[.tmp 2],ycr (yda 1) (ya8 2) (yaj 0 (ybh [yca 8 1,xL 9 8,yb2 10 f_225 9,ybs 11 10,xM 7 11] 7 [xI 2 6] (yc1 [ycg 13 1,xL 14 13,xN 15 14,yc3 16 .eql 15,xM 12 16] 12 [xI 2 8] [ycg 18 1,xL 19 18,xN 20 19,xK 21 .gtr 20 12,xM 17 21] 17 [xI 2 12])) (ybx [ycg 22 1,xL 23 22,xN 24 23,ya8 25] 1 c_171_l2 c_171_k3))⟩
def c_172:AFn:=⟨2,[.tmp 4],yaz [ya0 4] (xD [yb6 5,ycd 6,xO 7 (.slc 1 (.t 5) none (some (.t 6)) none),yb6 8,ycd 9,xX 10 1 8 9,xL 11 10,ybn 12 f_228 7 11,yc7 12]) .ret⟩
def c_173_l0:Xv:=ydn [xB 11 .lss 10 9] 11 0 1 [xX 12 2 8 10,xA 13 2 12,yav 7 [.str [],ybo],xS 2 7 13] [7] (xR [ycq 14,ycd 15,xA 16 2 7,xO 17 (ycy 15 [.t 16]),xO 18 (.bslice .imm 1 (List.replicate 1 [.str []]) [(0,(.t 17))]),yb4 19 1 16 14 18,ydj 19]) [yck 20 .add 10,xM 10 20]
def c_173_k1:Xv:=ycf (ycq 21) 4 21
def c_173:AFn:=⟨2,[.tmp 4],yc9 [xC 4 (.Xu 1 [])] [ycv 5 1] [yb6 8,xN 9 8,ya8 10] 0 c_173_l0 c_173_k1⟩
def c_174:AFn:=⟨1,[.tmp 2],yb0 [yda 1,xC 2 (.str [])] [yca 3 1,xL 4 3,xM 2 4]⟩
def c_175:AFn:=⟨1,[.tmp 2],yb0 [ya0 2] [yb6 3,yck 4 .lss 3,ydj 4,ya3 6 5 0,ybf 7 5 .gtr 6 32,xW 8 5 7,xM 2 8]⟩
def c_176_l0:Xv:=ydn [xB 11 .lss 10 9] 11 0 1 [xX 12 3 8 10,xA 13 3 12,yav 7 [.str [],ybo,ybo],xS 3 7 13] [7] (xR [ycq 14,ycd 15,xA 16 3 7,xO 17 (ycy 15 [.t 16]),xO 18 (.bslice .imm 1 (List.replicate 1 [.str []]) [(0,(.t 17))]),yb4 19 1 16 14 18,ydj 19]) [yck 20 .add 10,xM 10 20]
def c_176_k1:Xv:=ycf (ycq 21) 4 21
def c_176:AFn:=⟨2,[.tmp 4],yc9 [xC 4 (.Xu 1 [])] [ycv 5 1] [yb6 8,xN 9 8,ya8 10] 0 c_176_l0 c_176_k1⟩
def c_177:AFn:=⟨1,[.tmp 2],yb0 [yda 1,xC 2 (.str [])] [yca 3 1,xL 4 3,xM 2 4]⟩
def c_178:AFn:=⟨1,[.tmp 2],ycr (yda 1) (ya8 2) (yaj 0 (ybh [yca 4 1,xL 5 4,yb2 6 f_225 5,ybs 7 6,xM 3 7] 3 [xI 2 6] (yc1 [ycg 9 1,xL 10 9,yb2 11 f_217 10,xO 12 (yaq .eql 11 (.c (yce 0))),xM 8 12] 8 [xI 2 10] [xA 14 3 1,yb2 15 f_149 14,ybs 16 15,xM 13 16] 13 [xI 2 9])) (ydk (ya8 2)))⟩
def c_179_l0:Xv:=ydn [xB 11 .lss 10 9] 11 0 1 [xX 12 3 8 10,xA 13 3 12,yav 7 [.str [],.Xu 2 [],.Xu 7 []],xS 3 7 13] [7] (xR [ycq 14,ycd 15,xA 16 3 7,xO 17 (ycy 15 [.t 16]),xO 18 (.bslice .imm 1 (List.replicate 1 [.str []]) [(0,(.t 17))]),yb4 19 1 16 14 18,ydj 19]) [yck 20 .add 10,xM 10 20]
def c_179_k1:Xv:=ycf (ycq 21) 4 21
def c_179:AFn:=⟨2,[.tmp 4],yc9 [xC 4 (.Xu 1 [])] [ycv 5 1] [yb6 8,xN 9 8,ya8 10] 0 c_179_l0 c_179_k1⟩
def c_180:AFn:=⟨1,[.tmp 2],yb0 [yda 1,xC 2 (.str [])] [yca 3 1,xL 4 3,xM 2 4]⟩
def c_181_l0:Xv:=ydn [xB 38 .lss 37 36] 38 0 1 [xM 39 37,xX 40 7 35 37,xA 41 7 40,yav 9 [ybo,ybo,ybo,ybo,ybo,.Xu 3 [],.Xu 3 []],xM 8 39,xS 7 9 41] [9] (yaa [xA 42 10 7,xA 43 7 9,ybn 44 f_230 42 43,ydj 44] (ya5 [ycq 45,yc3 46 .neq 45] 46 [xM 47 8,ycq 48,yc7 47,ydj 48])) [yck 49 .add 37,xM 37 49]
def c_181_k1:Xv:=yb8 yb5 yc5
def c_181:AFn:=⟨2,[.tmp 4,.tmp 5],ya4 [yda 2,yb5,yc5] [ycd 10,yc3 11 .lss 10,xM 12 11,ya3 13 12 1,yax 14 12 4 2,yby 15 12 14,ybq 16 12 15,yb9 17 12 .geq 13 16,xW 18 12 17] 18 [ycc 4,xI 5 8] (.seq (xQ [xF 19 4 2,xL 20 19,ycd 21,xX 22 3 20 21,xA 23 3 22,yav 6 [.str [],.Xu 2 [],.Xu 7 []],xS 3 6 23] [6]) (yae [xA 24 3 6,yb2 25 f_229 24,ydj 25] (ya5 [ycq 26,yc3 27 .neq 26] 27 [ycq 28,ycc 4,ydj 28]) (.seq (xQ [ydm 29 2,ycg 30 6,xL 31 30,xO 32 (.build [.str [],.Xu 2 [],.Xu 2 [],.Xu 3 [],.Xu 3 [],.Xu 6 [],.Xu 7 [],.Xu 5 [],.Xu 1 [],.Xu 2 []] [(0,9,(.t 29)),(9,1,(.t 31))]),xO 33 (.build [.str [],.Xu 2 [],.Xu 2 [],.Xu 3 [],.Xu 3 [],.Xu 6 [],.Xu 7 [],.Xu 5 [],.Xu 1 [],.Xu 2 []] [(0,10,(.t 32))]),yav 7 [.str [],.Xu 2 [],.Xu 2 [],.Xu 3 [],.Xu 3 [],.Xu 6 [],.Xu 7 [],.Xu 5 [],.Xu 1 [],.Xu 2 []],xS 10 7 33] [7]) (ybx [xF 34 2 6,xL 35 34,xN 36 35,ya8 37] 0 c_181_l0 c_181_k1))))⟩
def c_182_l0:Xv:=ydn [xB 11 .lss 10 9] 11 0 1 [xX 12 6 8 10,xA 13 6 12,yav 7 [.str [],.Xu 3 [],.Xu 1 [],ybo,.Xu 1 [],ybo],xS 6 7 13] [7] (xR [ycq 14,ycd 15,xA 16 6 7,xO 17 (ycy 15 [.t 16]),xO 18 (.bslice .imm 1 (List.replicate 1 [.str []]) [(0,(.t 17))]),yb4 19 1 16 14 18,ydj 19]) [yck 20 .add 10,xM 10 20]
def c_182_k1:Xv:=ycf (ycq 21) 4 21
def c_182:AFn:=⟨2,[.tmp 4],yc9 [xC 4 (.Xu 1 [])] [ycv 5 1] [yb6 8,xN 9 8,ya8 10] 0 c_182_l0 c_182_k1⟩
def c_183:AFn:=⟨1,[.tmp 2],yb0 [yda 1,xC 2 (.str [])] [yca 3 1,xL 4 3,xM 2 4]⟩
def c_184:AFn:=⟨2,[.tmp 4,.tmp 5],ya4 [yda 2,yb5,yc5] [ycd 7,yc3 8 .lss 7,xM 9 8,ya3 10 9 1,yax 11 9 5 2,yby 12 9 11,ybq 13 9 12,yb9 14 9 .geq 10 13,xW 15 9 14] 15 [ycc 4,xI 5 8] (.seq (xQ [xF 16 5 2,xL 17 16,ycd 18,xX 19 6 17 18,xA 20 6 19,yav 6 [.str [],.Xu 3 [],.Xu 1 [],ybo,.Xu 1 [],ybo],xS 6 6 20] [6]) (yaj 0 (ybh [yca 22 6,xL 23 22,yb2 24 f_225 23,ybs 25 24,xM 21 25] 21 [ycc 4,xI 5 6] (yc1 [ycg 27 6,xL 28 27,xN 29 28,xK 30 .gtr 29 6,xM 31 30,yax 32 31 2 6,yby 33 31 32,ybq 34 31 33,ybf 35 31 .gtr 34 16,xW 36 31 35,xM 26 36] 26 [ycc 4,xI 5 12] [xF 38 5 6,xL 39 38,yck 40 .lss 39,xM 41 40,yax 42 41 5 6,yby 43 41 42,ybf 44 41 .gtr 43 256,xW 45 41 44,xM 37 45] 37 [ycc 4,xI 5 9])) (yae [ydm 47 2,xA 48 6 6,ybn 49 f_231 47 48,xM 46 49,xE 50 0 46,xE 51 1 46,yc7 50,ydj 51] (ya5 [ycq 52,yc3 53 .neq 52] 53 [xM 54 4,ycq 55,yc7 54,ydj 55]) (yae [ydm 56 2,xA 57 6 6,ybn 58 f_232 56 57,ydj 58] (ya5 [ycq 59,yc3 60 .neq 59] 60 [ycq 61,xI 4 (-3),ydj 61]) (yb8 yb5 yc5)))))⟩
def c_185_l0:Xv:=ydn [xB 25 .lss 24 23] 25 1 2 [xM 26 24,xX 27 7 22 24,xA 28 7 27,yav 7 [.str [],.Xu 1 [],.bool false,ybo,ybo,.Xu 3 [],ybo],xM 6 26,xS 7 7 28] [7] (yaj 3 (yc1 [yca 30 7,xL 31 30,yb2 32 f_225 31,ybs 33 32,xM 29 33] 29 [xM 34 6,xM 2 34,ycc 3,xI 4 6] [ycq 36,yca 37 7,xL 38 37,xO 39 (.lookup .s (.bool false) false (.t 36) (.t 38)),xM 35 39] 35 [xM 40 6,xM 2 40,ycc 3,xI 4 7]) (ybr [ycq 41,yca 42 7,xL 43 42,⟨none,none,.update .s (.t 41) (.t 43) (.c (.bool true))⟩] [ydm 45 1,xM 46 6,ybn 47 f_233 45 46,xM 44 47,xE 48 0 44,xE 49 1 44,xM 8 48,xM 9 49] (ya5 [xM 50 9,yc3 51 .neq 50] 51 [xM 52 6,xM 53 8,xM 54 9,xM 2 52,xM 3 53,yc7 54]))) [yck 55 .add 24,xM 24 55]
def c_185_k1:Xv:=yad [ya8 2,ya8 3,yb5]
def c_185:AFn:=⟨1,[.tmp 2,.tmp 3,.tmp 4],yaa [yda 1,ya8 2,ya8 3,yb5] (yaj 0 (yc1 [xF 11 6 1,xL 12 11,xN 13 12,yc3 14 .eql 13,xM 10 14] 10 [ycc 2,ycc 3,xI 4 8] [xF 16 6 1,xL 17 16,xN 18 17,xK 19 .gtr 18 12,xM 15 19] 15 [ycc 2,ycc 3,xI 4 12]) (ybc [xO 20 .mkmap,ydj 20] [xF 21 6 1,xL 22 21,xN 23 22,ya8 24] 1 c_185_l0 c_185_k1))⟩
def c_186:AFn:=⟨1,[.tmp 2,.cell 3 false 1],ya4 [yda 1,ya8 2,yav 3 [ybo]] [xF 6 7 1,xL 7 6,yb2 8 f_234 7,xK 9 .gtr 8 24] 9 [ycc 2,⟨none,none,.store 1 (.t 3) (.c (.int .i64 12))⟩] (ybi [xF 10 7 1,xL 11 10,yb2 12 f_235 11,xK 13 .gtr 12 6] 13 [ycc 2,⟨none,none,.store 1 (.t 3) (.c (.int .i64 14))⟩] (ybr [yav 4 [ybo],⟨none,none,.store 1 (.t 4) (.c (.int .i64 0))⟩] [yav 5 [.Xu 1 []]] (yao [xF 14 7 1,xL 15 14,xO 16 (.mkfunc (.func f_237) [] [.t 1,.t 5,.t 3,.t 4]),ybt 17 f_236 [.t 15,.t 16]] [xL 18 3,yc3 19 .neq 18] (yb3 19 (yci [xL 20 4,xL 21 3,xM 2 20,xS 1 3 21] .ret)) (yb8 (ya8 2) ⟨none,none,.store 1 (.t 3) (.c (.int .i64 0))⟩))))⟩
def c_187_l0:Xv:=yct [xB 14 .lss 13 12] 14 0 1 (yaa [xM 15 13,xX 16 1 11 13,xL 17 16,yc7 15,ydj 17] (.block 2 (yc1 [ycq 19,yc3 20 .lss 19,xM 21 20,ya3 22 21 5,yax 23 21 1 1,yby 24 21 23,ybq 25 21 24,yb9 26 21 .geq 22 25,xW 27 21 26,xM 18 27] 18 [xM 28 4,xM 2 28,xI 3 8] [xF 30 8 1,xL 31 30,xM 32 4,xO 33 (.slc 1 (.t 31) none (some (.t 32)) none),ycq 34,ybn 35 f_240 33 34,xM 29 35] 29 [xM 36 4,xM 2 36,xI 3 7]))) [yck 37 .add 13,xM 13 37]
def c_187_k1:Xv:=yb8 (ya8 2) (ya8 3)
def c_187:AFn:=⟨1,[.tmp 2,.tmp 3],ydl [yda 1,ya8 2,ya8 3] [xF 6 8 1,xL 7 6,xN 8 7,xK 9 .gtr 8 8] 9 [ycc 2,xI 3 12] [xF 10 8 1,xL 11 10,xN 12 11,ya8 13] 0 c_187_l0 c_187_k1⟩
def c_188_l0:Xv:=ydn [xB 11 .lss 10 9] 11 0 1 [xX 12 7 8 10,xA 13 7 12,yav 7 [ybo,ybo,ybo,ybo,ybo,.Xu 3 [],.Xu 3 []],xS 7 7 13] [7] (xR [ycq 14,ycd 15,xA 16 7 7,xO 17 (ycy 15 [.t 16]),xO 18 (.bslice .imm 7 (List.replicate 1 [.int .i64 0,.int .i64 0,.int .i64 0,.int .i64 0,.int .i64 0,.Xu 3 [],.Xu 3 []]) [(0,(.t 17))]),yb4 19 7 88 14 18,ydj 19]) [yck 20 .add 10,xM 10 20]
def c_188_k1:Xv:=ycf (ycq 21) 4 21
def c_188:AFn:=⟨2,[.tmp 4],yc9 [xC 4 (.Xu 7 [])] [ycv 5 7] [yb6 8,xN 9 8,ya8 10] 0 c_188_l0 c_188_k1⟩
def c_189:AFn:=⟨1,[.cell 2 true 7],yaz [ycu 1 0,yav 2 [ybo,ybo,ybo,ybo,ybo,.Xu 3 [],.Xu 3 []]] (xD [xF 3 5 1,xL 4 3,yb2 5 f_192 4,xF 6 6 1,xL 7 6,yb2 8 f_192 7,xF 9 5 1,xS 1 9 5,xF 10 6 1,xS 1 10 8]) (yb8 (xA 11 7 1) (xS 7 2 11))⟩
def c_194:AFn:=⟨1,[.tmp 2],yaa [ya8 2] (ybr [yb6 4,ybt 5 f_122 [.t 4,yan 4],ycq 3] [yb6 6,yc6 7,xO 8 (yaq .leq 7 (.c (yce 2147483647))),ybt 9 f_123 [.t 6,.t 8,yan 5]] (yad [yc6 10,yc0 11 .i64 10,xM 2 11]))⟩
def c_195:AFn:=⟨2,[],xR [yb6 4,yb6 5,ycj 6 5,yca 7 6,xL 8 7,ycd 9,yc0 10 .u32 9,xB 11 .xor 8 10,xO 12 (yaq .mul 11 (.c (yce 16777619))),ycj 13 4,yca 14 13,xS 1 14 12]⟩
def c_196_l0:Xv:=ycp [yc6 17,yb6 18,xO 19 (.slen (.t 18)),xB 20 .lss 17 19] 20 0 1 (ya5 [yb6 23,yc6 24,xO 25 (.idxs (.t 23) (.t 24)),yb2 26 f_241 25,ybs 27 26,xM 28 27,ybp 29 28 0,ybp 30 28 3,yap 31 28 (.idxs (.t 29) (.t 30)),ych 32 28 f_242 [.t 31],yap 33 28 (yba 32),xV 34 28 33,xM 35 34,ybp 36 35 0,ybp 37 35 3,yap 38 35 (.idxs (.t 36) (.t 37)),ybu 39 35 .neq 38 (yc4 .u8 95),xV 40 35 39] 40 [ya0 2]) [yc6 21,yck 22 .add 21,xM 3 22]
def c_196_k1:Xv:=ydk (ycm 2)
def c_196:AFn:=⟨1,[.tmp 2],ydl [ya0 2] [yb6 4,xO 5 (yaq .eql 4 (.c (.str []))),ycq 6,ya3 7 6 0,yac 8 6 (.slen (.t 7)),ybf 9 6 .gtr 8 16,xW 10 6 9,xM 11 10,ya3 12 11 0,yac 13 11 (.idxs (.t 12) (yan 0)),yac 14 11 (.pcall f_241 [.t 13]),yac 15 11 (yba 14),xW 16 11 15] 16 [ya0 2] [ya8 3] 0 c_196_l0 c_196_k1⟩
def c_197:AFn:=⟨4,[.cell 8 true 4],yb0 [yc2 8 ybo ybo ybo ybo] [yb6 9,ycd 10,xM 11 2,yc6 12,xO 13 (.build [.int .i64 0,.int .i64 0,.int .i64 0,.int .i64 0] [(0,1,(.t 9)),(1,1,(.t 10)),(2,1,(.t 11)),(3,1,(.t 12))]),xS 4 8 13]⟩
def c_198_l0:Xv:=ybe [xM 23 4,ycg 24 1,xL 25 24,xN 26 25,xB 27 .lss 23 26] 27 1 (ybk 2 (xQ [ycg 30 1,xL 31 30,xM 32 4,xX 33 2 31 32,xA 34 2 33,yav 5 [.str [],ybo],xS 2 5 34] [5]) (yaa [xA 36 2 1,yca 37 5,xL 38 37,ybn 39 f_243 36 38,xM 35 39,xE 40 0 35,xE 41 1 35,xM 6 40,xM 7 41] (ya2 3 (ybh [yca 43 5,xL 44 43,yb2 45 f_196 44,ybs 46 45,xM 42 46] 42 [xI 2 6] (yc1 [ycg 48 5,xL 49 48,yck 50 .lss 49,xM 51 50,yax 52 51 1 5,yby 53 51 52,ybf 54 51 .gtr 53 32,xW 55 51 54,xM 47 55] 47 [xI 2 10] [xM 57 6,xM 58 4,xB 59 .lss 57 58,xM 56 59] 56 [xI 2 7])) [yc6 60,ycg 61 5,xL 62 61,xB 63 .add 60 62,xM 3 63])) [xM 28 4,yck 29 .add 28,yc7 29])
def c_198_k1:Xv:=ybi [yc6 64,xK 65 .rem 64 8,yc3 66 .neq 65] 66 [xI 2 10] (ydk (ya8 2))
def c_198:AFn:=⟨1,[.tmp 2],ycr (yda 1) (ya8 2) (yaj 0 (ybh [yca 9 1,xL 10 9,yb2 11 f_196 10,ybs 12 11,xM 8 12] 8 [xI 2 6] (yc1 [ycg 14 1,xL 15 14,xN 16 15,yc3 17 .eql 16,xM 13 17] 13 [xI 2 8] [ycg 19 1,xL 20 19,xN 21 20,xK 22 .gtr 21 12,xM 18 22] 18 [xI 2 12])) (ybc [ya8 3] [yb5] 1 c_198_l0 c_198_k1))⟩
def c_199_l0:Xv:=ybe [ycq 27,ycd 28,xB 29 .lss 27 28] 29 0 (ybk 1 (xD [yb6 32,ycq 33,xX 34 2 32 33,yca 35 34,xL 36 35,yb6 37,ycd 38,xX 39 2 37 38,yca 40 39,xL 41 40,xB 42 .eql 36 41]) (yai 42 [xI 4 7]) [ycq 30,yck 31 .add 30,ydj 31])
def c_199_k1:Xv:=ydk yb5
def c_199:AFn:=⟨2,[.tmp 4],ya4 [yb5] [yb6 6,ycd 7,xX 8 2 6 7,yca 9 8,xL 10 9,yb2 11 f_196 10,ybs 12 11] 12 [xI 4 6] (ybi [yb6 13,ycd 14,xX 15 2 13 14,ycg 16 15,xL 17 16,yck 18 .lss 17,xM 19 18,ya3 20 19 0,ya3 21 19 1,yac 22 19 (yc8 2 20 21),yax 23 19 1 22,yby 24 19 23,ybf 25 19 .gtr 24 32,xW 26 19 25] 26 [xI 4 10] (ybx [yc5] 0 c_199_l0 c_199_k1))⟩
def c_200:AFn:=⟨1,[.tmp 2],ya4 [yda 1,ya8 2] [yca 3 1,xL 4 3,yb2 5 f_196 4,ybs 6 5] 6 [xI 2 6] (ybi [ycg 7 1,xL 8 7,yck 9 .lss 8,xM 10 9,yax 11 10 1 1,yby 12 10 11,ybf 13 10 .gtr 12 32,xW 14 10 13] 14 [xI 2 10] (ybi [xF 15 2 1,xL 16 15,yck 17 .lss 16,xM 18 17,yax 19 18 2 1,yby 20 18 19,ybf 21 18 .gtr 20 64,xW 22 18 21] 22 [xI 2 9] (ydk (ya8 2))))⟩
def c_201_l0:Xv:=ybe [xM 47 7,xF 48 2 6,xL 49 48,xN 50 49,xB 51 .lss 47 50] 51 1 (ybk 2 (xD [ydm 54 2,xF 55 2 6,xL 56 55,xM 57 7,xX 58 7 56 57,xA 59 7 58,ydm 60 2,ycd 61,ybn 62 f_246 60 61,ydh 63 f_245 54 59 62,xM 8 63]) (ya5 [xM 64 8,yc3 65 .neq 64] 65 [xM 66 7,xM 67 8,yc7 66,ydj 67]) [xM 52 7,yck 53 .add 52,xM 7 53])
def c_201_k1:Xv:=yb8 yb5 yc5
def c_201:AFn:=⟨2,[.tmp 4,.tmp 5],ya4 [yda 2,yb5,yc5] [ycd 9,yc3 10 .lss 9,xM 11 10,ya3 12 11 1,yax 13 11 4 2,yby 14 11 13,ybq 15 11 14,yb9 16 11 .geq 12 15,xW 17 11 16] 17 [ycc 4,xI 5 8] (.seq (xQ [xF 18 4 2,xL 19 18,ycd 20,xX 21 3 19 20,xA 22 3 21,yav 6 [.str [],.Xu 2 [],.Xu 7 []],xS 3 6 22] [6]) (yaj 0 (ybh [yca 24 6,xL 25 24,yb2 26 f_196 25,ybs 27 26,xM 23 27] 23 [ycc 4,xI 5 6] (yc1 [ycg 29 6,xL 30 29,xN 31 30,xK 32 .gtr 31 4,xM 33 32,yax 34 33 2 6,yby 35 33 34,ybq 36 33 35,ybf 37 33 .gtr 36 12,xW 38 33 37,xM 28 38] 28 [ycc 4,xI 5 12] [ycg 40 6,xL 41 40,yb2 42 f_244 41,yc3 43 .neq 42,xM 39 43] 39 [ycg 44 6,xL 45 44,yb2 46 f_244 45,ycc 4,ydj 46])) (ybx [ya8 7] 1 c_201_l0 c_201_k1)))⟩
def c_202:AFn:=⟨2,[.tmp 4,.tmp 5],ya4 [yda 2,yb5,yc5] [ycd 9,yc3 10 .lss 9,xM 11 10,ya3 12 11 1,yax 13 11 5 2,yby 14 11 13,ybq 15 11 14,yb9 16 11 .geq 12 15,xW 17 11 16] 17 [ycc 4,xI 5 8] (.seq (xQ [xF 18 5 2,xL 19 18,ycd 20,xX 21 6 19 20,xA 22 6 21,yav 6 [.str [],.Xu 3 [],.Xu 1 [],ybo,.Xu 1 [],ybo],xS 6 6 22] [6]) (yaj 0 (ybh [yca 24 6,xL 25 24,yb2 26 f_196 25,ybs 27 26,xM 23 27] 23 [ycc 4,xI 5 6] (yc1 [ycg 29 6,xL 30 29,xN 31 30,xK 32 .gtr 31 6,xM 33 32,yax 34 33 2 6,yby 35 33 34,ybq 36 33 35,ybf 37 33 .gtr 36 16,xW 38 33 37,xM 28 38] 28 [ycc 4,xI 5 12] [xF 40 5 6,xL 41 40,yck 42 .lss 41,xM 43 42,yax 44 43 5 6,yby 45 43 44,ybf 46 43 .gtr 45 256,xW 47 43 46,xM 39 47] 39 [ycc 4,xI 5 9])) (ya4 [ydm 49 2,xA 50 6 6,ybn 51 f_247 49 50,xM 48 51,xE 52 0 48,xE 53 1 48,xM 7 52,xM 8 53] [xM 54 8,yc3 55 .neq 54] 55 [xM 56 7,xM 57 8,yc7 56,ydj 57] (ya4 [ydm 58 2,xA 59 6 6,ybn 60 f_248 58 59,xM 8 60] [xM 61 8,yc3 62 .neq 61] 62 [xM 63 8,xI 4 (-3),ydj 63] (yb8 yb5 yc5)))))⟩
def c_203_l0:Xv:=ycp [ycq 16,xF 17 6 1,xL 18 17,xN 19 18,xB 20 .lss 16 19] 20 0 1 (yaa [ydm 24 1,ycq 25,ybn 26 f_249 24 25,xM 23 26,xE 27 0 23,xE 28 1 23,xM 6 27,xM 7 28] (ya5 [xM 29 7,yc3 30 .neq 29] 30 [ycq 31,xM 32 6,xM 33 7,xM 2 31,xM 3 32,yc7 33])) [ycq 21,yck 22 .add 21,ydj 22]
def c_203_k1:Xv:=yad [ya8 2,ya8 3,yb5]
def c_203:AFn:=⟨1,[.tmp 2,.tmp 3,.tmp 4],ya4 [yda 1,ya8 2,ya8 3,yb5] [xF 8 6 1,xL 9 8,xN 10 9,yc3 11 .eql 10] 11 [ycc 2,ycc 3,xI 4 8] (ybi [xF 12 6 1,xL 13 12,xN 14 13,xK 15 .gtr 14 12] 15 [ycc 2,ycc 3,xI 4 12] (ybx [yc5] 0 c_203_l0 c_203_k1))⟩
def c_204_l0:Xv:=ycp [ycq 20,xM 21 4,xN 22 21,xB 23 .lss 20 22] 23 1 2 (yaa [ydm 26 1,xM 27 4,ycq 28,ydh 29 f_253 26 27 28,xM 6 29] (ya5 [xM 30 6,yc3 31 .neq 30] 31 [ycq 32,xM 33 6,xM 2 32,xM 3 33])) [ycq 24,yck 25 .add 24,ydj 25]
def c_204_k1:Xv:=yb8 (ya8 2) (ya8 3)
def c_204:AFn:=⟨1,[.tmp 2,.tmp 3],yaa [yda 1,ya8 2,ya8 3] (yaj 0 (yc1 [xF 8 7 1,xL 9 8,yb2 10 f_250 9,xK 11 .gtr 10 24,xM 7 11] 7 [ycc 2,xI 3 12] [xF 13 7 1,xL 14 13,yb2 15 f_251 14,xK 16 .gtr 15 6,xM 12 16] 12 [ycc 2,xI 3 14]) (ybc [xF 17 7 1,xL 18 17,yb2 19 f_252 18,yc7 19] [yc5] 1 c_204_l0 c_204_k1))⟩
def c_205_l0:Xv:=ybe [ycq 35,xM 36 4,xB 37 .lss 35 36] 37 2 (ybk 3 (xD [xF 40 8 1,xL 41 40,ycq 42,xX 43 1 41 42,xL 44 43,xF 45 8 1,xL 46 45,xM 47 4,xX 48 1 46 47,xL 49 48,xB 50 .eql 44 49]) (yai 50 [xM 51 4,xM 2 51,xI 3 7]) [ycq 38,yck 39 .add 38,ydj 39])
def c_205_k1:Xv:=xR [xM 15 4,yck 16 .add 15,yc7 16]
def c_205_l2:Xv:=ybe [xM 10 4,xF 11 8 1,xL 12 11,xN 13 12,xB 14 .lss 10 13] 14 0 (yaj 1 (.seq (yci [xF 17 8 1,xL 18 17,xM 19 4,xX 20 1 18 19,xL 21 20,yc3 22 .lss 21,xM 23 22,yax 24 23 8 1,yby 25 23 24,ya3 26 23 4,yac 27 23 (yc8 1 25 26),yby 28 23 27,yax 29 23 1 1,yby 30 23 29,ybq 31 23 30,yb9 32 23 .geq 28 31,xW 33 23 32] (yai 33 [xM 34 4,xM 2 34,xI 3 8])) (yaa [yc5] (yam 2 c_205_l0))) c_205_k1)
def c_205_k3:Xv:=yb8 (ya8 2) (ya8 3)
def c_205:AFn:=⟨1,[.tmp 2,.tmp 3],ydl [yda 1,ya8 2,ya8 3] [xF 6 8 1,xL 7 6,xN 8 7,xK 9 .gtr 8 8] 9 [ycc 2,xI 3 12] [yb5] 0 c_205_l2 c_205_k3⟩
def c_206_l0:Xv:=ybe [xM 39 6,ycq 40,xB 41 .lss 39 40] 41 1 (ybk 2 (xD [ydm 44 2,xM 45 6,ydi 46,xL 47 46,xM 48 6,xX 49 1 47 48,xL 50 49,ycg 51 3,xL 52 51,xM 53 6,xX 54 1 52 53,xL 55 54,ycn 56 f_254 (.t 44) (.t 45) (.t 50) (.t 55),xM 7 56]) (ybi [xM 57 7,yc3 58 .neq 57] 58 [xM 59 7,yc7 59] (yci [ydm 60 2,xM 61 6,xF 62 2 3,xL 63 62,xM 64 6,xX 65 2 63 64,xA 66 2 65,ydh 67 f_255 60 61 66,xM 7 67] (ya5 [xM 68 7,yc3 69 .neq 68] 69 [xM 70 7,yc7 70]))) [xM 42 6,yck 43 .add 42,xM 6 43])
def c_206_k1:Xv:=yad [ydm 71 2,xF 72 3 3,xL 73 72,ybn 74 f_256 71 73,yc7 74]
def c_206:AFn:=⟨2,[.tmp 4],ybr [yda 2,xJ 3 1,yb5] [xF 8 5 2,xL 9 8,xN 10 9,ydj 10] (yaj 0 (yc1 [ydm 12 2,yb2 13 f_65 12,xO 14 (.fld false 0 1 (.t 13)),yc3 15 .neq 14,xM 11 15] 11 [ydm 16 2,yb2 17 f_65 16,xO 18 (.fld false 0 1 (.t 17)),yc7 18] [ydi 20,xL 21 20,xN 22 21,ycq 23,xB 24 .neq 22 23,xM 25 24,yax 26 25 1 3,yby 27 25 26,ybq 28 25 27,ya3 29 25 5,yb9 30 25 .neq 28 29,xW 31 25 30,xM 32 31,yax 33 32 2 3,yby 34 32 33,ybq 35 32 34,ya3 36 32 5,yb9 37 32 .neq 35 36,xW 38 32 37,xM 19 38] 19 [xI 4 2]) (ybx [ydc] 1 c_206_l0 c_206_k1))⟩
def c_207:AFn:=⟨3,[.cell 6 true 4,.tmp 7,.tmp 8],yao [yda 3,xJ 4 1,xJ 5 2,yc2 6 (.Xu 1 []) (.Xu 1 []) (.Xu 2 []) (.Xu 1 []),ya8 7,ya8 8] [yca 15 5,xL 16 15] (.block 0 (ybh [yck 18 .eql 16,xM 17 18] 17 [ydm 19 3,xA 20 4 4,ycg 21 5,xL 22 21,xF 23 3 5,xA 24 4 23,ycn 25 f_257 (.t 19) (.t 20) (.t 22) (.t 24),xE 26 0 25,xE 27 1 25,xE 28 2 25,xS 4 6 26,xM 7 27,xM 8 28] (ycs (xK 30 .eql 16 2) 29 30 (yab 29 (.seq (xQ [ydm 32 3,xA 33 4 4,ycg 34 5,xL 35 34,xF 36 2 5,xL 37 36,xF 38 7 5,xA 39 2 38,yaf 40 f_258 [.t 32,.t 33,.t 35,.t 37,.t 39],xM 31 40,xE 41 0 31,xE 42 1 31,yc2 9 (.Xu 1 []) (.Xu 1 []) (.Xu 2 []) (.Xu 1 []),xS 4 9 41,xM 10 42] [9]) (yad [xA 43 4 9,xM 44 10,xS 4 6 43,ya8 7,xM 8 44])) (ycs (xK 46 .eql 16 3) 45 46 (yab 45 (.seq (xQ [ydm 48 3,xA 49 4 4,ycg 50 5,xL 51 50,xF 52 2 5,xL 53 52,ycn 54 f_259 (.t 48) (.t 49) (.t 51) (.t 53),xM 47 54,xE 55 0 47,xE 56 1 47,yc2 11 (.Xu 1 []) (.Xu 1 []) (.Xu 2 []) (.Xu 1 []),xS 4 11 55,xM 12 56] [11]) (yad [xA 57 4 11,xM 58 12,xS 4 6 57,ya8 7,xM 8 58])) (ycs (xK 60 .eql 16 4) 59 60 (yb3 59 (.seq (xQ [ydm 62 3,xA 63 4 4,ycg 64 5,xL 65 64,xF 66 7 5,xA 67 2 66,ycn 68 f_260 (.t 62) (.t 63) (.t 65) (.t 67),xM 61 68,xE 69 0 61,xE 70 1 61,yc2 13 (.Xu 1 []) (.Xu 1 []) (.Xu 2 []) (.Xu 1 []),xS 4 13 69,xM 14 70] [13]) (yad [xA 71 4 13,xM 72 14,xS 4 6 71,ya8 7,xM 8 72])))))))))) (yad [xA 73 4 4,xS 4 6 73,ya8 7,xI 8 11])⟩
def c_208:AFn:=⟨1,[.tmp 2],yb0 [ya0 2] [yb6 3,yc3 4 .geq 3,ydj 4,ybp 6 5 0,ycx 7 5 .leq 6 65535,xV 8 5 7,xM 2 8]⟩
def c_209:AFn:=⟨1,[.tmp 2],yb0 [ycu 1 0,ya0 2] [yca 3 1,xL 4 3,yb2 5 f_208 4,ycq 6,ybj 7 6 1 1,ybz 8 6 1 7,yap 9 6 (ya7 8),ycx 10 6 .leq 9 255,xV 11 6 10,xM 2 11]⟩
def c_210:AFn:=⟨2,[.tmp 4],ya4 [xC 4 (.Xu 1 [])] [ycd 5,yc3 6 .eql 5] 6 [xC 4 (.Xu 1 [])] (yad [yb6 7,xK 8 .quo 7 256,ycd 9,yck 10 .sub 9,ybt 11 f_210 [.t 8,.t 10],yb6 12,xK 13 .rem 12 256,yc0 14 .u8 13,xO 15 (.bslice .imm 1 (List.replicate 1 [.int .u8 0]) [(0,(.t 14))]),yb4 16 1 1 11 15,yc7 16])⟩
def c_211_l0:Xv:=ycp [xM 14 4,ycg 15 1,xL 16 15,xN 17 16,xB 18 .lss 14 17] 18 0 1 (xR [yc6 21,ycg 22 1,xL 23 22,xM 24 4,xX 25 1 23 24,xL 26 25,yc0 27 .i64 26,ybt 28 f_210 [.t 27,yan 4],yb4 29 1 1 21 28,xM 3 29]) [xM 19 4,yck 20 .add 19,yc7 20]
def c_211_k1:Xv:=ycf (yc6 30) 2 30
def c_211:AFn:=⟨1,[.tmp 2],yaz [ycu 1 0,xC 2 (.Xu 1 [])] (.region true [(2,4)] [⟨some 5,none,.faddr 0 (.t 1)⟩,⟨some 6,none,.load false 1 (.t 5)⟩,⟨some 7,none,.tcall f_210 [.t 6,.c (.int .i64 2)]⟩,⟨some 8,none,.faddr 1 (.t 1)⟩,⟨some 9,none,.load false 1 (.t 8)⟩,⟨some 10,none,.len (.t 9)⟩,⟨some 11,none,.conv .u8 (.t 10)⟩,⟨some 12,none,.bslice .imm 1 (List.replicate 1 [.int .u8 0]) [(0,(.t 11))]⟩,⟨some 13,none,.append .app 1 1 (.t 7) (.t 12)⟩,⟨some 3,none,.mov (.t 13)⟩] none) (ybx [yb5] 0 c_211_l0 c_211_k1)⟩
def c_215:AFn:=⟨2,[.tmp 3],yb0 [yda 2,ya0 3] [ycg 4 2,xA 5 4 4,ycg 6 1,xA 7 4 6,ybn 8 f_162 5 7,xM 3 8]⟩
def c_216_l0:Xv:=ycp [xM 12 4,yb6 13,xN 14 13,xB 15 .lss 12 14] 15 0 1 (xR [yc6 18,yb6 19,xM 20 4,xX 21 1 19 20,xL 22 21,xO 23 (.minmax true [.t 18,.t 22]),xM 3 23]) [xM 16 4,yck 17 .add 16,yc7 17]
def c_216_k1:Xv:=ycf (yc6 24) 2 24
def c_216:AFn:=⟨1,[.tmp 2],yao [xC 2 (yce 0)] [yb6 5,xN 6 5,yck 7 .lss 6] (yb3 7 (xR [xO 8 (.mkiface 9 (.c (.str [115,108,105,99,101,115,46,77,97,120,58,32,101,109,112,116,121,32,108,105,115,116]))),⟨none,none,.panic (.t 8)⟩])) (ybc [yb6 9,xO 10 (ycl 1 9 (yan 0)),xL 11 10,xM 3 11] [xI 4 1] 0 c_216_l0 c_216_k1)⟩
def c_217:AFn:=⟨1,[.tmp 2],ya4 [xC 2 (yce 0)] [yb6 3,xO 4 (.bslice .imm 1 (List.replicate 1 [.int .i64 0]) [(0,(.t 3))]),yb2 5 f_261 4,ybs 6 5] 6 [xC 2 (yce 0)] (yad [yb6 7,xO 8 (.bin .sub (yan 32) (.t 7)),xO 9 (.bin .shr (.c (yce 4294967295)) (.t 8)),xM 2 9])⟩
def c_218_l0:Xv:=yct [xB 21 .lss 20 19] 21 0 1 (yaa [xX 22 1 18 20,xL 23 22,xM 8 23] (ya5 [xM 24 8,xM 25 2,xB 26 .eql 24 25] 26 [ycm 6])) [yck 27 .add 20,xM 20 27]
def c_218_k1:Xv:=ydk (ya0 6)
def c_218:AFn:=⟨3,[.tmp 6],ydl [yda 3,ya0 6] [ydm 9 3,ycd 10,ybn 11 f_262 9 10,ybs 12 11] 12 [ya0 6] [xF 13 5 3,xL 14 13,ycd 15,xX 16 6 14 15,xF 17 2 16,xL 18 17,xN 19 18,ya8 20] 0 c_218_l0 c_218_k1⟩
def c_219_l0:Xv:=yct [xB 36 .lss 35 34] 36 0 1 (yaa [xM 37 35,xX 38 1 33 35,xL 39 38,xM 6 37,xM 7 39] (ya5 [xM 40 7,ycq 41,xM 42 6,xX 43 2 41 42,ycg 44 43,xL 45 44,ybn 46 f_263 40 45,ybs 47 46] 47 [xI 4 9])) [yck 48 .add 35,xM 35 48]
def c_219_k1:Xv:=ydk yb5
def c_219:AFn:=⟨2,[.tmp 4],ya4 [yda 2,xJ 3 1,yb5] [ydi 8,xL 9 8,yc3 10 .lss 9,xM 11 10,yax 12 11 0 3,yby 13 11 12,yax 14 11 4 2,yby 15 11 14,ybq 16 11 15,yb9 17 11 .geq 13 16,xW 18 11 17] 18 [xI 4 8] (ydl [xF 19 4 2,xL 20 19,ydi 21,xL 22 21,xX 23 3 20 22,ycg 24 23,xL 25 24,ydj 25] [ycg 26 3,xL 27 26,xN 28 27,ycq 29,xN 30 29,xB 31 .neq 28 30] 31 [xI 4 2] [ycg 32 3,xL 33 32,xN 34 33,ya8 35] 0 c_219_l0 c_219_k1)⟩
def c_220_l0:Xv:=ydn [xB 20 .lss 19 18] 20 0 1 [xX 21 3 17 19,xA 22 3 21,yav 7 [ybo,ybo,ybo],xS 3 7 22] [7] (xR [ycq 23,ydm 24 2,yca 25 7,xA 26 2 25,ybn 27 f_264 24 26,xO 28 (.bslice .imm 1 (List.replicate 1 [.int .i64 0]) [(0,(.t 27))]),yb4 29 1 8 23 28,ydj 29]) [yck 30 .add 19,xM 19 30]
def c_220_k1:Xv:=ycf (ycq 31) 4 31
def c_220:AFn:=⟨2,[.tmp 4],ya4 [yda 2,xC 4 (.Xu 1 [])] [ydm 8 2,ycd 9,ybn 10 f_262 8 9,ybs 11 10] 11 [xC 4 (.Xu 1 [])] (ybc [ycv 5 1] [xF 12 5 2,xL 13 12,ycd 14,xX 15 6 13 14,ycg 16 15,xL 17 16,xN 18 17,ya8 19] 0 c_220_l0 c_220_k1)⟩
def c_221:AFn:=⟨3,[.tmp 6],ycr (yda 3) ydc (yaj 0 (ybh [ydi 10,xL 11 10,xM 12 2,ybn 13 f_263 11 12,ybs 14 13,xM 15 14,yax 16 15 1 3,yby 17 15 16,ya3 18 15 2,yac 19 15 (.pcall f_263 [.t 17,.t 18]),yac 20 15 (yba 19),xW 21 15 20,xM 9 21] 9 [xI 6 9] (ybh [ydi 23,xL 24 23,ycg 25 3,xL 26 25,xB 27 .andNot 24 26,xO 28 (yaq .neq 27 (.c (yce 0))),xM 22 28] 22 [xI 6 5] (yci [ycd 30,yck 31 .eql 30,xM 32 31,ybj 33 32 1 3,ybz 34 32 1 33,ybp 35 32 2,ych 36 32 f_217 [.t 35],ybu 37 32 .neq 34 (.t 36),xV 38 32 37,xM 29 38] (yai 29 [xI 6 11])))) (yae [ycd 39,xK 40 .eql 39 2] (yb3 40 (yaa [ycg 42 3,xL 43 42,xM 44 2,ybn 45 f_265 43 44,xM 41 45,xE 46 0 41,xE 47 1 41,xM 7 46,xM 8 47] (ya5 [xM 48 8,ybs 49 48] 49 [xI 6 11]))) (ydk ydc)))⟩
def c_222_l0:Xv:=ydn [xB 20 .lss 19 18] 20 0 1 [xX 21 3 17 19,xA 22 3 21,yav 7 [ybo,ybo,ybo],xS 3 7 22] [7] (.block 2 (ybh [xF 24 2 7,xL 25 24,xK 26 .eql 25 3,xM 23 26] 23 [xI 4 3] (yaa [xF 28 2 7,xL 29 28,xK 30 .eql 29 2,xM 27 30] (yb3 27 (xR [xI 5 2]))))) [yck 31 .add 19,xM 19 31]
def c_222_k1:Xv:=ycf (ycq 32) 4 32
def c_222:AFn:=⟨2,[.tmp 4],ya4 [yda 2,yb5] [ydm 8 2,ycd 9,ybn 10 f_262 8 9,ybs 11 10] 11 [yb5] (ybc [xI 5 1] [xF 12 5 2,xL 13 12,ycd 14,xX 15 6 13 14,ycg 16 15,xL 17 16,xN 18 17,ya8 19] 0 c_222_l0 c_222_k1)⟩
def c_223_l0:Xv:=yct [xB 9 .lss 8 7] 9 0 1 (ycs (xM 10 8) 5 10 (ya5 [ycd 11,yb6 12,ycq 13,xX 14 5 12 13,xA 15 5 14,xO 16 (ycy 11 [.t 15])] 16 [ycq 17,yc7 17])) [yck 18 .add 8,xM 8 18]
def c_223_k1:Xv:=ydk (ycc 4)
def c_223:AFn:=⟨2,[.tmp 4],ybc [yb5] [yb6 6,xN 7 6,ya8 8] 0 c_223_l0 c_223_k1⟩
def c_225:AFn:=⟨1,[.tmp 2],ya4 [ya0 2] [yb6 3,xO 4 (.slen (.t 3)),yc3 5 .eql 4,ycq 6,ya3 7 6 0,yac 8 6 (.slen (.t 7)),ybf 9 6 .gtr 8 16,xW 10 6 9,xM 11 10,ya3 12 11 0,yac 13 11 (.idxs (.t 12) (yan 0)),yac 14 11 (.pcall f_266 [.t 13]),yac 15 11 (yba 14),xW 16 11 15] 16 [ya0 2] (yad [yb6 17,ybm 18 f_267 17 (.c (.func (.func f_268) [] [])),yb6 19,xO 20 (.slen (.t 19)),xB 21 .eql 18 20,xM 2 21])⟩
def c_226_l0:Xv:=yct [xB 9 .lss 8 7] 9 0 1 (yaa [xX 10 1 6 8,xL 11 10,ydj 11] (xR [yc6 12,ycq 13,xB 14 .add 12 13,xM 3 14])) [yck 15 .add 8,xM 8 15]
def c_226_k1:Xv:=ycf (yc6 16) 2 16
def c_226:AFn:=⟨1,[.tmp 2],yc9 [ya8 2] [ya8 3] [yb6 6,xN 7 6,ya8 8] 0 c_226_l0 c_226_k1⟩
def c_227_l0:Xv:=ydn [xB 10 .lss 9 8] 10 0 1 [xX 11 2 7 9,xA 12 2 11,yav 5 [.str [],ybo],xS 2 5 12] [5] (xR [yc6 13,ycg 14 5,xL 15 14,xO 16 (.bslice .imm 1 (List.replicate 1 [.int .i64 0]) [(0,(.t 15))]),yb4 17 1 8 13 16,xM 3 17]) [yck 18 .add 9,xM 9 18]
def c_227_k1:Xv:=ycf (yc6 19) 2 19
def c_227:AFn:=⟨1,[.tmp 2],ycr (yda 1) (xC 2 (.Xu 1 [])) (ybc [ycv 3 1] [ycg 6 1,xL 7 6,xN 8 7,ya8 9] 0 c_227_l0 c_227_k1)⟩
def c_228:AFn:=⟨2,[.tmp 4],yb0 [ya0 4] [yb6 5,ycd 6,ybn 7 f_270 5 6,yc3 8 .geq 7,yc7 8]⟩
def c_229_l0:Xv:=ydn [xB 25 .lss 24 23] 25 1 2 [xM 26 24,xX 27 2 22 24,xA 28 2 27,yav 4 [.str [],ybo],xM 3 26,xS 2 4 28] [4] (.block 3 (ybh [yca 30 4,xL 31 30,yb2 32 f_225 31,ybs 33 32,xM 29 33] 29 [xI 2 6] (yc1 [ycg 35 4,xL 36 35,yck 37 .lss 36,xM 38 37,yax 39 38 1 4,yby 40 38 39,ybf 41 38 .gtr 40 32,xW 42 38 41,xM 34 42] 34 [xI 2 10] [ycg 44 1,xL 45 44,yc6 46,xO 47 (.slc 2 (.t 45) none (some (.t 46)) none),xO 48 (.mkfunc (.func f_272) [] [.t 4]),ybn 49 f_271 47 48,xM 43 49] 43 [xI 2 7]))) [yck 50 .add 24,xM 24 50]
def c_229_k1:Xv:=ydk (ya8 2)
def c_229:AFn:=⟨1,[.tmp 2],ycr (yda 1) (ya8 2) (yaj 0 (yc1 [yca 6 1,xL 7 6,yb2 8 f_225 7,ybs 9 8,ydj 9] 5 [xI 2 6] [ycg 11 1,xL 12 11,xN 13 12,xK 14 .gtr 13 4,xM 15 14,yax 16 15 2 1,yby 17 15 16,ybq 18 15 17,ybf 19 15 .gtr 18 12,xW 20 15 19,xM 10 20] 10 [xI 2 12]) (ybx [ycg 21 1,xL 22 21,xN 23 22,ya8 24] 1 c_229_l0 c_229_k1))⟩
def c_230:AFn:=⟨2,[.tmp 4],yaz [yda 2,xJ 3 1,yb5] (xQ [yca 11 2,yca 12 11,ydm 13 12,yav 5 [.str [],.Xu 2 [],.Xu 2 [],.Xu 3 [],.Xu 3 [],.Xu 6 [],.Xu 7 [],.Xu 5 [],.Xu 1 []],xS 9 5 13] [5]) (yaa [ydm 15 5,ycg 16 3,xA 17 2 16,ybn 18 f_273 15 17,xM 14 18,xE 19 0 14,xE 20 1 14,xM 6 19,xM 7 20] (yao [xF 21 3 3,xL 22 21,yc3 23 .geq 22,xM 24 23,ybj 25 24 3 3,ybz 26 24 1 25,ybj 27 24 3 5,ybz 28 24 1 27,yap 29 24 (ya7 28),ybu 30 24 .lss 26 (.t 29),xV 31 24 30,xM 8 31] [ydi 32,xL 33 32] (.block 0 (ycs (yck 35 .eql 33) 34 35 (yab 34 (ybi [xM 36 7,ybs 37 36] 37 [xI 4 8] (yad [xA 38 10 2,xF 39 6 3,xL 40 39,xM 41 6,ydh 42 f_274 38 40 41,yc7 42])) (yae [xK 44 .eql 33 2,xM 43 44] (ydd 43 (xR [xK 45 .eql 33 3,xM 43 45])) (yab 43 (ybi [xF 46 4 3,xL 47 46,yc3 48 .lss 47,xM 49 48,yax 50 49 4 3,yby 51 49 50,yax 52 49 1 5,yby 53 49 52,ybq 54 49 53,yb9 55 49 .geq 51 54,xW 56 49 55] 56 [xI 4 8] (ydk yb5)) (yae [xK 58 .eql 33 4,xM 57 58] (ydd 57 (xR [xK 59 .eql 33 5,xM 57 59])) (yb3 57 (ybi [xM 60 8,ybs 61 60,xM 62 61,yax 63 62 0 3,yby 64 62 63,ybf 65 62 .eql 64 4,ya3 66 62 65,ybp 67 66 7,yap 68 66 (yba 67),yac 69 62 (.pick (.t 66) (.t 68) (.c (.bool false))),xW 70 62 69] 70 [xI 4 8] (yae [xF 72 5 3,xL 73 72,yca 74 2,xA 75 10 74,ybn 76 f_275 73 75,xM 71 76,xE 77 0 71,xE 78 1 71,xM 9 77,xM 10 78] (ya5 [xM 79 10,yc3 80 .neq 79] 80 [xM 81 10,yc7 81]) (yae [ydi 82,xL 83 82,xK 84 .eql 83 5] (yb3 84 (yci [xA 85 10 2,xF 86 6 3,xL 87 86,xF 88 3 5,xL 89 88,xF 90 3 3,xL 91 90,xX 92 3 89 91,ycg 93 92,xL 94 93,ydh 95 f_274 85 87 94,yc7 95] .ret)) (ybi [xM 96 6,xF 97 3 5,xL 98 97,xF 99 3 3,xL 100 99,xX 101 3 98 100,ycg 102 101,xL 103 102,xB 104 .neq 96 103] 104 [xI 4 10] (ydk yb5)))))))))))) (ydk (xI 4 11))))⟩
def c_231_l0:Xv:=ydn [xB 15 .lss 14 13] 15 0 1 [xM 16 14,xX 17 3 12 14,xA 18 3 17,yav 9 [ybo,ybo,ybo],xM 8 16,xS 3 9 18] [9] (ya4 [ydm 19 2,yca 20 9,xA 21 2 20,ybn 22 f_264 19 21,xM 10 22] [xM 23 10,yc3 24 .eql 23] 24 [xM 25 8,yc7 25,xI 5 8] (yae [xF 26 2 9,xL 27 26] (.block 2 (ycs (xK 30 .eql 27 2) 29 30 (yab 29 (xR [xM 31 6,yck 32 .add 31,xM 6 32]) (yae [yck 34 .eql 27,xM 33 34] (ydd 33 (xR [xK 35 .eql 27 3,xM 33 35])) (ydd 33 (yad [xM 28 8,yc7 28,xI 5 11])))))) (xR [xM 36 7,xM 37 10,xB 38 .add 36 37,xM 7 38]))) [yck 39 .add 14,xM 14 39]
def c_231_k1:Xv:=ybi [xM 40 6,yck 41 .gtr 40] 41 [xI 4 (-2),xI 5 7] (ybi [xM 42 7,xK 43 .gtr 42 64] 43 [xI 4 (-2),xI 5 10] (yb8 yb5 yc5))
def c_231:AFn:=⟨2,[.tmp 4,.tmp 5],yc9 [yda 2,xJ 3 1,yb5,yc5] [ydc,ya8 7] [ycg 11 3,xL 12 11,xN 13 12,ya8 14] 0 c_231_l0 c_231_k1⟩
def c_232_l0:Xv:=yct [xB 13 .lss 12 11] 13 0 1 (ya4 [xX 14 1 10 12,xL 15 14,xM 7 15] [xM 16 7,yc3 17 .lss 16,xM 18 17,ya3 19 18 7,yax 20 18 4 2,yby 21 18 20,ybq 22 18 21,yb9 23 18 .geq 19 22,xW 24 18 23] 24 [xI 4 8] (ybi [ycq 25,xM 26 7,xO 27 (.lookup .i (.bool false) false (.t 25) (.t 26))] 27 [xI 4 7] (xR [ycq 28,xM 29 7,⟨none,none,.update .i (.t 28) (.t 29) (.c (.bool true))⟩]))) [yck 30 .add 12,xM 12 30]
def c_232_k1:Xv:=ybi [ycq 31,xF 32 3 3,yca 33 32,xL 34 33,xO 35 (.lookup .i (.bool false) false (.t 31) (.t 34)),ybs 36 35] 36 [xI 4 8] (yad [ydm 37 2,xF 38 3 3,xA 39 2 38,ybn 40 f_219 37 39,yc7 40])
def c_232:AFn:=⟨2,[.tmp 4],yc9 [yda 2,xJ 3 1,yb5] [xO 8 .mkmap,ydj 8] [xF 9 2 3,xL 10 9,xN 11 10,ya8 12] 0 c_232_l0 c_232_k1⟩
def c_233_l0:Xv:=yct [xB 31 .lss 30 29] 31 0 1 (yaa [xX 32 1 28 30,xL 33 32,xM 8 33] (ya5 [xM 34 8,yc3 35 .lss 34,xM 36 35,ya3 37 36 8,yax 38 36 1 2,yby 39 36 38,ybq 40 36 39,yb9 41 36 .geq 37 40,xW 42 36 41] 42 [ycc 4,xI 5 8])) [yck 43 .add 30,xM 30 43]
def c_233_l1:Xv:=ydn [xB 68 .lss 67 66] 68 3 4 [xM 69 67,xX 70 3 65 67,xA 71 3 70,yav 10 [yce 0,yce 0,ybo],xM 9 69,xS 3 10 71] [10] (yaa [ydm 72 2,ycd 73,xA 74 3 10,ydh 75 f_276 72 73 74,xM 11 75] (ya5 [xM 76 11,yc3 77 .neq 76] 77 [xM 78 9,xM 79 11,yc7 78,ydj 79])) [yck 80 .add 67,xM 67 80]
def c_233_k2:Xv:=ybi [ydm 81 2,ycd 82,xF 83 6 6,xL 84 83,ydh 85 f_277 81 82 84,ybs 86 85] 86 [ycc 4,xI 5 14] (yb8 yb5 yc5)
def c_233_k3:Xv:=yaj 2 (yc1 [xF 45 2 6,xL 46 45,xM 47 46,yap 48 47 (ydb 9 (.t 2)),ybj 49 47 3 6,yap 50 47 (ydb 2 (.t 49)),ych 51 47 f_264 [.t 48,.t 50],ycx 52 47 .eql 51 0,xV 53 47 52,xM 44 53] 44 [ycc 4,xI 5 8] [xF 55 2 6,xL 56 55,ybs 57 56,xM 58 57,ybj 59 58 5 6,ybz 60 58 1 59,yap 61 58 (ya7 60),ycx 62 58 .gtr 61 0,xV 63 58 62,xM 54 63] 54 [ycc 4,xI 5 11]) (ybx [xF 64 5 6,xL 65 64,xN 66 65,ya8 67] 3 c_233_l1 c_233_k2)
def c_233:AFn:=⟨2,[.tmp 4,.tmp 5],yaz [yda 2,yb5,yc5] (xQ [xF 12 6 2,xL 13 12,ycd 14,xX 15 7 13 14,xA 16 7 15,yav 6 [.str [],.Xu 1 [],.bool false,ybo,ybo,.Xu 3 [],ybo],xS 7 6 16] [6]) (ybi [ycg 17 6,xL 18 17,xN 19 18,xK 20 .gtr 19 4,xM 21 20,yax 22 21 5 6,yby 23 21 22,ybq 24 21 23,ybf 25 21 .gtr 24 8,xW 26 21 25] 26 [ycc 4,xI 5 12] (ybx [ycg 27 6,xL 28 27,xN 29 28,ya8 30] 0 c_233_l0 c_233_k3))⟩
def c_234:AFn:=⟨1,[.tmp 2],yaa [ya8 2] (ybr [yav 3 [ybo],⟨none,none,.store 1 (.t 3) (.c (.int .i64 0))⟩] [yb6 4,xO 5 (.mkfunc (.func f_278) [] [.t 3]),ybt 6 f_236 [.t 4,.t 5]] (ycf (xL 7 3) 2 7))⟩
def c_235_l0:Xv:=ydn [xB 12 .lss 11 10] 12 0 1 [xX 13 5 9 11,xA 14 5 13,yav 5 [ybo,ybo,.Xu 3 [],.Xu 5 [],.Xu 5 []],xS 5 5 14] [5] (xD [yc6 15,xF 16 3 5,xL 17 16,yb2 18 f_235 17,xF 19 4 5,xL 20 19,yb2 21 f_235 20,xO 22 (.minmax true [.t 15,.t 18,.t 21]),xM 3 22]) [yck 23 .add 11,xM 11 23]
def c_235_k1:Xv:=yad [yc6 24,yck 25 .add 24,xM 2 25]
def c_235:AFn:=⟨1,[.tmp 2],ya4 [ya8 2] [yb6 6,xN 7 6,yc3 8 .eql 7] 8 [ya8 2] (ybc [ya8 3] [yb6 9,xN 10 9,ya8 11] 0 c_235_l0 c_235_k1)⟩
def c_236_l0:Xv:=ydn [xB 10 .lss 9 8] 10 0 1 [xX 11 5 7 9,xA 12 5 11,yav 6 [ybo,ybo,.Xu 3 [],.Xu 5 [],.Xu 5 []],xS 5 6 12] [6] (ya5 [ycd 13,xA 14 5 6,xO 15 (.tcallv (.t 13) [.t 14]),ybs 16 15,xM 17 16,yax 18 17 3 6,yby 19 17 18,ya3 20 17 1,yac 21 17 (.tcall f_236 [.t 19,.t 20]),yac 22 17 (yba 21),xW 23 17 22,xM 24 23,yax 25 24 4 6,yby 26 24 25,ya3 27 24 1,yac 28 24 (.tcall f_236 [.t 26,.t 27]),yac 29 24 (yba 28),xW 30 24 29] 30 [ya0 4]) [yck 31 .add 9,xM 9 31]
def c_236_k1:Xv:=ydk (ycm 4)
def c_236:AFn:=⟨2,[.tmp 4],ybc [ya0 4] [yb6 7,xN 8 7,ya8 9] 0 c_236_l0 c_236_k1⟩
def c_237:AFn:=⟨5,[.tmp 6],yao [yda 5,ya0 6] [ydm 7 1,xA 8 5 5,xL 9 2,ydh 10 f_238 7 8 9,xS 1 3 10] (ya5 [xL 11 3,yc3 12 .neq 11] 12 [ya0 6]) (yae [xA 13 5 5,yb2 14 f_239 13] (yb3 14 (xR [xL 15 2,ycg 16 5,xL 17 16,xO 18 (.bslice .imm 1 (List.replicate 1 [.int .i64 0]) [(0,(.t 17))]),yb4 19 1 8 15 18,xS 1 2 19])) (yb0 [xL 20 4,yck 21 .add 20,xS 1 4 21] [ycm 6]))⟩
def c_238_l0:Xv:=yct [xB 30 .lss 29 28] 30 1 2 (yaa [xX 31 1 27 29,xL 32 31,xM 8 32] (ya5 [xM 33 8,ycg 34 4,xL 35 34,xB 36 .eql 33 35] 36 [xI 6 7])) [yck 37 .add 29,xM 29 37]
def c_238_k1:Xv:=ya5 [yca 38 4,xL 39 38,yck 40 .eql 39,xM 41 40,ybj 42 41 3 4,ybz 43 41 1 42,yap 44 41 (ya7 43),ybj 45 41 4 4,ybz 46 41 1 45,yap 47 41 (ya7 46),ybu 48 41 .add 44 (.t 47),ycx 49 41 .gtr 48 0,xV 50 41 49] 50 [xI 6 5]
def c_238_k2:Xv:=ydk ydc
def c_238:AFn:=⟨3,[.tmp 6],yao [yda 3,xJ 4 1,ydc] [yca 11 4,xL 12 11] (.block 0 (yae [yck 14 .eql 12,xM 13 14] (ydd 13 (xR [xK 15 .eql 12 3,xM 13 15])) (yab 13 (ybi [ycg 16 4,xL 17 16,yc3 18 .lss 17,xM 19 18,yax 20 19 1 4,yby 21 19 20,yax 22 19 5 3,yby 23 19 22,ybq 24 19 23,yb9 25 19 .geq 21 24,xW 26 19 25] 26 [xI 6 8] (ybx [xM 27 2,xN 28 27,ya8 29] 1 c_238_l0 c_238_k1)) (ycs (xK 52 .eql 12 2) 51 52 (yab 51 (ya4 [xF 54 2 4,xL 55 54,ydm 56 3,xO 57 (.build [.str [],.Xu 2 [],.Xu 2 [],.Xu 3 [],.Xu 3 [],.Xu 6 [],.Xu 7 [],.Xu 5 [],.Xu 1 [],.Xu 2 []] [(0,9,(.t 56))]),ybn 58 f_275 55 57,xM 53 58,xE 59 0 53,xE 60 1 53,xM 9 59,xM 10 60] [xM 61 10,yc3 62 .neq 61] 62 [xM 63 10,xM 6 63] (ya5 [xM 64 9,yck 65 .neq 64] 65 [xI 6 10])) (ydk (xI 6 11))))))) c_238_k2⟩
def c_239:AFn:=⟨1,[.tmp 2],yb0 [yda 1,ya0 2] [yca 3 1,xL 4 3,yck 5 .eql 4,ycq 6,yax 7 6 0 1,yby 8 6 7,ybf 9 6 .eql 8 3,xW 10 6 9,xM 2 10]⟩
def c_240:AFn:=⟨2,[.tmp 4],yb0 [ya0 4] [yb6 5,ycd 6,ybn 7 f_279 5 6,yc3 8 .geq 7,yc7 8]⟩
def c_241:AFn:=⟨1,[.tmp 2],yb0 [ya0 2] [yb6 3,xO 4 (yaq .geq 3 (yc4 .u8 97)),ydj 4,ybp 6 5 0,ybu 7 5 .leq 6 (yc4 .u8 122),xV 8 5 7,xM 9 8,ya3 10 9 0,ya1 11 9 .geq 10 (yc4 .u8 65),ya3 12 9 11,ybp 13 12 0,ybu 14 12 .leq 13 (yc4 .u8 90),yac 15 9 (.pick (.t 12) (.t 14) (.c (.bool false))),xW 16 9 15,xM 2 16]⟩
def c_242:AFn:=⟨1,[.tmp 2],yb0 [ya0 2] [yb6 3,xO 4 (yaq .geq 3 (yc4 .u8 48)),ydj 4,ybp 6 5 0,ybu 7 5 .leq 6 (yc4 .u8 57),xV 8 5 7,xM 2 8]⟩
def c_243_l0:Xv:=ycp [xM 7 6,ycg 8 2,xL 9 8,xN 10 9,xB 11 .lss 7 10] 11 0 1 (ya5 [ycg 14 2,xL 15 14,xM 16 6,xX 17 2 15 16,yca 18 17,xL 19 18,ycd 20,xB 21 .eql 19 20] 21 [xM 22 6,yc7 22,ycm 5]) [xM 12 6,yck 13 .add 12,xM 6 13]
def c_243_k1:Xv:=yb8 yb5 (ya0 5)
def c_243:AFn:=⟨2,[.tmp 4,.tmp 5],ybc [yda 2,yb5,ya0 5] [ydc] 0 c_243_l0 c_243_k1⟩
def c_244_l0:Xv:=ybe [xM 34 4,yc6 35,xB 36 .lss 34 35] 36 3 (ybk 4 (xD [yb6 39,xM 40 4,xX 41 2 39 40,yca 42 41,xL 43 42,yb6 44,yc6 45,xX 46 2 44 45,yca 47 46,xL 48 47,xB 49 .eql 43 48]) (yai 49 [xI 2 7]) [xM 37 4,yck 38 .add 37,yc7 38])
def c_244_k1:Xv:=xR [yc6 9,yck 10 .add 9,xM 3 10]
def c_244_l2:Xv:=ybe [yc6 5,yb6 6,xN 7 6,xB 8 .lss 5 7] 8 0 (yaj 1 (yaj 2 (yc1 [yb6 12,yc6 13,xX 14 2 12 13,yca 15 14,xL 16 15,yb2 17 f_196 16,ybs 18 17,xM 11 18] 11 [xI 2 6] [yb6 20,yc6 21,xX 22 2 20 21,ycg 23 22,xL 24 23,yck 25 .lss 24,xM 26 25,ya3 27 26 0,ya3 28 26 3,yac 29 26 (yc8 2 27 28),yax 30 26 1 29,yby 31 26 30,ybf 32 26 .gtr 31 32,xW 33 26 32,xM 19 33] 19 [xI 2 10]) (yaa [yb5] (yam 3 c_244_l0))) c_244_k1)
def c_244_k3:Xv:=ydk (ya8 2)
def c_244:AFn:=⟨1,[.tmp 2],ybc [ya8 2] [ya8 3] 0 c_244_l2 c_244_k3⟩
def c_245:AFn:=⟨3,[.tmp 6],ybr [yda 3,xJ 4 1,xJ 5 2,ydc] [ydm 15 3,ycg 16 4,xA 17 2 16,ybn 18 f_280 15 17,xM 14 18,xE 19 0 14,xE 20 1 14,xM 7 19,xM 8 20] (yao [xF 21 3 4,xL 22 21,yc3 23 .geq 22,xM 24 23,ybj 25 24 3 4,ybz 26 24 1 25,ybj 27 24 3 3,ybz 28 24 1 27,yap 29 24 (ya7 28),ybu 30 24 .lss 26 (.t 29),xV 31 24 30,xM 9 31] [yca 32 4,xL 33 32] (.block 0 (ycs (yck 35 .eql 33) 34 35 (yab 34 (ybi [xM 36 8,ybs 37 36] 37 [xI 6 8] (yad [xF 38 6 4,xL 39 38,xA 40 10 5,xM 41 7,ydh 42 f_281 39 40 41,xM 6 42])) (yae [xK 44 .eql 33 2,xM 43 44] (ydd 43 (xR [xK 45 .eql 33 3,xM 43 45])) (yab 43 (ybi [xF 46 4 4,xL 47 46,yc3 48 .lss 47,xM 49 48,yax 50 49 4 4,yby 51 49 50,yax 52 49 1 3,yby 53 49 52,ybq 54 49 53,yb9 55 49 .geq 51 54,xW 56 49 55] 56 [xI 6 8] (ydk ydc)) (ycs (xK 58 .eql 33 4) 57 58 (yab 57 (ybi [xM 59 8,ybs 60 59,xM 61 60,ya3 62 61 9,yac 63 61 (yba 62),xW 64 61 63] 64 [xI 6 8] (ya4 [xF 66 5 4,xL 67 66,xA 68 10 5,ybn 69 f_282 67 68,xM 65 69,xE 70 0 65,xE 71 1 65,xM 10 70,xM 11 71] [xM 72 11,yc3 73 .eql 72,xM 74 73,ybp 75 74 7,ybj 76 74 3 3,ybz 77 74 1 76,ybj 78 74 3 4,ybz 79 74 1 78,yap 80 74 (yc8 3 77 79),ybj 81 74 1 80,ybz 82 74 1 81,ybu 83 74 .neq 75 (.t 82),xV 84 74 83] 84 [xI 6 10] (ycf (xM 85 11) 6 85))) (ycs (xK 87 .eql 33 5) 86 87 (yb3 86 (ybi [xM 88 9,ybs 89 88] 89 [xI 6 8] (ya4 [xF 91 5 4,xL 92 91,xA 93 10 5,ybn 94 f_282 92 93,xM 90 94,xE 95 0 90,xE 96 1 90,xM 12 95,xM 13 96] [xM 97 13,yc3 98 .neq 97] 98 [xM 99 13,xM 6 99] (yci [xF 100 6 4,xL 101 100,xA 102 10 5,xF 103 3 3,xL 104 103,xF 105 3 4,xL 106 105,xX 107 3 104 106,ycg 108 107,xL 109 108,ydh 110 f_281 101 102 109,xM 6 110] .ret)))))))))))) (ydk (xI 6 11)))⟩
def c_246:AFn:=⟨2,[.cell 4 true 10],yaz [yda 2,yav 4 [.str [],.Xu 2 [],.Xu 2 [],.Xu 3 [],.Xu 3 [],.Xu 6 [],.Xu 7 [],.Xu 5 [],.Xu 1 [],.Xu 2 []]] (xD [ydm 5 2,xF 6 4 2,xL 7 6,ycd 8,xX 9 3 7 8,ycg 10 9,xL 11 10,xO 12 (.build [.str [],.Xu 2 [],.Xu 2 [],.Xu 3 [],.Xu 3 [],.Xu 6 [],.Xu 7 [],.Xu 5 [],.Xu 1 [],.Xu 2 []] [(0,9,(.t 5)),(9,1,(.t 11))]),xS 10 4 12]) .ret⟩
def c_247_l0:Xv:=ybe [xM 11 8,ycg 12 3,xL 13 12,xN 14 13,xB 15 .lss 11 14] 15 0 (ybk 1 (xD [ydm 18 2,ycg 19 3,xL 20 19,xM 21 8,xX 22 3 20 21,yca 23 22,xA 24 2 23,ybn 25 f_283 18 24,xM 9 25]) (yaa [ycg 26 3,xL 27 26,xM 28 8,xX 29 3 27 28,xF 30 2 29,xL 31 30,xM 10 31] (ya2 2 (ybh [xM 33 9,yc3 34 .eql 33,xM 32 34] 32 [xM 35 8,yc7 35,xI 5 8] (ybh [xM 37 10,yck 38 .neq 37,xM 39 38,ybp 40 39 10,ycx 41 39 .neq 40 2,xV 42 39 41,xM 43 42,ybp 44 43 10,ycx 45 43 .neq 44 3,xV 46 43 45,xM 36 46] 36 [xM 47 8,yc7 47,xI 5 11] (yaa [xM 49 10,xK 50 .eql 49 2,xM 48 50] (yb3 48 (xR [xM 51 7,yck 52 .add 51,xM 7 52]))))) [xM 53 6,xM 54 9,xB 55 .add 53 54,xM 6 55])) [xM 16 8,yck 17 .add 16,xM 8 17])
def c_247_k1:Xv:=yaj 3 (yc1 [xM 57 7,yck 58 .gtr 57,xM 56 58] 56 [xI 4 (-2),xI 5 7] [xM 60 6,xK 61 .gtr 60 64,xM 59 61] 59 [xI 4 (-2),xI 5 10]) (yb8 yb5 yc5)
def c_247:AFn:=⟨2,[.tmp 4,.tmp 5],ybr [yda 2,xJ 3 1,yb5,yc5] [ydc] (ybc [ya8 7] [ya8 8] 0 c_247_l0 c_247_k1)⟩
def c_248_l0:Xv:=ycp [ycq 6,xF 7 2 3,xL 8 7,xN 9 8,xB 10 .lss 6 9] 10 0 1 (.block 2 (yci [xF 14 2 3,xL 15 14,ycq 16,xX 17 1 15 16,xL 18 17,yc3 19 .lss 18,xM 20 19,yax 21 20 2 3,yby 22 20 21,ya3 23 20 5,yac 24 20 (yc8 1 22 23),yby 25 20 24,yax 26 20 4 2,yby 27 20 26,ybq 28 20 27,yb9 29 20 .geq 25 28,xW 30 20 29,xM 13 30] (yah 13 [xI 4 8] (yci [xF 32 2 3,xL 33 32,xF 34 2 3,xL 35 34,ycq 36,xX 37 1 35 36,xL 38 37,ybn 39 f_284 33 38,ycq 40,xB 41 .lss 39 40,xM 31 41] (yai 31 [xI 4 7]))))) [ycq 11,yck 12 .add 11,ydj 12]
def c_248_k1:Xv:=ybi [xF 42 2 3,xL 43 42,xF 44 3 3,yca 45 44,xL 46 45,ybn 47 f_284 43 46,yc3 48 .lss 47] 48 [xI 4 8] (yad [ydm 49 2,xF 50 3 3,xA 51 2 50,ybn 52 f_285 49 51,yc7 52])
def c_248:AFn:=⟨2,[.tmp 4],ybc [yda 2,xJ 3 1,yb5] [yc5] 0 c_248_l0 c_248_k1⟩
def c_249_l0:Xv:=ybe [xM 20 7,ycd 21,xB 22 .lss 20 21] 22 0 (ybk 1 (xD [xF 25 6 2,xL 26 25,xM 27 7,xX 28 7 26 27,yca 29 28,xL 30 29,yca 31 6,xL 32 31,xB 33 .eql 30 32]) (yai 33 [ycc 4,xI 5 7]) [xM 23 7,yck 24 .add 23,xM 7 24])
def c_249_l1:Xv:=ybe [xM 44 8,ycg 45 6,xL 46 45,xN 47 46,xB 48 .lss 44 47] 48 2 (ybk 3 (xD [ycg 51 6,xL 52 51,xM 53 8,xX 54 1 52 53,xL 55 54,yc3 56 .lss 55,xM 57 56,yax 58 57 1 6,yby 59 57 58,ya3 60 57 8,yac 61 57 (yc8 1 59 60),yby 62 57 61,yax 63 57 1 2,yby 64 57 63,ybq 65 57 64,yb9 66 57 .geq 62 65,xW 67 57 66]) (yai 67 [ycc 4,xI 5 8]) [xM 49 8,yck 50 .add 49,xM 8 50])
def c_249_k2:Xv:=ybi [xF 68 2 6,xL 69 68,xM 70 69,yap 71 70 (ydb 9 (.t 2)),ybj 72 70 3 6,yap 73 70 (ydb 2 (.t 72)),ych 74 70 f_286 [.t 71,.t 73],ycx 75 70 .eql 74 0,xV 76 70 75] 76 [ycc 4,xI 5 8] (ybi [xF 77 2 6,xL 78 77,ybs 79 78,xM 80 79,ybj 81 80 5 6,ybz 82 80 1 81,yap 83 80 (ya7 82),ycx 84 80 .gtr 83 0,xV 85 80 84] 85 [ycc 4,xI 5 11] (ya4 [ydm 87 2,ycd 88,ybn 89 f_287 87 88,xM 86 89,xE 90 0 86,xE 91 1 86,xM 9 90,xM 10 91] [xM 92 10,yc3 93 .neq 92] 93 [xM 94 9,xM 95 10,yc7 94,ydj 95] (ybi [ydm 96 2,ycd 97,xF 98 6 6,xL 99 98,ydh 100 f_288 96 97 99,ybs 101 100] 101 [ycc 4,xI 5 14] (yb8 yb5 yc5))))
def c_249_k3:Xv:=ybi [ycg 34 6,xL 35 34,xN 36 35,xK 37 .gtr 36 4,xM 38 37,yax 39 38 5 6,yby 40 38 39,ybq 41 38 40,ybf 42 38 .gtr 41 8,xW 43 38 42] 43 [ycc 4,xI 5 12] (ybx [ya8 8] 2 c_249_l1 c_249_k2)
def c_249:AFn:=⟨2,[.tmp 4,.tmp 5],yaz [yda 2,yb5,yc5] (xQ [xF 11 6 2,xL 12 11,ycd 13,xX 14 7 12 13,xA 15 7 14,yav 6 [.str [],.Xu 1 [],.bool false,ybo,ybo,.Xu 3 [],ybo],xS 7 6 15] [6]) (ybi [yca 16 6,xL 17 16,yb2 18 f_196 17,ybs 19 18] 19 [ycc 4,xI 5 6] (ybx [ya8 7] 0 c_249_l0 c_249_k3))⟩
def c_250_l0:Xv:=ycp [ydj 4,yb6 6,xN 7 6,xB 8 .lss 5 7] 8 0 1 (xD [yc6 11,yb6 12,xM 13 4,xX 14 5 12 13,xF 15 3 14,xL 16 15,yb2 17 f_250 16,xO 18 (.bin .add (yan 1) (.t 17)),yb6 19,xM 20 4,xX 21 5 19 20,xF 22 4 21,xL 23 22,yb2 24 f_250 23,xB 25 .add 18 24,xB 26 .add 11 25,xM 3 26]) [xM 9 4,yck 10 .add 9,yc7 10]
def c_250_k1:Xv:=ycf (yc6 27) 2 27
def c_250:AFn:=⟨1,[.tmp 2],yc9 [ya8 2] [ya8 3] [yb5] 0 c_250_l0 c_250_k1⟩
def c_251_l0:Xv:=ycp [ydj 4,yb6 6,xN 7 6,xB 8 .lss 5 7] 8 0 1 (xD [yc6 11,yb6 12,xM 13 4,xX 14 5 12 13,xF 15 3 14,xL 16 15,yb2 17 f_251 16,xO 18 (.bin .add (yan 1) (.t 17)),yb6 19,xM 20 4,xX 21 5 19 20,xF 22 4 21,xL 23 22,yb2 24 f_251 23,xO 25 (.bin .add (yan 1) (.t 24)),xO 26 (.minmax true [.t 11,.t 18,.t 25]),xM 3 26]) [xM 9 4,yck 10 .add 9,yc7 10]
def c_251_k1:Xv:=ycf (yc6 27) 2 27
def c_251:AFn:=⟨1,[.tmp 2],yc9 [ya8 2] [ya8 3] [yb5] 0 c_251_l0 c_251_k1⟩
def c_252_l0:Xv:=ycp [ydj 4,yb6 6,xN 7 6,xB 8 .lss 5 7] 8 0 1 (ybr [yc6 11,yb6 12,xM 13 4,xX 14 5 12 13,xA 15 5 14,xO 16 (.bslice .imm 5 (List.replicate 1 [.int .i64 0,.int .i64 0,.Xu 3 [],.Xu 5 [],.Xu 5 []]) [(0,(.t 15))]),yb4 17 5 88 11 16,xM 3 17] [yc6 18,yb6 19,xM 20 4,xX 21 5 19 20,xF 22 3 21,xL 23 22,yb2 24 f_252 23,yb4 25 5 88 18 24,xM 3 25] (xR [yc6 26,yb6 27,xM 28 4,xX 29 5 27 28,xF 30 4 29,xL 31 30,yb2 32 f_252 31,yb4 33 5 88 26 32,xM 3 33])) [xM 9 4,yck 10 .add 9,yc7 10]
def c_252_k1:Xv:=ycf (yc6 34) 2 34
def c_252:AFn:=⟨1,[.tmp 2],yc9 [xC 2 (.Xu 5 [])] [ycv 3 5] [yb5] 0 c_252_l0 c_252_k1⟩
def c_253:AFn:=⟨3,[.tmp 6],yaz [yda 3,ydc] (xQ [ycd 10,xM 11 2,xX 12 5 10 11,xA 13 5 12,yav 7 [ybo,ybo,.Xu 3 [],.Xu 5 [],.Xu 5 []],xS 5 7 13] [7]) (yaj 0 (ybh [yca 15 7,xL 16 15,yck 17 .lss 16,xM 18 17,yax 19 18 0 7,yby 20 18 19,ybf 21 18 .gtr 20 3,xW 22 18 21,xM 14 22] 14 [xI 6 11] (yaa [yca 24 7,xL 25 24,xK 26 .eql 25 2,xM 23 26] (yab 23 (yao [xF 28 2 7,xL 29 28,ydm 30 3,xO 31 (.build [.str [],.Xu 2 [],.Xu 2 [],.Xu 3 [],.Xu 3 [],.Xu 6 [],.Xu 7 [],.Xu 5 [],.Xu 1 [],.Xu 2 []] [(0,9,(.t 30))]),ybn 32 f_282 29 31,xM 27 32,xE 33 0 27,xE 34 1 27,xM 8 33,xM 9 34] [xM 35 9,yc3 36 .eql 35,xM 37 36,ybp 38 37 8,ycx 39 37 .neq 38 1,xV 40 37 39] (yb3 40 (xR [xI 9 10])) (ycf (xM 41 9) 6 41)) (ybh [ycg 43 7,xL 44 43,yc3 45 .lss 44,xM 46 45,yax 47 46 1 7,yby 48 46 47,yax 49 46 5 3,yby 50 46 49,ybq 51 46 50,yb9 52 46 .geq 48 51,xW 53 46 52,xM 42 53] 42 [xI 6 8] (yc1 [ycd 55,xM 56 2,ybn 57 f_289 55 56,xM 54 57] 54 [xI 6 7] [yca 59 7,xL 60 59,yck 61 .eql 60,xM 62 61,ybj 63 62 3 7,ybz 64 62 1 63,yap 65 62 (ya7 64),ybj 66 62 4 7,ybz 67 62 1 66,yap 68 62 (ya7 67),ybu 69 62 .add 65 (.t 68),ycx 70 62 .gtr 69 0,xV 71 62 70,xM 58 71] 58 [xI 6 5]))))) (ydk ydc))⟩
def c_254_l0:Xv:=ycp [xM 22 10,xM 23 2,xN 24 23,xB 25 .lss 22 24] 25 0 1 (ybi [xM 28 2,xM 29 10,xX 30 5 28 29,yca 31 30,xL 32 31,xM 33 9,xB 34 .leq 32 33] 34 [xI 8 14] (xR [xM 35 2,xM 36 10,xX 37 5 35 36,yca 38 37,xL 39 38,xM 9 39])) [xM 26 10,yck 27 .add 26,xM 10 27]
def c_254_l1:Xv:=ybe [xM 47 11,xM 48 2,xN 49 48,xB 50 .lss 47 49] 50 2 (ybk 3 (xD [ydm 53 4,ycd 54,xM 55 2,xM 56 11,xX 57 5 55 56,ycg 58 57,xA 59 4 58,ydh 60 f_290 53 54 59,xM 12 60]) (.block 4 (ybh [xM 62 12,yc3 63 .neq 62,xM 61 63] 61 [xM 64 12,xM 8 64] (yci [xM 66 2,xM 67 11,xO 68 (.slc 5 (.t 66) none (some (.t 67)) none),xM 69 2,xM 70 11,xX 71 5 69 70,ycg 72 71,xA 73 4 72,ybn 74 f_291 68 73,xM 65 74] (yai 65 [xI 8 7])))) [xM 51 11,yck 52 .add 51,xM 11 52])
def c_254_k2:Xv:=ydk (ya8 8)
def c_254_k3:Xv:=ybi [yc6 40,xM 41 9,xB 42 .leq 40 41,xM 43 42,ya3 44 43 3,ybf 45 43 .gtr 44 1073741824,xW 46 43 45] 46 [xI 8 14] (ybx [ya8 11] 2 c_254_l1 c_254_k2)
def c_254:AFn:=⟨4,[.tmp 8],ya4 [yda 4,ya8 8] [xM 13 2,xN 14 13,xF 15 5 4,xL 16 15,ycd 17,xX 18 6 16 17,xF 19 5 18,xL 20 19,xB 21 .gtr 14 20] 21 [xI 8 12] (ybc [ya8 9] [ya8 10] 0 c_254_l0 c_254_k3)⟩
def c_255:AFn:=⟨3,[.tmp 6],ya4 [yda 3,xJ 5 2,ydc] [ydm 7 3,ycd 8,yca 9 5,xL 10 9,ydh 11 f_292 7 8 10,ybs 12 11] 12 [xI 6 8] (yad [ydm 13 3,xA 14 2 5,ybn 15 f_285 13 14,xM 6 15])⟩
def c_256_l0:Xv:=ybe [ycq 14,ycd 15,xN 16 15,xB 17 .lss 14 16] 17 0 (ybk 1 (xD [ycd 20,ycq 21,xX 22 1 20 21,xL 23 22,xN 24 23,xF 25 3 2,xL 26 25,ycq 27,xX 28 3 26 27,xF 29 2 28,xL 30 29,xB 31 .neq 24 30]) (yai 31 [xI 4 2]) [ycq 18,yck 19 .add 18,ydj 19])
def c_256_l1:Xv:=ybe [xM 38 7,ycd 39,xM 40 6,xX 41 1 39 40,xL 42 41,xN 43 42,xB 44 .lss 38 43] 44 4 (ybk 5 (xD [ycd 47,xM 48 6,xX 49 1 47 48,xL 50 49,xM 51 7,xX 52 1 50 51,xL 53 52,xF 54 3 2,xL 55 54,xM 56 6,xX 57 3 55 56,xA 58 3 57,yb2 59 f_294 58,ybn 60 f_293 53 59,ybs 61 60]) (yai 61 [xI 4 9]) [xM 45 7,yck 46 .add 45,xM 7 46])
def c_256_k2:Xv:=xR [xM 36 6,yck 37 .add 36,xM 6 37]
def c_256_l3:Xv:=ybe [xM 32 6,ycd 33,xN 34 33,xB 35 .lss 32 34] 35 2 (yaj 3 (yaa [ya8 7] (yam 4 c_256_l1)) c_256_k2)
def c_256_k4:Xv:=ydk yb5
def c_256_k5:Xv:=ybx [ydc] 2 c_256_l3 c_256_k4
def c_256:AFn:=⟨2,[.tmp 4],ydl [yda 2,yb5] [ycd 8,xN 9 8,xF 10 3 2,xL 11 10,xN 12 11,xB 13 .neq 9 12] 13 [xI 4 2] [yc5] 0 c_256_l0 c_256_k5⟩
def c_257:AFn:=⟨4,[.cell 8 true 4,.tmp 9,.tmp 10],ya4 [yda 4,xJ 5 1,xJ 7 3,yc2 8 (.Xu 1 []) (.Xu 1 []) (.Xu 2 []) (.Xu 1 []),ya8 9,ya8 10] [xM 14 2,yc3 15 .lss 14,xM 16 15,ya3 17 16 2,yax 18 16 5 4,yby 19 16 18,ybq 20 16 19,yb9 21 16 .geq 17 20,xW 22 16 21] 22 [xA 23 4 5,xS 4 8 23,ya8 9,xI 10 8] (yaa [ydm 24 4,xM 25 2,xA 26 4 7,ydh 27 f_290 24 25 26,xM 11 27] (yaj 0 (ybh [xM 29 11,yc3 30 .neq 29,xM 28 30] 28 [xA 31 4 5,xM 32 11,xS 4 8 31,ya8 9,xM 10 32] (yci [yca 34 5,xL 35 34,xM 36 2,xX 37 1 35 36,xL 38 37,xA 39 4 7,ybn 40 f_291 38 39,xM 33 40] (yah 33 [xA 41 4 5,xS 4 8 41,ya8 9,xI 10 7] (yci [yca 43 5,xL 44 43,xM 45 2,xX 46 1 44 45,xL 47 46,xN 48 47,xF 49 5 4,xL 50 49,xM 51 2,xX 52 6 50 51,xF 53 5 52,xL 54 53,xB 55 .geq 48 54,xM 56 55,yax 57 56 1 5,yby 58 56 57,ya3 59 56 2,yac 60 56 (yc8 1 58 59),yby 61 56 60,ybf 62 56 .geq 61 1073741824,xW 63 56 62,xM 42 63] (yai 42 [xA 64 4 5,xS 4 8 64,ya8 9,xI 10 13]))))) (ybr [ycg 65 5,xL 66 65,xM 67 2,xX 68 1 66 67,xL 69 68,xM 12 69] [ycv 13 5] (ybr [xM 70 13,yca 71 5,xL 72 71,xM 73 2,xX 74 1 72 73,xL 75 74,yb4 76 5 72 70 75,xM 13 76] [xM 77 13,xM 78 12,xA 79 4 7,xO 80 (.build [.int .i64 0,.Xu 2 [],.int .i64 0,.int .i64 0,.Xu 1 []] [(0,1,(.t 78)),(1,4,(.t 79))]),xO 81 (.bslice .imm 5 (List.replicate 1 [.int .i64 0,.Xu 2 [],.int .i64 0,.int .i64 0,.Xu 1 []]) [(0,(.t 80))]),yb4 82 5 72 77 81,xM 13 82] (yad [xA 83 4 5,xM 84 2,xM 85 13,xM 86 12,yck 87 .add 86,ycn 88 f_295 (.t 83) (.t 84) (.t 85) (.t 87),xM 89 12,xS 4 8 88,xM 9 89,ya8 10])))))⟩
def c_258:AFn:=⟨5,[.cell 10 true 4,.tmp 11],ya4 [yda 5,xJ 6 1,xJ 9 4,yc2 10 (.Xu 1 []) (.Xu 1 []) (.Xu 2 []) (.Xu 1 []),ya8 11] [xM 14 2,yc3 15 .lss 14,xM 16 15,ya3 17 16 2,yax 18 16 5 5,yby 19 16 18,ybq 20 16 19,yb9 21 16 .geq 17 20,xW 22 16 21,xM 23 22,yax 24 23 0 6,yby 25 23 24,ya3 26 23 2,yac 27 23 (yc8 1 25 26),yby 28 23 27,ya3 29 23 3,yac 30 23 (.pcall f_296 [.t 28,.t 29]),ybf 31 23 .lss 30 0,xW 32 23 31] 32 [xA 33 4 6,xS 4 10 33,xI 11 8] (ya4 [ydm 34 5,xM 35 2,xA 36 2 9,ydh 37 f_255 34 35 36,xM 12 37] [xM 38 12,yc3 39 .neq 38] 39 [xA 40 4 6,xM 41 12,xS 4 10 40,xM 11 41] (yaa [xC 13 (.Xu 5 [])] (yaz [xM 42 13,yca 43 6,xL 44 43,xM 45 2,xX 46 1 44 45,xL 47 46,ybw 48 .row 5 72 42 47,xM 13 48] (xD [xM 49 13,xM 50 13,yc6 51,ybn 52 f_296 50 51,xA 53 2 9,xX 54 5 49 52,ycg 55 54,xF 56 2 55,xS 2 56 53]) (yci [xA 57 4 6,xM 58 2,xM 59 13,ycg 60 6,xL 61 60,xM 62 2,xX 63 1 61 62,xL 64 63,xO 65 (.pcallk f_295 [.t 57,.t 58,.t 59,.t 64]),xS 4 10 65,ya8 11] .ret))))⟩
def c_259:AFn:=⟨4,[.cell 8 true 4,.tmp 9],ya4 [yda 4,xJ 5 1,yc2 8 (.Xu 1 []) (.Xu 1 []) (.Xu 2 []) (.Xu 1 []),ya8 9] [xM 12 2,yc3 13 .lss 12,xM 14 13,ya3 15 14 2,yax 16 14 5 4,yby 17 14 16,ybq 18 14 17,yb9 19 14 .geq 15 18,xW 20 14 19,xM 21 20,yax 22 21 0 5,yby 23 21 22,ya3 24 21 2,yac 25 21 (yc8 1 23 24),yby 26 21 25,ya3 27 21 3,yac 28 21 (.pcall f_296 [.t 26,.t 27]),ybf 29 21 .lss 28 0,xW 30 21 29] 30 [xA 31 4 5,xS 4 8 31,xI 9 8] (yaa [yca 32 5,xL 33 32,xM 34 2,xX 35 1 33 34,xL 36 35,yc6 37,ybn 38 f_296 36 37,xM 10 38] (ybr [ycv 11 5] [xM 39 11,yca 40 5,xL 41 40,xM 42 2,xX 43 1 41 42,xL 44 43,xM 45 10,xO 46 (.slc 5 (.t 44) none (some (.t 45)) none),yb4 47 5 72 39 46,xM 11 47] (yaz [xM 48 11,yca 49 5,xL 50 49,xM 51 2,xX 52 1 50 51,xL 53 52,xM 54 10,yck 55 .add 54,xO 56 (.slc 5 (.t 53) (some (.t 55)) none none),yb4 57 5 72 48 56,xM 11 57] (xD [xA 58 4 5,xM 59 2,xM 60 11,ycg 61 5,xL 62 61,xM 63 2,xX 64 1 62 63,xL 65 64,ycn 66 f_295 (.t 58) (.t 59) (.t 60) (.t 65),xS 4 8 66,ya8 9]) .ret)))⟩
def c_260:AFn:=⟨4,[.cell 8 true 4,.tmp 9],ya4 [yda 4,xJ 5 1,xJ 7 3,yc2 8 (.Xu 1 []) (.Xu 1 []) (.Xu 2 []) (.Xu 1 []),ya8 9] [xM 12 2,yc3 13 .lss 12,xM 14 13,ya3 15 14 2,yax 16 14 5 4,yby 17 14 16,ybq 18 14 17,yb9 19 14 .geq 15 18,xW 20 14 19] 20 [xA 21 4 5,xS 4 8 21,xI 9 8] (ya4 [ydm 22 4,xM 23 2,xA 24 2 7,ydh 25 f_255 22 23 24,xM 10 25] [xM 26 10,yc3 27 .neq 26] 27 [xA 28 4 5,xM 29 10,xS 4 8 28,xM 9 29] (yaa [yca 30 5,xL 31 30,ycg 32 5,xL 33 32,xF 34 3 5,xL 35 34,xO 36 (.build [.Xu 1 [],.Xu 1 [],.Xu 2 [],.Xu 1 []] [(0,1,(.t 31)),(1,1,(.t 33)),(3,1,(.t 35))]),yc2 11 (.Xu 1 []) (.Xu 1 []) (.Xu 2 []) (.Xu 1 []),xS 4 11 36] (ybr [xF 37 2 11,xL 38 37,xF 39 2 5,xL 40 39,ybw 41 .row 2 32 38 40,xF 42 2 11,xS 1 42 41] [xF 43 2 11,xL 44 43,xM 45 2,xA 46 2 7,xX 47 2 44 45,xS 2 47 46] (yad [xA 48 4 11,xS 4 8 48,ya8 9]))))⟩
def c_261_l0:Xv:=yct [xB 8 .lss 7 6] 8 0 1 (yaa [xX 9 1 5 7,xL 10 9,yc7 10] (ya5 [xM 11 4,yck 12 .lss 11,xM 13 12,ya3 14 13 4,ybf 15 13 .gtr 14 32,xW 16 13 15] 16 [ya0 2])) [yck 17 .add 7,xM 7 17]
def c_261_k1:Xv:=ydk (ycm 2)
def c_261:AFn:=⟨1,[.tmp 2],ybc [ya0 2] [yb6 5,xN 6 5,ya8 7] 0 c_261_l0 c_261_k1⟩
def c_262:AFn:=⟨2,[.tmp 4],ybr [yda 2,ya0 4] [ydm 8 2,ycd 9,ybn 10 f_184 8 9,xM 7 10,xE 11 0 7,xE 12 1 7,ydj 11,xM 6 12] (yad [xM 13 6,yc3 14 .eql 13,yc7 14])⟩
def c_263:AFn:=⟨2,[.tmp 4],yb0 [ya0 4] [ycd 5,xO 6 (.bslice .imm 1 (List.replicate 1 [.int .i64 0]) [(0,(.t 5))]),yb2 7 f_261 6,xM 8 7,ybp 9 8 0,ybp 10 8 1,ych 11 8 f_217 [.t 10],ybu 12 8 .leq 9 (.t 11),xV 13 8 12,yc7 13]⟩
def c_264:AFn:=⟨2,[.tmp 4],yaz [yda 2,xJ 3 1,yb5] (xD [ydm 6 2,ydi 7,xL 8 7,ybn 9 f_298 6 8,ycg 10 3,xL 11 10,ybn 12 f_297 9 11,xO 13 (.fld false 1 1 (.t 12)),ydj 13]) (ybi [ycq 14,yb2 15 f_217 14,xO 16 (yaq .eql 15 (.c (yce 0)))] 16 [yb5] (ycf (ycq 17) 4 17))⟩
def c_265_l0:Xv:=yct [xB 14 .lss 13 12] 14 0 1 (ycs (xM 15 13) 6 15 (ya5 [xM 16 6,ycd 17,ybn 18 f_299 16 17,yb6 19,xB 20 .eql 18 19] 20 [xM 21 6,yc7 21,ycm 5])) [yck 22 .add 13,xM 13 22]
def c_265_k1:Xv:=yb8 yb5 (ya0 5)
def c_265:AFn:=⟨2,[.tmp 4,.tmp 5],ydl [yb5,ya0 5] [ycd 7,xO 8 (.bslice .imm 1 (List.replicate 1 [.int .i64 0]) [(0,(.t 7))]),yb2 9 f_261 8,ybs 10 9] 10 [yb5,ya0 5] [ycd 11,yck 12 .add 11,ya8 13] 0 c_265_l0 c_265_k1⟩
def c_266:AFn:=⟨1,[.tmp 2],yb0 [ya0 2] [yb6 3,xO 4 (yaq .geq 3 (yc4 .u8 97)),ydj 4,ybp 6 5 0,ybu 7 5 .leq 6 (yc4 .u8 122),xV 8 5 7,xM 9 8,ya3 10 9 0,ya1 11 9 .geq 10 (yc4 .u8 65),ya3 12 9 11,ybp 13 12 0,ybu 14 12 .leq 13 (yc4 .u8 90),yac 15 9 (.pick (.t 12) (.t 14) (.c (.bool false))),xW 16 9 15,xM 2 16]⟩
def c_267_l0:Xv:=ybe [ycq 6,yb6 7,xO 8 (.slen (.t 7)),xB 9 .lss 6 8,xM 10 9,ybp 11 10 1,ybp 12 10 0,ybp 13 10 5,yap 14 10 (.idxs (.t 12) (.t 13)),yap 15 10 (ycy 11 [.t 14]),xV 16 10 15] 16 0 (.block 1 (xR [ycq 17,yck 18 .add 17,ydj 18]))
def c_267_k1:Xv:=ycf (ycq 19) 4 19
def c_267:AFn:=⟨2,[.tmp 4],ybr [yb5] [yc5] (yaj 0 (.loop c_267_l0) c_267_k1)⟩
def c_268:AFn:=⟨1,[.tmp 2],yb0 [ya0 2] [yb6 3,yb2 4 f_266 3,ydj 4,ya3 6 5 0,yac 7 5 (.pcall f_269 [.t 6]),xW 8 5 7,xM 9 8,ya3 10 9 0,ya1 11 9 .eql 10 (yc4 .u8 95),xW 12 9 11,xM 2 12]⟩
def c_269:AFn:=⟨1,[.tmp 2],yb0 [ya0 2] [yb6 3,xO 4 (yaq .geq 3 (yc4 .u8 48)),ydj 4,ybp 6 5 0,ybu 7 5 .leq 6 (yc4 .u8 57),xV 8 5 7,xM 2 8]⟩
def c_270_l0:Xv:=yct [xB 9 .lss 8 7] 9 0 1 (ycs (xM 10 8) 5 10 (ya5 [ycd 11,yb6 12,ycq 13,xX 14 1 12 13,xL 15 14,xB 16 .eql 11 15] 16 [ycq 17,yc7 17])) [yck 18 .add 8,xM 8 18]
def c_270_k1:Xv:=ydk (ycc 4)
def c_270:AFn:=⟨2,[.tmp 4],ybc [yb5] [yb6 6,xN 7 6,ya8 8] 0 c_270_l0 c_270_k1⟩
def c_271:AFn:=⟨2,[.tmp 4],yb0 [ya0 4] [yb6 5,ycd 6,ybn 7 f_300 5 6,yc3 8 .geq 7,yc7 8]⟩
def c_272:AFn:=⟨2,[.tmp 3],yb0 [yda 2,ya0 3] [yca 4 2,xL 5 4,yca 6 1,xL 7 6,xB 8 .eql 5 7,xM 3 8]⟩
def c_273:AFn:=⟨2,[.tmp 4,.tmp 5],yaa [yda 2,xJ 3 1,yb5,ya0 5] (yao [xF 7 2 2,xL 8 7,xM 6 8] [ydi 9,xL 10 9,xK 11 .neq 10 (-1)] (yb3 11 (ybi [ydi 12,xL 13 12,yc3 14 .lss 13,xM 15 14,yax 16 15 0 3,yby 17 15 16,yax 18 15 1 2,yby 19 15 18,ybq 20 15 19,yb9 21 15 .geq 17 20,xW 22 15 21] 22 [yb5,ya0 5] (xR [ycg 23 2,xL 24 23,ydi 25,xL 26 25,xX 27 2 24 26,ycg 28 27,xL 29 28,xM 6 29]))) (ybi [ycg 30 3,xL 31 30,yc3 32 .lss 31,xM 33 32,yax 34 33 1 3,yby 35 33 34,ya3 36 33 6,ybq 37 33 36,yb9 38 33 .geq 35 37,xW 39 33 38] 39 [yb5,ya0 5] (yad [xM 40 6,ycg 41 3,xL 42 41,xX 43 2 40 42,ycg 44 43,xL 45 44,yc7 45,ycm 5])))⟩
def c_274:AFn:=⟨3,[.tmp 6],ycr (yda 3) ydc (ya4 [ycd 10,ydi 11,xA 12 10 11,ybn 13 f_275 10 12,xM 9 13,xE 14 0 9,xE 15 1 9,xM 7 14,xM 8 15] [xM 16 8,yc3 17 .eql 16,xM 18 17,ybp 19 18 7,ybp 20 18 2,ybu 21 18 .neq 19 (.t 20),xV 22 18 21] 22 [xI 6 10] (ycf (xM 23 8) 6 23))⟩
def c_275:AFn:=⟨2,[.tmp 4,.tmp 5],ya4 [xJ 3 1,yb5,yc5] [yb6 7,xN 8 7,xK 9 .gtr 8 24] 9 [yb5,xI 5 12] (yaa [xA 11 10 3,yb6 12,ydg 13 f_301 11 12 (yan 0),xM 10 13,xE 14 0 10,xE 15 1 10,xE 16 2 10,yc7 14,xM 6 15,ydj 16] (yaj 0 (yc1 [ycq 18,yc3 19 .neq 18,xM 17 19] 17 [ycq 20,yb5,ydj 20] [xM 22 6,yb6 23,xN 24 23,xB 25 .lss 22 24,xM 21 25] 21 [yb5,xI 5 4]) (yad [xM 26 4,yc7 26,yc5])))⟩
def c_276:AFn:=⟨3,[.tmp 6],yaz [yda 3,xJ 5 2,ydc] (xD [ydm 8 3,xF 9 6 3,xL 10 9,ycd 11,xX 12 7 10 11,xF 13 3 12,xA 14 2 13,ybn 15 f_264 8 14,xM 7 15]) (yaj 0 (ybh [yca 17 5,xL 18 17,xM 19 7,ybn 20 f_263 18 19,ybs 21 20,xM 22 21,yax 23 22 1 5,yby 24 22 23,ya3 25 22 7,yac 26 22 (.pcall f_263 [.t 24,.t 25]),yac 27 22 (yba 26),xW 28 22 27,xM 16 28] 16 [xI 6 9] (yc1 [yca 30 5,xL 31 30,ycg 32 5,xL 33 32,xB 34 .andNot 31 33,xO 35 (yaq .neq 34 (.c (yce 0))),xM 29 35] 29 [xI 6 5] [ydm 37 3,ycd 38,xF 39 2 5,xL 40 39,ydh 41 f_277 37 38 40,ybs 42 41,xM 36 42] 36 [xI 6 14])) (ydk ydc))⟩
def c_277:AFn:=⟨3,[.tmp 6],yao [yda 3,ya0 6] [xM 7 2] (.block 0 (yaj 2 (.block 1 (.seq (yae [xK 9 .eql 7 (-1),xM 8 9] (yb3 8 (.exit 1)) (ycs (xK 11 .eql 7 (-2)) 10 11 (yb3 10 (.exit 2)))) (.exit 0))) (.seq (ydk (ycm 6)) (.exit 0)))) (yad [xM 12 2,ycd 13,xB 14 .gtr 12 13,xM 15 14,ybp 16 15 2,ybj 17 15 6 3,ybz 18 15 1 17,yap 19 15 (ya7 18),ybu 20 15 .lss 16 (.t 19),xV 21 15 20,xM 6 21])⟩
def c_278:AFn:=⟨2,[.tmp 3],ybr [yda 2,ya0 3] [xL 4 1,yck 5 .add 4,xS 1 1 5] (ydk (ycm 3))⟩
def c_279_l0:Xv:=yct [xB 9 .lss 8 7] 9 0 1 (ycs (xM 10 8) 5 10 (ya5 [ycd 11,yb6 12,ycq 13,xX 14 1 12 13,xL 15 14,xB 16 .eql 11 15] 16 [ycq 17,yc7 17])) [yck 18 .add 8,xM 8 18]
def c_279_k1:Xv:=ydk (ycc 4)
def c_279:AFn:=⟨2,[.tmp 4],ybc [yb5] [yb6 6,xN 7 6,ya8 8] 0 c_279_l0 c_279_k1⟩
def c_280:AFn:=⟨2,[.tmp 4,.tmp 5],yaa [yda 2,xJ 3 1,yb5,ya0 5] (yao [xF 7 2 2,xL 8 7,xM 6 8] [ydi 9,xL 10 9,xK 11 .neq 10 (-1)] (yb3 11 (ybi [ydi 12,xL 13 12,yc3 14 .lss 13,xM 15 14,yax 16 15 0 3,yby 17 15 16,yax 18 15 1 2,yby 19 15 18,ybq 20 15 19,yb9 21 15 .geq 17 20,xW 22 15 21] 22 [yb5,ya0 5] (xR [ycg 23 2,xL 24 23,ydi 25,xL 26 25,xX 27 2 24 26,ycg 28 27,xL 29 28,xM 6 29]))) (ybi [ycg 30 3,xL 31 30,yc3 32 .lss 31,xM 33 32,yax 34 33 1 3,yby 35 33 34,ya3 36 33 6,ybq 37 33 36,yb9 38 33 .geq 35 37,xW 39 33 38] 39 [yb5,ya0 5] (yad [xM 40 6,ycg 41 3,xL 42 41,xX 43 2 40 42,ycg 44 43,xL 45 44,yc7 45,ycm 5])))⟩
def c_281:AFn:=⟨3,[.tmp 6],ycr (xJ 4 1) ydc (ya4 [yb6 10,xA 11 10 4,ybn 12 f_282 10 11,xM 9 12,xE 13 0 9,xE 14 1 9,xM 7 13,xM 8 14] [xM 15 8,yc3 16 .eql 15,xM 17 16,ybp 18 17 7,ybp 19 17 2,ybu 20 17 .neq 18 (.t 19),xV 21 17 20] 21 [xI 6 10] (ycf (xM 22 8) 6 22))⟩
def c_282:AFn:=⟨2,[.tmp 4,.tmp 5],ya4 [xJ 3 1,yb5,yc5] [yb6 9,xN 10 9,xK 11 .gtr 10 24] 11 [yb5,xI 5 12] (yaa [yb6 13,xA 14 10 3,ydf 15 f_302 13 (yan 0) (.t 14),xM 12 15,xE 16 0 12,xE 17 1 12,xE 18 2 12,xM 6 16,xM 7 17,xM 8 18] (yaj 0 (yc1 [xM 20 8,yc3 21 .neq 20,xM 19 21] 19 [xM 22 8,yb5,ydj 22] [xM 24 7,yb6 25,xN 26 25,xB 27 .lss 24 26,xM 23 27] 23 [yb5,xI 5 4]) (yad [xM 28 6,yc7 28,yc5])))⟩
def c_283:AFn:=⟨2,[.tmp 4],yaa [yda 2,xJ 3 1,yb5] (yao [xF 6 2 2,xL 7 6,ydj 7] [ydi 8,xL 9 8,yc3 10 .geq 9] (yb3 10 (ybi [ydi 11,xL 12 11,ycg 13 2,xL 14 13,xN 15 14,xB 16 .geq 12 15] 16 [yb5] (xR [ycg 17 2,xL 18 17,ydi 19,xL 20 19,xX 21 2 18 20,ycg 22 21,xL 23 22,ydj 23]))) (ybi [ydi 24,xL 25 24,xK 26 .lss 25 (-1),xM 27 26,yax 28 27 1 3,yby 29 27 28,ybf 30 27 .lss 29 0,xW 31 27 30,xM 32 31,yax 33 32 1 3,yby 34 32 33,ya3 35 32 5,ybq 36 32 35,yb9 37 32 .geq 34 36,xW 38 32 37,xM 39 38,ya3 40 39 5,yax 41 39 1 3,yby 42 39 41,yac 43 39 (yc8 2 40 42),yax 44 39 1 43,yby 45 39 44,ybf 46 39 .lss 45 1,xW 47 39 46,xM 48 47,ya3 49 48 5,yax 50 48 1 3,yby 51 48 50,yac 52 48 (yc8 2 49 51),yax 53 48 1 52,yby 54 48 53,ybf 55 48 .gtr 54 32,xW 56 48 55] 56 [yb5] (yad [ycq 57,ycg 58 3,xL 59 58,xX 60 2 57 59,ycg 61 60,xL 62 61,yc7 62])))⟩
def c_284_l0:Xv:=ycp [ycq 6,yb6 7,xN 8 7,xB 9 .lss 6 8] 9 0 1 (ya5 [yb6 12,ycq 13,xX 14 1 12 13,xL 15 14,ycd 16,xB 17 .eql 15 16] 17 [ycq 18,yc7 18]) [ycq 10,yck 11 .add 10,ydj 11]
def c_284_k1:Xv:=ydk (ycc 4)
def c_284:AFn:=⟨2,[.tmp 4],ybc [yb5] [yc5] 0 c_284_l0 c_284_k1⟩
def c_285_l0:Xv:=ybe [xM 31 6,ycq 32,xN 33 32,xB 34 .lss 31 33] 34 0 (ybk 1 (xD [ycg 37 3,xL 38 37,xM 39 6,xX 40 1 38 39,xL 41 40,ycq 42,xM 43 6,xX 44 2 42 43,ycg 45 44,xL 46 45,ybn 47 f_303 41 46,ybs 48 47]) (yai 48 [xI 4 9]) [xM 35 6,yck 36 .add 35,xM 6 36])
def c_285_k1:Xv:=ydk yb5
def c_285:AFn:=⟨2,[.tmp 4],ya4 [yda 2,xJ 3 1,yb5] [ydi 7,xL 8 7,yc3 9 .lss 8,xM 10 9,yax 11 10 0 3,yby 12 10 11,yax 13 10 4 2,yby 14 10 13,ybq 15 10 14,yb9 16 10 .geq 12 15,xW 17 10 16] 17 [xI 4 8] (ydl [xF 18 4 2,xL 19 18,ydi 20,xL 21 20,xX 22 3 19 21,ycg 23 22,xL 24 23,ydj 24] [ycg 25 3,xL 26 25,xN 27 26,ycq 28,xN 29 28,xB 30 .neq 27 29] 30 [xI 4 2] [ydc] 0 c_285_l0 c_285_k1)⟩
def c_286:AFn:=⟨2,[.tmp 4],yaa [yda 2,xJ 3 1,yb5] (yao [xF 6 2 2,xL 7 6,ydj 7] [ydi 8,xL 9 8,yc3 10 .geq 9] (yb3 10 (ybi [ydi 11,xL 12 11,ycg 13 2,xL 14 13,xN 15 14,xB 16 .geq 12 15] 16 [yb5] (xR [ycg 17 2,xL 18 17,ydi 19,xL 20 19,xX 21 2 18 20,ycg 22 21,xL 23 22,ydj 23]))) (ybi [ydi 24,xL 25 24,xK 26 .lss 25 (-1),xM 27 26,yax 28 27 1 3,yby 29 27 28,ybf 30 27 .lss 29 0,xW 31 27 30,xM 32 31,yax 33 32 1 3,yby 34 32 33,ya3 35 32 5,ybq 36 32 35,yb9 37 32 .geq 34 36,xW 38 32 37,xM 39 38,ya3 40 39 5,yax 41 39 1 3,yby 42 39 41,yac 43 39 (yc8 2 40 42),yax 44 39 1 43,yby 45 39 44,ybf 46 39 .lss 45 1,xW 47 39 46,xM 48 47,ya3 49 48 5,yax 50 48 1 3,yby 51 48 50,yac 52 48 (yc8 2 49 51),yax 53 48 1 52,yby 54 48 53,ybf 55 48 .gtr 54 32,xW 56 48 55] 56 [yb5] (yad [ycq 57,ycg 58 3,xL 59 58,xX 60 2 57 59,ycg 61 60,xL 62 61,yc7 62])))⟩
def c_287_l0:Xv:=ybe [xM 19 8,xF 20 5 6,xL 21 20,xN 22 21,xB 23 .lss 19 22] 23 0 (ybk 1 (xQ [xF 26 5 6,xL 27 26,xM 28 8,xX 29 3 27 28,xA 30 3 29,yav 9 [yce 0,yce 0,ybo],xS 3 9 30] [9]) (ybi [yca 31 9,xL 32 31,xM 33 7,ybn 34 f_293 32 33,ybs 35 34,xM 36 35,yax 37 36 1 9,yby 38 36 37,ya3 39 36 7,yac 40 36 (.pcall f_293 [.t 38,.t 39]),yac 41 36 (yba 40),xW 42 36 41] 42 [xM 43 8,yc7 43,xI 5 9] (ybi [yca 44 9,xL 45 44,ycg 46 9,xL 47 46,xB 48 .and 45 47,yca 49 9,xL 50 49,xB 51 .neq 48 50] 51 [xM 52 8,yc7 52,xI 5 5] (ya5 [ydm 53 2,ycd 54,xF 55 2 9,xL 56 55,ydh 57 f_288 53 54 56,ybs 58 57] 58 [xM 59 8,yc7 59,xI 5 14]))) [xM 24 8,yck 25 .add 24,xM 8 25])
def c_287_k1:Xv:=yb8 (ycc 4) yc5
def c_287:AFn:=⟨2,[.tmp 4,.tmp 5],yaz [yda 2,yb5,yc5] (xQ [xF 10 6 2,xL 11 10,ycd 12,xX 13 7 11 12,xA 14 7 13,yav 6 [.str [],.Xu 1 [],.bool false,ybo,ybo,.Xu 3 [],ybo],xS 7 6 14] [6]) (ybc [ydm 15 2,xF 16 3 6,xA 17 2 16,ybn 18 f_286 15 17,xM 7 18] [ya8 8] 0 c_287_l0 c_287_k1)⟩
def c_288:AFn:=⟨3,[.tmp 6],yb0 [yda 3,ya0 6] [xM 7 2,xK 8 .eql 7 (-1),xM 9 8,ya3 10 9 2,ybf 11 9 .eql 10 (-2),xW 12 9 11,xM 13 12,ya3 14 13 2,ya3 15 13 1,yb9 16 13 .gtr 14 15,ya3 17 13 16,ybp 18 17 2,ybj 19 17 6 3,ybz 20 17 1 19,yap 21 17 (ya7 20),ybu 22 17 .lss 18 (.t 21),yac 23 13 (.pick (.t 17) (.t 22) (.c (.bool false))),xW 24 13 23,xM 6 24]⟩
def c_289_l0:Xv:=ybe [ycq 6,ycd 7,xB 8 .lss 6 7] 8 0 (ybk 1 (xD [yb6 11,ycq 12,xX 13 5 11 12,xA 14 5 13,yb2 15 f_304 14,xM 16 15,ybp 17 16 0,ybp 18 16 5,yap 19 16 (yc8 5 17 18),ybj 20 16 1 19,ybz 21 16 1 20,ybp 22 16 0,ybp 23 16 1,yap 24 16 (yc8 5 22 23),ybj 25 16 1 24,ybz 26 16 1 25,ybu 27 16 .eql 21 (.t 26),xV 28 16 27]) (yai 28 [ycm 4]) [ycq 9,yck 10 .add 9,ydj 10])
def c_289_k1:Xv:=ydk (ya0 4)
def c_289:AFn:=⟨2,[.tmp 4],ybc [ya0 4] [yc5] 0 c_289_l0 c_289_k1⟩
def c_290_l0:Xv:=ybe [xM 29 10,xM 30 9,xN 31 30,xB 32 .lss 29 31] 32 0 (ybk 1 (xD [yca 35 5,xL 36 35,xM 37 10,xX 38 2 36 37,xA 39 2 38,xM 40 9,xM 41 10,xX 42 1 40 41,xL 43 42,xF 44 5 3,xL 45 44,ycd 46,xX 47 6 45 46,ycg 48 47,xL 49 48,xM 50 10,xX 51 3 49 50,xF 52 2 51,xL 53 52,ydh 54 f_306 39 43 53,xM 8 54]) (ya5 [xM 55 8,yc3 56 .neq 55] 56 [xM 57 8,xM 6 57]) [xM 33 10,yck 34 .add 33,xM 10 34])
def c_290_k1:Xv:=yaj 2 (ybh [ycg 59 5,xL 60 59,yc3 61 .lss 60,xM 62 61,yax 63 62 1 5,yby 64 62 63,ybf 65 62 .gtr 64 255,xW 66 62 65,xM 58 66] 58 [xI 6 9] (yc1 [ycg 68 5,xL 69 68,yc3 70 .gtr 69,xM 71 70,yap 72 71 (ydb 9 (.t 3)),ybp 73 71 1,ych 74 71 f_307 [.t 72,.t 73],ycx 75 71 .neq 74 3,xV 76 71 75,xM 67 76] 67 [xI 6 11] [ydm 78 3,ycd 79,xF 80 2 5,yca 81 80,xL 82 81,ydh 83 f_292 78 79 82,ybs 84 83,xM 77 84] 77 [xI 6 8])) (yad [ydm 85 3,xF 86 2 5,xA 87 2 86,ybn 88 f_285 85 87,xM 6 88])
def c_290:AFn:=⟨3,[.tmp 6],yaa [yda 3,xJ 5 2,ydc] (ya4 [ydm 12 3,ycd 13,ybn 14 f_202 12 13,xM 11 14,xE 15 0 11,xE 16 1 11,xM 7 15,xM 8 16] [xM 17 8,yc3 18 .neq 17] 18 [xM 19 8,xM 6 19] (ydl [ydm 20 3,ycd 21,ybn 22 f_305 20 21,xM 9 22] [yca 23 5,xL 24 23,xN 25 24,xM 26 9,xN 27 26,xB 28 .neq 25 27] 28 [xI 6 2] [ya8 10] 0 c_290_l0 c_290_k1))⟩
def c_291_l0:Xv:=ybe [ycq 6,yb6 7,xN 8 7,xB 9 .lss 6 8] 9 0 (ybk 1 (xD [yb6 12,ycq 13,xX 14 5 12 13,ycg 15 14,xA 16 4 15,xA 17 4 3,ybn 18 f_151 16 17]) (yai 18 [ycm 4]) [ycq 10,yck 11 .add 10,ydj 11])
def c_291_k1:Xv:=ydk (ya0 4)
def c_291:AFn:=⟨2,[.tmp 4],ybc [xJ 3 1,ya0 4] [yc5] 0 c_291_l0 c_291_k1⟩
def c_292:AFn:=⟨3,[.tmp 6],yb0 [yda 3,ya0 6] [ydm 7 3,ycd 8,ybn 9 f_308 7 8,xM 10 9,ybj 11 10 5 3,ybz 12 10 1 11,ybp 13 10 1,yap 14 10 (yc8 6 12 13),ybj 15 10 2 14,ybz 16 10 1 15,ybp 17 10 2,ych 18 10 f_284 [.t 16,.t 17],ycx 19 10 .geq 18 0,xV 20 10 19,xM 6 20]⟩
def c_293_l0:Xv:=ycp [xM 7 6,ycd 8,xB 9 .lss 7 8] 9 0 1 (xR [ycq 12,xO 13 (.bin .mul (yc4 .u64 2) (.t 12)),ydj 13]) [xM 10 6,yck 11 .add 10,xM 6 11]
def c_293_k1:Xv:=yad [yb6 14,yc0 15 .u64 14,ycq 16,xB 17 .lss 15 16,yc7 17]
def c_293:AFn:=⟨2,[.tmp 4],yc9 [ya0 4] [xC 5 (.int .u64 1)] [ydc] 0 c_293_l0 c_293_k1⟩
def c_294:AFn:=⟨1,[.tmp 2],ya4 [yda 1,ya8 2] [ycg 3 1,xL 4 3,yck 5 .lss 4,ycq 6,yax 7 6 1 1,yby 8 6 7,ybf 9 6 .gtr 8 32,xW 10 6 9] 10 [ya8 2] (yad [ycg 11 1,xL 12 11,xM 2 12])⟩
def c_295_l0:Xv:=ycp [xM 16 10,yca 17 4,xL 18 17,xN 19 18,xB 20 .lss 16 19] 20 0 1 (yaa [xM 23 10,ycd 24,xB 25 .eql 23 24] (yab 25 (yaa [yca 26 9,xL 27 26,xM 28 2,xO 29 (.bslice .imm 1 (List.replicate 1 [.Xu 5 []]) [(0,(.t 28))]),yb4 30 1 24 27 29,yca 31 9,xS 1 31 30] (xR [ycg 32 9,xL 33 32,yc6 34,xO 35 (.bslice .imm 1 (List.replicate 1 [.int .i64 0]) [(0,(.t 34))]),yb4 36 1 8 33 35,ycg 37 9,xS 1 37 36])) (yci [yca 38 9,xL 39 38,yca 40 4,xL 41 40,xM 42 10,xX 43 1 41 42,xL 44 43,xO 45 (.bslice .imm 1 (List.replicate 1 [.Xu 5 []]) [(0,(.t 44))]),yb4 46 1 24 39 45,yca 47 9,xS 1 47 46] (xD [ycg 48 9,xL 49 48,ycg 50 4,xL 51 50,xM 52 10,xX 53 1 51 52,xL 54 53,xO 55 (.bslice .imm 1 (List.replicate 1 [.int .i64 0]) [(0,(.t 54))]),yb4 56 1 8 49 55,ycg 57 9,xS 1 57 56])))) [xM 21 10,yck 22 .add 21,xM 10 22]
def c_295_k1:Xv:=yb8 (xA 58 4 9) (xS 4 8 58)
def c_295:AFn:=⟨4,[.cell 8 true 4],ycr (yda 4) (yc2 8 (.Xu 1 []) (.Xu 1 []) (.Xu 2 []) (.Xu 1 [])) (ybc [xF 11 2 4,xL 12 11,xF 13 3 4,xL 14 13,xO 15 (.build [.Xu 1 [],.Xu 1 [],.Xu 2 [],.Xu 1 []] [(2,1,(.t 12)),(3,1,(.t 14))]),yc2 9 (.Xu 1 []) (.Xu 1 []) (.Xu 2 []) (.Xu 1 []),xS 4 9 15] [ya8 10] 0 c_295_l0 c_295_k1)⟩
def c_296_l0:Xv:=ycp [ycq 6,yb6 7,xN 8 7,xB 9 .lss 6 8] 9 0 1 (ya5 [yb6 12,ycq 13,xX 14 5 12 13,yca 15 14,xL 16 15,ycd 17,xB 18 .eql 16 17] 18 [ycq 19,yc7 19]) [ycq 10,yck 11 .add 10,ydj 11]
def c_296_k1:Xv:=ydk (ycc 4)
def c_296:AFn:=⟨2,[.tmp 4],ybc [yb5] [yc5] 0 c_296_l0 c_296_k1⟩
def c_297:AFn:=⟨2,[.cell 4 true 2],yaa [yav 4 [.str [],ybo]] (ya4 [yav 5 [.str [],ybo]] [ycd 6,yc3 7 .lss 6,xM 8 7,ya3 9 8 1,ya3 10 8 0,ybq 11 8 10,yb9 12 8 .geq 9 11,xW 13 8 12] 13 [xA 14 2 5,xS 2 4 14] (yad [yb6 15,ycd 16,xX 17 2 15 16,xA 18 2 17,xS 2 4 18]))⟩
def c_298:AFn:=⟨2,[.tmp 4],ya4 [yda 2,xC 4 (.Xu 2 [])] [ycd 5,xK 6 .eql 5 (-1)] 6 [xF 7 2 2,xL 8 7,yc7 8] (yad [ycg 9 2,xL 10 9,ycd 11,ybn 12 f_309 10 11,xO 13 (.fld false 1 1 (.t 12)),yc7 13])⟩
def c_299:AFn:=⟨2,[.tmp 4],ya4 [xC 4 (yce 0)] [ycd 5,xO 6 (.bslice .imm 1 (List.replicate 1 [.int .i64 0]) [(0,(.t 5))]),yb2 7 f_261 6,ybs 8 7] 8 [xC 4 (yce 0)] (yad [ycd 9,yb2 10 f_217 9,ycd 11,yb2 12 f_217 11,yb6 13,xO 14 (.minmax true [.t 13,.c (.int .i64 0)]),ycd 15,xO 16 (.minmax false [.t 14,.t 15]),xB 17 .shr 12 16,xB 18 .andNot 10 17,yc7 18])⟩
def c_300_l0:Xv:=yct [xB 9 .lss 8 7] 9 0 1 (ycs (xM 10 8) 5 10 (ya5 [ycd 11,yb6 12,ycq 13,xX 14 2 12 13,xA 15 2 14,xO 16 (ycy 11 [.t 15])] 16 [ycq 17,yc7 17])) [yck 18 .add 8,xM 8 18]
def c_300_k1:Xv:=ydk (ycc 4)
def c_300:AFn:=⟨2,[.tmp 4],ybc [yb5] [yb6 6,xN 7 6,ya8 8] 0 c_300_l0 c_300_k1⟩
def c_301_l0:Xv:=yct [xB 45 .lss 44 43] 45 1 2 (ybr [xM 46 44,xM 11 46] [xM 48 11,xA 49 10 3,ycd 50,xM 51 7,ydh 52 f_301 49 50 51,xM 47 52,xE 53 0 47,xE 54 1 47,xE 55 2 47,xO 56 (ybg 1 (some 3) 10 (.t 48)),xS 1 56 53,xM 7 54,xM 8 55] (ya5 [xM 57 8,yc3 58 .neq 57] 58 [xM 59 8,ydc,ya8 7,xM 8 59])) [yck 60 .add 44,xM 44 60]
def c_301_k1:Xv:=yci [ycd 62,xM 63 2,xX 64 3 62 63,xA 65 3 64,xA 66 3 10,ybn 67 f_312 65 66,xM 61 67,xE 68 0 61,xE 69 1 61,xM 6 68,xM 8 69] (yad [xM 70 6,xM 71 7,xM 72 8,xM 6 70,xM 7 71,xM 8 72])
def c_301:AFn:=⟨3,[.tmp 6,.tmp 7,.tmp 8],ya4 [yda 3,ydc,ya8 7,ya8 8] [xM 12 2,ycd 13,xN 14 13,xB 15 .geq 12 14] 15 [ydc,ya8 7,xI 8 3] (yaa [ycd 16,xM 17 2,xX 18 3 16 17,yca 19 18,xL 20 19,yb2 21 f_310 20,xM 9 21] (yaj 0 (ybh [xM 23 9,yc3 24 .lss 23,xM 22 24] 22 [ydc,ya8 7,xI 8 11] (yaa [xM 26 9,yc3 27 .eql 26,xM 25 27] (yb3 25 (yci [xA 29 10 3,ycd 30,xM 31 2,xX 32 3 30 31,xA 33 3 32,ybn 34 f_311 29 33,xM 28 34,xE 35 0 28,xE 36 1 28,xM 6 35,xM 8 36] (yad [xM 37 6,xM 38 2,yck 39 .add 38,xM 40 8,xM 6 37,xM 7 39,xM 8 40]))))) (yc9 [yav 10 [ybo,ybo,ybo]] [xM 41 2,yck 42 .add 41,xM 7 42] [xM 43 9,ya8 44] 1 c_301_l0 c_301_k1)))⟩
def c_302_l0:Xv:=ycp [xM 51 14,xM 52 9,xB 53 .lss 51 52] 53 0 1 (ya4 [yb6 57,xM 58 13,xA 59 10 5,ydh 60 f_302 57 58 59,xM 56 60,xE 61 0 56,xE 62 1 56,xE 63 2 56,xM 15 61,xM 16 62,xM 17 63] [xM 64 17,yc3 65 .neq 64] 65 [xM 66 16,xM 67 17,ydc,xM 7 66,xM 8 67] (yaa [xM 68 12,xM 69 15,xO 70 (.bslice .imm 1 (List.replicate 1 [.int .i64 0]) [(0,(.t 69))]),yb4 71 1 8 68 70,xM 12 71] (xR [xM 72 16,xM 13 72]))) [xM 54 14,yck 55 .add 54,xM 14 55]
def c_302_k1:Xv:=yb0 [yb6 74,ycd 75,xX 76 3 74 75,xA 77 3 76,xM 78 12,ybn 79 f_315 77 78,xM 73 79,xE 80 0 73,xE 81 1 73,xM 18 80,xM 19 81] [xM 82 18,xM 83 13,xM 84 19,xM 6 82,xM 7 83,xM 8 84]
def c_302:AFn:=⟨3,[.tmp 6,.tmp 7,.tmp 8],ya4 [xJ 5 2,ydc,ya8 7,ya8 8] [ycd 20,yb6 21,xN 22 21,xB 23 .geq 20 22] 23 [ycd 24,ydc,xM 7 24,xI 8 3] (ya4 [yb6 25,ycd 26,xX 27 3 25 26,yca 28 27,xL 29 28,yb2 30 f_313 29,xM 9 30] [xM 31 9,yc3 32 .lss 31] 32 [ycd 33,ydc,xM 7 33,xI 8 11] (yae [xM 34 9,yc3 35 .eql 34] (yb3 35 (yci [yb6 37,ycd 38,xX 39 3 37 38,xA 40 3 39,xA 41 10 5,ybn 42 f_314 40 41,xM 36 42,xE 43 0 36,xE 44 1 36,xM 10 43,xM 11 44] (yad [xM 45 10,ycd 46,yck 47 .add 46,xM 48 11,xM 6 45,xM 7 47,xM 8 48]))) (yc9 [ycv 12 1] [ycd 49,yck 50 .add 49,xM 13 50] [ya8 14] 0 c_302_l0 c_302_k1)))⟩
def c_303:AFn:=⟨2,[.tmp 4],yb0 [ya0 4] [ycd 5,yb2 6 f_316 5,xM 7 6,ybp 8 7 0,yap 9 7 (yb7 .u64 8),ybp 10 7 1,ych 11 7 f_317 [.t 10],ybu 12 7 .lss 9 (.t 11),xV 13 7 12,yc7 13]⟩
def c_304:AFn:=⟨1,[.tmp 2],yb0 [yda 1,ya0 2] [yca 3 1,xL 4 3,yck 5 .eql 4,ycq 6,yax 7 6 0 1,yby 8 6 7,ybf 9 6 .eql 8 3,xW 10 6 9,xM 2 10]⟩
def c_305_l0:Xv:=ycp [xM 11 6,xF 12 5 2,xL 13 12,ycd 14,xX 15 6 13 14,ycg 16 15,xL 17 16,xN 18 17,xB 19 .lss 11 18] 19 0 1 (xD [ycq 22,ydm 23 2,xF 24 5 2,xL 25 24,ycd 26,xX 27 6 25 26,ycg 28 27,xL 29 28,xM 30 6,xX 31 3 29 30,yca 32 31,xA 33 2 32,ybn 34 f_283 23 33,xO 35 (.bslice .imm 1 (List.replicate 1 [.int .i64 0]) [(0,(.t 34))]),yb4 36 1 8 22 35,ydj 36]) [xM 20 6,yck 21 .add 20,xM 6 21]
def c_305_k1:Xv:=ycf (ycq 37) 4 37
def c_305:AFn:=⟨2,[.tmp 4],ya4 [yda 2,xC 4 (.Xu 1 [])] [ydm 7 2,ycd 8,ybn 9 f_308 7 8,ybs 10 9] 10 [xC 4 (.Xu 1 [])] (ybc [ycv 5 1] [ydc] 0 c_305_l0 c_305_k1)⟩
def c_306:AFn:=⟨3,[.tmp 6],ybr [yda 3,ydc] [ycg 10 3,xL 11 10,ycd 12,ybn 13 f_318 11 12,xM 9 13,xE 14 0 9,xE 15 1 9,xM 7 14,xM 8 15] (yaj 0 (ybh [ydi 17,xL 18 17,ycd 19,ybn 20 f_303 18 19,ybs 21 20,xM 22 21,yax 23 22 1 3,yby 24 22 23,ya3 25 22 1,yac 26 22 (.pcall f_303 [.t 24,.t 25]),yac 27 22 (yba 26),xW 28 22 27,xM 16 28] 16 [xI 6 9] (ybh [ydi 30,xL 31 30,ycg 32 3,xL 33 32,xB 34 .and 31 33,ydi 35,xL 36 35,xB 37 .neq 34 36,xM 29 37] 29 [xI 6 5] (yci [xM 39 2,yck 40 .eql 39,xM 41 40,ybj 42 41 1 3,ybz 43 41 1 42,ybp 44 41 1,ych 45 41 f_319 [.t 44],ybu 46 41 .neq 43 (.t 45),xV 47 41 46,xM 48 47,ya3 49 48 2,ybf 50 48 .eql 49 2,ya3 51 48 50,ybp 52 51 8,yap 53 51 (yba 52),yac 54 48 (.pick (.t 51) (.t 53) (.c (.bool false))),xW 55 48 54,xM 38 55] (yai 38 [xI 6 11])))) (ydk ydc))⟩
def c_307_l0:Xv:=ycp [xM 11 6,xF 12 5 2,xL 13 12,ycd 14,xX 15 6 13 14,ycg 16 15,xL 17 16,xN 18 17,xB 19 .lss 11 18] 19 0 1 (xR [ycq 22,xF 23 5 2,xL 24 23,ycd 25,xX 26 6 24 25,ycg 27 26,xL 28 27,xM 29 6,xX 30 3 28 29,xF 31 2 30,xL 32 31,xO 33 (.minmax true [.t 22,.t 32]),ydj 33]) [xM 20 6,yck 21 .add 20,xM 6 21]
def c_307_k1:Xv:=ycf (ycq 34) 4 34
def c_307:AFn:=⟨2,[.tmp 4],ya4 [yda 2,yb5] [ydm 7 2,ycd 8,ybn 9 f_308 7 8,ybs 10 9] 10 [yb5] (ybc [xI 5 1] [ydc] 0 c_307_l0 c_307_k1)⟩
def c_308:AFn:=⟨2,[.tmp 4],ybr [yda 2,ya0 4] [ydm 8 2,ycd 9,ybn 10 f_202 8 9,xM 7 10,xE 11 0 7,xE 12 1 7,ydj 11,xM 6 12] (yad [xM 13 6,yc3 14 .eql 13,yc7 14])⟩
def c_309:AFn:=⟨2,[.cell 4 true 2],yaa [yav 4 [.str [],.Xu 2 []]] (ya4 [yav 5 [.str [],.Xu 2 []]] [ycd 6,yc3 7 .lss 6,xM 8 7,ya3 9 8 1,ya3 10 8 0,ybq 11 8 10,yb9 12 8 .geq 9 11,xW 13 8 12] 13 [xA 14 2 5,xS 2 4 14] (yad [yb6 15,ycd 16,xX 17 2 15 16,xA 18 2 17,xS 2 4 18]))⟩
def c_310:AFn:=⟨1,[.tmp 2],yao [ya8 2] [yb6 3] (.block 0 (yae [yck 5 .eql 3,ycq 4] (ydd 4 (ycs (xK 6 .eql 3 2) 4 6 (ydd 4 (ycs (xK 7 .eql 3 3) 4 7 (ydd 4 (xR [xK 8 .eql 3 4,yc7 8])))))) (yah 4 [ya8 2] (yae [xK 10 .eql 3 5,xM 9 10] (ydd 9 (ycs (xK 11 .eql 3 6) 9 11 (ydd 9 (ycs (xK 12 .eql 3 7) 9 12 (ydd 9 (xR [xK 13 .eql 3 8,xM 9 13])))))) (yah 9 [xI 2 1] (yae [xK 15 .eql 3 9,xM 14 15] (ydd 14 (ycs (xK 16 .eql 3 10) 14 16 (ydd 14 (ycs (xK 17 .eql 3 11) 14 17 (ydd 14 (ycs (xK 18 .eql 3 12) 14 18 (ydd 14 (ycs (xK 19 .eql 3 13) 14 19 (ydd 14 (ycs (xK 20 .eql 3 14) 14 20 (ydd 14 (ycs (xK 21 .eql 3 15) 14 21 (ydd 14 (xR [xK 22 .eql 3 16,xM 14 22])))))))))))))) (yah 14 [xI 2 2] (ya5 [xK 24 .eql 3 17,xM 23 24] 23 [xI 2 3])))))))) (ydk (ycc 2))⟩
def c_311:AFn:=⟨2,[.tmp 4,.tmp 5],yao [yda 2,xJ 3 1,yb5,yc5] [ydi 10,xL 11 10] (.block 0 (ycs (yck 13 .eql 11) 12 13 (yab 12 (yaz [xF 15 2 3,xL 16 15,yb2 17 f_320 16,xM 14 17,xE 18 0 14,xE 19 1 14,xM 6 18,xM 7 19] (yci [xM 20 7,yc3 21 .eql 20,xM 22 21,ybj 23 22 1 3,ybz 24 22 1 23,ycx 25 22 .lss 24 0,ybp 26 22 25,yax 27 26 1 3,yby 28 26 27,ya3 29 26 6,yac 30 26 (.pcall f_217 [.t 29]),yac 31 26 (yb7 .i64 30),yb9 32 26 .gtr 28 31,yap 33 22 (.pick (.t 26) (.c (.bool true)) (.t 32)),xV 34 22 33] (yai 34 [yb5,xI 5 9])) (yad [xM 35 6,xM 36 7,yc7 35,ydj 36])) (ycs (xK 38 .eql 11 2) 37 38 (yab 37 (.seq (xQ [xA 40 10 2,ycg 41 3,xL 42 41,xF 43 2 3,xL 44 43,ydh 45 f_321 40 42 44,xM 39 45,xE 46 0 39,xE 47 1 39,yav 8 [.str [],ybo],xS 2 8 46,xM 9 47] [8]) (ybi [xM 48 9,ybs 49 48] 49 [yb5,xI 5 8] (yad [ycg 50 8,xL 51 50,yb2 52 f_320 51,xE 53 0 52,xE 54 1 52,yc7 53,ydj 54]))) (ycs (xK 56 .eql 11 3) 55 56 (yb3 55 (ybi [ycg 57 3,xL 58 57,yc3 59 .lss 58,xM 60 59,yax 61 60 1 3,yby 62 60 61,yax 63 60 9 2,yby 64 60 63,ybq 65 60 64,yb9 66 60 .geq 62 65,xW 67 60 66] 67 [yb5,xI 5 8] (yad [xF 68 9 2,xL 69 68,ycg 70 3,xL 71 70,xX 72 2 69 71,ycg 73 72,xL 74 73,yb2 75 f_320 74,xE 76 0 75,xE 77 1 75,yc7 76,ydj 77]))))))))) (ybi [ycg 78 3,xL 79 78,yc3 80 .lss 79,xM 81 80,yax 82 81 1 3,yby 83 81 82,yax 84 81 0 2,yax 85 81 1 84,yby 86 81 85,ybq 87 81 86,yb9 88 81 .geq 83 87,xW 89 81 88] 89 [yb5,xI 5 8] (yb8 (xI 4 1) yc5))⟩
def c_312:AFn:=⟨2,[.tmp 4,.tmp 5],yao [yda 2,xJ 3 1,yb5,yc5] [yca 8 2,xL 9 8] (.block 0 (yae [xK 11 .eql 9 6,xM 10 11] (ydd 10 (xR [xK 12 .eql 9 7,xM 10 12])) (yab 10 (ya5 [ycg 13 2,xL 14 13,yc3 15 .lss 14,xM 16 15,yax 17 16 1 2,yby 18 16 17,ybf 19 16 .gtr 18 31,xW 20 16 19] 20 [yb5,xI 5 9]) (ycs (xK 22 .eql 9 8) 21 22 (yab 21 (ybi [ycg 23 2,xL 24 23,yc3 25 .lss 24] 25 [yb5,xI 5 9] (yae [xF 27 2 2,xL 28 27,yb2 29 f_320 28,xM 26 29,xE 30 0 26,xE 31 1 26,xM 6 30,xM 7 31] (ya5 [xM 32 7,yc3 33 .neq 32,xM 34 33,yax 35 34 1 2,yby 36 34 35,yac 37 34 (ybg 1 (some 3) 3 (yan 0)),yby 38 34 37,yax 39 34 2 2,yby 40 34 39,yb9 41 34 .sub 38 40,yb9 42 34 .gtr 36 41,xW 43 34 42] 43 [yb5,xI 5 10]) (yad [xF 44 2 2,xL 45 44,yc7 45,yc5]))) (ybh [xK 47 .eql 9 14,xM 46 47] 46 [xO 48 (ybg 1 (some 3) 3 (yan 0)),xL 49 48,xO 50 (ybg 1 (some 3) 3 (yan 1)),xL 51 50,xB 52 .add 49 51,yb2 53 f_320 52,xE 54 0 53,xE 55 1 53,yc7 54,ydj 55] (ycs (xK 57 .eql 9 17) 56 57 (yb3 56 (ybi [xO 58 (ybg 1 (some 3) 3 (yan 0)),xL 59 58,yck 60 .neq 59,xM 61 60,yac 62 61 (ybg 1 (some 3) 3 (yan 1)),yby 63 61 62,yac 64 61 (ybg 1 (some 3) 3 (yan 2)),yby 65 61 64,yb9 66 61 .neq 63 65,xW 67 61 66] 67 [yb5,xI 5 10] (yad [xO 68 (ybg 1 (some 3) 3 (yan 1)),xL 69 68,yc7 69,yc5])))))))))) (ybi [yca 70 2,xL 71 70,yb2 72 f_310 71,xK 73 .eql 72 2,xM 74 73,yap 75 74 (ybg 1 (some 3) 3 (yan 0)),ybz 76 74 1 75,yap 77 74 (ybg 1 (some 3) 3 (yan 1)),ybz 78 74 1 77,ybu 79 74 .neq 76 (.t 78),xV 80 74 79] 80 [yb5,xI 5 10] (ybi [yca 81 2,xL 82 81,xK 83 .eql 82 15,xM 84 83,yax 85 84 0 2,yby 86 84 85,ybf 87 84 .eql 86 16,xW 88 84 87] 88 [xI 4 1,yc5] (yad [xO 89 (ybg 1 (some 3) 3 (yan 0)),xL 90 89,yc7 90,yc5])))⟩
def c_313:AFn:=⟨1,[.tmp 2],yaa [ya8 2] (yaj 0 (ybh [yb6 4,yck 5 .geq 4,ycq 6,ybp 7 6 0,ycx 8 6 .leq 7 4,xV 9 6 8,xM 3 9] 3 [ya8 2] (ybh [yb6 11,xK 12 .geq 11 5,xM 13 12,ybp 14 13 0,ycx 15 13 .leq 14 8,xV 16 13 15,xM 10 16] 10 [xI 2 1] (yc1 [yb6 18,xK 19 .geq 18 9,xM 20 19,ybp 21 20 0,ycx 22 20 .leq 21 16,xV 23 20 22,xM 17 23] 17 [xI 2 2] [yb6 25,xK 26 .eql 25 17,xM 24 26] 24 [xI 2 3]))) (ydk (ycc 2)))⟩
def c_314:AFn:=⟨2,[.tmp 4,.tmp 5],yao [yda 2,xJ 3 1,yb5,yc5] [yca 10 2,xL 11 10] (.block 0 (ycs (yck 13 .eql 11) 12 13 (yab 12 (yaz [xF 15 2 2,xL 16 15,yb2 17 f_322 16,xM 14 17,xE 18 0 14,xE 19 1 14,xM 6 18,xM 7 19] (yci [xM 20 7,yc3 21 .eql 20,xM 22 21,ybj 23 22 1 2,ybz 24 22 1 23,ycx 25 22 .lss 24 0,ybp 26 22 25,yax 27 26 1 2,yby 28 26 27,ya3 29 26 6,yac 30 26 (.pcall f_319 [.t 29]),yac 31 26 (yb7 .i64 30),yb9 32 26 .gtr 28 31,yap 33 22 (.pick (.t 26) (.c (.bool true)) (.t 32)),xV 34 22 33] (yai 34 [yb5,xI 5 9])) (yad [xM 35 6,xM 36 7,yc7 35,ydj 36])) (ycs (xK 38 .eql 11 2) 37 38 (yab 37 (ya4 [ydi 40,ydm 41 40,ycg 42 2,xL 43 42,xF 44 2 2,xL 45 44,xO 46 (.build [.int .i64 0,.int .i64 0] [(0,1,(.t 43)),(1,1,(.t 45))]),ybn 47 f_280 41 46,xM 39 47,xE 48 0 39,xE 49 1 39,xM 8 48,xM 9 49] [xM 50 9,ybs 51 50] 51 [yb5,xI 5 8] (yad [xM 52 8,yb2 53 f_322 52,xE 54 0 53,xE 55 1 53,yc7 54,ydj 55])) (ycs (xK 57 .eql 11 3) 56 57 (yb3 56 (ybi [ycg 58 2,xL 59 58,yc3 60 .lss 59,xM 61 60,yax 62 61 1 2,yby 63 61 62,yax 64 61 9 3,yby 65 61 64,ybq 66 61 65,yb9 67 61 .geq 63 66,xW 68 61 67] 68 [yb5,xI 5 8] (yad [xF 69 9 3,xL 70 69,ycg 71 2,xL 72 71,xX 73 2 70 72,ycg 74 73,xL 75 74,yb2 76 f_322 75,xE 77 0 76,xE 78 1 76,yc7 77,ydj 78]))))))))) (ybi [ycg 79 2,xL 80 79,yc3 81 .lss 80,xM 82 81,yax 83 82 1 2,yby 84 82 83,yax 85 82 0 3,yax 86 82 1 85,yby 87 82 86,ybq 88 82 87,yb9 89 82 .geq 84 88,xW 90 82 89] 90 [yb5,xI 5 8] (yb8 (xI 4 1) yc5))⟩
def c_315:AFn:=⟨2,[.tmp 4,.tmp 5],yao [yda 2,yb5,yc5] [yca 6 2,xL 7 6] (.block 0 (ybh [xK 9 .eql 7 5,xM 8 9] 8 [ycd 10,xO 11 (ycl 1 10 (yan 0)),xL 12 11,yc7 12,yc5] (yae [xK 14 .eql 7 6,xM 13 14] (ydd 13 (xR [xK 15 .eql 7 7,xM 13 15])) (yab 13 (ybi [ycg 16 2,xL 17 16,yc3 18 .lss 17,xM 19 18,yax 20 19 1 2,yby 21 19 20,ybf 22 19 .gtr 21 31,xW 23 19 22] 23 [yb5,xI 5 9] (yad [ycd 24,xO 25 (ycl 1 24 (yan 0)),xL 26 25,yc7 26,yc5])) (ycs (xK 28 .eql 7 8) 27 28 (yab 27 (yaj 1 (ybh [ycg 30 2,xL 31 30,yc3 32 .lss 31,xM 29 32] 29 [yb5,xI 5 9] (yci [xF 34 2 2,xL 35 34,yck 36 .lss 35,xM 37 36,yax 38 37 2 2,yby 39 37 38,ybf 40 37 .gtr 39 32,xW 41 37 40,xM 42 41,yax 43 42 1 2,yby 44 42 43,ya3 45 42 1,yac 46 42 (ycl 1 45 (yan 0)),yby 47 42 46,yax 48 42 2 2,yby 49 42 48,yb9 50 42 .sub 47 49,yb9 51 42 .gtr 44 50,xW 52 42 51,xM 33 52] (yai 33 [yb5,xI 5 10]))) (yad [xF 53 2 2,xL 54 53,yc7 54,yc5])) (ycs (xK 56 .eql 7 14) 55 56 (yab 55 (yci [ycd 57,xO 58 (ycl 1 57 (yan 0)),xL 59 58,ycd 60,xO 61 (ycl 1 60 (yan 1)),xL 62 61,xB 63 .add 59 62,yb2 64 f_322 63,xE 65 0 64,xE 66 1 64,yc7 65,ydj 66] .ret) (ycs (xK 68 .eql 7 17) 67 68 (yb3 67 (.seq (yci [ycd 69,xO 70 (ycl 1 69 (yan 0)),xL 71 70,yck 72 .neq 71,xM 73 72,ya3 74 73 1,yac 75 73 (ycl 1 74 (yan 1)),yby 76 73 75,ya3 77 73 1,yac 78 73 (ycl 1 77 (yan 2)),yby 79 73 78,yb9 80 73 .neq 76 79,xW 81 73 80] (yai 81 [yb5,xI 5 10])) (yad [ycd 82,xO 83 (ycl 1 82 (yan 1)),xL 84 83,yc7 84,yc5])))))))))))) (yaj 2 (yci [ycd 86,xO 87 (ycl 1 86 (yan 0)),xL 88 87,ycd 89,xO 90 (ycl 1 89 (yan 1)),xL 91 90,xB 92 .neq 88 91,xM 85 92] (yah 85 [yb5,xI 5 10] (ya5 [yca 94 2,xL 95 94,xK 96 .eql 95 15,xM 97 96,yax 98 97 0 2,yby 99 97 98,ybf 100 97 .eql 99 16,xW 101 97 100,xM 93 101] 93 [xI 4 1,yc5]))) (yad [ycd 102,xO 103 (ycl 1 102 (yan 0)),xL 104 103,yc7 104,yc5]))⟩
def c_316:AFn:=⟨1,[.tmp 2],yb0 [ya0 2] [yb6 3,yck 4 .geq 3,ydj 4,ybp 6 5 0,ycx 7 5 .leq 6 32,xV 8 5 7,xM 2 8]⟩
def c_317_l0:Xv:=ycp [ydj 4,yb6 6,xB 7 .lss 5 6] 7 0 1 (xR [yc6 10,xO 11 (.bin .mul (yc4 .u64 2) (.t 10)),xM 3 11]) [xM 8 4,yck 9 .add 8,yc7 9]
def c_317_k1:Xv:=ycf (yc6 12) 2 12
def c_317:AFn:=⟨1,[.tmp 2],yc9 [xC 2 (.int .u64 0)] [xC 3 (.int .u64 1)] [yb5] 0 c_317_l0 c_317_k1⟩
def c_318_l0:Xv:=ycp [xM 7 6,ycd 8,xB 9 .leq 7 8,xM 10 9,ybp 11 10 1,ych 12 10 f_316 [.t 11],xV 13 10 12] 13 0 1 (ya5 [xM 16 6,ycd 17,ybn 18 f_323 16 17,yb6 19,xB 20 .eql 18 19] 20 [xM 21 6,yc7 21,ycm 5]) [xM 14 6,yck 15 .add 14,xM 6 15]
def c_318_k1:Xv:=yb8 yb5 (ya0 5)
def c_318:AFn:=⟨2,[.tmp 4,.tmp 5],ybc [yb5,ya0 5] [ydc] 0 c_318_l0 c_318_k1⟩
def c_319:AFn:=⟨1,[.tmp 2],ya4 [xC 2 (yce 0)] [yb6 3,yb2 4 f_316 3,ybs 5 4] 5 [xC 2 (yce 0)] (yad [yb6 6,yb2 7 f_317 6,xO 8 (yaq .sub 7 (yc4 .u64 1)),yc0 9 .u32 8,xM 2 9])⟩
def c_320:AFn:=⟨1,[.tmp 2,.tmp 3],ya4 [ya8 2,ya8 3] [yb6 4,yck 5 .lss 4,ycq 6,ya3 7 6 0,ybf 8 6 .gtr 7 32,xW 9 6 8] 9 [ya8 2,xI 3 10] (yad [yb6 10,xM 2 10,ya8 3])⟩
def c_321:AFn:=⟨3,[.cell 6 true 2,.tmp 7],yaa [yda 3,yav 6 [.str [],ybo],ya0 7] (yao [ydi 9,xF 10 2 9,xL 11 10,xM 8 11] [ycd 12,xK 13 .neq 12 (-1)] (yb3 13 (ybi [ycd 14,yc3 15 .lss 14,xM 16 15,ya3 17 16 1,yax 18 16 0 3,yax 19 16 1 18,yby 20 16 19,ybq 21 16 20,yb9 22 16 .geq 17 21,xW 23 16 22] 23 [xO 24 (.build [.str [],.int .i64 0] []),xS 2 6 24,ya0 7] (xR [ydi 25,ycg 26 25,xL 27 26,ycd 28,xX 29 2 27 28,ycg 30 29,xL 31 30,xM 8 31]))) (ybi [xM 32 2,yc3 33 .lss 32,xM 34 33,ya3 35 34 2,ya3 36 34 8,ybq 37 34 36,yb9 38 34 .geq 35 37,xW 39 34 38] 39 [xO 40 (.build [.str [],.int .i64 0] []),xS 2 6 40,ya0 7] (yad [xM 41 8,xM 42 2,xX 43 2 41 42,xA 44 2 43,xS 2 6 44,ycm 7])))⟩
def c_322:AFn:=⟨1,[.tmp 2,.tmp 3],ya4 [ya8 2,ya8 3] [yb6 4,yck 5 .lss 4,ycq 6,ya3 7 6 0,ybf 8 6 .gtr 7 32,xW 9 6 8] 9 [ya8 2,xI 3 10] (yad [yb6 10,xM 2 10,ya8 3])⟩
def c_323:AFn:=⟨2,[.tmp 4],ya4 [xC 4 (yce 0)] [ycd 5,yb2 6 f_316 5,ybs 7 6] 7 [xC 4 (yce 0)] (yb0 [yb6 8,xO 9 (.minmax true [.t 8,.c (.int .i64 0)]),ycd 10,xO 11 (.minmax false [.t 9,.t 10]),xM 0 11] [ycd 12,yb2 13 f_317 12,ycd 14,yb6 15,xB 16 .sub 14 15,yb2 17 f_317 16,xB 18 .sub 13 17,yc0 19 .u32 18,yc7 19])⟩
def tabL:List (Nat×AFn):=[(f_6,c_6),
  (f_12,c_12),
  (f_17,c_17),
  (f_18,c_18),
  (f_21,c_21),
  (f_22,c_22),
  (f_24,c_24),
  (f_25,c_25),
  (f_26,c_26),
  (f_27,c_27),
  (f_28,c_28),
  (f_31,c_31),
  (f_32,c_32),
  (f_38,c_38),
  (f_41,c_41),
  (f_43,c_43),
  (f_45,c_45),
  (f_53,c_53),
  (f_54,c_54),
  (f_55,c_55),
  (f_59,c_59),
  (f_61,c_61),
  (f_63,c_63),
  (f_64,c_64),
  (f_65,c_65),
  (f_66,c_66),
  (f_67,c_67),
  (f_68,c_68),
  (f_69,c_69),
  (f_73,c_73),
  (f_74,c_74),
  (f_75,c_75),
  (f_76,c_76),
  (f_77,c_77),
  (f_78,c_78),
  (f_79,c_79),
  (f_80,c_80),
  (f_84,c_84),
  (f_85,c_85),
  (f_87,c_87),
  (f_88,c_88),
  (f_89,c_89),
  (f_90,c_90),
  (f_92,c_92),
  (f_93,c_93),
  (f_94,c_94),
  (f_95,c_95),
  (f_96,c_96),
  (f_99,c_99),
  (f_100,c_100),
  (f_101,c_101),
  (f_102,c_102),
  (f_103,c_103),
  (f_104,c_104),
  (f_105,c_105),
  (f_108,c_108),
  (f_109,c_109),
  (f_110,c_110),
  (f_111,c_111),
  (f_112,c_112),
  (f_113,c_113),
  (f_114,c_114),
  (f_115,c_115),
  (f_117,c_117),
  (f_118,c_118),
  (f_119,c_119),
  (f_120,c_120),
  (f_122,c_122),
  (f_123,c_123),
  (f_125,c_125),
  (f_126,c_126),
  (f_127,c_127),
  (f_128,c_128),
  (f_129,c_129),
  (f_130,c_130),
  (f_131,c_131),
  (f_132,c_132),
  (f_133,c_133),
  (f_134,c_134),
  (f_135,c_135),
  (f_136,c_136),
  (f_137,c_137),
  (f_138,c_138),
  (f_139,c_139),
  (f_140,c_140),
  (f_141,c_141),
  (f_142,c_142),
  (f_143,c_143),
  (f_147,c_147),
  (f_148,c_148),
  (f_149,c_149),
  (f_151,c_151),
  (f_152,c_152),
  (f_153,c_153),
  (f_154,c_154),
  (f_155,c_155),
  (f_156,c_156),
  (f_157,c_157),
  (f_158,c_158),
  (f_159,c_159),
  (f_160,c_160),
  (f_161,c_161),
  (f_162,c_162),
  (f_163,c_163),
  (f_164,c_164),
  (f_165,c_165),
  (f_166,c_166),
  (f_167,c_167),
  (f_168,c_168),
  (f_169,c_169),
  (f_170,c_170),
  (f_171,c_171),
  (f_172,c_172),
  (f_173,c_173),
  (f_174,c_174),
  (f_175,c_175),
  (f_176,c_176),
  (f_177,c_177),
  (f_178,c_178),
  (f_179,c_179),
  (f_180,c_180),
  (f_181,c_181),
  (f_182,c_182),
  (f_183,c_183),
  (f_184,c_184),
  (f_185,c_185),
  (f_186,c_186),
  (f_187,c_187),
  (f_188,c_188),
  (f_189,c_189),
  (f_194,c_194),
  (f_195,c_195),
  (f_196,c_196),
  (f_197,c_197),
  (f_198,c_198),
  (f_199,c_199),
  (f_200,c_200),
  (f_201,c_201),
  (f_202,c_202),
  (f_203,c_203),
  (f_204,c_204),
  (f_205,c_205),
  (f_206,c_206),
  (f_207,c_207),
  (f_208,c_208),
  (f_209,c_209),
  (f_210,c_210),
  (f_211,c_211),
  (f_215,c_215),
  (f_216,c_216),
  (f_217,c_217),
  (f_218,c_218),
  (f_219,c_219),
  (f_220,c_220),
  (f_221,c_221),
  (f_222,c_222),
  (f_223,c_223),
  (f_225,c_225),
  (f_226,c_226),
  (f_227,c_227),
  (f_228,c_228),
  (f_229,c_229),
  (f_230,c_230),
  (f_231,c_231),
  (f_232,c_232),
  (f_233,c_233),
  (f_234,c_234),
  (f_235,c_235),
  (f_236,c_236),
  (f_237,c_237),
  (f_238,c_238),
  (f_239,c_239),
  (f_240,c_240),
  (f_241,c_241),
  (f_242,c_242),
  (f_243,c_243),
  (f_244,c_244),
  (f_245,c_245),
  (f_246,c_246),
  (f_247,c_247),
  (f_248,c_248),
  (f_249,c_249),
  (f_250,c_250),
  (f_251,c_251),
  (f_252,c_252),
  (f_253,c_253),
  (f_254,c_254),
  (f_255,c_255),
  (f_256,c_256),
  (f_257,c_257),
  (f_258,c_258),
  (f_259,c_259),
  (f_260,c_260),
  (f_261,c_261),
  (f_262,c_262),
  (f_263,c_263),
  (f_264,c_264),
  (f_265,c_265),
  (f_266,c_266),
  (f_267,c_267),
  (f_268,c_268),
  (f_269,c_269),
  (f_270,c_270),
  (f_271,c_271),
  (f_272,c_272),
  (f_273,c_273),
  (f_274,c_274),
  (f_275,c_275),
  (f_276,c_276),
  (f_277,c_277),
  (f_278,c_278),
  (f_279,c_279),
  (f_280,c_280),
  (f_281,c_281),
  (f_282,c_282),
  (f_283,c_283),
  (f_284,c_284),
  (f_285,c_285),
  (f_286,c_286),
  (f_287,c_287),
  (f_288,c_288),
  (f_289,c_289),
  (f_290,c_290),
  (f_291,c_291),
  (f_292,c_292),
  (f_293,c_293),
  (f_294,c_294),
  (f_295,c_295),
  (f_296,c_296),
  (f_297,c_297),
  (f_298,c_298),
  (f_299,c_299),
  (f_300,c_300),
  (f_301,c_301),
  (f_302,c_302),
  (f_303,c_303),
  (f_304,c_304),
  (f_305,c_305),
  (f_306,c_306),
  (f_307,c_307),
  (f_308,c_308),
  (f_309,c_309),
  (f_310,c_310),
  (f_311,c_311),
  (f_312,c_312),
  (f_313,c_313),
  (f_314,c_314),
  (f_315,c_315),
  (f_316,c_316),
  (f_317,c_317),
  (f_318,c_318),
  (f_319,c_319),
  (f_320,c_320),
  (f_321,c_321),
  (f_322,c_322),
  (f_323,c_323)]
def tabD:List (Nat×ADFn):=[(f_20,c_20),
  (f_42,c_42),
  (f_52,c_52)]
def tabC:List CloneD:=[⟨f_62,1,1,.app⟩,⟨f_106,2,24,.app⟩,⟨f_107,3,32,.app⟩,⟨f_116,1,8,.row⟩,⟨f_150,1,4,.app⟩,⟨f_190,3,24,.app⟩,⟨f_191,3,16,.app⟩,⟨f_192,3,24,.app⟩,⟨f_224,2,8,.app⟩]
def nilL:List (Nat×Nat):=[(f_8,9),(f_13,13),(f_13,17),(f_42,9),(f_57,6),(f_68,3),(f_71,6),(f_72,6),(f_104,5),(f_108,5),(f_110,5),(f_112,5),(f_114,5),(f_138,3),(f_169,5),(f_173,5),(f_176,5),(f_179,5),(f_182,5),(f_188,5),(f_220,5),(f_227,3),(f_252,3),(f_257,13),(f_259,11),(f_302,12),(f_305,5)]
def thr:List Nat:=[f_17,f_20,f_21,f_22,f_29,f_31,f_41,f_42,f_43,f_44,f_45,f_58,f_64,f_70,f_88,f_89,f_90,f_92,f_93,f_94,f_95,f_122,f_123,f_124,f_126,f_129,f_130,f_154,f_155,f_158,f_161,f_164,f_193,f_194,f_195,f_236]
def thrAt:List (Nat×Nat):=[(f_210,f_210),(f_211,f_210),(f_59,f_125),(f_92,f_116)]
def thrV:List Nat:=[f_126,f_236]
def rowAt:List (Nat×Nat):=[(f_8,40),(f_8,66),(f_93,112),(f_258,48),(f_260,41),(f_116,7)]
def thrVAt:List (Nat×Nat):=[]
def rowF:List Nat:=[f_92,f_38]
def rowFB:List Nat:=[]
def appAt:List (Nat×Nat):=[(f_38,32),(f_92,70)]
def immAt:List (Nat×Nat):=[(f_138,27)]
def slcHL:List Nat:=[f_164]
def browAt:List (Nat×Nat):=[(f_8,39),(f_8,65),(f_92,39)]
def boxiAt:List (Nat×Nat):=[(f_88,2),(f_41,2),(f_41,3),(f_38,1)]
def takeAt:List (Nat×Nat):=[(f_258,65)]
def boxiL:List (Nat×List Nat):=[(3,[3,4]),(4,[3,4,5]),(5,[2]),(6,[2]),(7,[2]),(8,[3]),(9,[2,3]),(12,[3,4]),(13,[3,4]),(18,[2]),(25,[1]),(28,[3]),(30,[2]),(33,[1]),(53,[1]),(54,[1]),(65,[1]),(66,[1]),(67,[3,4]),(82,[1]),(84,[1]),(85,[1]),(87,[2,3]),(99,[1]),(100,[1]),(101,[1]),(102,[1]),(103,[1]),(118,[1]),(119,[1]),(120,[1]),(131,[1]),(132,[1]),(133,[1]),(134,[1]),(135,[1]),(136,[1]),(137,[1]),(138,[1]),(139,[3,4]),(149,[1]),(152,[5,9]),(153,[2]),(156,[3,5]),(157,[1]),(159,[3,5]),(163,[1]),(170,[1]),(171,[1]),(174,[1]),(177,[1]),(178,[1]),(180,[1]),(181,[2]),(183,[1]),(184,[2]),(185,[1]),(186,[1]),(187,[1]),(198,[1]),(200,[1]),(201,[2]),(202,[2]),(203,[1]),(204,[1]),(205,[1]),(206,[2,3]),(207,[3,4,5]),(215,[2]),(218,[3]),(219,[2,3]),(220,[2]),(221,[3]),(222,[2]),(227,[1]),(229,[1]),(230,[2,3]),(231,[2,3]),(232,[2,3]),(233,[2]),(237,[5]),(238,[3,4]),(239,[1]),(243,[2]),(245,[3,4,5]),(246,[2]),(247,[2,3]),(248,[2,3]),(249,[2]),(253,[3]),(254,[4]),(255,[3,5]),(256,[2]),(257,[4,5,7]),(258,[5,6,9]),(259,[4,5]),(260,[4,5,7]),(262,[2]),(264,[2,3]),(272,[2]),(273,[2,3]),(274,[3]),(275,[3]),(276,[3,5]),(277,[3]),(278,[2]),(280,[2,3]),(281,[4]),(282,[3]),(283,[2,3]),(285,[2,3]),(286,[2,3]),(287,[2]),(288,[3]),(290,[3,5]),(291,[3]),(292,[3]),(294,[1]),(295,[4]),(298,[2]),(301,[3]),(302,[5]),(304,[1]),(305,[2]),(306,[3]),(307,[2]),(308,[2]),(311,[2,3]),(312,[2,3]),(314,[2,3]),(315,[2]),(321,[3])]
def keepL:List (Nat×List (Nat×List Nat)):=[(3,[(3,[7]),(14,[15])]),(4,[(4,[9]),(7,[13]),(8,[17])]),(6,[(11,[13])]),(7,[(4,[8])]),(11,[(1,[1]),(2,[2]),(3,[3]),(4,[7])]),(13,[(1,[8]),(10,[15]),(20,[20]),(30,[25])]),(19,[(1,[1]),(5,[4])]),(21,[(4,[3])]),(25,[(1,[4])]),(26,[(1,[8])]),(30,[(12,[14])]),(33,[(21,[7])]),(37,[(1,[1])]),(38,[(4,[5])]),(44,[(5,[9])]),(67,[(1,[10])]),(84,[(4,[5])]),(87,[(1,[5])]),(92,[(8,[8]),(15,[10])]),(100,[(4,[4])]),(101,[(5,[4]),(12,[6])]),(102,[(4,[4])]),(104,[(4,[7])]),(108,[(4,[7])]),(110,[(4,[7])]),(112,[(4,[7])]),(114,[(4,[7])]),(139,[(10,[12])]),(152,[(6,[13]),(15,[15])]),(154,[(3,[5])]),(159,[(9,[12])]),(169,[(4,[7])]),(171,[(9,[4])]),(173,[(4,[7])]),(176,[(4,[7])]),(179,[(4,[7])]),(181,[(3,[6]),(7,[7]),(10,[9])]),(182,[(4,[7])]),(184,[(3,[6])]),(185,[(8,[7])]),(188,[(4,[7])]),(198,[(11,[5])]),(201,[(3,[6])]),(202,[(3,[6])]),(207,[(5,[9]),(8,[11]),(11,[13])]),(220,[(6,[7])]),(222,[(6,[7])]),(227,[(4,[5])]),(229,[(7,[4])]),(230,[(1,[5])]),(231,[(4,[9])]),(233,[(1,[6]),(16,[10])]),(235,[(6,[5])]),(236,[(3,[6])]),(249,[(1,[6])]),(253,[(1,[7])]),(287,[(1,[6]),(6,[9])]),(311,[(8,[8])])]
def qak8:List (Nat×List Nat):=[(99,[1,2,3,4,5]),(100,[5,6,7]),(101,[1,6,7,8,13]),(102,[5,6,13,14,21,22]),(103,[2,4,6]),(166,[1]),(216,[2])]
def ann:Ann:=
  { pure:=fun fn f _=> !(qcc f thr)&& !(thrAt.any fun p=>p.1 == fn&&p.2 == f)
    purev:=fun fn d=> !(qcc fn thrV)&& !(match d with | some t=>thrVAt.any (fun q=>q.1 == fn&&q.2 == t) | none=>false),bmode:=fun fn d=>if qcc fn rowFB || (match d with | some t=>browAt.any (fun q=>q.1 == fn&&q.2 == t) | none=>false) then .row else .imm,smode:=fun fn d=>match d with | some t=>if immAt.any (fun q=>q.1 == fn&&q.2 == t) then .imm else .row | none=> .row,amode:=fun fn d=>match d with | some t=>if rowAt.any (fun q=>q.1 == fn&&q.2 == t) || (qcc fn rowF&& !(appAt.any fun q=>q.1 == fn&&q.2 == t)) then .row else .app | none=> .app
    nilapp:=fun fn d=>match d with | some t=>nilL.any (fun q=>q.1 == fn&&q.2 == t) | none=>false
    slch:=fun fn d=>(qcc fn slcHL&&(match d with | some t=>t == 13 || t == 31 | none=>false)) || (match d with | some t=>takeAt.any (fun q=>q.1 == fn&&q.2 == t) | none=>false)
    boxi:=fun fn d=>match d with | some t=>boxiAt.any (fun q=>q.1 == fn&&q.2 == t) || (match look fn boxiL with | some l=>qcc t l | none=>false) | none=>false
    keep:=fun fn id=>(look fn keepL).bind (look id)
    split:=fun fn id=>match look fn qak8 with | some l=>qcc id l | none=>false }
def ktabL:List Nat:=[23,60,57,58,70,29,193,124,121,56,19,91]
def qsn (b:FuncId->Option AFun) (P:Program) (A:Ann) (l:List Nat) (f:FuncId):Option AFun:=match b f with
  | some x=>some x
  | none=>if qcc f l then (cFn P A f).map .code else none
def Φ:FuncId->Option AFun:=qsn (qst tabL tabD tabC) Go.Proofs.Tryz.prog ann ktabL
end
end Go.Av
