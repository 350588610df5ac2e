/-
  The compact form of the program's functions, printed by a program.
-/
import Derived.Test.YtjdbnnnakpacjaaGreatAvD
import Derived.Test.YtjdbnnnakpacjaaGreatRows
set_option linter.unusedVariables false
set_option linter.unusedSimpArgs false
set_option linter.constructorNameAsVariable false
namespace Go.Av
noncomputable section
abbrev xM (d s:Nat):Xw:=⟨some d,none,.mov (.t s)⟩
abbrev xI (d:Nat) (n:Int):Xw:=⟨some d,none,.mov (.c (.int .i64 n))⟩
abbrev xC (d:Nat) (v:AV):Xw:=⟨some d,none,.mov (.c v)⟩
abbrev xF (d o s:Nat):Xw:=⟨some d,none,.faddr o (.t s)⟩
abbrev xL (d s:Nat):Xw:=⟨some d,none,.load false 1 (.t s)⟩
abbrev xA (d n s:Nat):Xw:=⟨some d,none,.load true n (.t s)⟩
abbrev xX (d z a i:Nat):Xw:=⟨some d,none,.iaddr z none (.t a) (.t i)⟩
abbrev xS (n p v:Nat):Xw:=⟨none,none,.store n (.t p) (.t v)⟩
abbrev xN (d s:Nat):Xw:=⟨some d,none,.len (.t s)⟩
abbrev xE (d i s:Nat):Xw:=⟨some d,none,.ext i (.t s)⟩
abbrev xB (d:Nat) (p:BinOp) (a b:Nat):Xw:=⟨some d,none,.bin p (.t a) (.t b)⟩
abbrev xK (d:Nat) (p:BinOp) (a:Nat) (n:Int):Xw:=⟨some d,none,.bin p (.t a) (.c (.int .i64 n))⟩
abbrev xW (d a b:Nat):Xw:=⟨some d,none,.pick (.t a) (.c (.bool true)) (.t b)⟩
abbrev xV (d a b:Nat):Xw:=⟨some d,none,.pick (.t a) (.t b) (.c (.bool false))⟩
abbrev xJ (d s:Nat):Xw:=⟨some d,none,.boxi (.t s)⟩
abbrev xO (d:Nat) (p:AOp):Xw:=⟨some d,none,p⟩
abbrev xG (d g:Nat) (b:Bool) (p:AOp):Xw:=⟨some d,some (g,b),p⟩
abbrev xR (l:List Xw):Xv:= .region false [] l none
abbrev xD (l:List Xw):Xv:= .region true [] l none
abbrev xQ (l:List Xw) (k:List Nat):Xv:= .region false [] l (some k)
abbrev yaa (a:List Xw) (b:Xv):Xv:= .seq (xR a) b
abbrev yab (a:Nat) (b c:Xv):Xv:= .cond (.t a) b c
abbrev yac (a b:Nat) (c:AOp):Xw:=xG a b false c
abbrev yad (a:List Xw):Xv:=yaa a .ret
abbrev yae (a b:Nat) (c:List AX):Xw:=xO a (.pcall b c)
abbrev yaf (a:Int):AV:= .int .i64 a
abbrev yag (a:List Xw) (b c:Xv):Xv:=yaa a (.seq b c)
abbrev yah (a:List Xw) (b:Nat) (c d:Xv):Xv:=yaa a (yab b c d)
abbrev yai (a:List Xw) (b:Nat) (c:List Xw) (d:Xv):Xv:=yah a b (yad c) d
abbrev yaj (a:List Xw) (b:Nat) (c:List Xw):Xv:=yai a b c .skip
abbrev yak (a:Nat) (b:Xv):Xv:= .block a (.loop b)
abbrev yal (a b:Nat):AOp:= .faddr a (.t b)
abbrev yam (a:Nat) (b c:Xv):Xv:= .seq (.block a b) c
abbrev yan (a:Nat) (b:AX):AOp:= .load false a b
abbrev yao (a:Int):AX:= .c (yaf a)
abbrev yap (a:BinOp) (b:Nat) (c:AX):AOp:= .bin a (.t b) c
abbrev yaq (a:Nat) (b:List AV):Xw:=xO a (.alloc b)
abbrev yar (a b:Nat) (c:AOp):Xw:=xG a b true c
abbrev yas (a:Nat) (b:Bool):Xw:=xC a (.bool b)
abbrev yat (a:Nat) (b:Xv) (c:Nat):Xv:=yab a b (.exit c)
abbrev yau (a:Nat):AOp:= .mov (.t a)
abbrev yav (a b:Nat):AOp:=yan a (.t b)
abbrev yaw (a b c d:Nat):Xw:=yac a b (yal c d)
abbrev yax (a:List Xw) (b:Nat) (c:Xv):Xv:=yaa a (yak b c)
abbrev yay (a b c d:Nat):Xw:=yac a b (yav c d)
abbrev yaz (a:Nat):AOp:= .nilchk (.t a)
abbrev ya0 (a b:Nat):Xv:=yat a .skip b
abbrev ya1 (a:List Xw) (b c:Nat) (d:Xv):Xv:=yag a (ya0 b c) d
abbrev ya2 (a:Nat):Xw:=yas a false
abbrev ya3 (a b:Nat) (c:BinOp) (d:Nat) (e:AX):Xw:=yac a b (yap c d e)
abbrev ya4 (a:Nat) (b:Xv) (c:List Xw):Xv:=yam a b (xR c)
abbrev ya5 (a:List Xw) (b c d:Nat) (e:Xv) (f:List Xw):Xv:=ya1 a b c (ya4 d e f)
abbrev ya6 (a:Nat):AOp:= .len (.t a)
abbrev ya7 (a b:Nat) (c:List AX):Xw:=xO a (.tcall b c)
abbrev ya8 (a b c:Nat):Xw:=yac a b (yau c)
abbrev ya9 (a b:List Xw) (c:Nat) (d:List Xw) (e:Xv):Xv:=yag a (yaj b c d) e
abbrev yba:AV:=yaf 0
abbrev ybb (a:AX):AOp:= .un .not a
abbrev ybc (a:Nat):AOp:=ybb (.t a)
abbrev ybd (a:Nat):Xw:=xI a 0
abbrev ybe (a b:List Xw) (c:Nat) (d e:Xv):Xv:=yag a (yax b c d) e
abbrev ybf (a:SM) (b c d:Nat) (e:AX):AOp:= .append a b c (.t d) e
abbrev ybg (a b c:Nat):Xw:=yac a b (ya6 c)
abbrev ybh (a b:Nat) (c d:AX):Xw:=yae a b [c,d]
abbrev ybi (a b c:Nat) (d:AX):Xw:=ybh a b (.t c) d
abbrev ybj (a b c d:Nat):Xw:=ybi a b c (.t d)
abbrev ybk (a:List Xw) (b:List Nat) (c:Xv):Xv:= .seq (xQ a b) c
abbrev ybl (a b:Nat) (c:BinOp) (d:Nat) (e:Int):Xw:=ya3 a b c d (yao e)
abbrev ybm (a b:List Xw):Xv:=yaa a (yad b)
abbrev ybn (a:List Xw) (b:Nat) (c:List Xw) (d:Xv):Xv:= .seq (yaj a b c) d
abbrev ybo (a b:Nat):Xw:=xO a (yaz b)
abbrev ybp (a b c:Nat):Xw:=yar a b (yau c)
abbrev ybq (a b:Nat):Xw:=xO a (ybc b)
abbrev ybr (a:List Xw) (b:Nat) (c:Xv):Xv:=yah a b .skip c
abbrev ybs (a:Int):AV:= .int .u32 a
abbrev ybt (a:Nat):Xw:=xM a 0
abbrev ybu (a b:Nat) (c:AX):Xw:=yae a b [c]
abbrev ybv (a b c:Nat):Xw:=ybu a b (.t c)
abbrev ybw (a:List Xw) (b:Nat) (c d:Xv):Xv:= .seq (yax a b c) d
abbrev ybx (a b:List Xw) (c:Xv):Xv:=yaa a (yaa b c)
abbrev yby (a:Nat) (b:Option Nat) (c:Nat) (d:AX):AOp:= .iaddr a b (.t c) d
abbrev ybz (a:List Xw) (b c d:Nat) (e:List Xw) (f:List Nat) (g:Xv) (h:List Xw):Xv:=ya5 a b c d (ybk e f g) h
abbrev yb0 (a:IntKind) (b:Nat):AOp:= .conv a (.t b)
abbrev yb1 (a b:Nat) (c:BinOp) (d:Nat) (e:AX):Xw:=yar a b (yap c d e)
abbrev yb2 (a b:Xw):Xv:=yad [a,b]
abbrev yb3 (a:Xw) (b c:Nat):Xv:=yb2 a (xM b c)
abbrev yb4 (a b c:Nat):Xw:=yay a b 1 c
abbrev yb5:Xw:=ybd 4
abbrev yb6 (a:Nat):AOp:= .box (.t a)
abbrev yb7 (a b c d:Nat):Xw:=yar a b (yal c d)
abbrev yb8 (a b:List Xw) (c:Nat) (d:List Xw):Xv:=yaa a (yaj b c d)
abbrev yb9 (a:Nat) (b:List AX):AOp:= .pcallv (.t a) b
abbrev yca (a:Nat):Xw:=xM a 1
abbrev ycb (a:List Xw) (b:Nat) (c d:Xv):Xv:= .seq (ybr a b c) d
abbrev ycc (a b c d:Nat):Xv:=yb3 (xM a b) c d
abbrev ycd (a:SM) (b c d e:Nat):AOp:=ybf a b c d (.t e)
abbrev yce (a b:Nat):Xw:=xF a b 1
abbrev ycf (a:Nat):Xw:=yas a true
abbrev ycg (a:List Xw) (b:Nat) (c:Xv):Xv:=yah a b c .skip
abbrev ych (a b:Nat):Xw:=xO a (.nilapp b)
def f_5:Nat:=5
def f_8:Nat:=8
def f_12:Nat:=12
def f_13:Nat:=13
def f_17:Nat:=17
def f_18:Nat:=18
def f_19:Nat:=19
def f_20:Nat:=20
def f_21:Nat:=21
def f_22:Nat:=22
def f_23:Nat:=23
def f_24:Nat:=24
def f_29:Nat:=29
def f_31:Nat:=31
def f_38:Nat:=38
def f_41:Nat:=41
def f_42:Nat:=42
def f_43:Nat:=43
def f_44:Nat:=44
def f_45:Nat:=45
def f_52:Nat:=52
def f_53:Nat:=53
def f_54:Nat:=54
def f_55:Nat:=55
def f_57:Nat:=57
def f_58:Nat:=58
def f_59:Nat:=59
def f_60:Nat:=60
def f_61:Nat:=61
def f_62:Nat:=62
def f_63:Nat:=63
def f_64:Nat:=64
def f_68:Nat:=68
def f_70:Nat:=70
def f_71:Nat:=71
def f_72:Nat:=72
def f_84:Nat:=84
def f_85:Nat:=85
def f_87:Nat:=87
def f_88:Nat:=88
def f_89:Nat:=89
def f_90:Nat:=90
def f_91:Nat:=91
def f_92:Nat:=92
def f_93:Nat:=93
def f_94:Nat:=94
def f_95:Nat:=95
def f_98:Nat:=98
def f_99:Nat:=99
def f_100:Nat:=100
def f_101:Nat:=101
def f_102:Nat:=102
def f_103:Nat:=103
def f_104:Nat:=104
def f_105:Nat:=105
def f_106:Nat:=106
def f_107:Nat:=107
def f_108:Nat:=108
def f_109:Nat:=109
def f_110:Nat:=110
def f_111:Nat:=111
def f_112:Nat:=112
def f_113:Nat:=113
def f_114:Nat:=114
def f_115:Nat:=115
def f_116:Nat:=116
def f_117:Nat:=117
def f_118:Nat:=118
def f_119:Nat:=119
def f_120:Nat:=120
def f_122:Nat:=122
def f_123:Nat:=123
def f_124:Nat:=124
def f_125:Nat:=125
def f_126:Nat:=126
def f_127:Nat:=127
def f_128:Nat:=128
def f_129:Nat:=129
def f_130:Nat:=130
def f_138:Nat:=138
def f_149:Nat:=149
def f_150:Nat:=150
def f_152:Nat:=152
def f_153:Nat:=153
def f_154:Nat:=154
def f_155:Nat:=155
def f_156:Nat:=156
def f_157:Nat:=157
def f_158:Nat:=158
def f_159:Nat:=159
def f_160:Nat:=160
def f_161:Nat:=161
def f_162:Nat:=162
def f_163:Nat:=163
def f_164:Nat:=164
def f_166:Nat:=166
def f_167:Nat:=167
def f_168:Nat:=168
def f_169:Nat:=169
def f_170:Nat:=170
def f_171:Nat:=171
def f_172:Nat:=172
def f_173:Nat:=173
def f_174:Nat:=174
def f_175:Nat:=175
def f_176:Nat:=176
def f_177:Nat:=177
def f_178:Nat:=178
def f_179:Nat:=179
def f_180:Nat:=180
def f_181:Nat:=181
def f_182:Nat:=182
def f_183:Nat:=183
def f_184:Nat:=184
def f_185:Nat:=185
def f_186:Nat:=186
def f_187:Nat:=187
def f_188:Nat:=188
def f_189:Nat:=189
def f_190:Nat:=190
def f_191:Nat:=191
def f_192:Nat:=192
def f_193:Nat:=193
def f_194:Nat:=194
def f_195:Nat:=195
def f_210:Nat:=210
def f_211:Nat:=211
def f_215:Nat:=215
def f_216:Nat:=216
def f_217:Nat:=217
def f_218:Nat:=218
def f_219:Nat:=219
def f_220:Nat:=220
def f_221:Nat:=221
def f_222:Nat:=222
def f_223:Nat:=223
def f_224:Nat:=224
def f_225:Nat:=225
def f_226:Nat:=226
def f_227:Nat:=227
def f_228:Nat:=228
def f_229:Nat:=229
def f_230:Nat:=230
def f_231:Nat:=231
def f_232:Nat:=232
def f_233:Nat:=233
def f_234:Nat:=234
def f_235:Nat:=235
def f_236:Nat:=236
def f_237:Nat:=237
def f_238:Nat:=238
def f_239:Nat:=239
def f_240:Nat:=240
def f_252:Nat:=252
def f_257:Nat:=257
def f_258:Nat:=258
def f_259:Nat:=259
def f_260:Nat:=260
def f_261:Nat:=261
def f_262:Nat:=262
def f_263:Nat:=263
def f_264:Nat:=264
def f_265:Nat:=265
def f_266:Nat:=266
def f_267:Nat:=267
def f_268:Nat:=268
def f_269:Nat:=269
def f_270:Nat:=270
def f_271:Nat:=271
def f_272:Nat:=272
def f_273:Nat:=273
def f_274:Nat:=274
def f_275:Nat:=275
def f_276:Nat:=276
def f_277:Nat:=277
def f_278:Nat:=278
def f_279:Nat:=279
def f_297:Nat:=297
def f_298:Nat:=298
def f_299:Nat:=299
def f_300:Nat:=300
def f_301:Nat:=301
def f_302:Nat:=302
def f_305:Nat:=305
def f_309:Nat:=309
def f_310:Nat:=310
def f_311:Nat:=311
def f_312:Nat:=312
def f_320:Nat:=320
def f_321:Nat:=321
def c_5:AFn:=⟨2,[.tmp 4],yaa [xJ 2 0,ya2 4] (ya9 [xA 15 9 2,ya7 16 f_17 [.t 15],xM 14 16,xE 17 0 14,xE 18 1 14,xM 5 17,xM 6 18] [xA 19 9 2,yca 20,xO 21 (.bslice .imm 1 (List.replicate 1 [.Xu 9 []]) [(0,(.t 20))]),ybj 22 f_18 19 21,xM 23 22,ya8 24 23 6,ybl 25 23 .neq 24 0,xW 26 23 25] 26 [yae 27 f_19 [],xM 4 27] (yaa [xM 29 5,yca 30,ya7 31 f_20 [.t 29,.t 30],xM 28 31,xE 32 0 28,xE 33 1 28,xE 34 2 28,xM 7 32,xM 8 33,xM 9 34] (ya9 [xM 35 5,ya7 36 f_21 [.t 35],xM 10 36] [xM 37 9,xK 38 .neq 37 0] 38 [xM 39 10,xN 40 39,xK 41 .eql 40 0,xM 42 41,ybp 43 42 5,yar 44 42 (.tcall f_22 [.t 43]),yb1 45 42 .eql 44 (yao 0),xV 46 42 45,xM 47 46,yar 48 47 (.pcall f_19 []),xV 49 47 48,xM 4 49] (yag [xM 51 10,ybv 52 f_23 51,xM 50 52,xE 53 0 50,xE 54 1 50,xE 55 2 50,xM 11 53,xM 12 54,xM 13 55] (xD [xM 56 13,xK 57 .eql 56 0,xM 58 57,ybp 59 58 12,ybp 60 58 10,yar 61 58 (ya6 60),yb1 62 58 .eql 59 (.t 61),xV 63 58 62,xM 64 63,ybp 65 64 11,yar 66 64 (.b2s (.t 65)),ybp 67 64 1,yar 68 64 (.pcall f_24 [.t 67]),yar 69 64 (.b2s (.t 68)),yb1 70 64 .eql 66 (.t 69),xV 71 64 70,xM 72 71,ybp 73 72 5,yar 74 72 (.tcall f_22 [.t 73]),yb1 75 72 .eql 74 (yao 1),xV 76 72 75,xM 77 76,yar 78 77 (.pcall f_19 []),xV 79 77 78,xM 4 79]) .ret))))⟩
def c_12:AFn:=⟨3,[.cell 6 true 4,.tmp 7,.tmp 8,.tmp 9],yaa [xJ 3 0,xJ 4 1,yaq 6 [.Xu 1 [],.Xu 1 [],.Xu 2 [],.Xu 1 []],xC 7 (.Xu 1 []),ybd 8,ybd 9] (ya9 [xA 12 9 3,xA 13 4 4,ya7 14 f_41 [.t 12,.t 13],xM 11 14,xE 15 0 11,xE 16 1 11,xM 10 15,xM 9 16] [xM 17 9,xK 18 .neq 17 0] 18 [xO 19 (.build [.Xu 1 [],.Xu 1 [],.Xu 2 [],.Xu 1 []] []),xM 20 9,xS 4 6 19,xC 7 (.Xu 1 []),xI 8 (-1),xM 9 20] (ya9 [xM 22 10,xM 23 2,ya7 24 f_42 [.t 22,.t 23],xM 21 24,xE 25 0 21,xE 26 1 21,xE 27 2 21,xM 7 25,xM 8 26,xM 9 27] [xM 28 9,xK 29 .neq 28 0] 29 [xO 30 (.build [.Xu 1 [],.Xu 1 [],.Xu 2 [],.Xu 1 []] []),xM 31 8,xM 32 9,xS 4 6 30,xC 7 (.Xu 1 []),xM 8 31,xM 9 32] (yad [xM 33 10,ya7 34 f_43 [.t 33],xM 35 7,xS 4 6 34,xM 7 35,ybd 8,ybd 9])))⟩
def c_17:AFn:=⟨1,[.tmp 2,.tmp 3],yag [xO 1 (yb6 0),xC 2 .nilptr,ybd 3] (yb8 [xA 5 9 1,ybv 6 f_52 5,xO 7 (.fld false 0 1 (.t 6)),xM 4 7] [xM 8 4,xK 9 .neq 8 0] 9 [xM 10 4,xC 2 .nilptr,xM 3 10]) (.seq (xD [xA 11 9 1,ybv 12 f_53 11,xA 13 9 1,ybv 14 f_38 13,xO 15 (.build [.bool false,.str [],.Xu 2 [],.Xu 2 [],.Xu 3 [],.Xu 3 [],.Xu 6 [],.Xu 7 [],.Xu 5 [],.Xu 1 [],.Xu 1 [],.Xu 1 [],.Xu 2 [],.Xu 1 [],.Xu 1 [],.int .i64 0] [(0,1,(.c (.bool true))),(1,9,(.t 12)),(10,4,(.t 14))]),xO 16 (yb6 15),xM 2 16,ybd 3]) .ret)⟩
def c_18_l0:Xv:=ycb [xM 13 5,yca 14,xN 15 14,xB 16 .lss 13 15] 16 (.exit 0) (ya4 1 (yaj [yca 19,xM 20 5,xX 21 1 19 20,xL 22 21,ybv 23 f_55 22] 23 [ycf 4]) [xM 17 5,xK 18 .add 17 1,xM 5 18])
def c_18_k1:Xv:=yad [ya2 4]
def c_18:AFn:=⟨2,[.tmp 4],ya9 [xJ 2 0,ya2 4] [xA 6 9 2,ybv 7 f_54 6,xM 8 7,ya8 9 8 1,ybg 10 8 9,ybl 11 8 .gtr 10 12,xW 12 8 11] 12 [ycf 4] (ybw [ybd 5] 0 c_18_l0 c_18_k1)⟩
def c_20:ADFn:=⟨2,[.tmp 4,.tmp 5,.cell 6 false 1],.seq (xR [xO 2 (.box (.t 0)),xC 4 (.Xu 1 []),xI 5 0,xO 6 (.alloc [.int .i64 0])]) (.seq (.seq (xR [xL 8 2,xO 9 (.eqn false (.t 8) (.c (.nilptr))),xM 10 9,xG 11 10 false (.load false 1 (.t 2)),xG 12 10 false (.nilchk (.t 11)),xG 13 10 false (.faddr 0 (.t 12)),xG 14 10 false (.load false 1 (.t 13)),xG 15 10 false (.un .not (.t 14)),xW 16 10 15]) (.cond (.t 16) (.seq (xR [xC 4 (.Xu 1 []),xI 5 0,⟨none,none,.store 1 (.t 6) (.c (.int .i64 1))⟩]) (.ret)) (.skip))) (.seq (xR [xL 17 2,xO 18 (.nilchk (.t 17)),xF 19 10 18,xA 20 4 19,xO 7 (.alloc [.Xu 1 [],.Xu 1 [],.Xu 2 [],.Xu 1 []]),xS 4 7 20]) (.dfr [⟨some 21,none,.mkfunc (.func f_58) [] [.t 6,.t 7,.t 2]⟩] 21 (.seq (xD [xL 23 2,xL 24 2,xO 25 (.nilchk (.t 24)),xF 26 1 25,xA 27 9 26,xL 28 2,xO 29 (.nilchk (.t 28)),xF 30 10 29,xA 31 4 30,xM 32 1,xO 33 (.pcall f_12 [.t 27,.t 31,.t 32]),xM 22 33,xE 34 0 22,xE 35 1 22,xE 36 2 22,xE 37 3 22,xO 38 (.nilchk (.t 23)),xF 39 10 38,xS 4 39 34,xM 4 35,xM 5 36,xS 1 6 37]) (.seq (.seq (xR [xL 40 6,xK 41 .neq 40 0]) (.cond (.t 41) (.seq (xD [xM 42 5,xL 43 6,xC 4 (.Xu 1 []),xM 5 42,xS 1 6 43]) (.ret)) (.skip))) (.seq (.region true [(0,8)] [⟨some 44,none,.load false 1 (.t 2)⟩,⟨some 45,none,.load false 1 (.t 2)⟩,⟨some 46,none,.nilchk (.t 45)⟩,⟨some 47,none,.faddr 14 (.t 46)⟩,⟨some 48,none,.load false 1 (.t 47)⟩,⟨some 49,none,.mov (.t 1)⟩,⟨some 50,none,.pcall f_24 [.t 49]⟩,⟨some 51,none,.pcall f_59 [.t 50]⟩,⟨some 52,none,.append .app 1 1 (.t 48) (.t 51)⟩,⟨some 53,none,.nilchk (.t 44)⟩,⟨some 54,none,.faddr 14 (.t 53)⟩,⟨none,none,.store 1 (.t 54) (.t 52)⟩] none) (.seq (xR [xL 55 2,xO 56 (.nilchk (.t 55)),xF 57 15 56,xL 58 57,xK 59 .add 58 1,xO 60 (.nilchk (.t 55)),xF 61 15 60,xS 1 61 59]) (.seq (xR [xM 62 4,xM 4 62,xI 5 0,⟨none,none,.store 1 (.t 6) (.c (.int .i64 0))⟩]) (.ret))))))))),f_58,3,none,.seq (xR [xL 3 0,xK 4 .neq 3 0]) (.cond (.t 4) (xR [xL 5 2,xA 6 4 1,xO 7 (.nilchk (.t 5)),xF 8 10 7,xS 4 8 6]) (.skip))⟩
def c_21:AFn:=⟨1,[.tmp 2],ya9 [xC 2 (.Xu 1 [])] [ybt 4,xO 5 (.eqn false (.t 4) (.c .nilptr))] 5 [xC 2 (.Xu 1 [])] (yag [ybt 6,ybo 7 6,xF 8 14 7,xL 9 8,xN 10 9,xO 11 (.mkslice .row 1 1 [.int .u8 0] (.t 10) (.t 10)),xM 3 11] (xQ [xM 12 3,ybt 13,ybo 14 13,xF 15 14 14,xL 16 15,xO 17 (.copy 1 (.t 12) (.t 16))] [3]) (ycc 18 3 2 18))⟩
def c_22:AFn:=⟨1,[.tmp 2],ya9 [ybd 2] [ybt 3,xO 4 (.eqn false (.t 3) (.c .nilptr))] 4 [ybd 2] (yad [ybt 5,ybo 6 5,xF 7 15 6,xL 8 7,xM 2 8])⟩
def c_23:AFn:=⟨1,[.tmp 2,.tmp 3,.tmp 4],ya9 [xC 2 (.Xu 1 []),ybd 3,yb5] [ybt 7,xN 8 7,xK 9 .lss 8 8] 9 [xC 2 (.Xu 1 []),ybd 3,xI 4 3] (ya9 [ybt 10,ybv 11 f_60 10,xO 12 (yb0 .u64 11),xM 5 12] [ybt 13,xN 14 13,xO 15 (yb0 .u64 14),xO 16 (yap .sub 15 (.c (.int .u64 8))),xM 17 5,xB 18 .lss 16 17] 18 [xC 2 (.Xu 1 []),ybd 3,xI 4 3] (yag [xM 19 5,xO 20 (yb0 .i64 19),xO 21 (.bin .add (yao 4) (.t 20)),xM 6 21] (.seq (xD [ybt 22,xM 23 6,xO 24 (.slc 1 (.t 22) none (some (.t 23)) none),ybv 25 f_61 24,ybt 26,xM 27 6,xO 28 (.slc 1 (.t 26) (some (.t 27)) none none),ybv 29 f_60 28,xB 30 .neq 25 29]) (yab 30 (yad [xC 2 (.Xu 1 []),ybd 3,xI 4 24]) .skip)) (yad [ybt 31,xM 32 6,xO 33 (.slc 1 (.t 31) (some (.c (.int .i64 4))) (some (.t 32)) none),ybv 34 f_62 33,xM 35 6,xK 36 .add 35 4,xM 2 34,xM 3 36,yb5])))⟩
def c_24_l0:Xv:=ya5 [xB 16 .lss 15 14] 16 0 1 (ya9 [xX 17 9 13 15,xA 18 9 17,yaq 5 [yba,yba,yba,.Xu 2 [],yba,yba,.Xu 1 [],yba,.Xu 1 []],xS 9 5 18] [xA 19 9 5,ybv 20 f_63 19,ybq 21 20] 21 [xC 2 (.Xu 1 [])] (xR [xM 22 3,xA 23 9 5,ya7 24 f_64 [.t 22,.t 23],xM 3 24])) [xK 25 .add 15 1,xM 15 25]
def c_24_k1:Xv:=ycc 26 3 2 26
def c_24:AFn:=⟨1,[.tmp 2],ya9 [xC 2 (.Xu 1 [])] [ybt 6,xN 7 6,xK 8 .gtr 7 64] 8 [xC 2 (.Xu 1 [])] (ybe [ybt 9,xN 10 9,xO 11 (yb0 .u8 10),xO 12 (.bslice .imm 1 (List.replicate 1 [.int .u8 0]) [(0,(.t 11))]),xM 3 12] [ybt 13,xN 14 13,ybd 15] 0 c_24_l0 c_24_k1)⟩
def c_38_l0:Xv:=ybz [xB 13 .lss 12 11] 13 0 1 [xX 14 6 10 12,xA 15 6 14,yaq 5 [.str [],.Xu 3 [],.Xu 1 [],yba,.Xu 1 [],yba],xS 6 5 15] [5] (ybx [xF 16 0 3,xL 17 16,xO 18 (.bslice .imm 1 (List.replicate 1 [.Xu 5 []]) [(0,(.c (.Xu 5 [])))]),xO 19 (ycd .row 1 24 17 18),xF 20 0 3,xS 1 20 19] [xF 21 1 3,xL 22 21,xO 23 (.bslice .imm 1 (List.replicate 1 [.int .i64 0]) [(0,(.c (.int .i64 1)))]),xO 24 (ycd .row 1 8 22 23),xF 25 1 3,xS 1 25 24] (xD [xF 26 2 3,xL 27 26,xF 28 3 5,xA 29 2 28,ybv 30 f_85 29,xO 31 (.bslice .imm 2 (List.replicate 1 [.int .i64 0,.Xu 1 []]) [(0,(.t 30))]),xO 32 (ycd .app 2 32 27 31),xF 33 2 3,xS 1 33 32])) [xK 34 .add 12 1,xM 12 34]
def c_38_k1:Xv:=yb2 (xA 35 4 3) (xS 4 2 35)
def c_38:AFn:=⟨1,[.cell 2 true 4],yaa [xJ 1 0,yaq 2 [.Xu 1 [],.Xu 1 [],.Xu 2 [],.Xu 1 []]] (ybe [xA 6 9 1,ybv 7 f_84 6,xO 8 (.build [.Xu 1 [],.Xu 1 [],.Xu 2 [],.Xu 1 []] [(3,1,(.t 7))]),yaq 3 [.Xu 1 [],.Xu 1 [],.Xu 2 [],.Xu 1 []],xS 4 3 8] [yce 9 5,xL 10 9,xN 11 10,ybd 12] 0 c_38_l0 c_38_k1)⟩
def c_41:AFn:=⟨2,[.tmp 4,.tmp 5],yag [xJ 2 0,xJ 3 1,xC 4 .nilptr,ybd 5] (yb8 [xA 7 9 2,xA 8 4 3,ybj 9 f_87 7 8,xM 6 9] [xM 10 6,xK 11 .neq 10 0] 11 [xM 12 6,xC 4 .nilptr,xM 5 12]) (yad [xA 13 9 2,xA 14 4 3,ya7 15 f_88 [.t 13,.t 14],xM 4 15,ybd 5])⟩
def c_42_l0:Xv:=ya5 [xB 37 .lss 36 35] 37 0 1 (yaa [xM 38 36,xX 39 9 34 36,xA 40 9 39,yaq 11 [yba,yba,yba,.Xu 2 [],yba,yba,.Xu 1 [],yba,.Xu 1 []],xM 10 38,xS 9 11 40] (ya9 [xL 42 2,xA 43 9 11,ya7 44 f_45 [.t 42,.t 43],xM 41 44,xE 45 0 41,xE 46 1 41,xM 12 45,xM 13 46] [xM 47 13,xK 48 .neq 47 0] 48 [xM 49 10,xM 50 13,xC 4 (.Xu 1 []),xM 5 49,xS 1 6 50] (xR [xM 51 9,xM 52 12,xO 53 (.bslice .imm 1 (List.replicate 1 [.int .i64 0]) [(0,(.t 52))]),xO 54 (ycd .app 1 8 51 53),xM 9 54]))) [xK 55 .add 36 1,xM 36 55]
def c_42_k1:Xv:=yad [xM 56 9,xM 4 56,ybd 5,⟨none,none,.store 1 (.t 6) (.c (.int .i64 0))⟩]
def c_42:ADFn:=⟨2,[.tmp 4,.tmp 5,.cell 6 false 1],.seq (xR [xO 2 (.box (.t 0)),xC 4 (.Xu 1 []),xI 5 0,xO 6 (.alloc [.int .i64 0])]) (.seq (xR [xL 14 2,xO 15 (.tcall f_89 [.t 14]),xO 7 (.alloc [.nilptr]),xS 1 7 15]) (.seq (.seq (xR [xL 16 2,xO 17 (.build [.int .i64 0,.Xu 1 []] []),xO 18 (.tcall f_90 [.t 16,.c (.int .i64 (-1)),.c (.int .i64 0),.t 17]),xK 19 .eql 18 1,xM 20 19,xG 21 20 false (.load false 1 (.t 7)),xG 22 20 false (.eqn false (.t 21) (.c (.nilptr))),xW 23 20 22]) (.cond (.t 23) (.seq (xR [xC 4 (.Xu 1 []),xI 5 (-1),⟨none,none,.store 1 (.t 6) (.c (.int .i64 1))⟩]) (.ret)) (.skip))) (.seq (.seq (xR [xM 24 1,xN 25 24,xK 26 .gtr 25 64]) (.cond (.t 26) (.seq (xR [xC 4 (.Xu 1 []),xI 5 (-1),⟨none,none,.store 1 (.t 6) (.c (.int .i64 12))⟩]) (.ret)) (.skip))) (.dfr [⟨some 27,none,.mkfunc (.func f_91) [] [.t 6,.t 7,.t 2]⟩] 27 (.seq (xR [xM 28 1,xN 29 28,xO 30 (.mkslice .row 9 120 [.int .i64 0,.int .i64 0,.int .i64 0,.Xu 2 [],.int .i64 0,.int .i64 0,.Xu 1 [],.int .i64 0,.Xu 1 []] (.t 29) (.t 29)),xM 8 30]) (.seq (xR [xM 31 8,xM 32 1,xO 33 (.copy 9 (.t 31) (.t 32))]) (.seq (xR [xO 9 (.nilapp 1)]) (.seq (.seq (xR [xM 34 8,xN 35 34,xI 36 0]) (.block 0 (.loop c_42_l0))) c_42_k1)))))))),f_91,3,none,.seq (xR [xL 3 0,xK 4 .neq 3 0]) (.cond (.t 4) (xD [xL 5 2,xL 6 1,xO 7 (.nilchk (.t 6)),xA 8 15 7,xO 9 (.nilchk (.t 5)),xS 15 9 8]) (.skip))⟩
def c_43:AFn:=⟨1,[.cell 2 true 4],ya9 [yaq 2 [.Xu 1 [],.Xu 1 [],.Xu 2 [],.Xu 1 []]] [ybt 3,xO 4 (.eqn false (.t 3) (.c .nilptr)),xM 5 4,ya8 6 5 0,yac 7 5 (yaz 6),yaw 8 5 14 7,yb4 9 5 8,yac 10 5 (ybc 9),xW 11 5 10] 11 [xO 12 (.build [.Xu 1 [],.Xu 1 [],.Xu 2 [],.Xu 1 []] []),xS 4 2 12] (yad [ybt 13,ybo 14 13,xF 15 0 14,xA 16 4 15,ya7 17 f_92 [.t 16],xS 4 2 17])⟩
def c_45:AFn:=⟨2,[.tmp 4,.tmp 5],yag [xO 3 (yb6 1),yb5,ybd 5] (yaa [xF 6 0 3,xL 7 6] (.block 0 (yai [xK 9 .eql 7 1,xM 8 9] 8 [ybt 10,xF 11 1 3,xL 12 11,xF 13 3 3,xA 14 4 13,ya7 15 f_93 [.t 10,.t 12,.t 14],xE 16 0 15,xE 17 1 15,xM 4 16,xM 5 17] (yai [xK 19 .eql 7 2,xM 18 19] 18 [ybt 20,xF 21 1 3,xL 22 21,xF 23 2 3,xL 24 23,xF 25 7 3,xA 26 2 25,ya7 27 f_90 [.t 20,.t 22,.t 24,.t 26],yb5,xM 5 27] (yai [xK 29 .eql 7 3,xM 28 29] 28 [ybt 30,xF 31 1 3,xL 32 31,xF 33 2 3,xL 34 33,ya7 35 f_94 [.t 30,.t 32,.t 34],yb5,xM 5 35] (yaj [xK 37 .eql 7 4,xM 36 37] 36 [ybt 38,xF 39 1 3,xL 40 39,xF 41 7 3,xA 42 2 41,ya7 43 f_95 [.t 38,.t 40,.t 42],yb5,xM 5 43])))))) (yb2 yb5 (xI 5 11))⟩
def c_52:ADFn:=⟨1,[.cell 2 true 4],.seq (xR [xO 1 (.box (.t 0)),xO 2 (.alloc [.int .i64 0,.int .i64 0,.int .i64 0,.int .i64 0])]) (.dfr [⟨some 3,none,.mkfunc (.func f_98) [] [.t 2]⟩] 3 (.seq (xR [xA 4 9 1,xO 5 (.pcall f_99 [.t 4])]) (.seq (xR [xA 6 9 1,xO 7 (.pcall f_100 [.t 6])]) (.seq (xR [xA 8 9 1,xO 9 (.pcall f_101 [.t 8])]) (.seq (xR [xA 10 9 1,xO 11 (.pcall f_102 [.t 10])]) (.seq (xR [xA 12 9 1,xO 13 (.pcall f_103 [.t 12])]) (.seq (xR [xO 14 (.build [.int .i64 0,.int .i64 0,.int .i64 0,.int .i64 0] []),xS 4 2 14]) (.ret)))))))),f_98,1,(some (4,1)),.seq (.seq (xR [xM 5 1,xO 6 (.eqs false false [] (.t 5) (.c (.niliface)))]) (.cond (.t 6) (.ret) (.skip))) (.seq (.seq (xR [xM 8 1,xO 9 (.tassert 172 true (.agg [.int .i64 0,.int .i64 0,.int .i64 0,.int .i64 0]) (.t 8)),xM 7 9,xE 10 0 7,xE 11 1 7,xO 2 (.alloc [.int .i64 0,.int .i64 0,.int .i64 0,.int .i64 0]),xS 4 2 10,xM 3 11]) (.seq (xR [xM 12 3]) (.cond (.t 12) (.seq (xR [xF 13 0 2,xA 14 4 13,xS 4 0 14]) (.ret)) (.skip)))) (xR [xM 15 1,⟨none,none,.panic (.t 15)⟩]))⟩
def c_53:AFn:=⟨1,[.cell 2 true 9],yag [xJ 1 0,yaq 2 [.str [],.Xu 2 [],.Xu 2 [],.Xu 3 [],.Xu 3 [],.Xu 6 [],.Xu 7 [],.Xu 5 [],.Xu 1 []]] (xD [yce 3 0,xL 4 3,yce 5 1,xL 6 5,ybi 7 f_104 6 (.c (.func (.func f_105) [] [])),yce 8 2,xL 9 8,ybv 10 f_106 9,yce 11 3,xL 12 11,ybv 13 f_107 12,yce 14 4,xL 15 14,ybi 16 f_108 15 (.c (.func (.func f_109) [] [])),yce 17 5,xL 18 17,ybi 19 f_110 18 (.c (.func (.func f_111) [] [])),yce 20 6,xL 21 20,ybi 22 f_112 21 (.c (.func (.func f_113) [] [])),yce 23 7,xL 24 23,ybi 25 f_114 24 (.c (.func (.func f_115) [] [])),yce 26 8,xL 27 26,ybv 28 f_116 27,xO 29 (.build [.str [],.Xu 2 [],.Xu 2 [],.Xu 3 [],.Xu 3 [],.Xu 6 [],.Xu 7 [],.Xu 5 [],.Xu 1 []] [(0,1,(.t 4)),(1,1,(.t 7)),(2,1,(.t 10)),(3,1,(.t 13)),(4,1,(.t 16)),(5,1,(.t 19)),(6,1,(.t 22)),(7,1,(.t 25)),(8,1,(.t 28))]),xS 9 2 29]) .ret⟩
def c_54_l0:Xv:=ycb [xM 59 3,yce 60 1,xL 61 60,xN 62 61,xB 63 .lss 59 62] 63 (.exit 0) (ya4 1 (yaj [yce 66 1,xL 67 66,xM 68 3,xX 69 2 67 68,xA 70 2 69,ybv 71 f_118 70,ybq 72 71] 72 [ycf 2]) [xM 64 3,xK 65 .add 64 1,xM 3 65])
def c_54_l1:Xv:=ycb [xM 73 4,yce 74 4,xL 75 74,xN 76 75,xB 77 .lss 73 76] 77 (.exit 2) (ya4 3 (yaj [yce 80 4,xL 81 80,xM 82 4,xX 83 3 81 82,xA 84 3 83,ybv 85 f_119 84] 85 [ycf 2]) [xM 78 4,xK 79 .add 78 1,xM 4 79])
def c_54_l2:Xv:=ycb [xM 86 5,yce 87 5,xL 88 87,xN 89 88,xB 90 .lss 86 89] 90 (.exit 4) (ya4 5 (yaj [yce 93 5,xL 94 93,xM 95 5,xX 96 6 94 95,xF 97 1 96,xL 98 97,xN 99 98,xK 100 .gtr 99 10,xM 101 100,yaw 102 101 5 1,yb4 103 101 102,ya8 104 101 5,yac 105 101 (yby 6 none 103 (.t 104)),yaw 106 101 2 105,yb4 107 101 106,ybg 108 101 107,ybl 109 101 .gtr 108 24,xW 110 101 109,xM 111 110,yaw 112 111 5 1,yb4 113 111 112,ya8 114 111 5,yac 115 111 (yby 6 none 113 (.t 114)),yaw 116 111 3 115,yaw 117 111 1 116,yb4 118 111 117,ybg 119 111 118,ybl 120 111 .gtr 119 8,xW 121 111 120,xM 122 121,yaw 123 122 5 1,yb4 124 122 123,ya8 125 122 5,yac 126 122 (yby 6 none 124 (.t 125)),yaw 127 122 0 126,yb4 128 122 127,yac 129 122 (.slen (.t 128)),ybl 130 122 .gtr 129 60,xW 131 122 130] 131 [ycf 2]) [xM 91 5,xK 92 .add 91 1,xM 5 92])
def c_54_l3:Xv:=ycb [xM 132 6,yce 133 6,xL 134 133,xN 135 134,xB 136 .lss 132 135] 136 (.exit 6) (ya4 7 (yaj [yce 139 6,xL 140 139,xM 141 6,xX 142 7 140 141,xA 143 7 142,ybv 144 f_120 143] 144 [ycf 2]) [xM 137 6,xK 138 .add 137 1,xM 6 138])
def c_54_k4:Xv:=yad [ya2 2]
def c_54_k5:Xv:=ybw [ybd 6] 6 c_54_l3 c_54_k4
def c_54_k6:Xv:=ybw [ybd 5] 4 c_54_l2 c_54_k5
def c_54_k7:Xv:=ybw [yb5] 2 c_54_l1 c_54_k6
def c_54:AFn:=⟨1,[.tmp 2],ya9 [xJ 1 0,ya2 2] [yce 7 0,xL 8 7,xO 9 (.slen (.t 8)),xK 10 .gtr 9 60,xM 11 10,yaw 12 11 1 1,yb4 13 11 12,ybg 14 11 13,ybl 15 11 .gtr 14 16,xW 16 11 15,xM 17 16,yaw 18 17 2 1,yb4 19 17 18,ybg 20 17 19,ybl 21 17 .gtr 20 20,xW 22 17 21,xM 23 22,yaw 24 23 3 1,yb4 25 23 24,ybg 26 23 25,ybl 27 23 .gtr 26 8,xW 28 23 27,xM 29 28,yaw 30 29 4 1,yb4 31 29 30,ybg 32 29 31,ybl 33 29 .gtr 32 24,xW 34 29 33,xM 35 34,yaw 36 35 5 1,yb4 37 35 36,ybg 38 35 37,ybl 39 35 .gtr 38 16,xW 40 35 39,xM 41 40,yaw 42 41 6 1,yb4 43 41 42,ybg 44 41 43,ybl 45 41 .gtr 44 16,xW 46 41 45,xM 47 46,yaw 48 47 8 1,yb4 49 47 48,ybg 50 47 49,ybl 51 47 .gtr 50 16,xW 52 47 51,xM 53 52,yaw 54 53 7 1,yb4 55 53 54,yac 56 53 (.pcall f_117 [.t 55,yao 10]),ybl 57 53 .gtr 56 60,xW 58 53 57] 58 [ycf 2] (ybw [ybd 3] 0 c_54_l0 c_54_k7)⟩
def c_55_l0:Xv:=ycb [xM 7 3,ybt 8,xN 9 8,xB 10 .lss 7 9] 10 (.exit 0) (ya4 1 (yaj [ybt 13,xM 14 3,xX 15 9 13 14,xF 16 3 15,xF 17 0 16,xL 18 17,xN 19 18,xK 20 .gtr 19 300,xM 21 20,ya8 22 21 0,ya8 23 21 3,yac 24 21 (yby 9 none 22 (.t 23)),yaw 25 21 3 24,yaw 26 21 2 25,yaw 27 21 1 26,yb4 28 21 27,ybg 29 21 28,ybl 30 21 .gtr 29 300,xW 31 21 30,xM 32 31,ya8 33 32 0,ya8 34 32 3,yac 35 32 (yby 9 none 33 (.t 34)),yaw 36 32 7 35,yaw 37 32 1 36,yb4 38 32 37,ybg 39 32 38,ybl 40 32 .gtr 39 300,xW 41 32 40] 41 [ycf 2]) [xM 11 3,xK 12 .add 11 1,xM 3 12])
def c_55_k1:Xv:=yad [ya2 2]
def c_55:AFn:=⟨1,[.tmp 2],ya9 [ya2 2] [ybt 4,xN 5 4,xK 6 .gtr 5 80] 6 [ycf 2] (ybw [ybd 3] 0 c_55_l0 c_55_k1)⟩
def c_59:AFn:=⟨1,[.tmp 2],yaa [xC 2 (.Xu 1 [])] (ybm [ybt 4,xN 5 4,xO 6 (yb0 .u32 5),ya7 7 f_125 [.t 6],ybt 8,xO 9 (ycd .app 1 1 7 8),xM 3 9] [xM 10 3,xM 11 3,ybv 12 f_61 11,ya7 13 f_125 [.t 12],xO 14 (ycd .app 1 1 10 13),xM 2 14])⟩
def c_60_l0:Xv:=ya5 [xB 10 .lss 9 8] 10 0 1 (yaa [xX 11 1 7 9,xL 12 11,xM 5 12] (xR [xM 13 3,xO 14 (yap .shl 13 (.c (.int .u64 8))),xM 15 5,xO 16 (yb0 .u32 15),xB 17 .or 14 16,xM 3 17])) [xK 18 .add 9 1,xM 9 18]
def c_60_k1:Xv:=ycc 19 3 2 19
def c_60:AFn:=⟨1,[.tmp 2],yaa [xC 2 (ybs 0)] (ybe [xC 3 (ybs 0)] [ybt 6,xO 7 (.slc 1 (.t 6) none (some (.c (.int .i64 4))) none),xN 8 7,ybd 9] 0 c_60_l0 c_60_k1)⟩
def c_61:AFn:=⟨1,[.tmp 2],ybx [xC 2 (ybs 0)] [xO 4 (.build [.int .u32 0] [(0,1,(.c (.int .u32 2166136261)))]),xO 5 (.build [.int .u32 0,.int .i64 0] [(0,1,(.t 4))]),yaq 3 [ybs 0,yba],xS 2 3 5] (ybm [ybt 6,ya7 7 f_126 [.t 3,.t 6]] [xF 8 0 3,xF 9 0 8,xL 10 9,xM 2 10])⟩
def c_63:AFn:=⟨1,[.tmp 2],yaa [xO 1 (yb6 0),ya2 2] (yag [yce 4 2,xL 5 4,xK 6 .geq 5 0,xM 7 6,yb7 8 7 2 1,yar 9 7 (yav 1 8),yb1 10 7 .leq 9 (yao 2147483647),xV 11 7 10,xM 3 11] (yaa [yce 12 0,xL 13 12] (.block 0 (yai [xK 15 .eql 13 1,xM 14 15] 14 [yce 16 1,xL 17 16,ybv 18 f_127 17,xM 19 18,yb7 20 19 3 1,yb7 21 19 1 20,yar 22 19 (yav 1 21),yar 23 19 (.pcall f_127 [.t 22]),xV 24 19 23,xM 25 24,yb7 26 25 3 1,yb7 27 25 0 26,yar 28 25 (yav 1 27),yar 29 25 (ya6 28),yb1 30 25 .leq 29 (yao 255),xV 31 25 30,xM 32 31,yb7 33 32 3 1,yb7 34 32 2 33,yar 35 32 (.load true 2 (.t 34)),yar 36 32 (.pcall f_128 [.t 35]),xV 37 32 36,xM 2 37] (yai [xK 39 .eql 13 2,xM 38 39] 38 [yce 40 1,xL 41 40,ybv 42 f_127 41,xM 43 42,ybp 44 43 3,xV 45 43 44,xM 46 45,yb7 47 46 7 1,yar 48 46 (.load true 2 (.t 47)),yar 49 46 (.pcall f_128 [.t 48]),xV 50 46 49,xM 2 50] (yai [xK 52 .eql 13 3,xM 51 52] 51 [yce 53 1,xL 54 53,ybv 55 f_127 54,xM 56 55,ybp 57 56 3,xV 58 56 57,xM 2 58] (yaj [xK 60 .eql 13 4,xM 59 60] 59 [yce 61 1,xL 62 61,ybv 63 f_127 62,xM 64 63,yb7 65 64 7 1,yar 66 64 (.load true 2 (.t 65)),yar 67 64 (.pcall f_128 [.t 66]),xV 68 64 67,xM 2 68])))))) (yad [ya2 2]))⟩
def c_64_l0:Xv:=ya5 [xB 39 .lss 38 37] 39 1 2 (ybx [xX 40 2 36 38,xA 41 2 40,yaq 6 [ybs 0,ybs 0],xS 2 6 41] [ybt 42,xF 43 0 6,xL 44 43,xO 45 (yb0 .i64 44),ya7 46 f_129 [.t 42,.t 45,yao 4],xM 0 46] (xR [ybt 47,xF 48 1 6,xL 49 48,xO 50 (yb0 .i64 49),ya7 51 f_129 [.t 47,.t 50,yao 4],xM 0 51])) [xK 52 .add 38 1,xM 38 52]
def c_64_k1:Xv:=yad [ybt 53,xF 54 3 3,xF 55 2 54,xA 56 2 55,ya7 57 f_130 [.t 53,.t 56],xM 4 57]
def c_64_k2:Xv:=yad [ybt 73,xF 74 7 3,xA 75 2 74,ya7 76 f_130 [.t 73,.t 75],xM 4 76]
def c_64:AFn:=⟨2,[.tmp 4],ybx [xO 3 (yb6 1),xC 4 (.Xu 1 [])] [ybt 7,xF 8 0 3,xL 9 8,xO 10 (yb0 .u8 9),xO 11 (.bslice .imm 1 (List.replicate 1 [.int .u8 0]) [(0,(.t 10))]),xO 12 (ycd .app 1 1 7 11),xM 0 12] (yag [ybt 13,xF 14 1 3,xL 15 14,ya7 16 f_129 [.t 13,.t 15,yao 2],xM 0 16] (yaa [xF 17 0 3,xL 18 17] (.block 0 (yah [xK 20 .eql 18 1,xM 19 20] 19 (yaa [ybt 21,xF 22 3 3,xF 23 1 22,xL 24 23,ya7 25 f_129 [.t 21,.t 24,yao 2],xM 0 25] (ybe [ybt 26,xF 27 3 3,xF 28 0 27,xL 29 28,xN 30 29,xO 31 (yb0 .u8 30),xO 32 (.bslice .imm 1 (List.replicate 1 [.int .u8 0]) [(0,(.t 31))]),xO 33 (ycd .app 1 1 26 32),xM 0 33] [xF 34 3 3,xF 35 0 34,xL 36 35,xN 37 36,ybd 38] 1 c_64_l0 c_64_k1)) (yah [xK 59 .eql 18 2,xM 58 59] 58 (.seq (.region true [(3,5)] [⟨some 60,none,.mov (.t 0)⟩,⟨some 61,none,.faddr 2 (.t 3)⟩,⟨some 62,none,.load false 1 (.t 61)⟩,⟨some 63,none,.tcall f_129 [.t 60,.t 62,.c (.int .i64 4)]⟩,⟨some 64,none,.faddr 7 (.t 3)⟩,⟨some 65,none,.load true 2 (.t 64)⟩,⟨some 66,none,.tcall f_130 [.t 63,.t 65]⟩,⟨some 4,none,.mov (.t 66)⟩] none) .ret) (yaj [xK 68 .eql 18 3,xM 67 68] 67 [ybt 69,xF 70 2 3,xL 71 70,ya7 72 f_129 [.t 69,.t 71,yao 4],xM 4 72]))))) c_64_k2)⟩
def c_84_l0:Xv:=ybz [xB 14 .lss 13 12] 14 0 1 [xM 15 13,xX 16 3 11 13,xA 17 3 16,yaq 5 [.str [],yba,yba],xM 4 15,xS 3 5 17] [5] (ycg [xA 18 3 5,ybv 19 f_149 18] 19 (xR [xM 20 3,xM 21 4,xF 22 2 5,xL 23 22,xO 24 (.mkslice .row 1 4 [.int .u32 0] (.t 23) (.t 23)),xX 25 1 20 21,xS 1 25 24])) [xK 26 .add 13 1,xM 13 26]
def c_84_k1:Xv:=ycc 27 3 2 27
def c_84:AFn:=⟨1,[.tmp 2],yaa [xJ 1 0,xC 2 (.Xu 1 [])] (ybe [yce 6 3,xL 7 6,xN 8 7,xO 9 (.mkslice .row 1 24 [.Xu 1 []] (.t 8) (.t 8)),xM 3 9] [yce 10 3,xL 11 10,xN 12 11,ybd 13] 0 c_84_l0 c_84_k1)⟩
def c_85:AFn:=⟨1,[.cell 2 true 2],yag [xJ 1 0,yaq 2 [yba,.Xu 1 []]] (xD [yce 3 0,xL 4 3,yce 5 1,xL 6 5,ybv 7 f_150 6,xO 8 (.build [.int .i64 0,.Xu 1 []] [(0,1,(.t 4)),(1,1,(.t 7))]),xS 2 2 8]) .ret⟩
def c_87_l0:Xv:=ya5 [xB 40 .lss 39 38] 40 0 1 (yag [xM 41 39,xM 7 41] (xD [xA 42 9 2,xM 43 7,xF 44 0 3,xL 45 44,xM 46 7,xX 47 1 45 46,xL 48 47,xF 49 1 3,xL 50 49,xM 51 7,xX 52 1 50 51,xL 53 52,xF 54 2 3,xL 55 54,xM 56 7,xX 57 2 55 56,xA 58 2 57,yae 59 f_152 [.t 42,.t 43,.t 48,.t 53,.t 58],xM 8 59]) (yaj [xM 60 8,xK 61 .neq 60 0] 61 [xM 62 8,xM 4 62])) [xK 63 .add 39 1,xM 39 63]
def c_87_k1:Xv:=yad [xA 64 9 2,xF 65 3 3,xL 66 65,ybj 67 f_153 64 66,xM 4 67]
def c_87:AFn:=⟨2,[.tmp 4],yag [xJ 2 0,xJ 3 1,yb5] (ybk [xA 9 9 2,ybv 10 f_52 9,yaq 5 [yba,yba,yba,yba],xS 4 5 10] [5] (yaj [xF 11 0 5,xL 12 11,xK 13 .neq 12 0] 13 [xF 14 0 5,xL 15 14,xM 4 15])) (ya9 [xF 16 5 2,xL 17 16,xN 18 17,xM 6 18] [xF 19 0 3,xL 20 19,xN 21 20,xM 22 6,xB 23 .neq 21 22,xM 24 23,yaw 25 24 1 3,yb4 26 24 25,ybg 27 24 26,ya8 28 24 6,ya3 29 24 .neq 27 (.t 28),xW 30 24 29,xM 31 30,yaw 32 31 2 3,yb4 33 31 32,ybg 34 31 33,ya8 35 31 6,ya3 36 31 .neq 34 (.t 35),xW 37 31 36] 37 [xI 4 2] (ybw [xM 38 6,ybd 39] 0 c_87_l0 c_87_k1))⟩
def c_88_l0:Xv:=ya5 [xB 30 .lss 29 28] 30 0 1 (yaa [xM 31 29,xM 6 31] (xR [xM 32 5,xM 33 6,ya7 34 f_154 [.t 32,.t 33]])) [xK 35 .add 29 1,xM 29 35]
def c_88_k1:Xv:=ycc 36 5 4 36
def c_88:AFn:=⟨2,[.tmp 4],yag [xJ 2 0,xO 3 (yb6 1),xC 4 .nilptr] (.region true [(1,2)] [⟨some 7,none,.load true 4 (.t 3)⟩,⟨some 8,none,.tcall f_92 [.t 7]⟩,⟨some 9,none,.load true 9 (.t 2)⟩,⟨some 10,none,.pcall f_53 [.t 9]⟩,⟨some 11,none,.build [.Xu 1 [],.Xu 1 [],.Xu 2 [],.Xu 1 [],.str [],.Xu 2 [],.Xu 2 [],.Xu 3 [],.Xu 3 [],.Xu 6 [],.Xu 7 [],.Xu 5 [],.Xu 1 [],.Xu 1 [],.bool false] [(0,4,(.t 8)),(4,9,(.t 10)),(14,1,(.c (.bool true)))]⟩,⟨some 12,none,.box (.t 11)⟩,⟨some 5,none,.mov (.t 12)⟩] none) (ybe [xM 13 5,xM 14 5,ybo 15 14,xF 16 0 15,xF 17 0 16,xL 18 17,xN 19 18,xO 20 (.mkslice .row 1 8 [.nilmap] (.t 19) (.t 19)),ybo 21 13,xF 22 13 21,xS 1 22 20] [xM 23 5,ybo 24 23,xF 25 0 24,xF 26 0 25,xL 27 26,xN 28 27,ybd 29] 0 c_88_l0 c_88_k1)⟩
def c_89:AFn:=⟨1,[.tmp 2],ya9 [xC 2 .nilptr] [ybt 3,xO 4 (.eqn false (.t 3) (.c .nilptr)),xM 5 4,ya8 6 5 0,yac 7 5 (yaz 6),yaw 8 5 14 7,yb4 9 5 8,yac 10 5 (ybc 9),xW 11 5 10] 11 [xC 2 .nilptr] (.seq (xD [ybt 12,ybo 13 12,xF 14 4 13,xA 15 9 14,ybt 16,ybo 17 16,xF 18 0 17,xA 19 4 18,ya7 20 f_88 [.t 15,.t 19],xM 2 20]) .ret)⟩
def c_90:AFn:=⟨4,[.tmp 8],yaa [xO 7 (yb6 3),ybd 8] (yag [ybt 12,yca 13,xM 14 2,ya7 15 f_155 [.t 12,.t 13,.t 14],xM 11 15,xE 16 0 11,xE 17 1 11,xM 9 16,xM 10 17] (ycg [xM 18 10,xK 19 .eql 18 0] 19 (xD [ybt 20,ybo 21 20,xF 22 4 21,xA 23 9 22,yca 24,xA 25 2 7,yae 26 f_156 [.t 23,.t 24,.t 25],xM 10 26])) (.seq (ycg [xM 27 10,xK 28 .eql 27 0] 28 (xD [ybt 29,ybo 30 29,xF 31 0 30,xF 32 0 31,xL 33 32,yca 34,xX 35 1 33 34,xL 36 35,xM 37 9,xA 38 2 7,ybv 39 f_85 38,xX 40 5 36 37,xF 41 1 40,xF 42 2 41,xS 2 42 39])) (ycc 43 10 8 43)))⟩
def c_92_l0:Xv:=ybz [xB 27 .lss 26 25] 27 2 3 [xX 28 5 24 26,xA 29 5 28,yaq 8 [yba,.Xu 2 [],yba,yba,.Xu 1 []],xS 5 8 29] [8] (xR [xM 30 6,xA 31 5 8,ybv 32 f_157 31,xO 33 (.bslice .imm 5 (List.replicate 1 [.int .i64 0,.Xu 2 [],.int .i64 0,.int .i64 0,.Xu 1 []]) [(0,(.t 32))]),xO 34 (ycd .row 5 72 30 33),xM 6 34]) [xK 35 .add 26 1,xM 26 35]
def c_92_k1:Xv:=xR [xF 36 0 3,xL 37 36,xM 38 6,xO 39 (.bslice .row 1 (List.replicate 1 [.Xu 5 []]) [(0,(.t 38))]),xO 40 (ycd .row 1 24 37 39),xF 41 0 3,xS 1 41 40]
def c_92_k2:Xv:=xR [xK 42 .add 20 1,xM 20 42]
def c_92_l3:Xv:=ya1 [xB 21 .lss 20 19] 21 0 (yam 1 (yaa [xX 22 1 18 20,xL 23 22,xM 5 23] (ybe [xC 6 (.Xu 5 [])] [xM 24 5,xN 25 24,ybd 26] 2 c_92_l0 c_92_k1)) c_92_k2)
def c_92_l4:Xv:=ybz [xB 47 .lss 46 45] 47 4 5 [xX 48 2 44 46,xA 49 2 48,yaq 10 [yba,.Xu 1 []],xS 2 10 49] [10] (xD [xF 50 2 3,xL 51 50,xA 52 2 10,ybv 53 f_85 52,xO 54 (.bslice .imm 2 (List.replicate 1 [.int .i64 0,.Xu 1 []]) [(0,(.t 53))]),xO 55 (ycd .row 2 32 51 54),xF 56 2 3,xS 1 56 55]) [xK 57 .add 46 1,xM 46 57]
def c_92_l5:Xv:=ya5 [xB 62 .lss 61 60] 62 6 7 (yaa [xX 63 1 59 61,xL 64 63,xM 12 64] (xD [xF 65 3 3,xL 66 65,xM 67 12,ybv 68 f_150 67,xO 69 (.bslice .imm 1 (List.replicate 1 [.Xu 1 []]) [(0,(.t 68))]),xO 70 (ycd .app 1 24 66 69),xF 71 3 3,xS 1 71 70])) [xK 72 .add 61 1,xM 61 72]
def c_92_k6:Xv:=yb2 (xA 73 4 3) (xS 4 2 73)
def c_92_k7:Xv:=ybw [yce 58 3,xL 59 58,xN 60 59,ybd 61] 6 c_92_l5 c_92_k6
def c_92_k8:Xv:=ybw [yce 43 2,xL 44 43,xN 45 44,ybd 46] 4 c_92_l4 c_92_k7
def c_92:AFn:=⟨1,[.cell 2 true 4],yaa [xO 1 (yb6 0),yaq 2 [.Xu 1 [],.Xu 1 [],.Xu 2 [],.Xu 1 []]] (ybe [yce 13 1,xL 14 13,ya7 15 f_116 [.t 14],xO 16 (.build [.Xu 1 [],.Xu 1 [],.Xu 2 [],.Xu 1 []] [(1,1,(.t 15))]),yaq 3 [.Xu 1 [],.Xu 1 [],.Xu 2 [],.Xu 1 []],xS 4 3 16] [yce 17 0,xL 18 17,xN 19 18,ybd 20] 0 c_92_l3 c_92_k8)⟩
def c_93:AFn:=⟨3,[.tmp 6,.tmp 7],yag [xO 5 (yb6 2),ybd 6,ybd 7] (.block 0 (yai [ybt 11,xO 12 (.eqn false (.t 11) (.c .nilptr)),xM 13 12,ya8 14 13 0,yac 15 13 (yaz 14),yaw 16 13 14 15,yb4 17 13 16,yac 18 13 (ybc 17),xW 19 13 18,xM 10 19] 10 [ybd 6,xI 7 1] (yaj [ybt 21,yca 22,ya7 23 f_158 [.t 21,.t 22],ybq 24 23,xM 20 24] 20 [ybd 6,xI 7 8]))) (.seq (.seq (xD [ybt 25,ybo 26 25,xF 27 4 26,xA 28 9 27,yca 29,xA 30 4 5,yae 31 f_159 [.t 28,.t 29,.t 30],xM 8 31]) (yaj [xM 32 8,xK 33 .neq 32 0] 33 [xM 34 8,ybd 6,xM 7 34])) (ybn [ybt 35,ybo 36 35,xF 37 0 36,xF 38 0 37,xL 39 38,yca 40,xX 41 1 39 40,xL 42 41,xO 43 (.mkfunc (.func f_161) [] [.t 5]),ybj 44 f_160 42 43] 44 [ybd 6,xI 7 7] (yag [ybt 45,ybo 46 45,xF 47 0 46,xF 48 1 47,xL 49 48,yca 50,xX 51 1 49 50,xL 52 51,xM 9 52] (.seq (xD [ybt 53,ybo 54 53,xF 55 0 54,xF 56 0 55,xL 57 56,yca 58,xX 59 1 57 58,xL 60 59,xN 61 60,ybt 62,ybo 63 62,xF 64 4 63,xF 65 5 64,xL 66 65,yca 67,xX 68 6 66 67,xF 69 5 68,xL 70 69,xB 71 .geq 61 70,xM 72 71,ya8 73 72 9,ybl 74 72 .geq 73 1073741824,xW 75 72 74]) (yab 75 (yb2 (ybd 6) (xI 7 13)) .skip)) (.seq (xD [ybt 76,ybo 77 76,xF 78 13 77,xL 79 78,yca 80,xX 81 1 79 80,xL 82 81,xM 83 9,ybt 84,ybo 85 84,xF 86 0 85,xF 87 0 86,xL 88 87,yca 89,xX 90 1 88 89,xL 91 90,xN 92 91,⟨none,none,.update .i (.t 82) (.t 83) (.t 92)⟩]) (.seq (.region true [(4,19)] [⟨some 93,none,.mov (.t 0)⟩,⟨some 94,none,.nilchk (.t 93)⟩,⟨some 95,none,.faddr 0 (.t 94)⟩,⟨some 96,none,.faddr 0 (.t 95)⟩,⟨some 97,none,.load false 1 (.t 96)⟩,⟨some 98,none,.mov (.t 1)⟩,⟨some 99,none,.mov (.t 0)⟩,⟨some 100,none,.nilchk (.t 99)⟩,⟨some 101,none,.faddr 0 (.t 100)⟩,⟨some 102,none,.faddr 0 (.t 101)⟩,⟨some 103,none,.load false 1 (.t 102)⟩,⟨some 104,none,.mov (.t 1)⟩,⟨some 105,none,.iaddr 1 none (.t 103) (.t 104)⟩,⟨some 106,none,.load false 1 (.t 105)⟩,⟨some 107,none,.mov (.t 9)⟩,⟨some 108,none,.load true 4 (.t 5)⟩,⟨some 109,none,.pcall f_163 [.t 108]⟩,⟨some 110,none,.build [.int .i64 0,.Xu 2 [],.int .i64 0,.int .i64 0,.Xu 1 []] [(0,1,(.t 107)),(1,4,(.t 109))]⟩,⟨some 111,none,.bslice .imm 5 (List.replicate 1 [.int .i64 0,.Xu 2 [],.int .i64 0,.int .i64 0,.Xu 1 []]) [(0,(.t 110))]⟩,⟨some 112,none,.append .row 5 72 (.t 106) (.t 111)⟩,⟨some 113,none,.iaddr 1 none (.t 97) (.t 98)⟩,⟨none,none,.store 1 (.t 113) (.t 112)⟩] none) (ybm [ybt 114,ybo 115 114,xF 116 0 115,xF 117 1 116,xL 118 117,yca 119,xX 120 1 118 119,xL 121 120,xK 122 .add 121 1,xX 123 1 118 119,xS 1 123 122] [xM 124 9,xM 6 124,ybd 7]))))))⟩
def c_94:AFn:=⟨3,[.tmp 6],yaa [ybd 6] (yag [ybt 10,yca 11,xM 12 2,ya7 13 f_155 [.t 10,.t 11,.t 12],xM 9 13,xE 14 0 9,xE 15 1 9,xM 7 14,xM 8 15] (ycg [xM 16 8,xK 17 .eql 16 0] 17 (.seq (.region true [(4,17)] [⟨some 18,none,.mov (.t 0)⟩,⟨some 19,none,.nilchk (.t 18)⟩,⟨some 20,none,.faddr 0 (.t 19)⟩,⟨some 21,none,.faddr 0 (.t 20)⟩,⟨some 22,none,.load false 1 (.t 21)⟩,⟨some 23,none,.mov (.t 1)⟩,⟨some 24,none,.mov (.t 0)⟩,⟨some 25,none,.nilchk (.t 24)⟩,⟨some 26,none,.faddr 0 (.t 25)⟩,⟨some 27,none,.faddr 0 (.t 26)⟩,⟨some 28,none,.load false 1 (.t 27)⟩,⟨some 29,none,.mov (.t 1)⟩,⟨some 30,none,.iaddr 1 none (.t 28) (.t 29)⟩,⟨some 31,none,.load false 1 (.t 30)⟩,⟨some 32,none,.mov (.t 7)⟩,⟨some 33,none,.mov (.t 7)⟩,⟨some 34,none,.bin .add (.t 33) (.c (.int .i64 1))⟩,⟨some 35,none,.tcall f_164 [.t 31,.t 32,.t 34]⟩,⟨some 36,none,.iaddr 1 none (.t 22) (.t 23)⟩,⟨none,none,.store 1 (.t 36) (.t 35)⟩] none) (xR [ybt 37,yca 38,ya7 39 f_154 [.t 37,.t 38]]))) (ycc 40 8 6 40))⟩
def c_95:AFn:=⟨3,[.tmp 6],yag [xO 5 (yb6 2),ybd 6] (.block 0 (yai [ybt 9,xO 10 (.eqn false (.t 9) (.c .nilptr)),xM 11 10,ya8 12 11 0,yac 13 11 (yaz 12),yaw 14 11 14 13,yb4 15 11 14,yac 16 11 (ybc 15),xW 17 11 16,xM 8 17] 8 [xI 6 1] (yaj [ybt 19,yca 20,ya7 21 f_158 [.t 19,.t 20],ybq 22 21,xM 18 22] 18 [xI 6 8]))) (.seq (xD [ybt 23,ybo 24 23,xF 25 4 24,xA 26 9 25,yca 27,xA 28 2 5,yae 29 f_156 [.t 26,.t 27,.t 28],xM 7 29]) (.seq (ycg [xM 30 7,xK 31 .eql 30 0] 31 (xD [ybt 32,ybo 33 32,xF 34 0 33,xF 35 2 34,xL 36 35,yca 37,xA 38 2 5,ybv 39 f_85 38,xX 40 2 36 37,xS 2 40 39])) (ycc 41 7 6 41)))⟩
def c_99:AFn:=⟨1,[],yaa [xJ 1 0] (ybx [yce 2 0,xL 3 2,ybv 4 f_168 3,ybi 5 f_167 4 (yao 6),yae 6 f_166 [.t 5,yao 0,yao 0,yao 0]] [yce 7 1,xL 8 7,xN 9 8,xK 10 .gtr 9 8,ybi 11 f_167 10 (yao 12),yae 12 f_166 [.t 11,yao 0,yao 1,yao 0]] (ybx [yce 13 3,xL 14 13,xN 15 14,xK 16 .gtr 15 4,ybi 17 f_167 16 (yao 12),yae 18 f_166 [.t 17,yao 0,yao 3,yao 0]] [yce 19 4,xL 20 19,xN 21 20,xK 22 .gtr 21 16,ybi 23 f_167 22 (yao 12),yae 24 f_166 [.t 23,yao 0,yao 4,yao 0]] (xR [yce 25 5,xL 26 25,xN 27 26,xK 28 .gtr 27 12,ybi 29 f_167 28 (yao 12),yae 30 f_166 [.t 29,yao 0,yao 5,yao 0]])))⟩
def c_100_l0:Xv:=ybz [xB 12 .lss 11 10] 12 0 1 [xM 13 11,xX 14 2 9 11,xA 15 2 14,yaq 4 [.str [],.Xu 2 []],xM 3 13,xS 2 4 15] [4] (ybx [xA 16 2 4,ybv 17 f_171 16,xM 18 3,yae 19 f_166 [.t 17,yao 1,.t 18,yao 0]] [xF 20 0 4,xL 21 20,xO 22 (yap .eql 21 (.c (.str [109,101,116,97]))),ybi 23 f_167 22 (yao 6),xM 24 3,yae 25 f_166 [.t 23,yao 1,.t 24,yao 0]] (xR [xM 26 2,xM 27 3,ybj 28 f_172 26 27,ybi 29 f_167 28 (yao 7),xM 30 3,yae 31 f_166 [.t 29,yao 1,.t 30,yao 0]])) [xK 32 .add 11 1,xM 11 32]
def c_100:AFn:=⟨1,[],ybx [xJ 1 0] [yce 5 1,xL 6 5,ybi 7 f_169 6 (.c (.func (.func f_170) [] [])),xM 2 7] (yax [yce 8 1,xL 9 8,xN 10 9,ybd 11] 0 c_100_l0)⟩
def c_101_l0:Xv:=ybz [xB 20 .lss 19 18] 20 0 1 [xM 21 19,xX 22 2 17 19,xA 23 2 22,yaq 4 [.str [],yba],xM 3 21,xS 2 4 23] [4] (ybx [xF 24 0 4,xL 25 24,ybv 26 f_168 25,ybi 27 f_167 26 (yao 6),xM 28 3,yae 29 f_166 [.t 27,yao 2,.t 28,yao 0]] [xF 30 1 4,xL 31 30,ybv 32 f_175 31,ybi 33 f_167 32 (yao 10),xM 34 3,yae 35 f_166 [.t 33,yao 2,.t 34,yao 0]] (xR [xM 36 2,xM 37 3,ybj 38 f_172 36 37,ybi 39 f_167 38 (yao 7),xM 40 3,yae 41 f_166 [.t 39,yao 2,.t 40,yao 0]])) [xK 42 .add 19 1,xM 19 42]
def c_101_l1:Xv:=ybz [xK 48 .lss 47 3] 48 2 3 [xM 49 47,xO 50 (.idxa true 3 2 (.t 46) (.t 47)),yaq 6 [.str [],yba],xM 5 49,xS 2 6 50] [6] (.seq (xD [xM 51 5,yce 52 2,xL 53 52,xN 54 53,xB 55 .geq 51 54,xM 56 55,yaw 57 56 2 1,yb4 58 56 57,ya8 59 56 5,yac 60 56 (yby 2 none 58 (.t 59)),yac 61 56 (.load true 2 (.t 60)),yac 62 56 (.load true 2 (.t 6)),yac 63 56 (.eqs true true [.s,.i] (.t 61) (.t 62)),xW 64 56 63,ybi 65 f_167 64 (yao 5),xM 66 5]) (xR [yae 67 f_166 [.t 65,yao 2,.t 66,yao 0]])) [xK 68 .add 47 1,xM 47 68]
def c_101_k2:Xv:=yax [xO 43 (.build [.str [],.int .i64 0] [(0,1,(.c (.str [105,110]))),(1,1,(.c (.int .i64 8)))]),xO 44 (.build [.str [],.int .i64 0] [(0,1,(.c (.str [111,117,116]))),(1,1,(.c (.int .i64 8)))]),xO 45 (.build [.str [],.int .i64 0] [(0,1,(.c (.str [100,114,111,112]))),(1,1,(.c (.int .i64 1)))]),xO 46 (.build [.str [],.int .i64 0,.str [],.int .i64 0,.str [],.int .i64 0] [(0,2,(.t 43)),(2,2,(.t 44)),(4,2,(.t 45))]),ybd 47] 2 c_101_l1
def c_101:AFn:=⟨1,[],ybx [xJ 1 0] [yce 7 2,xL 8 7,xN 9 8,xK 10 .gtr 9 12,ybi 11 f_167 10 (yao 12),yae 12 f_166 [.t 11,yao 2,yao 0,yao 0]] (ybe [yce 13 2,xL 14 13,ybi 15 f_173 14 (.c (.func (.func f_174) [] [])),xM 2 15] [yce 16 2,xL 17 16,xN 18 17,ybd 19] 0 c_101_l0 c_101_k2)⟩
def c_102_l0:Xv:=ybz [xB 18 .lss 17 16] 18 0 1 [xM 19 17,xX 20 3 15 17,xA 21 3 20,yaq 4 [.str [],yba,yba],xM 3 19,xS 3 4 21] [4] (yaa [xA 22 3 4,ybv 23 f_178 22,xM 24 3,yae 25 f_166 [.t 23,yao 3,.t 24,yao 0]] (xR [xM 26 2,xM 27 3,ybj 28 f_172 26 27,ybi 29 f_167 28 (yao 7),xM 30 3,yae 31 f_166 [.t 29,yao 3,.t 30,yao 0]])) [xK 32 .add 17 1,xM 17 32]
def c_102_l1:Xv:=ya5 [xB 40 .lss 39 38] 40 2 3 (yaa [xM 41 39,xM 5 41] (ybx [xA 43 9 1,xM 44 5,ybj 45 f_181 43 44,xM 42 45,xE 46 0 42,xE 47 1 42,xM 6 46,xM 7 47] [xM 48 7,xM 49 5,xM 50 6,yae 51 f_166 [.t 48,yao 4,.t 49,.t 50]] (xR [xM 52 2,xM 53 5,ybj 54 f_172 52 53,ybi 55 f_167 54 (yao 7),xM 56 5,yae 57 f_166 [.t 55,yao 4,.t 56,yao 0]]))) [xK 58 .add 39 1,xM 39 58]
def c_102_l2:Xv:=ya5 [xB 66 .lss 65 64] 66 4 5 (yaa [xM 67 65,xM 8 67] (ybx [xA 69 9 1,xM 70 8,ybj 71 f_184 69 70,xM 68 71,xE 72 0 68,xE 73 1 68,xM 9 72,xM 10 73] [xM 74 10,xM 75 8,xM 76 9,yae 77 f_166 [.t 74,yao 5,.t 75,.t 76]] (xR [xM 78 2,xM 79 8,ybj 80 f_172 78 79,ybi 81 f_167 80 (yao 7),xM 82 8,yae 83 f_166 [.t 81,yao 5,.t 82,yao 0]]))) [xK 84 .add 65 1,xM 65 84]
def c_102_k3:Xv:=yaa [yce 59 5,xL 60 59,ybi 61 f_182 60 (.c (.func (.func f_183) [] [])),xM 2 61] (yax [yce 62 5,xL 63 62,xN 64 63,ybd 65] 4 c_102_l2)
def c_102_k4:Xv:=ybe [yce 33 4,xL 34 33,ybi 35 f_179 34 (.c (.func (.func f_180) [] [])),xM 2 35] [yce 36 4,xL 37 36,xN 38 37,ybd 39] 2 c_102_l1 c_102_k3
def c_102:AFn:=⟨1,[],yaa [xJ 1 0] (ybe [yce 11 3,xL 12 11,ybi 13 f_176 12 (.c (.func (.func f_177) [] [])),xM 2 13] [yce 14 3,xL 15 14,xN 16 15,ybd 17] 0 c_102_l0 c_102_k4)⟩
def c_103:AFn:=⟨1,[],ybx [xJ 1 0] [xA 7 9 1,ybv 8 f_185 7,xM 6 8,xE 9 0 6,xE 10 1 6,xE 11 2 6,xM 2 9,xM 3 10,xM 4 11] (ybx [xM 12 4,xM 13 2,xM 14 3,yae 15 f_166 [.t 12,yao 6,.t 13,.t 14]] [xA 17 9 1,ybv 18 f_186 17,xM 16 18,xE 19 0 16,xE 20 1 16,xM 5 19,xM 4 20] (ybx [xM 21 4,xM 22 5,yae 23 f_166 [.t 21,yao 7,.t 22,yao 0]] [xA 25 9 1,ybv 26 f_187 25,xM 24 26,xE 27 0 24,xE 28 1 24,xM 5 27,xM 4 28] (xR [xM 29 4,xM 30 5,yae 31 f_166 [.t 29,yao 8,.t 30,yao 0]])))⟩
def c_104_l0:Xv:=ybz [xB 11 .lss 10 9] 11 0 1 [xX 12 2 8 10,xA 13 2 12,yaq 7 [.str [],.Xu 2 []],xS 2 7 13] [7] (xR [xM 14 5,yca 15,xA 16 2 7,xO 17 (yb9 15 [.t 16]),xO 18 (.bslice .imm 2 (List.replicate 1 [.str [],.Xu 2 []]) [(0,(.t 17))]),xO 19 (ycd .app 2 40 14 18),xM 5 19]) [xK 20 .add 10 1,xM 10 20]
def c_104_k1:Xv:=ycc 21 5 4 21
def c_104:AFn:=⟨2,[.tmp 4],yaa [xC 4 (.Xu 2 [])] (ybe [ych 5 2] [ybt 8,xN 9 8,ybd 10] 0 c_104_l0 c_104_k1)⟩
def c_105:AFn:=⟨1,[.cell 2 true 2],yaa [xO 1 (yb6 0),yaq 2 [.str [],.Xu 2 []]] (ybm [yce 3 1,xL 4 3,ybv 5 f_106 4,yce 6 1,xS 1 6 5] [xA 7 2 1,xS 2 2 7])⟩
def c_108_l0:Xv:=ybz [xB 11 .lss 10 9] 11 0 1 [xX 12 3 8 10,xA 13 3 12,yaq 7 [.str [],.Xu 2 [],.Xu 7 []],xS 3 7 13] [7] (xR [xM 14 5,yca 15,xA 16 3 7,xO 17 (yb9 15 [.t 16]),xO 18 (.bslice .imm 3 (List.replicate 1 [.str [],.Xu 2 [],.Xu 7 []]) [(0,(.t 17))]),xO 19 (ycd .app 3 64 14 18),xM 5 19]) [xK 20 .add 10 1,xM 10 20]
def c_108_k1:Xv:=ycc 21 5 4 21
def c_108:AFn:=⟨2,[.tmp 4],yaa [xC 4 (.Xu 3 [])] (ybe [ych 5 3] [ybt 8,xN 9 8,ybd 10] 0 c_108_l0 c_108_k1)⟩
def c_109:AFn:=⟨1,[.cell 2 true 3],yag [xO 1 (yb6 0),yaq 2 [.str [],.Xu 2 [],.Xu 7 []]] (xD [yce 3 1,xL 4 3,ybv 5 f_106 4,yce 6 2,xL 7 6,ybi 8 f_188 7 (.c (.func (.func f_189) [] [])),yce 9 1,xS 1 9 5,yce 10 2,xS 1 10 8]) (yb2 (xA 11 3 1) (xS 3 2 11))⟩
def c_110_l0:Xv:=ybz [xB 11 .lss 10 9] 11 0 1 [xX 12 6 8 10,xA 13 6 12,yaq 7 [.str [],.Xu 3 [],.Xu 1 [],yba,.Xu 1 [],yba],xS 6 7 13] [7] (xR [xM 14 5,yca 15,xA 16 6 7,xO 17 (yb9 15 [.t 16]),xO 18 (.bslice .imm 6 (List.replicate 1 [.str [],.Xu 3 [],.Xu 1 [],.int .i64 0,.Xu 1 [],.int .i64 0]) [(0,(.t 17))]),xO 19 (ycd .app 6 104 14 18),xM 5 19]) [xK 20 .add 10 1,xM 10 20]
def c_110_k1:Xv:=ycc 21 5 4 21
def c_110:AFn:=⟨2,[.tmp 4],yaa [xC 4 (.Xu 6 [])] (ybe [ych 5 6] [ybt 8,xN 9 8,ybd 10] 0 c_110_l0 c_110_k1)⟩
def c_111:AFn:=⟨1,[.cell 2 true 6],yag [xO 1 (yb6 0),yaq 2 [.str [],.Xu 3 [],.Xu 1 [],yba,.Xu 1 [],yba]] (xD [yce 3 1,xL 4 3,ybv 5 f_190 4,yce 6 2,xL 7 6,ybv 8 f_116 7,yce 9 3,xF 10 1 9,xL 11 10,ybv 12 f_150 11,yce 13 1,xS 1 13 5,yce 14 2,xS 1 14 8,yce 15 3,xF 16 1 15,xS 1 16 12]) (yb2 (xA 17 6 1) (xS 6 2 17))⟩
def c_112_l0:Xv:=ybz [xB 11 .lss 10 9] 11 0 1 [xX 12 7 8 10,xA 13 7 12,yaq 7 [.str [],.Xu 1 [],.bool false,yba,yba,.Xu 3 [],yba],xS 7 7 13] [7] (xR [xM 14 5,yca 15,xA 16 7 7,xO 17 (yb9 15 [.t 16]),xO 18 (.bslice .imm 7 (List.replicate 1 [.str [],.Xu 1 [],.bool false,.int .i64 0,.int .i64 0,.Xu 3 [],.int .i64 0]) [(0,(.t 17))]),xO 19 (ycd .app 7 96 14 18),xM 5 19]) [xK 20 .add 10 1,xM 10 20]
def c_112_k1:Xv:=ycc 21 5 4 21
def c_112:AFn:=⟨2,[.tmp 4],yaa [xC 4 (.Xu 7 [])] (ybe [ych 5 7] [ybt 8,xN 9 8,ybd 10] 0 c_112_l0 c_112_k1)⟩
def c_113:AFn:=⟨1,[.cell 2 true 7],yag [xO 1 (yb6 0),yaq 2 [.str [],.Xu 1 [],.bool false,yba,yba,.Xu 3 [],yba]] (xD [yce 3 1,xL 4 3,ybv 5 f_116 4,yce 6 5,xL 7 6,ybv 8 f_191 7,yce 9 1,xS 1 9 5,yce 10 5,xS 1 10 8]) (yb2 (xA 11 7 1) (xS 7 2 11))⟩
def c_114_l0:Xv:=ybz [xB 11 .lss 10 9] 11 0 1 [xX 12 5 8 10,xA 13 5 12,yaq 7 [yba,yba,.Xu 3 [],.Xu 5 [],.Xu 5 []],xS 5 7 13] [7] (xR [xM 14 5,yca 15,xA 16 5 7,xO 17 (yb9 15 [.t 16]),xO 18 (.bslice .imm 5 (List.replicate 1 [.int .i64 0,.int .i64 0,.Xu 3 [],.Xu 5 [],.Xu 5 []]) [(0,(.t 17))]),xO 19 (ycd .app 5 88 14 18),xM 5 19]) [xK 20 .add 10 1,xM 10 20]
def c_114_k1:Xv:=ycc 21 5 4 21
def c_114:AFn:=⟨2,[.tmp 4],yaa [xC 4 (.Xu 5 [])] (ybe [ych 5 5] [ybt 8,xN 9 8,ybd 10] 0 c_114_l0 c_114_k1)⟩
def c_115:AFn:=⟨1,[.cell 2 true 5],yag [xO 1 (yb6 0),yaq 2 [yba,yba,.Xu 3 [],.Xu 5 [],.Xu 5 []]] (xD [yce 3 2,xL 4 3,ybv 5 f_192 4,yce 6 3,xL 7 6,ybi 8 f_114 7 (.c (.func (.func f_115) [] [])),yce 9 4,xL 10 9,ybi 11 f_114 10 (.c (.func (.func f_115) [] [])),yce 12 2,xS 1 12 5,yce 13 3,xS 1 13 8,yce 14 4,xS 1 14 11]) (yb2 (xA 15 5 1) (xS 5 2 15))⟩
def c_117_l0:Xv:=ycb [xM 9 6,ybt 10,xN 11 10,xB 12 .lss 9 11,xM 13 12,ybp 14 13 5,yb1 15 13 .lss 14 (yao 100),xV 16 13 15] 16 (.exit 0) (ya4 1 (ybn [yca 19,xK 20 .eql 19 0,xM 21 20,ya8 22 21 0,ya8 23 21 6,yac 24 21 (yby 5 none 22 (.t 23)),yaw 25 21 2 24,yb4 26 21 25,ybg 27 21 26,ybl 28 21 .gtr 27 40,xW 29 21 28] 29 [xI 4 100] (xD [xM 30 5,ybt 31,xM 32 6,xX 33 5 31 32,xF 34 3 33,xL 35 34,yca 36,xK 37 .sub 36 1,ybj 38 f_117 35 37,xB 39 .add 30 38,ybt 40,xM 41 6,xX 42 5 40 41,xF 43 4 42,xL 44 43,yca 45,xK 46 .sub 45 1,ybj 47 f_117 44 46,xB 48 .add 39 47,xM 5 48])) [xM 17 6,xK 18 .add 17 1,xM 6 18])
def c_117_k1:Xv:=ycc 49 5 4 49
def c_117:AFn:=⟨2,[.tmp 4],yaa [yb5] (ybe [ybt 7,xN 8 7,xM 5 8] [ybd 6] 0 c_117_l0 c_117_k1)⟩
def c_118_l0:Xv:=ycb [xM 14 3,yce 15 1,xL 16 15,xN 17 16,xB 18 .lss 14 17] 18 (.exit 0) (ya4 1 (yaj [yce 21 1,xL 22 21,xM 23 3,xX 24 2 22 23,xF 25 0 24,xL 26 25,xO 27 (.slen (.t 26)),xK 28 .gtr 27 30] 28 [ya2 2]) [xM 19 3,xK 20 .add 19 1,xM 3 20])
def c_118_k1:Xv:=yad [ycf 2]
def c_118:AFn:=⟨1,[.tmp 2],ya9 [xJ 1 0,ya2 2] [yce 4 0,xL 5 4,xO 6 (.slen (.t 5)),xK 7 .gtr 6 30,xM 8 7,yaw 9 8 1 1,yb4 10 8 9,ybg 11 8 10,ybl 12 8 .gtr 11 20,xW 13 8 12] 13 [ya2 2] (ybw [ybd 3] 0 c_118_l0 c_118_k1)⟩
def c_119_l0:Xv:=ycb [xM 20 3,yce 21 2,xL 22 21,xN 23 22,xB 24 .lss 20 23] 24 (.exit 0) (ya4 1 (yaj [yce 27 2,xL 28 27,xM 29 3,xX 30 7 28 29,xF 31 5 30,xL 32 31,xN 33 32,xK 34 .gtr 33 40,xM 35 34,yaw 36 35 2 1,yb4 37 35 36,ya8 38 35 3,yac 39 35 (yby 7 none 37 (.t 38)),yaw 40 35 6 39,yb4 41 35 40,ybg 42 35 41,ybl 43 35 .gtr 42 40,xW 44 35 43] 44 [ycf 2]) [xM 25 3,xK 26 .add 25 1,xM 3 26])
def c_119_k1:Xv:=yad [ya2 2]
def c_119:AFn:=⟨1,[.tmp 2],ya9 [xJ 1 0,ya2 2] [yce 4 1,xL 5 4,xN 6 5,xK 7 .gtr 6 8,xM 8 7,yaw 9 8 2 1,yb4 10 8 9,ybg 11 8 10,ybl 12 8 .gtr 11 16,xW 13 8 12,xM 14 13,yaw 15 14 0 1,yb4 16 14 15,yac 17 14 (.slen (.t 16)),ybl 18 14 .gtr 17 60,xW 19 14 18] 19 [ycf 2] (ybw [ybd 3] 0 c_119_l0 c_119_k1)⟩
def c_120:AFn:=⟨1,[.tmp 2],ybm [xJ 1 0,ya2 2] [yce 3 1,xL 4 3,xN 5 4,xK 6 .gtr 5 8,xM 7 6,yaw 8 7 5 1,yb4 9 7 8,ybg 10 7 9,ybl 11 7 .gtr 10 12,xW 12 7 11,xM 13 12,yaw 14 13 0 1,yb4 15 13 14,yac 16 13 (.slen (.t 15)),ybl 17 13 .gtr 16 60,xW 18 13 17,xM 2 18]⟩
def c_122_l0:Xv:=ya5 [xB 38 .lss 37 36] 38 0 1 (yaa [xX 39 1 35 37,xL 40 39,xM 7 40] (xR [xM 41 5,xO 42 (yap .shl 41 (.c (.int .u64 8))),xM 43 7,xO 44 (yb0 .u32 43),xB 45 .or 42 44,xM 5 45])) [xK 46 .add 37 1,xM 37 46]
def c_122_k1:Xv:=ybm [ybt 47,ybt 48,ybo 49 48,xF 50 0 49,xL 51 50,yca 52,xO 53 (.slc 1 (.t 51) (some (.t 52)) none none),ybo 54 47,xF 55 0 54,xS 1 55 53] [xM 56 5,xM 4 56]
def c_122:AFn:=⟨2,[.tmp 4],yag [xC 4 (ybs 0)] (ycg [ybt 8,ybo 9 8,xF 10 1 9,xL 11 10,xK 12 .eql 11 0,xM 13 12,ybp 14 13 0,yar 15 13 (yaz 14),yb7 16 13 0 15,yar 17 13 (yav 1 16),yar 18 13 (ya6 17),ybp 19 13 1,yb1 20 13 .lss 18 (.t 19),xV 21 13 20] 21 (xR [ybt 22,ybo 23 22,xF 24 1 23,⟨none,none,.store 1 (.t 24) (.c (.int .i64 3))⟩])) (ybn [ybt 25,ybo 26 25,xF 27 1 26,xL 28 27,xK 29 .neq 28 0] 29 [xC 4 (ybs 0)] (ybe [xC 5 (ybs 0)] [ybt 30,ybo 31 30,xF 32 0 31,xL 33 32,yca 34,xO 35 (.slc 1 (.t 33) none (some (.t 34)) none),xN 36 35,ybd 37] 0 c_122_l0 c_122_k1))⟩
def c_123:AFn:=⟨3,[],ycg [ybt 6,ybo 7 6,xF 8 1 7,xL 9 8,xK 10 .eql 9 0,xM 11 10,ybp 12 11 1,yar 13 11 (ybc 12),xV 14 11 13] 14 (xR [ybt 15,xM 16 2,ybo 17 15,xF 18 1 17,xS 1 18 16])⟩
def c_125:AFn:=⟨1,[.tmp 2],ybm [xC 2 (.Xu 1 [])] [ybt 3,xO 4 (yap .shr 3 (.c (.int .u64 24))),xO 5 (yb0 .u8 4),ybt 6,xO 7 (yap .shr 6 (.c (.int .u64 16))),xO 8 (yb0 .u8 7),ybt 9,xO 10 (yap .shr 9 (.c (.int .u64 8))),xO 11 (yb0 .u8 10),ybt 12,xO 13 (yb0 .u8 12),xO 14 (.bslice .imm 1 (List.replicate 4 [.int .u8 0]) [(0,(.t 5)),(1,(.t 8)),(2,(.t 11)),(3,(.t 13))]),xM 2 14]⟩
def c_126_l0:Xv:=ya5 [xB 14 .lss 13 12] 14 0 1 (yaa [xX 15 1 11 13,xL 16 15,xM 6 16] (xR [xM 17 4,xM 18 6,xO 19 (.tcallv (.t 17) [.t 18])])) [xK 20 .add 13 1,xM 13 20]
def c_126_k1:Xv:=xR [ybt 21,ybo 22 21,xF 23 1 22,xL 24 23,yca 25,xN 26 25,xB 27 .add 24 26,ybo 28 21,xF 29 1 28,xS 1 29 27]
def c_126:AFn:=⟨2,[],ybe [ybt 7,ybo 8 7,xF 9 0 8,xO 10 (.mkfunc (.func f_195) [.t 9] []),xM 4 10] [yca 11,xN 12 11,ybd 13] 0 c_126_l0 c_126_k1⟩
def c_127:AFn:=⟨1,[.tmp 2],ybm [ya2 2] [ybt 3,xK 4 .geq 3 0,xM 5 4,ybp 6 5 0,yb1 7 5 .leq 6 (yao 65535),xV 8 5 7,xM 2 8]⟩
def c_128:AFn:=⟨1,[.tmp 2],ybm [xO 1 (yb6 0),ya2 2] [yce 3 0,xL 4 3,ybv 5 f_127 4,xM 6 5,yb7 7 6 1 1,yar 8 6 (yav 1 7),yar 9 6 (ya6 8),yb1 10 6 .leq 9 (yao 255),xV 11 6 10,xM 2 11]⟩
def c_129_l0:Xv:=ycb [xM 10 7,xK 11 .geq 10 0] 11 (.exit 0) (ya4 1 (xR [ybt 14,yca 15,xM 16 7,xO 17 (.bin .mul (yao 8) (.t 16)),xB 18 .shr 15 17,xO 19 (yb0 .u8 18),xO 20 (.bslice .imm 1 (List.replicate 1 [.int .u8 0]) [(0,(.t 19))]),xO 21 (ycd .app 1 1 14 20),xM 0 21]) [xM 12 7,xK 13 .sub 12 1,xM 7 13])
def c_129_k1:Xv:=yb3 (ybt 22) 6 22
def c_129:AFn:=⟨3,[.tmp 6],ybe [xC 6 (.Xu 1 [])] [xM 8 2,xK 9 .sub 8 1,xM 7 9] 0 c_129_l0 c_129_k1⟩
def c_130_l0:Xv:=ya5 [xB 22 .lss 21 20] 22 0 1 (yaa [xX 23 1 19 21,xL 24 23,xM 6 24] (xR [ybt 25,xM 26 6,xO 27 (yb0 .i64 26),ya7 28 f_129 [.t 25,.t 27,yao 4],xM 0 28])) [xK 29 .add 21 1,xM 21 29]
def c_130_k1:Xv:=yb3 (ybt 30) 4 30
def c_130:AFn:=⟨2,[.tmp 4],ybx [xO 3 (yb6 1),xC 4 (.Xu 1 [])] [ybt 7,xF 8 0 3,xL 9 8,ya7 10 f_129 [.t 7,.t 9,yao 2],xM 0 10] (ybe [ybt 11,xF 12 1 3,xL 13 12,xN 14 13,xO 15 (yb0 .u8 14),xO 16 (.bslice .imm 1 (List.replicate 1 [.int .u8 0]) [(0,(.t 15))]),xO 17 (ycd .app 1 1 11 16),xM 0 17] [xF 18 1 3,xL 19 18,xN 20 19,ybd 21] 0 c_130_l0 c_130_k1)⟩
def c_149:AFn:=⟨1,[.tmp 2],ybm [xJ 1 0,ya2 2] [yce 3 2,xL 4 3,xK 5 .geq 4 1,xM 6 5,yb7 7 6 2 1,yar 8 6 (yav 1 7),yb1 9 6 .leq 8 (yao 64),xV 10 6 9,xM 2 10]⟩
def c_152_l0:Xv:=ybz [xB 29 .lss 28 27] 29 0 1 [xX 30 5 26 28,xA 31 5 30,yaq 13 [yba,.Xu 2 [],yba,yba,.Xu 1 []],xS 5 13 31] [13] (ybn [xF 32 0 13,xL 33 32,xM 34 11,xB 35 .leq 33 34] 35 [xI 10 14] (xR [xF 36 0 13,xL 37 36,xM 11 37])) [xK 38 .add 28 1,xM 28 38]
def c_152_l1:Xv:=ybz [xB 53 .lss 52 51] 53 2 3 [xM 54 52,xX 55 5 50 52,xA 56 5 55,yaq 15 [yba,.Xu 2 [],yba,yba,.Xu 1 []],xM 14 54,xS 5 15 56] [15] (.seq (yb8 [xA 57 9 5,yca 58,xF 59 1 15,xA 60 4 59,yae 61 f_159 [.t 57,.t 58,.t 60],xM 16 61] [xM 62 16,xK 63 .neq 62 0] 63 [xM 64 16,xM 10 64]) (yaj [xM 65 2,xM 66 14,xO 67 (.slc 5 (.t 65) none (some (.t 66)) none),xO 68 (.mkfunc (.func f_215) [] [.t 15]),ybj 69 f_160 67 68] 69 [xI 10 7])) [xK 70 .add 52 1,xM 52 70]
def c_152_k2:Xv:=yad [xA 71 9 5,yca 72,xA 73 2 9,yae 74 f_156 [.t 71,.t 72,.t 73],xM 10 74]
def c_152_k3:Xv:=ybn [xM 39 3,xM 40 11,xB 41 .leq 39 40,xM 42 41,ya8 43 42 3,ybl 44 42 .lss 43 1,xW 45 42 44,xM 46 45,ya8 47 46 3,ybl 48 46 .gtr 47 1073741824,xW 49 46 48] 49 [xI 10 14] (ybw [xM 50 2,xN 51 50,ybd 52] 2 c_152_l1 c_152_k2)
def c_152:AFn:=⟨5,[.tmp 10],ya9 [xJ 5 0,xJ 9 4,ybd 10] [xM 17 2,xN 18 17,xF 19 5 5,xL 20 19,yca 21,xX 22 6 20 21,xF 23 5 22,xL 24 23,xB 25 .gtr 18 24] 25 [xI 10 12] (ybe [ybd 11] [xM 26 2,xN 27 26,ybd 28] 0 c_152_l0 c_152_k3)⟩
def c_153_l0:Xv:=ya5 [xB 18 .lss 17 16] 18 0 1 (yb8 [xM 19 17,xX 20 1 15 17,xL 21 20,xM 5 19,xM 6 21] [xM 22 6,xN 23 22,xF 24 3 2,xL 25 24,xM 26 5,xX 27 3 25 26,xF 28 2 27,xL 29 28,xB 30 .neq 23 29] 30 [xI 4 2]) [xK 31 .add 17 1,xM 17 31]
def c_153_l1:Xv:=ya5 [xB 35 .lss 34 33] 35 2 3 (yag [xM 36 34,xX 37 1 32 34,xL 38 37,xM 7 36,xM 8 38] (xD [xM 39 8,xN 40 39,xK 41 .gtr 40 0,xM 42 41,ybp 43 42 8,yar 44 42 (.pcall f_216 [.t 43]),yb7 45 42 3 2,yar 46 42 (yav 1 45),ybp 47 42 7,yar 48 42 (yby 3 none 46 (.t 47)),yb7 49 42 1 48,yar 50 42 (yav 1 49),yar 51 42 (.pcall f_217 [.t 50]),yb1 52 42 .gtr 44 (.t 51),xV 53 42 52]) (yab 53 (yad [xI 4 9]) .skip)) [xK 54 .add 34 1,xM 34 54]
def c_153_k2:Xv:=yad [yb5]
def c_153_k3:Xv:=ybw [yca 32,xN 33 32,ybd 34] 2 c_153_l1 c_153_k2
def c_153:AFn:=⟨2,[.tmp 4],ya9 [xJ 2 0,yb5] [yca 9,xN 10 9,xF 11 3 2,xL 12 11,xN 13 12,xB 14 .neq 10 13] 14 [xI 4 2] (ybw [yca 15,xN 16 15,ybd 17] 0 c_153_l0 c_153_k3)⟩
def c_154_l0:Xv:=ybz [xB 23 .lss 22 21] 23 0 1 [xM 24 22,xX 25 5 20 22,xA 26 5 25,yaq 5 [yba,.Xu 2 [],yba,yba,.Xu 1 []],xM 4 24,xS 5 5 26] [5] (xD [ybt 27,ybo 28 27,xF 29 13 28,xL 30 29,yca 31,xX 32 1 30 31,xL 33 32,xF 34 0 5,xL 35 34,xM 36 4,⟨none,none,.update .i (.t 33) (.t 35) (.t 36)⟩]) [xK 37 .add 22 1,xM 22 37]
def c_154:AFn:=⟨2,[],yaa [ybt 6,ybo 7 6,xF 8 13 7,xL 9 8,yca 10,xO 11 .mkmap,xX 12 1 9 10,xS 1 12 11] (yax [ybt 13,ybo 14 13,xF 15 0 14,xF 16 0 15,xL 17 16,yca 18,xX 19 1 17 18,xL 20 19,xN 21 20,ybd 22] 0 c_154_l0)⟩
def c_155:AFn:=⟨3,[.tmp 6,.tmp 7],yag [ybd 6,ybd 7] (.block 0 (yai [ybt 11,xO 12 (.eqn false (.t 11) (.c .nilptr)),xM 13 12,ya8 14 13 0,yac 15 13 (yaz 14),yaw 16 13 14 15,yb4 17 13 16,yac 18 13 (ybc 17),xW 19 13 18,xM 10 19] 10 [ybd 6,xI 7 1] (yaj [ybt 21,yca 22,ya7 23 f_158 [.t 21,.t 22],ybq 24 23,xM 20 24] 20 [ybd 6,xI 7 8]))) (ya9 [ybt 26,ybo 27 26,xF 28 13 27,xL 29 28,yca 30,xX 31 1 29 30,xL 32 31,xM 33 2,xO 34 (.lookup .i (.int .i64 0) true (.t 32) (.t 33)),xM 25 34,xE 35 0 25,xE 36 1 25,xM 8 35,xM 9 36] [xM 37 9,ybq 38 37] 38 [ybd 6,xI 7 8] (yad [xM 39 8,xM 6 39,ybd 7]))⟩
def c_156:AFn:=⟨3,[.tmp 6],ya9 [xJ 3 0,xJ 5 2,ybd 6] [xA 7 9 3,yca 8,xF 9 0 5,xL 10 9,yae 11 f_218 [.t 7,.t 8,.t 10],ybq 12 11] 12 [xI 6 8] (yad [xA 13 9 3,xA 14 2 5,ybj 15 f_219 13 14,xM 6 15])⟩
def c_157:AFn:=⟨1,[.cell 2 true 5],yag [xJ 1 0,yaq 2 [yba,.Xu 2 [],yba,yba,.Xu 1 []]] (xD [yce 3 0,xL 4 3,yce 5 1,xA 6 4 5,ybv 7 f_163 6,xO 8 (.build [.int .i64 0,.Xu 2 [],.int .i64 0,.int .i64 0,.Xu 1 []] [(0,1,(.t 4)),(1,4,(.t 7))]),xS 5 2 8]) .ret⟩
def c_158:AFn:=⟨2,[.tmp 4],ybm [ya2 4] [yca 5,xK 6 .geq 5 0,xM 7 6,ybp 8 7 1,ybp 9 7 0,yar 10 7 (yaz 9),yb7 11 7 0 10,yb7 12 7 0 11,yar 13 7 (yav 1 12),yar 14 7 (ya6 13),yb1 15 7 .lss 8 (.t 14),xV 16 7 15,xM 4 16]⟩
def c_159_l0:Xv:=ybz [xB 42 .lss 41 40] 42 0 1 [xM 43 41,xX 44 2 39 41,xA 45 2 44,yaq 12 [ybs 0,ybs 0],xM 11 43,xS 2 12 45] [12] (.seq (xD [xA 46 2 12,xM 47 9,xM 48 11,xX 49 3 47 48,xF 50 2 49,xL 51 50,xM 52 10,xM 53 11,xX 54 1 52 53,xL 55 54,yae 56 f_221 [.t 46,.t 51,.t 55],xM 13 56]) (yaj [xM 57 13,xK 58 .neq 57 0] 58 [xM 59 13,xM 6 59])) [xK 60 .add 41 1,xM 41 60]
def c_159_k1:Xv:=yam 2 (yai [xF 62 1 5,xL 63 62,xK 64 .lss 63 0,xM 65 64,yaw 66 65 1 5,yb4 67 65 66,ybl 68 65 .gtr 67 255,xW 69 65 68,xM 61 69] 61 [xI 6 9] (yai [xF 71 1 5,xL 72 71,xK 73 .neq 72 0,xM 74 73,yar 75 74 (.load true 9 (.t 3)),ybp 76 74 1,yar 77 74 (.pcall f_222 [.t 75,.t 76]),yb1 78 74 .neq 77 (yao 3),xV 79 74 78,xM 70 79] 70 [xI 6 11] (yaj [xA 81 9 3,yca 82,xF 83 2 5,xF 84 0 83,xL 85 84,yae 86 f_218 [.t 81,.t 82,.t 85],ybq 87 86,xM 80 87] 80 [xI 6 8]))) (yad [xA 88 9 3,xF 89 2 5,xA 90 2 89,ybj 91 f_219 88 90,xM 6 91])
def c_159:AFn:=⟨3,[.tmp 6],yag [xJ 3 0,xJ 5 2,ybd 6] (yb8 [xA 15 9 3,yca 16,ybj 17 f_184 15 16,xM 14 17,xE 18 0 14,xE 19 1 14,xM 7 18,xM 8 19] [xM 20 8,xK 21 .neq 20 0] 21 [xM 22 8,xM 6 22]) (.seq (xD [xF 23 5 3,xL 24 23,yca 25,xX 26 6 24 25,xF 27 1 26,xL 28 27,xA 29 9 3,yca 30,ybj 31 f_220 29 30,xM 9 28,xM 10 31]) (ybn [xF 32 0 5,xL 33 32,xN 34 33,xM 35 9,xN 36 35,xB 37 .neq 34 36] 37 [xI 6 2] (ybw [xF 38 0 5,xL 39 38,xN 40 39,ybd 41] 0 c_159_l0 c_159_k1)))⟩
def c_160:AFn:=⟨2,[.tmp 4],ybm [ya2 4] [ybt 5,yca 6,ybj 7 f_223 5 6,xK 8 .geq 7 0,xM 4 8]⟩
def c_161:AFn:=⟨2,[.tmp 3],ybm [xO 2 (yb6 0),ya2 3] [xF 4 1 2,xA 5 4 4,xA 6 4 1,ybj 7 f_162 5 6,xM 3 7]⟩
def c_162_l0:Xv:=ya5 [xB 25 .lss 24 23] 25 0 1 (yag [xM 26 24,xX 27 2 22 24,xA 28 2 27,yaq 6 [ybs 0,ybs 0],xM 5 26,xS 2 6 28] (xD [xA 29 2 6,xF 30 0 3,xL 31 30,xM 32 5,xX 33 2 31 32,xA 34 2 33,xO 35 (.eqs true true [.i,.i] (.t 29) (.t 34))]) (yab 35 (yad [ya2 4]) .skip)) [xK 36 .add 24 1,xM 24 36]
def c_162_k1:Xv:=yad [ycf 4]
def c_162:AFn:=⟨2,[.tmp 4],ya9 [xO 2 (yb6 0),xO 3 (yb6 1),ya2 4] [xF 7 1 2,xL 8 7,xF 9 1 3,xL 10 9,xB 11 .neq 8 10,xM 12 11,yaw 13 12 0 2,yb4 14 12 13,ybg 15 12 14,yaw 16 12 0 3,yb4 17 12 16,ybg 18 12 17,ya3 19 12 .neq 15 (.t 18),xW 20 12 19] 20 [ya2 4] (ybw [xF 21 0 2,xL 22 21,xN 23 22,ybd 24] 0 c_162_l0 c_162_k1)⟩
def c_163:AFn:=⟨1,[.cell 2 true 4],yag [xJ 1 0,yaq 2 [.Xu 2 [],yba,yba,.Xu 1 []]] (xD [yce 3 0,xL 4 3,ybv 5 f_224 4,yce 6 1,xL 7 6,yce 8 2,xA 9 2 8,ybv 10 f_85 9,xO 11 (.build [.Xu 2 [],.int .i64 0,.int .i64 0,.Xu 1 []] [(0,1,(.t 5)),(1,1,(.t 7)),(2,2,(.t 10))]),xS 4 2 11]) .ret⟩
def c_164:AFn:=⟨3,[.tmp 6],yaa [xC 6 (.Xu 5 [])] (ya9 [ybt 8,yca 9,xM 10 2,ybt 11,xN 12 11,xO 13 (.slcH 5 (.t 8) (some (.t 9)) (some (.t 10)) (some (.t 12)))] [yca 14,xM 15 2,xB 16 .eql 14 15] 16 [ybt 17,xM 6 17] (yag [ybt 18,xN 19 18,xM 7 19] (xD [ybt 20,yca 21,xO 22 (.slc 5 (.t 20) none (some (.t 21)) none),ybt 23,xM 24 2,xO 25 (.slc 5 (.t 23) (some (.t 24)) none none),xO 26 (ycd .app 5 72 22 25),xM 0 26]) (ybm [ybt 27,ybt 28,xN 29 28,xM 30 7,xO 31 (.slcH 5 (.t 27) (some (.t 29)) (some (.t 30)) none),⟨none,none,.clear [.int .i64 0,.Xu 2 [],.int .i64 0,.int .i64 0,.Xu 1 []] (.t 31)⟩] [ybt 32,xM 6 32])))⟩
def c_166:AFn:=⟨4,[],ycg [ybt 8,xK 9 .neq 8 0] 9 (xR [ybt 10,yca 11,xM 12 2,xM 13 3,xO 14 (.build [.int .i64 0,.int .i64 0,.int .i64 0,.int .i64 0] [(0,1,(.t 10)),(1,1,(.t 11)),(2,1,(.t 12)),(3,1,(.t 13))]),xO 15 (.build [.int .i64 0,.int .i64 0,.int .i64 0,.int .i64 0] [(0,4,(.t 14))]),xO 16 (.mkiface 172 (.t 15)),⟨none,none,.panic (.t 16)⟩])⟩
def c_167:AFn:=⟨2,[.tmp 4],ya9 [yb5] [ybt 5] 5 [yca 6,xM 4 6] (yad [yb5])⟩
def c_168:AFn:=⟨1,[.tmp 2],ybm [ya2 2] [ybt 3,ybv 4 f_225 3,ybq 5 4,xM 2 5]⟩
def c_169_l0:Xv:=ybz [xB 11 .lss 10 9] 11 0 1 [xX 12 2 8 10,xA 13 2 12,yaq 7 [.str [],.Xu 2 []],xS 2 7 13] [7] (xR [xM 14 5,yca 15,xA 16 2 7,xO 17 (yb9 15 [.t 16]),xO 18 (.bslice .imm 1 (List.replicate 1 [.str []]) [(0,(.t 17))]),xO 19 (ycd .app 1 16 14 18),xM 5 19]) [xK 20 .add 10 1,xM 10 20]
def c_169_k1:Xv:=ycc 21 5 4 21
def c_169:AFn:=⟨2,[.tmp 4],yaa [xC 4 (.Xu 1 [])] (ybe [ych 5 1] [ybt 8,xN 9 8,ybd 10] 0 c_169_l0 c_169_k1)⟩
def c_170:AFn:=⟨1,[.tmp 2],ybm [xJ 1 0,xC 2 (.str [])] [yce 3 0,xL 4 3,xM 2 4]⟩
def c_171_l0:Xv:=ya5 [xB 48 .lss 47 46] 48 3 4 (ybx [xX 49 2 45 47,xA 50 2 49,yaq 6 [.str [],yba],xS 2 6 50] [xF 51 1 4,xL 52 51,xF 53 1 6,xS 1 53 52] (yaj [xA 54 2 6,xA 55 2 4,xO 56 (.eqs false true [.s,.i] (.t 54) (.t 55))] 56 [xI 2 7])) [xK 57 .add 47 1,xM 47 57]
def c_171_k1:Xv:=xR [xK 58 .add 25 1,xM 25 58]
def c_171_l2:Xv:=ya1 [xB 26 .lss 25 24] 26 1 (yam 2 (ybk [xM 27 25,xX 28 2 23 25,xA 29 2 28,yaq 4 [.str [],yba],xM 3 27,xS 2 4 29] [4] (ybn [xF 30 0 4,xL 31 30,ybv 32 f_225 31,ybq 33 32] 33 [xI 2 6] (ybn [xF 34 1 4,xL 35 34,xK 36 .lss 35 1,xM 37 36,yaw 38 37 1 4,yb4 39 37 38,ybl 40 37 .gtr 39 32,xW 41 37 40] 41 [xI 2 10] (yax [yce 42 1,xL 43 42,xM 44 3,xO 45 (.slc 2 (.t 43) none (some (.t 44)) none),xN 46 45,ybd 47] 3 c_171_l0)))) c_171_k1)
def c_171_k3:Xv:=ybn [xA 59 2 1,ybv 60 f_227 59,ybv 61 f_226 60,xK 62 .rem 61 8,xK 63 .neq 62 0] 63 [xI 2 10] (yad [ybd 2])
def c_171:AFn:=⟨1,[.tmp 2],yag [xJ 1 0,ybd 2] (.block 0 (yai [yce 8 0,xL 9 8,ybv 10 f_225 9,ybq 11 10,xM 7 11] 7 [xI 2 6] (yai [yce 13 1,xL 14 13,xN 15 14,xK 16 .eql 15 0,xM 12 16] 12 [xI 2 8] (yaj [yce 18 1,xL 19 18,xN 20 19,xK 21 .gtr 20 12,xM 17 21] 17 [xI 2 12])))) (ybw [yce 22 1,xL 23 22,xN 24 23,ybd 25] 1 c_171_l2 c_171_k3)⟩
def c_172:AFn:=⟨2,[.tmp 4],yag [ya2 4] (xD [ybt 5,yca 6,xO 7 (.slc 1 (.t 5) none (some (.t 6)) none),ybt 8,yca 9,xX 10 1 8 9,xL 11 10,ybj 12 f_228 7 11,xM 4 12]) .ret⟩
def c_173_l0:Xv:=ybz [xB 11 .lss 10 9] 11 0 1 [xX 12 2 8 10,xA 13 2 12,yaq 7 [.str [],yba],xS 2 7 13] [7] (xR [xM 14 5,yca 15,xA 16 2 7,xO 17 (yb9 15 [.t 16]),xO 18 (.bslice .imm 1 (List.replicate 1 [.str []]) [(0,(.t 17))]),xO 19 (ycd .app 1 16 14 18),xM 5 19]) [xK 20 .add 10 1,xM 10 20]
def c_173_k1:Xv:=ycc 21 5 4 21
def c_173:AFn:=⟨2,[.tmp 4],yaa [xC 4 (.Xu 1 [])] (ybe [ych 5 1] [ybt 8,xN 9 8,ybd 10] 0 c_173_l0 c_173_k1)⟩
def c_174:AFn:=⟨1,[.tmp 2],ybm [xJ 1 0,xC 2 (.str [])] [yce 3 0,xL 4 3,xM 2 4]⟩
def c_175:AFn:=⟨1,[.tmp 2],ybm [ya2 2] [ybt 3,xK 4 .lss 3 1,xM 5 4,ya8 6 5 0,ybl 7 5 .gtr 6 32,xW 8 5 7,xM 2 8]⟩
def c_176_l0:Xv:=ybz [xB 11 .lss 10 9] 11 0 1 [xX 12 3 8 10,xA 13 3 12,yaq 7 [.str [],yba,yba],xS 3 7 13] [7] (xR [xM 14 5,yca 15,xA 16 3 7,xO 17 (yb9 15 [.t 16]),xO 18 (.bslice .imm 1 (List.replicate 1 [.str []]) [(0,(.t 17))]),xO 19 (ycd .app 1 16 14 18),xM 5 19]) [xK 20 .add 10 1,xM 10 20]
def c_176_k1:Xv:=ycc 21 5 4 21
def c_176:AFn:=⟨2,[.tmp 4],yaa [xC 4 (.Xu 1 [])] (ybe [ych 5 1] [ybt 8,xN 9 8,ybd 10] 0 c_176_l0 c_176_k1)⟩
def c_177:AFn:=⟨1,[.tmp 2],ybm [xJ 1 0,xC 2 (.str [])] [yce 3 0,xL 4 3,xM 2 4]⟩
def c_178:AFn:=⟨1,[.tmp 2],yag [xJ 1 0,ybd 2] (.block 0 (yai [yce 4 0,xL 5 4,ybv 6 f_225 5,ybq 7 6,xM 3 7] 3 [xI 2 6] (yai [yce 9 1,xL 10 9,ybv 11 f_217 10,xO 12 (yap .eql 11 (.c (ybs 0))),xM 8 12] 8 [xI 2 10] (yaj [xA 14 3 1,ybv 15 f_149 14,ybq 16 15,xM 13 16] 13 [xI 2 9])))) (yad [ybd 2])⟩
def c_179_l0:Xv:=ybz [xB 11 .lss 10 9] 11 0 1 [xX 12 3 8 10,xA 13 3 12,yaq 7 [.str [],.Xu 2 [],.Xu 7 []],xS 3 7 13] [7] (xR [xM 14 5,yca 15,xA 16 3 7,xO 17 (yb9 15 [.t 16]),xO 18 (.bslice .imm 1 (List.replicate 1 [.str []]) [(0,(.t 17))]),xO 19 (ycd .app 1 16 14 18),xM 5 19]) [xK 20 .add 10 1,xM 10 20]
def c_179_k1:Xv:=ycc 21 5 4 21
def c_179:AFn:=⟨2,[.tmp 4],yaa [xC 4 (.Xu 1 [])] (ybe [ych 5 1] [ybt 8,xN 9 8,ybd 10] 0 c_179_l0 c_179_k1)⟩
def c_180:AFn:=⟨1,[.tmp 2],ybm [xJ 1 0,xC 2 (.str [])] [yce 3 0,xL 4 3,xM 2 4]⟩
def c_181_l0:Xv:=ybz [xB 38 .lss 37 36] 38 0 1 [xM 39 37,xX 40 7 35 37,xA 41 7 40,yaq 9 [yba,yba,yba,yba,yba,.Xu 3 [],.Xu 3 []],xM 8 39,xS 7 9 41] [9] (yb8 [xA 42 10 7,xA 43 7 9,ybj 44 f_230 42 43,xM 5 44] [xM 45 5,xK 46 .neq 45 0] 46 [xM 47 8,xM 48 5,xM 4 47,xM 5 48]) [xK 49 .add 37 1,xM 37 49]
def c_181_k1:Xv:=yb2 yb5 (ybd 5)
def c_181:AFn:=⟨2,[.tmp 4,.tmp 5],ya9 [xJ 2 0,yb5,ybd 5] [yca 10,xK 11 .lss 10 0,xM 12 11,ya8 13 12 1,yaw 14 12 4 2,yb4 15 12 14,ybg 16 12 15,ya3 17 12 .geq 13 (.t 16),xW 18 12 17] 18 [xI 4 (-1),xI 5 8] (ybk [xF 19 4 2,xL 20 19,yca 21,xX 22 3 20 21,xA 23 3 22,yaq 6 [.str [],.Xu 2 [],.Xu 7 []],xS 3 6 23] [6] (.seq (yb8 [xA 24 3 6,ybv 25 f_229 24,xM 5 25] [xM 26 5,xK 27 .neq 26 0] 27 [xM 28 5,xI 4 (-1),xM 5 28]) (ybk [xA 29 9 2,xF 30 1 6,xL 31 30,xO 32 (.build [.str [],.Xu 2 [],.Xu 2 [],.Xu 3 [],.Xu 3 [],.Xu 6 [],.Xu 7 [],.Xu 5 [],.Xu 1 [],.Xu 2 []] [(0,9,(.t 29)),(9,1,(.t 31))]),xO 33 (.build [.str [],.Xu 2 [],.Xu 2 [],.Xu 3 [],.Xu 3 [],.Xu 6 [],.Xu 7 [],.Xu 5 [],.Xu 1 [],.Xu 2 []] [(0,10,(.t 32))]),yaq 7 [.str [],.Xu 2 [],.Xu 2 [],.Xu 3 [],.Xu 3 [],.Xu 6 [],.Xu 7 [],.Xu 5 [],.Xu 1 [],.Xu 2 []],xS 10 7 33] [7] (ybw [xF 34 2 6,xL 35 34,xN 36 35,ybd 37] 0 c_181_l0 c_181_k1))))⟩
def c_182_l0:Xv:=ybz [xB 11 .lss 10 9] 11 0 1 [xX 12 6 8 10,xA 13 6 12,yaq 7 [.str [],.Xu 3 [],.Xu 1 [],yba,.Xu 1 [],yba],xS 6 7 13] [7] (xR [xM 14 5,yca 15,xA 16 6 7,xO 17 (yb9 15 [.t 16]),xO 18 (.bslice .imm 1 (List.replicate 1 [.str []]) [(0,(.t 17))]),xO 19 (ycd .app 1 16 14 18),xM 5 19]) [xK 20 .add 10 1,xM 10 20]
def c_182_k1:Xv:=ycc 21 5 4 21
def c_182:AFn:=⟨2,[.tmp 4],yaa [xC 4 (.Xu 1 [])] (ybe [ych 5 1] [ybt 8,xN 9 8,ybd 10] 0 c_182_l0 c_182_k1)⟩
def c_183:AFn:=⟨1,[.tmp 2],ybm [xJ 1 0,xC 2 (.str [])] [yce 3 0,xL 4 3,xM 2 4]⟩
def c_184:AFn:=⟨2,[.tmp 4,.tmp 5],ya9 [xJ 2 0,yb5,ybd 5] [yca 7,xK 8 .lss 7 0,xM 9 8,ya8 10 9 1,yaw 11 9 5 2,yb4 12 9 11,ybg 13 9 12,ya3 14 9 .geq 10 (.t 13),xW 15 9 14] 15 [xI 4 (-1),xI 5 8] (ybk [xF 16 5 2,xL 17 16,yca 18,xX 19 6 17 18,xA 20 6 19,yaq 6 [.str [],.Xu 3 [],.Xu 1 [],yba,.Xu 1 [],yba],xS 6 6 20] [6] (yam 0 (yai [xF 22 0 6,xL 23 22,ybv 24 f_225 23,ybq 25 24,xM 21 25] 21 [xI 4 (-1),xI 5 6] (yai [xF 27 1 6,xL 28 27,xN 29 28,xK 30 .gtr 29 6,xM 31 30,yaw 32 31 2 6,yb4 33 31 32,ybg 34 31 33,ybl 35 31 .gtr 34 16,xW 36 31 35,xM 26 36] 26 [xI 4 (-1),xI 5 12] (yaj [xF 38 5 6,xL 39 38,xK 40 .lss 39 1,xM 41 40,yaw 42 41 5 6,yb4 43 41 42,ybl 44 41 .gtr 43 256,xW 45 41 44,xM 37 45] 37 [xI 4 (-1),xI 5 9]))) (.seq (yb8 [xA 47 9 2,xA 48 6 6,ybj 49 f_231 47 48,xM 46 49,xE 50 0 46,xE 51 1 46,xM 4 50,xM 5 51] [xM 52 5,xK 53 .neq 52 0] 53 [xM 54 4,xM 55 5,xM 4 54,xM 5 55]) (.seq (yb8 [xA 56 9 2,xA 57 6 6,ybj 58 f_232 56 57,xM 5 58] [xM 59 5,xK 60 .neq 59 0] 60 [xM 61 5,xI 4 (-3),xM 5 61]) (yb2 yb5 (ybd 5))))))⟩
def c_185_l0:Xv:=ybz [xB 25 .lss 24 23] 25 1 2 [xM 26 24,xX 27 7 22 24,xA 28 7 27,yaq 7 [.str [],.Xu 1 [],.bool false,yba,yba,.Xu 3 [],yba],xM 6 26,xS 7 7 28] [7] (yam 3 (yai [xF 30 0 7,xL 31 30,ybv 32 f_225 31,ybq 33 32,xM 29 33] 29 [xM 34 6,xM 2 34,xI 3 (-1),xI 4 6] (yaj [xM 36 5,xF 37 0 7,xL 38 37,xO 39 (.lookup .s (.bool false) false (.t 36) (.t 38)),xM 35 39] 35 [xM 40 6,xM 2 40,xI 3 (-1),xI 4 7])) (ybx [xM 41 5,xF 42 0 7,xL 43 42,⟨none,none,.update .s (.t 41) (.t 43) (.c (.bool true))⟩] [xA 45 9 1,xM 46 6,ybj 47 f_233 45 46,xM 44 47,xE 48 0 44,xE 49 1 44,xM 8 48,xM 9 49] (yaj [xM 50 9,xK 51 .neq 50 0] 51 [xM 52 6,xM 53 8,xM 54 9,xM 2 52,xM 3 53,xM 4 54]))) [xK 55 .add 24 1,xM 24 55]
def c_185_k1:Xv:=yad [ybd 2,ybd 3,yb5]
def c_185:AFn:=⟨1,[.tmp 2,.tmp 3,.tmp 4],yag [xJ 1 0,ybd 2,ybd 3,yb5] (.block 0 (yai [yce 11 6,xL 12 11,xN 13 12,xK 14 .eql 13 0,xM 10 14] 10 [xI 2 (-1),xI 3 (-1),xI 4 8] (yaj [yce 16 6,xL 17 16,xN 18 17,xK 19 .gtr 18 12,xM 15 19] 15 [xI 2 (-1),xI 3 (-1),xI 4 12]))) (ybe [xO 20 .mkmap,xM 5 20] [yce 21 6,xL 22 21,xN 23 22,ybd 24] 1 c_185_l0 c_185_k1)⟩
def c_186:AFn:=⟨1,[.tmp 2,.cell 3 false 1],ya9 [xJ 1 0,ybd 2,yaq 3 [yba]] [yce 6 7,xL 7 6,ybv 8 f_234 7,xK 9 .gtr 8 24] 9 [xI 2 (-1),⟨none,none,.store 1 (.t 3) (.c (.int .i64 12))⟩] (ybn [yce 10 7,xL 11 10,ybv 12 f_235 11,xK 13 .gtr 12 6] 13 [xI 2 (-1),⟨none,none,.store 1 (.t 3) (.c (.int .i64 14))⟩] (ybx [yaq 4 [yba],⟨none,none,.store 1 (.t 4) (.c (.int .i64 0))⟩] [yaq 5 [.Xu 1 []]] (yag [yce 14 7,xL 15 14,xO 16 (.mkfunc (.func f_237) [] [.t 1,.t 5,.t 3,.t 4]),ya7 17 f_236 [.t 15,.t 16]] (ycg [xL 18 3,xK 19 .neq 18 0] 19 (.seq (xD [xL 20 4,xL 21 3,xM 2 20,xS 1 3 21]) .ret)) (yb2 (ybd 2) ⟨none,none,.store 1 (.t 3) (.c (.int .i64 0))⟩))))⟩
def c_187_l0:Xv:=ya5 [xB 14 .lss 13 12] 14 0 1 (yaa [xM 15 13,xX 16 1 11 13,xL 17 16,xM 4 15,xM 5 17] (.block 2 (yai [xM 19 5,xK 20 .lss 19 0,xM 21 20,ya8 22 21 5,yaw 23 21 1 1,yb4 24 21 23,ybg 25 21 24,ya3 26 21 .geq 22 (.t 25),xW 27 21 26,xM 18 27] 18 [xM 28 4,xM 2 28,xI 3 8] (yaj [yce 30 8,xL 31 30,xM 32 4,xO 33 (.slc 1 (.t 31) none (some (.t 32)) none),xM 34 5,ybj 35 f_240 33 34,xM 29 35] 29 [xM 36 4,xM 2 36,xI 3 7])))) [xK 37 .add 13 1,xM 13 37]
def c_187_k1:Xv:=yb2 (ybd 2) (ybd 3)
def c_187:AFn:=⟨1,[.tmp 2,.tmp 3],ya9 [xJ 1 0,ybd 2,ybd 3] [yce 6 8,xL 7 6,xN 8 7,xK 9 .gtr 8 8] 9 [xI 2 (-1),xI 3 12] (ybw [yce 10 8,xL 11 10,xN 12 11,ybd 13] 0 c_187_l0 c_187_k1)⟩
def c_188_l0:Xv:=ybz [xB 11 .lss 10 9] 11 0 1 [xX 12 7 8 10,xA 13 7 12,yaq 7 [yba,yba,yba,yba,yba,.Xu 3 [],.Xu 3 []],xS 7 7 13] [7] (xR [xM 14 5,yca 15,xA 16 7 7,xO 17 (yb9 15 [.t 16]),xO 18 (.bslice .imm 7 (List.replicate 1 [.int .i64 0,.int .i64 0,.int .i64 0,.int .i64 0,.int .i64 0,.Xu 3 [],.Xu 3 []]) [(0,(.t 17))]),xO 19 (ycd .app 7 88 14 18),xM 5 19]) [xK 20 .add 10 1,xM 10 20]
def c_188_k1:Xv:=ycc 21 5 4 21
def c_188:AFn:=⟨2,[.tmp 4],yaa [xC 4 (.Xu 7 [])] (ybe [ych 5 7] [ybt 8,xN 9 8,ybd 10] 0 c_188_l0 c_188_k1)⟩
def c_189:AFn:=⟨1,[.cell 2 true 7],yag [xO 1 (yb6 0),yaq 2 [yba,yba,yba,yba,yba,.Xu 3 [],.Xu 3 []]] (xD [yce 3 5,xL 4 3,ybv 5 f_192 4,yce 6 6,xL 7 6,ybv 8 f_192 7,yce 9 5,xS 1 9 5,yce 10 6,xS 1 10 8]) (yb2 (xA 11 7 1) (xS 7 2 11))⟩
def c_194:AFn:=⟨1,[.tmp 2],ybx [ybd 2] [ybt 4,ya7 5 f_122 [.t 4,yao 4],xM 3 5] (ybm [ybt 6,xM 7 3,xO 8 (yap .leq 7 (.c (ybs 2147483647))),ya7 9 f_123 [.t 6,.t 8,yao 5]] [xM 10 3,xO 11 (yb0 .i64 10),xM 2 11])⟩
def c_195:AFn:=⟨2,[],xR [ybt 4,ybt 5,ybo 6 5,xF 7 0 6,xL 8 7,yca 9,xO 10 (yb0 .u32 9),xB 11 .xor 8 10,xO 12 (yap .mul 11 (.c (ybs 16777619))),ybo 13 4,xF 14 0 13,xS 1 14 12]⟩
def c_215:AFn:=⟨2,[.tmp 3],ybm [xJ 2 0,ya2 3] [xF 4 1 2,xA 5 4 4,yce 6 1,xA 7 4 6,ybj 8 f_162 5 7,xM 3 8]⟩
def c_216_l0:Xv:=ycb [xM 12 4,ybt 13,xN 14 13,xB 15 .lss 12 14] 15 (.exit 0) (ya4 1 (xR [xM 18 3,ybt 19,xM 20 4,xX 21 1 19 20,xL 22 21,xO 23 (.minmax true [.t 18,.t 22]),xM 3 23]) [xM 16 4,xK 17 .add 16 1,xM 4 17])
def c_216_k1:Xv:=ycc 24 3 2 24
def c_216:AFn:=⟨1,[.tmp 2],yag [xC 2 (ybs 0)] (ycg [ybt 5,xN 6 5,xK 7 .lss 6 1] 7 (xR [xO 8 (.mkiface 9 (.c (.str [115,108,105,99,101,115,46,77,97,120,58,32,101,109,112,116,121,32,108,105,115,116]))),⟨none,none,.panic (.t 8)⟩])) (ybe [ybt 9,xO 10 (yby 1 none 9 (yao 0)),xL 11 10,xM 3 11] [xI 4 1] 0 c_216_l0 c_216_k1)⟩
def c_217:AFn:=⟨1,[.tmp 2],ya9 [xC 2 (ybs 0)] [ybt 3,xO 4 (.bslice .imm 1 (List.replicate 1 [.int .i64 0]) [(0,(.t 3))]),ybv 5 f_261 4,ybq 6 5] 6 [xC 2 (ybs 0)] (yad [ybt 7,xO 8 (.bin .sub (yao 32) (.t 7)),xO 9 (.bin .shr (.c (ybs 4294967295)) (.t 8)),xM 2 9])⟩
def c_218_l0:Xv:=ya5 [xB 21 .lss 20 19] 21 0 1 (yb8 [xX 22 1 18 20,xL 23 22,xM 8 23] [xM 24 8,xM 25 2,xB 26 .eql 24 25] 26 [ycf 6]) [xK 27 .add 20 1,xM 20 27]
def c_218_k1:Xv:=yad [ya2 6]
def c_218:AFn:=⟨3,[.tmp 6],ya9 [xJ 3 0,ya2 6] [xA 9 9 3,yca 10,ybj 11 f_262 9 10,ybq 12 11] 12 [ya2 6] (ybw [xF 13 5 3,xL 14 13,yca 15,xX 16 6 14 15,xF 17 2 16,xL 18 17,xN 19 18,ybd 20] 0 c_218_l0 c_218_k1)⟩
def c_219_l0:Xv:=ya5 [xB 36 .lss 35 34] 36 0 1 (yb8 [xM 37 35,xX 38 1 33 35,xL 39 38,xM 6 37,xM 7 39] [xM 40 7,xM 41 5,xM 42 6,xX 43 2 41 42,xF 44 1 43,xL 45 44,ybj 46 f_263 40 45,ybq 47 46] 47 [xI 4 9]) [xK 48 .add 35 1,xM 35 48]
def c_219_k1:Xv:=yad [yb5]
def c_219:AFn:=⟨2,[.tmp 4],ya9 [xJ 2 0,xJ 3 1,yb5] [xF 8 0 3,xL 9 8,xK 10 .lss 9 0,xM 11 10,yaw 12 11 0 3,yb4 13 11 12,yaw 14 11 4 2,yb4 15 11 14,ybg 16 11 15,ya3 17 11 .geq 13 (.t 16),xW 18 11 17] 18 [xI 4 8] (ya9 [xF 19 4 2,xL 20 19,xF 21 0 3,xL 22 21,xX 23 3 20 22,xF 24 1 23,xL 25 24,xM 5 25] [xF 26 1 3,xL 27 26,xN 28 27,xM 29 5,xN 30 29,xB 31 .neq 28 30] 31 [xI 4 2] (ybw [xF 32 1 3,xL 33 32,xN 34 33,ybd 35] 0 c_219_l0 c_219_k1))⟩
def c_220_l0:Xv:=ybz [xB 20 .lss 19 18] 20 0 1 [xX 21 3 17 19,xA 22 3 21,yaq 7 [yba,yba,yba],xS 3 7 22] [7] (xR [xM 23 5,xA 24 9 2,xF 25 0 7,xA 26 2 25,ybj 27 f_264 24 26,xO 28 (.bslice .imm 1 (List.replicate 1 [.int .i64 0]) [(0,(.t 27))]),xO 29 (ycd .app 1 8 23 28),xM 5 29]) [xK 30 .add 19 1,xM 19 30]
def c_220_k1:Xv:=ycc 31 5 4 31
def c_220:AFn:=⟨2,[.tmp 4],ya9 [xJ 2 0,xC 4 (.Xu 1 [])] [xA 8 9 2,yca 9,ybj 10 f_262 8 9,ybq 11 10] 11 [xC 4 (.Xu 1 [])] (ybe [ych 5 1] [xF 12 5 2,xL 13 12,yca 14,xX 15 6 13 14,xF 16 1 15,xL 17 16,xN 18 17,ybd 19] 0 c_220_l0 c_220_k1)⟩
def c_221:AFn:=⟨3,[.tmp 6],yag [xJ 3 0,ybd 6] (.block 0 (yai [xF 10 0 3,xL 11 10,xM 12 2,ybj 13 f_263 11 12,ybq 14 13,xM 15 14,yaw 16 15 1 3,yb4 17 15 16,ya8 18 15 2,yac 19 15 (.pcall f_263 [.t 17,.t 18]),yac 20 15 (ybc 19),xW 21 15 20,xM 9 21] 9 [xI 6 9] (yai [xF 23 0 3,xL 24 23,xF 25 1 3,xL 26 25,xB 27 .andNot 24 26,xO 28 (yap .neq 27 (.c (ybs 0))),xM 22 28] 22 [xI 6 5] (.seq (xD [yca 30,xK 31 .eql 30 1,xM 32 31,yb7 33 32 1 3,yar 34 32 (yav 1 33),ybp 35 32 2,yar 36 32 (.pcall f_217 [.t 35]),yb1 37 32 .neq 34 (.t 36),xV 38 32 37,xM 29 38]) (yab 29 (yad [xI 6 11]) .skip))))) (.seq (ycg [yca 39,xK 40 .eql 39 2] 40 (yb8 [xF 42 1 3,xL 43 42,xM 44 2,ybj 45 f_265 43 44,xM 41 45,xE 46 0 41,xE 47 1 41,xM 7 46,xM 8 47] [xM 48 8,ybq 49 48] 49 [xI 6 11])) (yad [ybd 6]))⟩
def c_222_l0:Xv:=ybz [xB 20 .lss 19 18] 20 0 1 [xX 21 3 17 19,xA 22 3 21,yaq 7 [yba,yba,yba],xS 3 7 22] [7] (.block 2 (yai [xF 24 2 7,xL 25 24,xK 26 .eql 25 3,xM 23 26] 23 [xI 4 3] (ycg [xF 28 2 7,xL 29 28,xK 30 .eql 29 2,xM 27 30] 27 (xR [xI 5 2])))) [xK 31 .add 19 1,xM 19 31]
def c_222_k1:Xv:=ycc 32 5 4 32
def c_222:AFn:=⟨2,[.tmp 4],ya9 [xJ 2 0,yb5] [xA 8 9 2,yca 9,ybj 10 f_262 8 9,ybq 11 10] 11 [yb5] (ybe [xI 5 1] [xF 12 5 2,xL 13 12,yca 14,xX 15 6 13 14,xF 16 1 15,xL 17 16,xN 18 17,ybd 19] 0 c_222_l0 c_222_k1)⟩
def c_223_l0:Xv:=ya5 [xB 9 .lss 8 7] 9 0 1 (yb8 [xM 10 8,xM 5 10] [yca 11,ybt 12,xM 13 5,xX 14 5 12 13,xA 15 5 14,xO 16 (yb9 11 [.t 15])] 16 [xM 17 5,xM 4 17]) [xK 18 .add 8 1,xM 8 18]
def c_223_k1:Xv:=yad [xI 4 (-1)]
def c_223:AFn:=⟨2,[.tmp 4],ybe [yb5] [ybt 6,xN 7 6,ybd 8] 0 c_223_l0 c_223_k1⟩
def c_225:AFn:=⟨1,[.tmp 2],ya9 [ya2 2] [ybt 3,xO 4 (.slen (.t 3)),xK 5 .eql 4 0,xM 6 5,ya8 7 6 0,yac 8 6 (.slen (.t 7)),ybl 9 6 .gtr 8 16,xW 10 6 9,xM 11 10,ya8 12 11 0,yac 13 11 (.idxs (.t 12) (yao 0)),yac 14 11 (.pcall f_266 [.t 13]),yac 15 11 (ybc 14),xW 16 11 15] 16 [ya2 2] (yad [ybt 17,ybi 18 f_267 17 (.c (.func (.func f_268) [] [])),ybt 19,xO 20 (.slen (.t 19)),xB 21 .eql 18 20,xM 2 21])⟩
def c_226_l0:Xv:=ya5 [xB 9 .lss 8 7] 9 0 1 (yaa [xX 10 1 6 8,xL 11 10,xM 5 11] (xR [xM 12 3,xM 13 5,xB 14 .add 12 13,xM 3 14])) [xK 15 .add 8 1,xM 8 15]
def c_226_k1:Xv:=ycc 16 3 2 16
def c_226:AFn:=⟨1,[.tmp 2],yaa [ybd 2] (ybe [ybd 3] [ybt 6,xN 7 6,ybd 8] 0 c_226_l0 c_226_k1)⟩
def c_227_l0:Xv:=ybz [xB 10 .lss 9 8] 10 0 1 [xX 11 2 7 9,xA 12 2 11,yaq 5 [.str [],yba],xS 2 5 12] [5] (xR [xM 13 3,xF 14 1 5,xL 15 14,xO 16 (.bslice .imm 1 (List.replicate 1 [.int .i64 0]) [(0,(.t 15))]),xO 17 (ycd .app 1 8 13 16),xM 3 17]) [xK 18 .add 9 1,xM 9 18]
def c_227_k1:Xv:=ycc 19 3 2 19
def c_227:AFn:=⟨1,[.tmp 2],yaa [xJ 1 0,xC 2 (.Xu 1 [])] (ybe [ych 3 1] [yce 6 1,xL 7 6,xN 8 7,ybd 9] 0 c_227_l0 c_227_k1)⟩
def c_228:AFn:=⟨2,[.tmp 4],ybm [ya2 4] [ybt 5,yca 6,ybj 7 f_270 5 6,xK 8 .geq 7 0,xM 4 8]⟩
def c_229_l0:Xv:=ybz [xB 25 .lss 24 23] 25 1 2 [xM 26 24,xX 27 2 22 24,xA 28 2 27,yaq 4 [.str [],yba],xM 3 26,xS 2 4 28] [4] (.block 3 (yai [xF 30 0 4,xL 31 30,ybv 32 f_225 31,ybq 33 32,xM 29 33] 29 [xI 2 6] (yai [xF 35 1 4,xL 36 35,xK 37 .lss 36 1,xM 38 37,yaw 39 38 1 4,yb4 40 38 39,ybl 41 38 .gtr 40 32,xW 42 38 41,xM 34 42] 34 [xI 2 10] (yaj [yce 44 1,xL 45 44,xM 46 3,xO 47 (.slc 2 (.t 45) none (some (.t 46)) none),xO 48 (.mkfunc (.func f_272) [] [.t 4]),ybj 49 f_271 47 48,xM 43 49] 43 [xI 2 7])))) [xK 50 .add 24 1,xM 24 50]
def c_229_k1:Xv:=yad [ybd 2]
def c_229:AFn:=⟨1,[.tmp 2],yag [xJ 1 0,ybd 2] (.block 0 (yai [yce 6 0,xL 7 6,ybv 8 f_225 7,ybq 9 8,xM 5 9] 5 [xI 2 6] (yaj [yce 11 1,xL 12 11,xN 13 12,xK 14 .gtr 13 4,xM 15 14,yaw 16 15 2 1,yb4 17 15 16,ybg 18 15 17,ybl 19 15 .gtr 18 12,xW 20 15 19,xM 10 20] 10 [xI 2 12]))) (ybw [yce 21 1,xL 22 21,xN 23 22,ybd 24] 1 c_229_l0 c_229_k1)⟩
def c_230:AFn:=⟨2,[.tmp 4],yag [xJ 2 0,xJ 3 1,yb5] (xQ [xF 11 0 2,xF 12 0 11,xA 13 9 12,yaq 5 [.str [],.Xu 2 [],.Xu 2 [],.Xu 3 [],.Xu 3 [],.Xu 6 [],.Xu 7 [],.Xu 5 [],.Xu 1 []],xS 9 5 13] [5]) (yaa [xA 15 9 5,xF 16 1 3,xA 17 2 16,ybj 18 f_273 15 17,xM 14 18,xE 19 0 14,xE 20 1 14,xM 6 19,xM 7 20] (yag [xF 21 3 3,xL 22 21,xK 23 .geq 22 0,xM 24 23,yb7 25 24 3 3,yar 26 24 (yav 1 25),yb7 27 24 3 5,yar 28 24 (yav 1 27),yar 29 24 (ya6 28),yb1 30 24 .lss 26 (.t 29),xV 31 24 30,xM 8 31] (yaa [xF 32 0 3,xL 33 32] (.block 0 (yah [xK 35 .eql 33 1,xM 34 35] 34 (ybn [xM 36 7,ybq 37 36] 37 [xI 4 8] (yad [xA 38 10 2,xF 39 6 3,xL 40 39,xM 41 6,yae 42 f_274 [.t 38,.t 40,.t 41],xM 4 42])) (ycb [xK 44 .eql 33 2,xM 43 44] 43 (xR [xK 45 .eql 33 3,xM 43 45]) (yab 43 (ybn [xF 46 4 3,xL 47 46,xK 48 .lss 47 0,xM 49 48,yaw 50 49 4 3,yb4 51 49 50,yaw 52 49 1 5,yb4 53 49 52,ybg 54 49 53,ya3 55 49 .geq 51 (.t 54),xW 56 49 55] 56 [xI 4 8] (yad [yb5])) (ycb [xK 58 .eql 33 4,xM 57 58] 57 (xR [xK 59 .eql 33 5,xM 57 59]) (yab 57 (ybn [xM 60 8,ybq 61 60,xM 62 61,yaw 63 62 0 3,yb4 64 62 63,ybl 65 62 .eql 64 4,ya8 66 62 65,ybp 67 66 7,yar 68 66 (ybc 67),yac 69 62 (.pick (.t 66) (.t 68) (.c (.bool false))),xW 70 62 69] 70 [xI 4 8] (.seq (yb8 [xF 72 5 3,xL 73 72,xF 74 0 2,xA 75 10 74,ybj 76 f_275 73 75,xM 71 76,xE 77 0 71,xE 78 1 71,xM 9 77,xM 10 78] [xM 79 10,xK 80 .neq 79 0] 80 [xM 81 10,xM 4 81]) (.seq (ycg [xF 82 0 3,xL 83 82,xK 84 .eql 83 5] 84 (.seq (xD [xA 85 10 2,xF 86 6 3,xL 87 86,xF 88 3 5,xL 89 88,xF 90 3 3,xL 91 90,xX 92 3 89 91,xF 93 1 92,xL 94 93,yae 95 f_274 [.t 85,.t 87,.t 94],xM 4 95]) .ret)) (ybn [xM 96 6,xF 97 3 5,xL 98 97,xF 99 3 3,xL 100 99,xX 101 3 98 100,xF 102 1 101,xL 103 102,xB 104 .neq 96 103] 104 [xI 4 10] (yad [yb5]))))) .skip))))))) (yad [xI 4 11])))⟩
def c_231_l0:Xv:=ybz [xB 15 .lss 14 13] 15 0 1 [xM 16 14,xX 17 3 12 14,xA 18 3 17,yaq 9 [yba,yba,yba],xM 8 16,xS 3 9 18] [9] (ya9 [xA 19 9 2,xF 20 0 9,xA 21 2 20,ybj 22 f_264 19 21,xM 10 22] [xM 23 10,xK 24 .eql 23 0] 24 [xM 25 8,xM 4 25,xI 5 8] (.seq (yaa [xF 26 2 9,xL 27 26] (.block 2 (yah [xK 30 .eql 27 2,xM 29 30] 29 (xR [xM 31 6,xK 32 .add 31 1,xM 6 32]) (ycb [xK 34 .eql 27 1,xM 33 34] 33 (xR [xK 35 .eql 27 3,xM 33 35]) (yab 33 .skip (yad [xM 28 8,xM 4 28,xI 5 11])))))) (xR [xM 36 7,xM 37 10,xB 38 .add 36 37,xM 7 38]))) [xK 39 .add 14 1,xM 14 39]
def c_231_k1:Xv:=ybn [xM 40 6,xK 41 .gtr 40 1] 41 [xI 4 (-2),xI 5 7] (ybn [xM 42 7,xK 43 .gtr 42 64] 43 [xI 4 (-2),xI 5 10] (yb2 yb5 (ybd 5)))
def c_231:AFn:=⟨2,[.tmp 4,.tmp 5],yaa [xJ 2 0,xJ 3 1,yb5,ybd 5] (ybe [ybd 6,ybd 7] [xF 11 1 3,xL 12 11,xN 13 12,ybd 14] 0 c_231_l0 c_231_k1)⟩
def c_232_l0:Xv:=ya5 [xB 13 .lss 12 11] 13 0 1 (ya9 [xX 14 1 10 12,xL 15 14,xM 7 15] [xM 16 7,xK 17 .lss 16 0,xM 18 17,ya8 19 18 7,yaw 20 18 4 2,yb4 21 18 20,ybg 22 18 21,ya3 23 18 .geq 19 (.t 22),xW 24 18 23] 24 [xI 4 8] (ybn [xM 25 5,xM 26 7,xO 27 (.lookup .i (.bool false) false (.t 25) (.t 26))] 27 [xI 4 7] (xR [xM 28 5,xM 29 7,⟨none,none,.update .i (.t 28) (.t 29) (.c (.bool true))⟩]))) [xK 30 .add 12 1,xM 12 30]
def c_232_k1:Xv:=ybn [xM 31 5,xF 32 3 3,xF 33 0 32,xL 34 33,xO 35 (.lookup .i (.bool false) false (.t 31) (.t 34)),ybq 36 35] 36 [xI 4 8] (yad [xA 37 9 2,xF 38 3 3,xA 39 2 38,ybj 40 f_219 37 39,xM 4 40])
def c_232:AFn:=⟨2,[.tmp 4],yaa [xJ 2 0,xJ 3 1,yb5] (ybe [xO 8 .mkmap,xM 5 8] [xF 9 2 3,xL 10 9,xN 11 10,ybd 12] 0 c_232_l0 c_232_k1)⟩
def c_233_l0:Xv:=ya5 [xB 31 .lss 30 29] 31 0 1 (yb8 [xX 32 1 28 30,xL 33 32,xM 8 33] [xM 34 8,xK 35 .lss 34 0,xM 36 35,ya8 37 36 8,yaw 38 36 1 2,yb4 39 36 38,ybg 40 36 39,ya3 41 36 .geq 37 (.t 40),xW 42 36 41] 42 [xI 4 (-1),xI 5 8]) [xK 43 .add 30 1,xM 30 43]
def c_233_l1:Xv:=ybz [xB 68 .lss 67 66] 68 3 4 [xM 69 67,xX 70 3 65 67,xA 71 3 70,yaq 10 [ybs 0,ybs 0,yba],xM 9 69,xS 3 10 71] [10] (yb8 [xA 72 9 2,yca 73,xA 74 3 10,yae 75 f_276 [.t 72,.t 73,.t 74],xM 11 75] [xM 76 11,xK 77 .neq 76 0] 77 [xM 78 9,xM 79 11,xM 4 78,xM 5 79]) [xK 80 .add 67 1,xM 67 80]
def c_233_k2:Xv:=ybn [xA 81 9 2,yca 82,xF 83 6 6,xL 84 83,yae 85 f_277 [.t 81,.t 82,.t 84],ybq 86 85] 86 [xI 4 (-1),xI 5 14] (yb2 yb5 (ybd 5))
def c_233_k3:Xv:=yam 2 (yai [xF 45 2 6,xL 46 45,xM 47 46,yar 48 47 (.load true 9 (.t 2)),yb7 49 47 3 6,yar 50 47 (.load true 2 (.t 49)),yar 51 47 (.pcall f_264 [.t 48,.t 50]),yb1 52 47 .eql 51 (yao 0),xV 53 47 52,xM 44 53] 44 [xI 4 (-1),xI 5 8] (yaj [xF 55 2 6,xL 56 55,ybq 57 56,xM 58 57,yb7 59 58 5 6,yar 60 58 (yav 1 59),yar 61 58 (ya6 60),yb1 62 58 .gtr 61 (yao 0),xV 63 58 62,xM 54 63] 54 [xI 4 (-1),xI 5 11])) (ybw [xF 64 5 6,xL 65 64,xN 66 65,ybd 67] 3 c_233_l1 c_233_k2)
def c_233:AFn:=⟨2,[.tmp 4,.tmp 5],yag [xJ 2 0,yb5,ybd 5] (xQ [xF 12 6 2,xL 13 12,yca 14,xX 15 7 13 14,xA 16 7 15,yaq 6 [.str [],.Xu 1 [],.bool false,yba,yba,.Xu 3 [],yba],xS 7 6 16] [6]) (ybn [xF 17 1 6,xL 18 17,xN 19 18,xK 20 .gtr 19 4,xM 21 20,yaw 22 21 5 6,yb4 23 21 22,ybg 24 21 23,ybl 25 21 .gtr 24 8,xW 26 21 25] 26 [xI 4 (-1),xI 5 12] (ybw [xF 27 1 6,xL 28 27,xN 29 28,ybd 30] 0 c_233_l0 c_233_k3))⟩
def c_234:AFn:=⟨1,[.tmp 2],ybx [ybd 2] [yaq 3 [yba],⟨none,none,.store 1 (.t 3) (.c (.int .i64 0))⟩] (ybm [ybt 4,xO 5 (.mkfunc (.func f_278) [] [.t 3]),ya7 6 f_236 [.t 4,.t 5]] [xL 7 3,xM 2 7])⟩
def c_235_l0:Xv:=ybz [xB 12 .lss 11 10] 12 0 1 [xX 13 5 9 11,xA 14 5 13,yaq 5 [yba,yba,.Xu 3 [],.Xu 5 [],.Xu 5 []],xS 5 5 14] [5] (xD [xM 15 3,xF 16 3 5,xL 17 16,ybv 18 f_235 17,xF 19 4 5,xL 20 19,ybv 21 f_235 20,xO 22 (.minmax true [.t 15,.t 18,.t 21]),xM 3 22]) [xK 23 .add 11 1,xM 11 23]
def c_235_k1:Xv:=yad [xM 24 3,xK 25 .add 24 1,xM 2 25]
def c_235:AFn:=⟨1,[.tmp 2],ya9 [ybd 2] [ybt 6,xN 7 6,xK 8 .eql 7 0] 8 [ybd 2] (ybe [ybd 3] [ybt 9,xN 10 9,ybd 11] 0 c_235_l0 c_235_k1)⟩
def c_236_l0:Xv:=ybz [xB 10 .lss 9 8] 10 0 1 [xX 11 5 7 9,xA 12 5 11,yaq 6 [yba,yba,.Xu 3 [],.Xu 5 [],.Xu 5 []],xS 5 6 12] [6] (yaj [yca 13,xA 14 5 6,xO 15 (.tcallv (.t 13) [.t 14]),ybq 16 15,xM 17 16,yaw 18 17 3 6,yb4 19 17 18,ya8 20 17 1,yac 21 17 (.tcall f_236 [.t 19,.t 20]),yac 22 17 (ybc 21),xW 23 17 22,xM 24 23,yaw 25 24 4 6,yb4 26 24 25,ya8 27 24 1,yac 28 24 (.tcall f_236 [.t 26,.t 27]),yac 29 24 (ybc 28),xW 30 24 29] 30 [ya2 4]) [xK 31 .add 9 1,xM 9 31]
def c_236_k1:Xv:=yad [ycf 4]
def c_236:AFn:=⟨2,[.tmp 4],ybe [ya2 4] [ybt 7,xN 8 7,ybd 9] 0 c_236_l0 c_236_k1⟩
def c_237:AFn:=⟨5,[.tmp 6],yag [xJ 5 0,ya2 6] (yb8 [xA 7 9 1,xA 8 5 5,xL 9 2,yae 10 f_238 [.t 7,.t 8,.t 9],xS 1 3 10] [xL 11 3,xK 12 .neq 11 0] 12 [ya2 6]) (.seq (ycg [xA 13 5 5,ybv 14 f_239 13] 14 (xR [xL 15 2,xF 16 1 5,xL 17 16,xO 18 (.bslice .imm 1 (List.replicate 1 [.int .i64 0]) [(0,(.t 17))]),xO 19 (ycd .app 1 8 15 18),xS 1 2 19])) (ybm [xL 20 4,xK 21 .add 20 1,xS 1 4 21] [ycf 6]))⟩
def c_238_l0:Xv:=ya5 [xB 30 .lss 29 28] 30 1 2 (yb8 [xX 31 1 27 29,xL 32 31,xM 8 32] [xM 33 8,xF 34 1 4,xL 35 34,xB 36 .eql 33 35] 36 [xI 6 7]) [xK 37 .add 29 1,xM 29 37]
def c_238_k1:Xv:=yaj [xF 38 0 4,xL 39 38,xK 40 .eql 39 1,xM 41 40,yb7 42 41 3 4,yar 43 41 (yav 1 42),yar 44 41 (ya6 43),yb7 45 41 4 4,yar 46 41 (yav 1 45),yar 47 41 (ya6 46),yb1 48 41 .add 44 (.t 47),yb1 49 41 .gtr 48 (yao 0),xV 50 41 49] 50 [xI 6 5]
def c_238_k2:Xv:=yad [ybd 6]
def c_238:AFn:=⟨3,[.tmp 6],yag [xJ 3 0,xJ 4 1,ybd 6] (yaa [xF 11 0 4,xL 12 11] (.block 0 (ycb [xK 14 .eql 12 1,xM 13 14] 13 (xR [xK 15 .eql 12 3,xM 13 15]) (yab 13 (ybn [xF 16 1 4,xL 17 16,xK 18 .lss 17 0,xM 19 18,yaw 20 19 1 4,yb4 21 19 20,yaw 22 19 5 3,yb4 23 19 22,ybg 24 19 23,ya3 25 19 .geq 21 (.t 24),xW 26 19 25] 26 [xI 6 8] (ybw [xM 27 2,xN 28 27,ybd 29] 1 c_238_l0 c_238_k1)) (yah [xK 52 .eql 12 2,xM 51 52] 51 (ya9 [xF 54 2 4,xL 55 54,xA 56 9 3,xO 57 (.build [.str [],.Xu 2 [],.Xu 2 [],.Xu 3 [],.Xu 3 [],.Xu 6 [],.Xu 7 [],.Xu 5 [],.Xu 1 [],.Xu 2 []] [(0,9,(.t 56))]),ybj 58 f_275 55 57,xM 53 58,xE 59 0 53,xE 60 1 53,xM 9 59,xM 10 60] [xM 61 10,xK 62 .neq 61 0] 62 [xM 63 10,xM 6 63] (yaj [xM 64 9,xK 65 .neq 64 1] 65 [xI 6 10])) (yad [xI 6 11])))))) c_238_k2⟩
def c_239:AFn:=⟨1,[.tmp 2],ybm [xJ 1 0,ya2 2] [yce 3 0,xL 4 3,xK 5 .eql 4 1,xM 6 5,yaw 7 6 0 1,yb4 8 6 7,ybl 9 6 .eql 8 3,xW 10 6 9,xM 2 10]⟩
def c_240:AFn:=⟨2,[.tmp 4],ybm [ya2 4] [ybt 5,yca 6,ybj 7 f_279 5 6,xK 8 .geq 7 0,xM 4 8]⟩
def c_261_l0:Xv:=ya5 [xB 8 .lss 7 6] 8 0 1 (yb8 [xX 9 1 5 7,xL 10 9,xM 4 10] [xM 11 4,xK 12 .lss 11 1,xM 13 12,ya8 14 13 4,ybl 15 13 .gtr 14 32,xW 16 13 15] 16 [ya2 2]) [xK 17 .add 7 1,xM 7 17]
def c_261_k1:Xv:=yad [ycf 2]
def c_261:AFn:=⟨1,[.tmp 2],ybe [ya2 2] [ybt 5,xN 6 5,ybd 7] 0 c_261_l0 c_261_k1⟩
def c_262:AFn:=⟨2,[.tmp 4],yaa [xJ 2 0,ya2 4] (ybm [xA 8 9 2,yca 9,ybj 10 f_184 8 9,xM 7 10,xE 11 0 7,xE 12 1 7,xM 5 11,xM 6 12] [xM 13 6,xK 14 .eql 13 0,xM 4 14])⟩
def c_263:AFn:=⟨2,[.tmp 4],ybm [ya2 4] [yca 5,xO 6 (.bslice .imm 1 (List.replicate 1 [.int .i64 0]) [(0,(.t 5))]),ybv 7 f_261 6,xM 8 7,ybp 9 8 0,ybp 10 8 1,yar 11 8 (.pcall f_217 [.t 10]),yb1 12 8 .leq 9 (.t 11),xV 13 8 12,xM 4 13]⟩
def c_264:AFn:=⟨2,[.tmp 4],yag [xJ 2 0,xJ 3 1,yb5] (xD [xA 6 9 2,xF 7 0 3,xL 8 7,ybj 9 f_298 6 8,xF 10 1 3,xL 11 10,ybj 12 f_297 9 11,xO 13 (.fld false 1 1 (.t 12)),xM 5 13]) (ybn [xM 14 5,ybv 15 f_217 14,xO 16 (yap .eql 15 (.c (ybs 0)))] 16 [yb5] (ycc 17 5 4 17))⟩
def c_265_l0:Xv:=ya5 [xB 14 .lss 13 12] 14 0 1 (yb8 [xM 15 13,xM 6 15] [xM 16 6,yca 17,ybj 18 f_299 16 17,ybt 19,xB 20 .eql 18 19] 20 [xM 21 6,xM 4 21,ycf 5]) [xK 22 .add 13 1,xM 13 22]
def c_265_k1:Xv:=yb2 yb5 (ya2 5)
def c_265:AFn:=⟨2,[.tmp 4,.tmp 5],ya9 [yb5,ya2 5] [yca 7,xO 8 (.bslice .imm 1 (List.replicate 1 [.int .i64 0]) [(0,(.t 7))]),ybv 9 f_261 8,ybq 10 9] 10 [yb5,ya2 5] (ybw [yca 11,xK 12 .add 11 1,ybd 13] 0 c_265_l0 c_265_k1)⟩
def c_266:AFn:=⟨1,[.tmp 2],ybm [ya2 2] [ybt 3,xO 4 (yap .geq 3 (.c (.int .u8 97))),xM 5 4,ybp 6 5 0,yb1 7 5 .leq 6 (.c (.int .u8 122)),xV 8 5 7,xM 9 8,ya8 10 9 0,ya3 11 9 .geq 10 (.c (.int .u8 65)),ya8 12 9 11,ybp 13 12 0,yb1 14 12 .leq 13 (.c (.int .u8 90)),yac 15 9 (.pick (.t 12) (.t 14) (.c (.bool false))),xW 16 9 15,xM 2 16]⟩
def c_267_l0:Xv:=ycb [xM 6 5,ybt 7,xO 8 (.slen (.t 7)),xB 9 .lss 6 8,xM 10 9,ybp 11 10 1,ybp 12 10 0,ybp 13 10 5,yar 14 10 (.idxs (.t 12) (.t 13)),yar 15 10 (yb9 11 [.t 14]),xV 16 10 15] 16 (.exit 0) (.block 1 (xR [xM 17 5,xK 18 .add 17 1,xM 5 18]))
def c_267_k1:Xv:=ycc 19 5 4 19
def c_267:AFn:=⟨2,[.tmp 4],yaa [yb5] (yag [ybd 5] (yak 0 c_267_l0) c_267_k1)⟩
def c_268:AFn:=⟨1,[.tmp 2],ybm [ya2 2] [ybt 3,ybv 4 f_266 3,xM 5 4,ya8 6 5 0,yac 7 5 (.pcall f_269 [.t 6]),xW 8 5 7,xM 9 8,ya8 10 9 0,ya3 11 9 .eql 10 (.c (.int .u8 95)),xW 12 9 11,xM 2 12]⟩
def c_269:AFn:=⟨1,[.tmp 2],ybm [ya2 2] [ybt 3,xO 4 (yap .geq 3 (.c (.int .u8 48))),xM 5 4,ybp 6 5 0,yb1 7 5 .leq 6 (.c (.int .u8 57)),xV 8 5 7,xM 2 8]⟩
def c_270_l0:Xv:=ya5 [xB 9 .lss 8 7] 9 0 1 (yb8 [xM 10 8,xM 5 10] [yca 11,ybt 12,xM 13 5,xX 14 1 12 13,xL 15 14,xB 16 .eql 11 15] 16 [xM 17 5,xM 4 17]) [xK 18 .add 8 1,xM 8 18]
def c_270_k1:Xv:=yad [xI 4 (-1)]
def c_270:AFn:=⟨2,[.tmp 4],ybe [yb5] [ybt 6,xN 7 6,ybd 8] 0 c_270_l0 c_270_k1⟩
def c_271:AFn:=⟨2,[.tmp 4],ybm [ya2 4] [ybt 5,yca 6,ybj 7 f_300 5 6,xK 8 .geq 7 0,xM 4 8]⟩
def c_272:AFn:=⟨2,[.tmp 3],ybm [xJ 2 0,ya2 3] [xF 4 0 2,xL 5 4,yce 6 0,xL 7 6,xB 8 .eql 5 7,xM 3 8]⟩
def c_273:AFn:=⟨2,[.tmp 4,.tmp 5],yaa [xJ 2 0,xJ 3 1,yb5,ya2 5] (yag [xF 7 2 2,xL 8 7,xM 6 8] (ycg [xF 9 0 3,xL 10 9,xK 11 .neq 10 (-1)] 11 (ybn [xF 12 0 3,xL 13 12,xK 14 .lss 13 0,xM 15 14,yaw 16 15 0 3,yb4 17 15 16,yaw 18 15 1 2,yb4 19 15 18,ybg 20 15 19,ya3 21 15 .geq 17 (.t 20),xW 22 15 21] 22 [yb5,ya2 5] (xR [xF 23 1 2,xL 24 23,xF 25 0 3,xL 26 25,xX 27 2 24 26,xF 28 1 27,xL 29 28,xM 6 29]))) (ybn [xF 30 1 3,xL 31 30,xK 32 .lss 31 0,xM 33 32,yaw 34 33 1 3,yb4 35 33 34,ya8 36 33 6,ybg 37 33 36,ya3 38 33 .geq 35 (.t 37),xW 39 33 38] 39 [yb5,ya2 5] (yad [xM 40 6,xF 41 1 3,xL 42 41,xX 43 2 40 42,xF 44 1 43,xL 45 44,xM 4 45,ycf 5])))⟩
def c_274:AFn:=⟨3,[.tmp 6],yaa [xJ 3 0,ybd 6] (ya9 [yca 10,xF 11 0 3,xA 12 10 11,ybj 13 f_275 10 12,xM 9 13,xE 14 0 9,xE 15 1 9,xM 7 14,xM 8 15] [xM 16 8,xK 17 .eql 16 0,xM 18 17,ybp 19 18 7,ybp 20 18 2,yb1 21 18 .neq 19 (.t 20),xV 22 18 21] 22 [xI 6 10] (ycc 23 8 6 23))⟩
def c_275:AFn:=⟨2,[.tmp 4,.tmp 5],ya9 [xJ 3 1,yb5,ybd 5] [ybt 7,xN 8 7,xK 9 .gtr 8 24] 9 [yb5,xI 5 12] (yag [xA 11 10 3,ybt 12,yae 13 f_301 [.t 11,.t 12,yao 0],xM 10 13,xE 14 0 10,xE 15 1 10,xE 16 2 10,xM 4 14,xM 6 15,xM 5 16] (.block 0 (yai [xM 18 5,xK 19 .neq 18 0,xM 17 19] 17 [xM 20 5,yb5,xM 5 20] (yaj [xM 22 6,ybt 23,xN 24 23,xB 25 .lss 22 24,xM 21 25] 21 [yb5,xI 5 4]))) (yad [xM 26 4,xM 4 26,ybd 5]))⟩
def c_276:AFn:=⟨3,[.tmp 6],yag [xJ 3 0,xJ 5 2,ybd 6] (xD [xA 8 9 3,xF 9 6 3,xL 10 9,yca 11,xX 12 7 10 11,xF 13 3 12,xA 14 2 13,ybj 15 f_264 8 14,xM 7 15]) (yam 0 (yai [xF 17 0 5,xL 18 17,xM 19 7,ybj 20 f_263 18 19,ybq 21 20,xM 22 21,yaw 23 22 1 5,yb4 24 22 23,ya8 25 22 7,yac 26 22 (.pcall f_263 [.t 24,.t 25]),yac 27 22 (ybc 26),xW 28 22 27,xM 16 28] 16 [xI 6 9] (yai [xF 30 0 5,xL 31 30,xF 32 1 5,xL 33 32,xB 34 .andNot 31 33,xO 35 (yap .neq 34 (.c (ybs 0))),xM 29 35] 29 [xI 6 5] (yaj [xA 37 9 3,yca 38,xF 39 2 5,xL 40 39,yae 41 f_277 [.t 37,.t 38,.t 40],ybq 42 41,xM 36 42] 36 [xI 6 14]))) (yad [ybd 6]))⟩
def c_277:AFn:=⟨3,[.tmp 6],yag [xJ 3 0,ya2 6] (yaa [xM 7 2] (.block 0 (yam 2 (.block 1 (.seq (.seq (ycg [xK 9 .eql 7 (-1),xM 8 9] 8 (.exit 1)) (ycg [xK 11 .eql 7 (-2),xM 10 11] 10 (.exit 2))) (.exit 0))) (.seq (yad [ycf 6]) (.exit 0))))) (yad [xM 12 2,yca 13,xB 14 .gtr 12 13,xM 15 14,ybp 16 15 2,yb7 17 15 6 3,yar 18 15 (yav 1 17),yar 19 15 (ya6 18),yb1 20 15 .lss 16 (.t 19),xV 21 15 20,xM 6 21])⟩
def c_278:AFn:=⟨2,[.tmp 3],yaa [xJ 2 0,ya2 3] (ybm [xL 4 1,xK 5 .add 4 1,xS 1 1 5] [ycf 3])⟩
def c_279_l0:Xv:=ya5 [xB 9 .lss 8 7] 9 0 1 (yb8 [xM 10 8,xM 5 10] [yca 11,ybt 12,xM 13 5,xX 14 1 12 13,xL 15 14,xB 16 .eql 11 15] 16 [xM 17 5,xM 4 17]) [xK 18 .add 8 1,xM 8 18]
def c_279_k1:Xv:=yad [xI 4 (-1)]
def c_279:AFn:=⟨2,[.tmp 4],ybe [yb5] [ybt 6,xN 7 6,ybd 8] 0 c_279_l0 c_279_k1⟩
def c_297:AFn:=⟨2,[.cell 4 true 2],yaa [yaq 4 [.str [],yba]] (ya9 [yaq 5 [.str [],yba]] [yca 6,xK 7 .lss 6 0,xM 8 7,ya8 9 8 1,ya8 10 8 0,ybg 11 8 10,ya3 12 8 .geq 9 (.t 11),xW 13 8 12] 13 [xA 14 2 5,xS 2 4 14] (yad [ybt 15,yca 16,xX 17 2 15 16,xA 18 2 17,xS 2 4 18]))⟩
def c_298:AFn:=⟨2,[.tmp 4],ya9 [xJ 2 0,xC 4 (.Xu 2 [])] [yca 5,xK 6 .eql 5 (-1)] 6 [xF 7 2 2,xL 8 7,xM 4 8] (yad [xF 9 1 2,xL 10 9,yca 11,ybj 12 f_309 10 11,xO 13 (.fld false 1 1 (.t 12)),xM 4 13])⟩
def c_299:AFn:=⟨2,[.tmp 4],ya9 [xC 4 (ybs 0)] [yca 5,xO 6 (.bslice .imm 1 (List.replicate 1 [.int .i64 0]) [(0,(.t 5))]),ybv 7 f_261 6,ybq 8 7] 8 [xC 4 (ybs 0)] (yad [yca 9,ybv 10 f_217 9,yca 11,ybv 12 f_217 11,ybt 13,xO 14 (.minmax true [.t 13,.c (.int .i64 0)]),yca 15,xO 16 (.minmax false [.t 14,.t 15]),xB 17 .shr 12 16,xB 18 .andNot 10 17,xM 4 18])⟩
def c_300_l0:Xv:=ya5 [xB 9 .lss 8 7] 9 0 1 (yb8 [xM 10 8,xM 5 10] [yca 11,ybt 12,xM 13 5,xX 14 2 12 13,xA 15 2 14,xO 16 (yb9 11 [.t 15])] 16 [xM 17 5,xM 4 17]) [xK 18 .add 8 1,xM 8 18]
def c_300_k1:Xv:=yad [xI 4 (-1)]
def c_300:AFn:=⟨2,[.tmp 4],ybe [yb5] [ybt 6,xN 7 6,ybd 8] 0 c_300_l0 c_300_k1⟩
def c_301_l0:Xv:=ya5 [xB 45 .lss 44 43] 45 1 2 (ybx [xM 46 44,xM 11 46] [xM 48 11,xA 49 10 3,yca 50,xM 51 7,yae 52 f_301 [.t 49,.t 50,.t 51],xM 47 52,xE 53 0 47,xE 54 1 47,xE 55 2 47,xO 56 (yby 1 (some 3) 10 (.t 48)),xS 1 56 53,xM 7 54,xM 8 55] (yaj [xM 57 8,xK 58 .neq 57 0] 58 [xM 59 8,ybd 6,ybd 7,xM 8 59])) [xK 60 .add 44 1,xM 44 60]
def c_301_k1:Xv:= .seq (xD [yca 62,xM 63 2,xX 64 3 62 63,xA 65 3 64,xA 66 3 10,ybj 67 f_312 65 66,xM 61 67,xE 68 0 61,xE 69 1 61,xM 6 68,xM 8 69]) (yad [xM 70 6,xM 71 7,xM 72 8,xM 6 70,xM 7 71,xM 8 72])
def c_301:AFn:=⟨3,[.tmp 6,.tmp 7,.tmp 8],ya9 [xJ 3 0,ybd 6,ybd 7,ybd 8] [xM 12 2,yca 13,xN 14 13,xB 15 .geq 12 14] 15 [ybd 6,ybd 7,xI 8 3] (yag [yca 16,xM 17 2,xX 18 3 16 17,xF 19 0 18,xL 20 19,ybv 21 f_310 20,xM 9 21] (.block 0 (yai [xM 23 9,xK 24 .lss 23 0,xM 22 24] 22 [ybd 6,ybd 7,xI 8 11] (ycg [xM 26 9,xK 27 .eql 26 0,xM 25 27] 25 (.seq (xD [xA 29 10 3,yca 30,xM 31 2,xX 32 3 30 31,xA 33 3 32,ybj 34 f_311 29 33,xM 28 34,xE 35 0 28,xE 36 1 28,xM 6 35,xM 8 36]) (yad [xM 37 6,xM 38 2,xK 39 .add 38 1,xM 40 8,xM 6 37,xM 7 39,xM 8 40]))))) (yaa [yaq 10 [yba,yba,yba]] (ybe [xM 41 2,xK 42 .add 41 1,xM 7 42] [xM 43 9,ybd 44] 1 c_301_l0 c_301_k1)))⟩
def c_309:AFn:=⟨2,[.cell 4 true 2],yaa [yaq 4 [.str [],.Xu 2 []]] (ya9 [yaq 5 [.str [],.Xu 2 []]] [yca 6,xK 7 .lss 6 0,xM 8 7,ya8 9 8 1,ya8 10 8 0,ybg 11 8 10,ya3 12 8 .geq 9 (.t 11),xW 13 8 12] 13 [xA 14 2 5,xS 2 4 14] (yad [ybt 15,yca 16,xX 17 2 15 16,xA 18 2 17,xS 2 4 18]))⟩
def c_310:AFn:=⟨1,[.tmp 2],yag [ybd 2] (yaa [ybt 3] (.block 0 (ycb [xK 5 .eql 3 1,xM 4 5] 4 (ybr [xK 6 .eql 3 2,xM 4 6] 4 (ybr [xK 7 .eql 3 3,xM 4 7] 4 (xR [xK 8 .eql 3 4,xM 4 8]))) (yab 4 (yad [ybd 2]) (ycb [xK 10 .eql 3 5,xM 9 10] 9 (ybr [xK 11 .eql 3 6,xM 9 11] 9 (ybr [xK 12 .eql 3 7,xM 9 12] 9 (xR [xK 13 .eql 3 8,xM 9 13]))) (yab 9 (yad [xI 2 1]) (ycb [xK 15 .eql 3 9,xM 14 15] 14 (ybr [xK 16 .eql 3 10,xM 14 16] 14 (ybr [xK 17 .eql 3 11,xM 14 17] 14 (ybr [xK 18 .eql 3 12,xM 14 18] 14 (ybr [xK 19 .eql 3 13,xM 14 19] 14 (ybr [xK 20 .eql 3 14,xM 14 20] 14 (ybr [xK 21 .eql 3 15,xM 14 21] 14 (xR [xK 22 .eql 3 16,xM 14 22]))))))) (yab 14 (yad [xI 2 2]) (yaj [xK 24 .eql 3 17,xM 23 24] 23 [xI 2 3]))))))))) (yad [xI 2 (-1)])⟩
def c_311:AFn:=⟨2,[.tmp 4,.tmp 5],yag [xJ 2 0,xJ 3 1,yb5,ybd 5] (yaa [xF 10 0 3,xL 11 10] (.block 0 (yah [xK 13 .eql 11 1,xM 12 13] 12 (yag [xF 15 2 3,xL 16 15,ybv 17 f_320 16,xM 14 17,xE 18 0 14,xE 19 1 14,xM 6 18,xM 7 19] (.seq (xD [xM 20 7,xK 21 .eql 20 0,xM 22 21,yb7 23 22 1 3,yar 24 22 (yav 1 23),yb1 25 22 .lss 24 (yao 0),ybp 26 22 25,yaw 27 26 1 3,yb4 28 26 27,ya8 29 26 6,yac 30 26 (.pcall f_217 [.t 29]),yac 31 26 (yb0 .i64 30),ya3 32 26 .gtr 28 (.t 31),yar 33 22 (.pick (.t 26) (.c (.bool true)) (.t 32)),xV 34 22 33]) (yab 34 (yb2 yb5 (xI 5 9)) .skip)) (yad [xM 35 6,xM 36 7,xM 4 35,xM 5 36])) (yah [xK 38 .eql 11 2,xM 37 38] 37 (ybk [xA 40 10 2,xF 41 1 3,xL 42 41,xF 43 2 3,xL 44 43,yae 45 f_321 [.t 40,.t 42,.t 44],xM 39 45,xE 46 0 39,xE 47 1 39,yaq 8 [.str [],yba],xS 2 8 46,xM 9 47] [8] (ybn [xM 48 9,ybq 49 48] 49 [yb5,xI 5 8] (yad [xF 50 1 8,xL 51 50,ybv 52 f_320 51,xE 53 0 52,xE 54 1 52,xM 4 53,xM 5 54]))) (ycg [xK 56 .eql 11 3,xM 55 56] 55 (ybn [xF 57 1 3,xL 58 57,xK 59 .lss 58 0,xM 60 59,yaw 61 60 1 3,yb4 62 60 61,yaw 63 60 9 2,yb4 64 60 63,ybg 65 60 64,ya3 66 60 .geq 62 (.t 65),xW 67 60 66] 67 [yb5,xI 5 8] (yad [xF 68 9 2,xL 69 68,xF 70 1 3,xL 71 70,xX 72 2 69 71,xF 73 1 72,xL 74 73,ybv 75 f_320 74,xE 76 0 75,xE 77 1 75,xM 4 76,xM 5 77]))))))) (ybn [xF 78 1 3,xL 79 78,xK 80 .lss 79 0,xM 81 80,yaw 82 81 1 3,yb4 83 81 82,yaw 84 81 0 2,yaw 85 81 1 84,yb4 86 81 85,ybg 87 81 86,ya3 88 81 .geq 83 (.t 87),xW 89 81 88] 89 [yb5,xI 5 8] (yb2 (xI 4 1) (ybd 5)))⟩
def c_312:AFn:=⟨2,[.tmp 4,.tmp 5],yag [xJ 2 0,xJ 3 1,yb5,ybd 5] (yaa [xF 8 0 2,xL 9 8] (.block 0 (ycb [xK 11 .eql 9 6,xM 10 11] 10 (xR [xK 12 .eql 9 7,xM 10 12]) (yab 10 (yaj [xF 13 1 2,xL 14 13,xK 15 .lss 14 0,xM 16 15,yaw 17 16 1 2,yb4 18 16 17,ybl 19 16 .gtr 18 31,xW 20 16 19] 20 [yb5,xI 5 9]) (yah [xK 22 .eql 9 8,xM 21 22] 21 (ybn [xF 23 1 2,xL 24 23,xK 25 .lss 24 0] 25 [yb5,xI 5 9] (.seq (yb8 [xF 27 2 2,xL 28 27,ybv 29 f_320 28,xM 26 29,xE 30 0 26,xE 31 1 26,xM 6 30,xM 7 31] [xM 32 7,xK 33 .neq 32 0,xM 34 33,yaw 35 34 1 2,yb4 36 34 35,yac 37 34 (yby 1 (some 3) 3 (yao 0)),yb4 38 34 37,yaw 39 34 2 2,yb4 40 34 39,ya3 41 34 .sub 38 (.t 40),ya3 42 34 .gtr 36 (.t 41),xW 43 34 42] 43 [yb5,xI 5 10]) (yad [xF 44 2 2,xL 45 44,xM 4 45,ybd 5]))) (yai [xK 47 .eql 9 14,xM 46 47] 46 [xO 48 (yby 1 (some 3) 3 (yao 0)),xL 49 48,xO 50 (yby 1 (some 3) 3 (yao 1)),xL 51 50,xB 52 .add 49 51,ybv 53 f_320 52,xE 54 0 53,xE 55 1 53,xM 4 54,xM 5 55] (ycg [xK 57 .eql 9 17,xM 56 57] 56 (ybn [xO 58 (yby 1 (some 3) 3 (yao 0)),xL 59 58,xK 60 .neq 59 1,xM 61 60,yac 62 61 (yby 1 (some 3) 3 (yao 1)),yb4 63 61 62,yac 64 61 (yby 1 (some 3) 3 (yao 2)),yb4 65 61 64,ya3 66 61 .neq 63 (.t 65),xW 67 61 66] 67 [yb5,xI 5 10] (yad [xO 68 (yby 1 (some 3) 3 (yao 1)),xL 69 68,xM 4 69,ybd 5]))))))))) (ybn [xF 70 0 2,xL 71 70,ybv 72 f_310 71,xK 73 .eql 72 2,xM 74 73,yar 75 74 (yby 1 (some 3) 3 (yao 0)),yar 76 74 (yav 1 75),yar 77 74 (yby 1 (some 3) 3 (yao 1)),yar 78 74 (yav 1 77),yb1 79 74 .neq 76 (.t 78),xV 80 74 79] 80 [yb5,xI 5 10] (ybn [xF 81 0 2,xL 82 81,xK 83 .eql 82 15,xM 84 83,yaw 85 84 0 2,yb4 86 84 85,ybl 87 84 .eql 86 16,xW 88 84 87] 88 [xI 4 1,ybd 5] (yad [xO 89 (yby 1 (some 3) 3 (yao 0)),xL 90 89,xM 4 90,ybd 5])))⟩
def c_320:AFn:=⟨1,[.tmp 2,.tmp 3],ya9 [ybd 2,ybd 3] [ybt 4,xK 5 .lss 4 1,xM 6 5,ya8 7 6 0,ybl 8 6 .gtr 7 32,xW 9 6 8] 9 [ybd 2,xI 3 10] (yad [ybt 10,xM 2 10,ybd 3])⟩
def c_321:AFn:=⟨3,[.cell 6 true 2,.tmp 7],yaa [xJ 3 0,yaq 6 [.str [],yba],ya2 7] (yag [xF 9 0 3,xF 10 2 9,xL 11 10,xM 8 11] (ycg [yca 12,xK 13 .neq 12 (-1)] 13 (ybn [yca 14,xK 15 .lss 14 0,xM 16 15,ya8 17 16 1,yaw 18 16 0 3,yaw 19 16 1 18,yb4 20 16 19,ybg 21 16 20,ya3 22 16 .geq 17 (.t 21),xW 23 16 22] 23 [xO 24 (.build [.str [],.int .i64 0] []),xS 2 6 24,ya2 7] (xR [xF 25 0 3,xF 26 1 25,xL 27 26,yca 28,xX 29 2 27 28,xF 30 1 29,xL 31 30,xM 8 31]))) (ybn [xM 32 2,xK 33 .lss 32 0,xM 34 33,ya8 35 34 2,ya8 36 34 8,ybg 37 34 36,ya3 38 34 .geq 35 (.t 37),xW 39 34 38] 39 [xO 40 (.build [.str [],.int .i64 0] []),xS 2 6 40,ya2 7] (yad [xM 41 8,xM 42 2,xX 43 2 41 42,xA 44 2 43,xS 2 6 44,ycf 7])))⟩
def tabL:List (Nat×AFn):=[(f_5,c_5),
  (f_12,c_12),
  (f_17,c_17),
  (f_18,c_18),
  (f_21,c_21),
  (f_22,c_22),
  (f_23,c_23),
  (f_24,c_24),
  (f_38,c_38),
  (f_41,c_41),
  (f_43,c_43),
  (f_45,c_45),
  (f_53,c_53),
  (f_54,c_54),
  (f_55,c_55),
  (f_59,c_59),
  (f_60,c_60),
  (f_61,c_61),
  (f_63,c_63),
  (f_64,c_64),
  (f_84,c_84),
  (f_85,c_85),
  (f_87,c_87),
  (f_88,c_88),
  (f_89,c_89),
  (f_90,c_90),
  (f_92,c_92),
  (f_93,c_93),
  (f_94,c_94),
  (f_95,c_95),
  (f_99,c_99),
  (f_100,c_100),
  (f_101,c_101),
  (f_102,c_102),
  (f_103,c_103),
  (f_104,c_104),
  (f_105,c_105),
  (f_108,c_108),
  (f_109,c_109),
  (f_110,c_110),
  (f_111,c_111),
  (f_112,c_112),
  (f_113,c_113),
  (f_114,c_114),
  (f_115,c_115),
  (f_117,c_117),
  (f_118,c_118),
  (f_119,c_119),
  (f_120,c_120),
  (f_122,c_122),
  (f_123,c_123),
  (f_125,c_125),
  (f_126,c_126),
  (f_127,c_127),
  (f_128,c_128),
  (f_129,c_129),
  (f_130,c_130),
  (f_149,c_149),
  (f_152,c_152),
  (f_153,c_153),
  (f_154,c_154),
  (f_155,c_155),
  (f_156,c_156),
  (f_157,c_157),
  (f_158,c_158),
  (f_159,c_159),
  (f_160,c_160),
  (f_161,c_161),
  (f_162,c_162),
  (f_163,c_163),
  (f_164,c_164),
  (f_166,c_166),
  (f_167,c_167),
  (f_168,c_168),
  (f_169,c_169),
  (f_170,c_170),
  (f_171,c_171),
  (f_172,c_172),
  (f_173,c_173),
  (f_174,c_174),
  (f_175,c_175),
  (f_176,c_176),
  (f_177,c_177),
  (f_178,c_178),
  (f_179,c_179),
  (f_180,c_180),
  (f_181,c_181),
  (f_182,c_182),
  (f_183,c_183),
  (f_184,c_184),
  (f_185,c_185),
  (f_186,c_186),
  (f_187,c_187),
  (f_188,c_188),
  (f_189,c_189),
  (f_194,c_194),
  (f_195,c_195),
  (f_215,c_215),
  (f_216,c_216),
  (f_217,c_217),
  (f_218,c_218),
  (f_219,c_219),
  (f_220,c_220),
  (f_221,c_221),
  (f_222,c_222),
  (f_223,c_223),
  (f_225,c_225),
  (f_226,c_226),
  (f_227,c_227),
  (f_228,c_228),
  (f_229,c_229),
  (f_230,c_230),
  (f_231,c_231),
  (f_232,c_232),
  (f_233,c_233),
  (f_234,c_234),
  (f_235,c_235),
  (f_236,c_236),
  (f_237,c_237),
  (f_238,c_238),
  (f_239,c_239),
  (f_240,c_240),
  (f_261,c_261),
  (f_262,c_262),
  (f_263,c_263),
  (f_264,c_264),
  (f_265,c_265),
  (f_266,c_266),
  (f_267,c_267),
  (f_268,c_268),
  (f_269,c_269),
  (f_270,c_270),
  (f_271,c_271),
  (f_272,c_272),
  (f_273,c_273),
  (f_274,c_274),
  (f_275,c_275),
  (f_276,c_276),
  (f_277,c_277),
  (f_278,c_278),
  (f_279,c_279),
  (f_297,c_297),
  (f_298,c_298),
  (f_299,c_299),
  (f_300,c_300),
  (f_301,c_301),
  (f_309,c_309),
  (f_310,c_310),
  (f_311,c_311),
  (f_312,c_312),
  (f_320,c_320),
  (f_321,c_321)]
def tabD:List (Nat×ADFn):=[(f_20,c_20),
  (f_42,c_42),
  (f_52,c_52)]
def tabC:List CloneD:=[⟨f_62,1,1,.app⟩,⟨f_106,2,24,.app⟩,⟨f_107,3,32,.app⟩,⟨f_116,1,8,.row⟩,⟨f_150,1,4,.app⟩,⟨f_190,3,24,.app⟩,⟨f_191,3,16,.app⟩,⟨f_192,3,24,.app⟩,⟨f_224,2,8,.app⟩]
def nilL:List (Nat×Nat):=[(f_8,9),(f_13,13),(f_13,17),(f_42,9),(f_57,6),(f_68,3),(f_71,6),(f_72,6),(f_104,5),(f_108,5),(f_110,5),(f_112,5),(f_114,5),(f_138,3),(f_169,5),(f_173,5),(f_176,5),(f_179,5),(f_182,5),(f_188,5),(f_220,5),(f_227,3),(f_252,3),(f_257,13),(f_259,11),(f_302,12),(f_305,5)]
def thr:List Nat:=[f_17,f_20,f_21,f_22,f_29,f_31,f_41,f_42,f_43,f_44,f_45,f_58,f_64,f_70,f_88,f_89,f_90,f_92,f_93,f_94,f_95,f_122,f_123,f_124,f_126,f_129,f_130,f_154,f_155,f_158,f_161,f_164,f_193,f_194,f_195,f_236]
def thrAt:List (Nat×Nat):=[(f_210,f_210),(f_211,f_210),(f_59,f_125),(f_92,f_116)]
def thrV:List Nat:=[f_126,f_236]
def rowAt:List (Nat×Nat):=[(f_8,40),(f_8,66),(f_93,112),(f_258,48),(f_260,41),(f_116,7)]
def thrVAt:List (Nat×Nat):=[]
def rowF:List Nat:=[f_92,f_38]
def rowFB:List Nat:=[]
def appAt:List (Nat×Nat):=[(f_38,32),(f_92,70)]
def immAt:List (Nat×Nat):=[(f_138,27)]
def slcHL:List Nat:=[f_164]
def browAt:List (Nat×Nat):=[(f_8,39),(f_8,65),(f_92,39)]
def boxiAt:List (Nat×Nat):=[(f_88,2),(f_41,2),(f_41,3),(f_38,1)]
def takeAt:List (Nat×Nat):=[(f_258,65)]
def boxiL:List (Nat×List Nat):=[(3,[3,4]),(4,[3,4,5]),(5,[2]),(6,[2]),(7,[2]),(8,[3]),(9,[2,3]),(12,[3,4]),(13,[3,4]),(18,[2]),(25,[1]),(28,[3]),(30,[2]),(33,[1]),(53,[1]),(54,[1]),(65,[1]),(66,[1]),(67,[3,4]),(82,[1]),(84,[1]),(85,[1]),(87,[2,3]),(99,[1]),(100,[1]),(101,[1]),(102,[1]),(103,[1]),(118,[1]),(119,[1]),(120,[1]),(131,[1]),(132,[1]),(133,[1]),(134,[1]),(135,[1]),(136,[1]),(137,[1]),(138,[1]),(139,[3,4]),(149,[1]),(152,[5,9]),(153,[2]),(156,[3,5]),(157,[1]),(159,[3,5]),(163,[1]),(170,[1]),(171,[1]),(174,[1]),(177,[1]),(178,[1]),(180,[1]),(181,[2]),(183,[1]),(184,[2]),(185,[1]),(186,[1]),(187,[1]),(198,[1]),(200,[1]),(201,[2]),(202,[2]),(203,[1]),(204,[1]),(205,[1]),(206,[2,3]),(207,[3,4,5]),(215,[2]),(218,[3]),(219,[2,3]),(220,[2]),(221,[3]),(222,[2]),(227,[1]),(229,[1]),(230,[2,3]),(231,[2,3]),(232,[2,3]),(233,[2]),(237,[5]),(238,[3,4]),(239,[1]),(243,[2]),(245,[3,4,5]),(246,[2]),(247,[2,3]),(248,[2,3]),(249,[2]),(253,[3]),(254,[4]),(255,[3,5]),(256,[2]),(257,[4,5,7]),(258,[5,6,9]),(259,[4,5]),(260,[4,5,7]),(262,[2]),(264,[2,3]),(272,[2]),(273,[2,3]),(274,[3]),(275,[3]),(276,[3,5]),(277,[3]),(278,[2]),(280,[2,3]),(281,[4]),(282,[3]),(283,[2,3]),(285,[2,3]),(286,[2,3]),(287,[2]),(288,[3]),(290,[3,5]),(291,[3]),(292,[3]),(294,[1]),(295,[4]),(298,[2]),(301,[3]),(302,[5]),(304,[1]),(305,[2]),(306,[3]),(307,[2]),(308,[2]),(311,[2,3]),(312,[2,3]),(314,[2,3]),(315,[2]),(321,[3])]
def keepL:List (Nat×List (Nat×List Nat)):=[(3,[(3,[7]),(14,[15])]),(4,[(4,[9]),(7,[13]),(8,[17])]),(6,[(11,[13])]),(7,[(4,[8])]),(11,[(1,[1]),(2,[2]),(3,[3]),(4,[7])]),(13,[(1,[8]),(10,[15]),(20,[20]),(30,[25])]),(19,[(1,[1]),(5,[4])]),(21,[(4,[3])]),(25,[(1,[4])]),(26,[(1,[8])]),(30,[(12,[14])]),(33,[(21,[7])]),(37,[(1,[1])]),(38,[(4,[5])]),(44,[(5,[9])]),(67,[(1,[10])]),(84,[(4,[5])]),(87,[(1,[5])]),(92,[(8,[8]),(15,[10])]),(100,[(4,[4])]),(101,[(5,[4]),(12,[6])]),(102,[(4,[4])]),(104,[(4,[7])]),(108,[(4,[7])]),(110,[(4,[7])]),(112,[(4,[7])]),(114,[(4,[7])]),(139,[(10,[12])]),(152,[(6,[13]),(15,[15])]),(154,[(3,[5])]),(159,[(9,[12])]),(169,[(4,[7])]),(171,[(9,[4])]),(173,[(4,[7])]),(176,[(4,[7])]),(179,[(4,[7])]),(181,[(3,[6]),(7,[7]),(10,[9])]),(182,[(4,[7])]),(184,[(3,[6])]),(185,[(8,[7])]),(188,[(4,[7])]),(198,[(11,[5])]),(201,[(3,[6])]),(202,[(3,[6])]),(207,[(5,[9]),(8,[11]),(11,[13])]),(220,[(6,[7])]),(222,[(6,[7])]),(227,[(4,[5])]),(229,[(7,[4])]),(230,[(1,[5])]),(231,[(4,[9])]),(233,[(1,[6]),(16,[10])]),(235,[(6,[5])]),(236,[(3,[6])]),(249,[(1,[6])]),(253,[(1,[7])]),(287,[(1,[6]),(6,[9])]),(311,[(8,[8])])]
def qag3:List (Nat×List Nat):=[(99,[1,2,3,4,5]),(100,[5,6,7]),(101,[1,6,7,8,13]),(102,[5,6,13,14,21,22]),(103,[2,4,6]),(166,[1]),(216,[2])]
def ann:Ann:=
  { pure:=fun fn f _=> !(qbz f thr)&& !(thrAt.any fun p=>p.1 == fn&&p.2 == f)
    purev:=fun fn d=> !(qbz fn thrV)&& !(match d with | some t=>thrVAt.any (fun q=>q.1 == fn&&q.2 == t) | none=>false),bmode:=fun fn d=>if qbz fn rowFB || (match d with | some t=>browAt.any (fun q=>q.1 == fn&&q.2 == t) | none=>false) then .row else .imm,smode:=fun fn d=>match d with | some t=>if immAt.any (fun q=>q.1 == fn&&q.2 == t) then .imm else .row | none=> .row,amode:=fun fn d=>match d with | some t=>if rowAt.any (fun q=>q.1 == fn&&q.2 == t) || (qbz fn rowF&& !(appAt.any fun q=>q.1 == fn&&q.2 == t)) then .row else .app | none=> .app
    nilapp:=fun fn d=>match d with | some t=>nilL.any (fun q=>q.1 == fn&&q.2 == t) | none=>false
    slch:=fun fn d=>(qbz fn slcHL&&(match d with | some t=>t == 13 || t == 31 | none=>false)) || (match d with | some t=>takeAt.any (fun q=>q.1 == fn&&q.2 == t) | none=>false)
    boxi:=fun fn d=>match d with | some t=>boxiAt.any (fun q=>q.1 == fn&&q.2 == t) || (match look fn boxiL with | some l=>qbz t l | none=>false) | none=>false
    keep:=fun fn id=>(look fn keepL).bind (look id)
    split:=fun fn id=>match look fn qag3 with | some l=>qbz id l | none=>false }
def ktabL:List Nat:=[57,58,31,70,29,193,124,121,56,19,91]
def qqq (b:FuncId->Option AFun) (P:Program) (A:Ann) (l:List Nat) (f:FuncId):Option AFun:=match b f with
  | some x=>some x
  | none=>if qbz f l then (cFn P A f).map .code else none
def Φ:FuncId->Option AFun:=qqq (qqv tabL tabD tabC) Go.Proofs.Tryz.prog ann ktabL
end
end Go.Av
