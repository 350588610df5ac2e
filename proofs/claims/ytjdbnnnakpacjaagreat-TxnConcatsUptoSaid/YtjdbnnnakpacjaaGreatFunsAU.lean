/-
  The compact form of the program's functions, printed by a program.
-/
import Derived.Test.YtjdbnnnakpacjaaGreatAvD
import Derived.Test.YtjdbnnnakpacjaaGreatRows
set_option linter.unusedVariables false
set_option linter.unusedSimpArgs false
set_option linter.constructorNameAsVariable false
namespace Go.Av
noncomputable section
@[reducible] def xM (d s:Nat):AOper:=⟨some d,none,.mov (.t s)⟩
@[reducible] def xI (d:Nat) (n:Int):AOper:=⟨some d,none,.mov (.c (.int .i64 n))⟩
@[reducible] def xC (d:Nat) (v:AV):AOper:=⟨some d,none,.mov (.c v)⟩
@[reducible] def xF (d o s:Nat):AOper:=⟨some d,none,.faddr o (.t s)⟩
@[reducible] def xL (d s:Nat):AOper:=⟨some d,none,.load false 1 (.t s)⟩
@[reducible] def xA (d n s:Nat):AOper:=⟨some d,none,.load true n (.t s)⟩
@[reducible] def xX (d z a i:Nat):AOper:=⟨some d,none,.iaddr z none (.t a) (.t i)⟩
@[reducible] def xS (n p v:Nat):AOper:=⟨none,none,.store n (.t p) (.t v)⟩
@[reducible] def xN (d s:Nat):AOper:=⟨some d,none,.len (.t s)⟩
@[reducible] def xE (d i s:Nat):AOper:=⟨some d,none,.ext i (.t s)⟩
@[reducible] def xB (d:Nat) (p:BinOp) (a b:Nat):AOper:=⟨some d,none,.bin p (.t a) (.t b)⟩
@[reducible] def xK (d:Nat) (p:BinOp) (a:Nat) (n:Int):AOper:=⟨some d,none,.bin p (.t a) (.c (.int .i64 n))⟩
@[reducible] def xW (d a b:Nat):AOper:=⟨some d,none,.pick (.t a) (.c (.bool true)) (.t b)⟩
@[reducible] def xV (d a b:Nat):AOper:=⟨some d,none,.pick (.t a) (.t b) (.c (.bool false))⟩
@[reducible] def xJ (d s:Nat):AOper:=⟨some d,none,.boxi (.t s)⟩
@[reducible] def xO (d:Nat) (p:AOp):AOper:=⟨some d,none,p⟩
@[reducible] def xG (d g:Nat) (b:Bool) (p:AOp):AOper:=⟨some d,some (g,b),p⟩
@[reducible] def xR (l:List AOper):ACode:= .region false [] l none
@[reducible] def xD (l:List AOper):ACode:= .region true [] l none
@[reducible] def xQ (l:List AOper) (k:List Nat):ACode:= .region false [] l (some k)
@[reducible] def yaa (a:List AOper) (b:ACode):ACode:= .seq (xR a) b
@[reducible] def yab (a:Nat) (b c:ACode):ACode:= .cond (.t a) b c
@[reducible] def yac (a b:Nat) (c:AOp):AOper:=xG a b false c
@[reducible] def yad (a:List AOper):ACode:=yaa a .ret
@[reducible] def yae (a:List AOper) (b c:ACode):ACode:= .seq (yaa a b) c
@[reducible] def yaf (a b:Nat) (c:List AX):AOper:=xO a (.pcall b c)
@[reducible] def yag (a:Int):AV:= .int .i64 a
@[reducible] def yah (a:Nat) (b:List AOper) (c:ACode):ACode:=yab a (yad b) c
@[reducible] def yai (a:Nat) (b:List AOper):ACode:=yah a b .skip
@[reducible] def yaj (a:Nat) (b c:ACode):ACode:= .seq (.block a b) c
@[reducible] def yak (a b:Nat):AOp:= .faddr a (.t b)
@[reducible] def yal (a:Nat) (b:ACode):ACode:= .block a (.loop b)
@[reducible] def yam (a:Nat) (b:Bool):AOper:=xC a (.bool b)
@[reducible] def yan (a:Nat) (b:AX):AOp:= .load false a b
@[reducible] def yao (a:Nat) (b:ACode) (c:Nat):ACode:=yab a b (.exit c)
@[reducible] def yap (a b:List AOper) (c d:ACode):ACode:=yaa a (yae b c d)
@[reducible] def yaq (a:Nat):AOper:=yam a false
@[reducible] def yar (a:Int):AX:= .c (yag a)
@[reducible] def yas (a:Nat) (b:List AV):AOper:=xO a (.alloc b)
@[reducible] def yat (a:List AOper) (b c:ACode):ACode:=yaa a (.seq b c)
@[reducible] def yau (a:BinOp) (b:Nat) (c:AX):AOp:= .bin a (.t b) c
@[reducible] def yav (a b:Nat) (c:AOp):AOper:=xG a b true c
@[reducible] def yaw (a:Nat):AOp:= .mov (.t a)
@[reducible] def yax (a b c d:Nat):AOper:=yac a b (yak c d)
@[reducible] def yay (a b:Nat):AOp:=yan a (.t b)
@[reducible] def yaz (a b:Nat):ACode:=yao a .skip b
@[reducible] def ya0 (a b c d:Nat):AOper:=yac a b (yay c d)
@[reducible] def ya1 (a:Nat) (b:ACode) (c:List AOper):ACode:=yaj a b (xR c)
@[reducible] def ya2 (a b:Nat) (c:BinOp) (d:Nat) (e:AX):AOper:=yac a b (yau c d e)
@[reducible] def ya3 (a:List AOper) (b:Nat) (c:List AOper):ACode:=yaa a (yai b c)
@[reducible] def ya4 (a:List AOper) (b c:Nat) (d:ACode):ACode:=yat a (yaz b c) d
@[reducible] def ya5 (a b c:Nat):AOper:=yac a b (yaw c)
@[reducible] def ya6 (a:Nat):AOp:= .len (.t a)
@[reducible] def ya7 (a:List AOper) (b c d:Nat) (e:ACode) (f:List AOper):ACode:=ya4 a b c (ya1 d e f)
@[reducible] def ya8 (a:AX):AOp:= .un .not a
@[reducible] def ya9 (a:Nat):AOp:=ya8 (.t a)
@[reducible] def yba (a b:List AOper) (c:Nat) (d:List AOper) (e:ACode):ACode:=yap a b (yai c d) e
@[reducible] def ybb:AV:=yag 0
@[reducible] def ybc (a b c:Nat):AOper:=yac a b (ya6 c)
@[reducible] def ybd (a:List AOper) (b:List Nat) (c:ACode):ACode:= .seq (xQ a b) c
@[reducible] def ybe (a:Nat):AOp:= .nilchk (.t a)
@[reducible] def ybf (a b:Nat) (c d:AX):AOper:=yaf a b [c,d]
@[reducible] def ybg (a b c:Nat) (d:AX):AOper:=ybf a b (.t c) d
@[reducible] def ybh (a b c d:Nat):AOper:=ybg a b c (.t d)
@[reducible] def ybi (a:Nat):AOper:=xI a 0
@[reducible] def ybj (a:List AOper) (b:Nat) (c d:ACode):ACode:=yae a (yal b c) d
@[reducible] def ybk (a b:Nat):AOper:=xO a (ya9 b)
@[reducible] def ybl (a:List AOper) (b:Nat) (c:List AOper) (d:ACode):ACode:=yae a (yai b c) d
@[reducible] def ybm (a b:Nat) (c:BinOp) (d:Nat) (e:Int):AOper:=ya2 a b c d (yar e)
@[reducible] def ybn (a:Nat):AOp:= .box (.t a)
@[reducible] def ybo (a b:List AOper) (c:Nat) (d e:ACode):ACode:=yap a b (yal c d) e
@[reducible] def ybp (a b:List AOper):ACode:=yaa a (yad b)
@[reducible] def ybq (a:Nat) (b:Option Nat) (c:Nat) (d:AX):AOp:= .iaddr a b (.t c) d
@[reducible] def ybr (a b:Nat) (c:List AX):AOper:=xO a (.tcall b c)
@[reducible] def ybs (a:SM) (b c d:Nat) (e:AX):AOp:= .append a b c (.t d) e
@[reducible] def ybt (a b c:Nat):AOper:=yav a b (yaw c)
@[reducible] def ybu (a b c:Nat):AOper:=ya0 a b 1 c
@[reducible] def ybv (a b:Nat):AOper:=xO a (ybn b)
@[reducible] def ybw (a b:List AOper) (c:ACode):ACode:=yaa a (yaa b c)
@[reducible] def ybx (a:List AOper) (b:Nat) (c:List AOper) (d:ACode):ACode:=yaa a (yah b c d)
@[reducible] def yby (a:List AOper) (b c d:Nat) (e:List AOper) (f:List Nat) (g:ACode) (h:List AOper):ACode:=ya7 a b c d (ybd e f g) h
@[reducible] def ybz (a b c:Nat) (d:List AX):AOper:=yav a b (.pcall c d)
@[reducible] def yb0 (a b c d:Nat):AOper:=yav a b (yak c d)
@[reducible] def yb1 (a:Nat) (b:ACode):ACode:=yab a b .skip
@[reducible] def yb2 (a:Nat):AOper:=xM a 0
@[reducible] def yb3 (a b:Nat):AOper:=xO a (.nilapp b)
@[reducible] def yb4 (a:List AOper) (b c:Nat) (d:ACode):ACode:=yae a (yaz b c) d
@[reducible] def yb5 (a:Nat):AOper:=yam a true
@[reducible] def yb6 (a b:Nat) (c:BinOp) (d:Nat) (e:AX):AOper:=yav a b (yau c d e)
@[reducible] def yb7 (a:List AOper) (b:ACode):ACode:= .seq (xD a) b
@[reducible] def yb8 (a:Nat):AOper:=xM a 1
@[reducible] def yb9:AOper:=ybi 4
@[reducible] def yca (a b:Nat) (c:AX):AOper:=yaf a b [c]
@[reducible] def ycb (a b c:Nat):AOper:=yca a b (.t c)
@[reducible] def ycc (a:Nat):AOper:=xM a 5
@[reducible] def ycd (a b:Nat):AOper:=xF a 0 b
@[reducible] def yce (a:Nat) (b:List AX):AOp:= .pcallv (.t a) b
@[reducible] def ycf:AOper:=yaq 4
@[reducible] def ycg (a b:AOper) (c:ACode):ACode:=yaa [a,b] c
@[reducible] def ych (a:AOper) (b c:Nat) (d:ACode):ACode:=ycg a (xM b c) d
@[reducible] def yci (a b:AOper):ACode:=yad [a,b]
@[reducible] def ycj (a b c:Nat) (d:List AX):AOper:=yac a b (.pcall c d)
@[reducible] def yck (a:Nat) (b:BinOp) (c:Nat):AOper:=xK a b c 1
@[reducible] def ycl (a b:Nat) (c:BinOp) (d e:Nat):AOper:=ya2 a b c d (.t e)
def f_3:Nat:=3
def f_4:Nat:=4
def f_5:Nat:=5
def f_8:Nat:=8
def f_9:Nat:=9
def f_10:Nat:=10
def f_11:Nat:=11
def f_12:Nat:=12
def f_13:Nat:=13
def f_14:Nat:=14
def f_15:Nat:=15
def f_16:Nat:=16
def f_17:Nat:=17
def f_20:Nat:=20
def f_21:Nat:=21
def f_22:Nat:=22
def f_23:Nat:=23
def f_29:Nat:=29
def f_31:Nat:=31
def f_33:Nat:=33
def f_34:Nat:=34
def f_35:Nat:=35
def f_36:Nat:=36
def f_38:Nat:=38
def f_41:Nat:=41
def f_42:Nat:=42
def f_43:Nat:=43
def f_44:Nat:=44
def f_45:Nat:=45
def f_46:Nat:=46
def f_47:Nat:=47
def f_48:Nat:=48
def f_49:Nat:=49
def f_50:Nat:=50
def f_51:Nat:=51
def f_52:Nat:=52
def f_53:Nat:=53
def f_57:Nat:=57
def f_58:Nat:=58
def f_59:Nat:=59
def f_62:Nat:=62
def f_64:Nat:=64
def f_68:Nat:=68
def f_70:Nat:=70
def f_71:Nat:=71
def f_72:Nat:=72
def f_81:Nat:=81
def f_82:Nat:=82
def f_83:Nat:=83
def f_85:Nat:=85
def f_86:Nat:=86
def f_87:Nat:=87
def f_88:Nat:=88
def f_89:Nat:=89
def f_90:Nat:=90
def f_91:Nat:=91
def f_92:Nat:=92
def f_93:Nat:=93
def f_94:Nat:=94
def f_95:Nat:=95
def f_96:Nat:=96
def f_97:Nat:=97
def f_98:Nat:=98
def f_99:Nat:=99
def f_100:Nat:=100
def f_101:Nat:=101
def f_102:Nat:=102
def f_103:Nat:=103
def f_104:Nat:=104
def f_105:Nat:=105
def f_106:Nat:=106
def f_107:Nat:=107
def f_108:Nat:=108
def f_109:Nat:=109
def f_110:Nat:=110
def f_111:Nat:=111
def f_112:Nat:=112
def f_113:Nat:=113
def f_114:Nat:=114
def f_115:Nat:=115
def f_116:Nat:=116
def f_122:Nat:=122
def f_123:Nat:=123
def f_124:Nat:=124
def f_125:Nat:=125
def f_126:Nat:=126
def f_129:Nat:=129
def f_130:Nat:=130
def f_138:Nat:=138
def f_149:Nat:=149
def f_150:Nat:=150
def f_151:Nat:=151
def f_152:Nat:=152
def f_153:Nat:=153
def f_154:Nat:=154
def f_155:Nat:=155
def f_156:Nat:=156
def f_157:Nat:=157
def f_158:Nat:=158
def f_159:Nat:=159
def f_160:Nat:=160
def f_161:Nat:=161
def f_162:Nat:=162
def f_163:Nat:=163
def f_164:Nat:=164
def f_165:Nat:=165
def f_166:Nat:=166
def f_167:Nat:=167
def f_168:Nat:=168
def f_169:Nat:=169
def f_170:Nat:=170
def f_171:Nat:=171
def f_172:Nat:=172
def f_173:Nat:=173
def f_174:Nat:=174
def f_175:Nat:=175
def f_176:Nat:=176
def f_177:Nat:=177
def f_178:Nat:=178
def f_179:Nat:=179
def f_180:Nat:=180
def f_181:Nat:=181
def f_182:Nat:=182
def f_183:Nat:=183
def f_184:Nat:=184
def f_185:Nat:=185
def f_186:Nat:=186
def f_187:Nat:=187
def f_188:Nat:=188
def f_189:Nat:=189
def f_190:Nat:=190
def f_191:Nat:=191
def f_192:Nat:=192
def f_193:Nat:=193
def f_194:Nat:=194
def f_195:Nat:=195
def f_210:Nat:=210
def f_211:Nat:=211
def f_215:Nat:=215
def f_216:Nat:=216
def f_217:Nat:=217
def f_218:Nat:=218
def f_219:Nat:=219
def f_220:Nat:=220
def f_221:Nat:=221
def f_222:Nat:=222
def f_223:Nat:=223
def f_224:Nat:=224
def f_225:Nat:=225
def f_226:Nat:=226
def f_227:Nat:=227
def f_228:Nat:=228
def f_229:Nat:=229
def f_230:Nat:=230
def f_231:Nat:=231
def f_232:Nat:=232
def f_233:Nat:=233
def f_234:Nat:=234
def f_235:Nat:=235
def f_236:Nat:=236
def f_237:Nat:=237
def f_238:Nat:=238
def f_239:Nat:=239
def f_240:Nat:=240
def f_252:Nat:=252
def f_257:Nat:=257
def f_258:Nat:=258
def f_259:Nat:=259
def f_260:Nat:=260
def f_261:Nat:=261
def f_262:Nat:=262
def f_263:Nat:=263
def f_264:Nat:=264
def f_265:Nat:=265
def f_266:Nat:=266
def f_267:Nat:=267
def f_268:Nat:=268
def f_269:Nat:=269
def f_270:Nat:=270
def f_271:Nat:=271
def f_272:Nat:=272
def f_273:Nat:=273
def f_274:Nat:=274
def f_275:Nat:=275
def f_276:Nat:=276
def f_277:Nat:=277
def f_278:Nat:=278
def f_279:Nat:=279
def f_297:Nat:=297
def f_298:Nat:=298
def f_299:Nat:=299
def f_300:Nat:=300
def f_301:Nat:=301
def f_302:Nat:=302
def f_305:Nat:=305
def f_309:Nat:=309
def f_310:Nat:=310
def f_311:Nat:=311
def f_312:Nat:=312
def f_320:Nat:=320
def f_321:Nat:=321
def c_3_l0:ACode:=yb4 [xM 58 14,xM 59 2,xN 60 59,xB 61 .lss 58 60] 61 0 (ya1 1 (xR [xM 64 13,xM 65 64,ya5 66 65 2,ya5 67 65 14,yac 68 65 (ybq 9 none 66 (.t 67)),yax 69 65 0 68,ybu 70 65 69,ybm 71 65 .eql 70 3,xW 72 65 71,xM 13 72]) [xM 62 14,yck 63 .add 62,xM 14 63])
def c_3_k1:ACode:=ybl [xM 73 12,xK 74 .neq 73 0] 74 [xM 75 12,xK 76 .eql 75 14,xM 77 76,ybt 78 77 13,xV 79 77 78,xM 80 79,ybz 81 80 f_11 [],xV 82 80 81,xM 6 82] (ybd [xA 84 9 3,xA 85 4 7,xM 86 11,yaf 87 f_12 [.t 84,.t 85,.t 86],xM 83 87,xE 88 0 83,xE 89 1 83,xE 90 2 83,xE 91 3 83,yas 15 [.fslice 1 [],.fslice 1 [],.fslice 2 [],.fslice 1 []],xS 4 15 88,xM 16 89,xM 17 90,xM 18 91] [15] (yad [xM 92 11,xN 93 92,xM 94 2,xN 95 94,xB 96 .eql 93 95,xM 97 96,ybt 98 97 18,yb6 99 97 .eql 98 (yar 0),xV 100 97 99,xM 101 100,yav 102 101 (.load true 4 (.t 15)),yav 103 101 (.load true 4 (.t 4)),ybz 104 101 f_14 [.t 102,.t 103],xV 105 101 104,xM 106 105,ybz 107 106 f_11 [],xV 108 106 107,xM 6 108]))
def c_3:AFn:=⟨3,[.tmp 6],yba [xJ 3 0,xJ 4 1,yaq 6] [xA 19 9 3,xA 20 4 4,ybh 21 f_9 19 20,ybk 22 21,xM 23 22,ya5 24 23 2,ycj 25 23 f_10 [.t 24],yac 26 23 (ya9 25),xW 27 23 26] 27 [yaf 28 f_11 [],xM 6 28] (ybd [xA 30 9 3,xA 31 4 4,xM 32 2,yaf 33 f_12 [.t 30,.t 31,.t 32],xM 29 33,xE 34 0 29,xE 35 1 29,xE 36 2 29,xE 37 3 29,yas 7 [.fslice 1 [],.fslice 1 [],.fslice 2 [],.fslice 1 []],xS 4 7 34,xM 8 35,xM 9 36,xM 10 37] [7] (yba [xA 39 9 3,xA 40 4 4,xM 41 2,yaf 42 f_13 [.t 39,.t 40,.t 41],xM 38 42,xE 43 0 38,xE 44 1 38,xM 11 43,xM 12 44] [xM 45 10,xK 46 .neq 45 0] 46 [xM 47 12,xM 48 10,xB 49 .eql 47 48,xM 50 49,ybt 51 50 11,yav 52 50 (ya6 51),yb6 53 50 .eql 52 (yar 0),xV 54 50 53,xM 55 54,ybz 56 55 f_11 [],xV 57 55 56,xM 6 57] (ybo [yaq 13] [ybi 14] 0 c_3_l0 c_3_k1)))⟩
def c_4:AFn:=⟨3,[.tmp 6],yat [xJ 3 0,xJ 4 1,xJ 5 2,yaq 6] (xD [xO 21 (ybq 1 (some 2) 5 (yar 0)),xL 22 21,xO 23 (ybq 1 (some 2) 5 (yar 1)),xL 24 23,xM 7 22,xM 8 24]) (ybl [xA 25 9 3,xA 26 4 4,ybh 27 f_9 25 26,ybk 28 27,xM 29 28,ya5 30 29 7,ycj 31 29 f_10 [.t 30],yac 32 29 (ya9 31),xW 33 29 32,xM 34 33,ya5 35 34 8,ycj 36 34 f_10 [.t 35],yac 37 34 (ya9 36),xW 38 34 37,xM 39 38,ya5 40 39 7,ybc 41 39 40,ybm 42 39 .gtr 41 30,xW 43 39 42,xM 44 43,ya5 45 44 8,ybc 46 44 45,ybm 47 44 .gtr 46 30,xW 48 44 47] 48 [yaf 49 f_11 [],xM 6 49] (ybd [xA 51 9 3,xA 52 4 4,xM 53 7,yaf 54 f_12 [.t 51,.t 52,.t 53],xM 50 54,xE 55 0 50,xE 56 1 50,xE 57 2 50,xE 58 3 50,yas 9 [.fslice 1 [],.fslice 1 [],.fslice 2 [],.fslice 1 []],xS 4 9 55,xM 10 56,xM 11 57,xM 12 58] [9] (ybl [xM 59 12,xK 60 .neq 59 0] 60 [yaf 61 f_11 [],xM 6 61] (ybd [xA 63 9 3,xA 64 4 9,xM 65 8,yaf 66 f_12 [.t 63,.t 64,.t 65],xM 62 66,xE 67 0 62,xE 68 1 62,xE 69 2 62,xE 70 3 62,yas 13 [.fslice 1 [],.fslice 1 [],.fslice 2 [],.fslice 1 []],xS 4 13 67,xM 14 68,xM 15 69,xM 16 70] [13] (.seq (.region true [(0,4),(1,4),(0,6),(1,6),(0,13),(1,13),(4,13),(6,13),(7,13)] [⟨some 72,none,.load true 9 (.t 3)⟩,⟨some 73,none,.load true 4 (.t 4)⟩,⟨some 74,none,.bslice .imm 9 [] []⟩,⟨some 75,none,.mov (.t 7)⟩,⟨some 76,none,.append .app 9 120 (.t 74) (.t 75)⟩,⟨some 77,none,.mov (.t 8)⟩,⟨some 78,none,.append .app 9 120 (.t 76) (.t 77)⟩,⟨some 79,none,.pcall f_12 [.t 72,.t 73,.t 78]⟩,⟨some 71,none,.mov (.t 79)⟩,⟨some 80,none,.ext 0 (.t 71)⟩,⟨some 81,none,.ext 1 (.t 71)⟩,⟨some 82,none,.ext 2 (.t 71)⟩,⟨some 83,none,.ext 3 (.t 71)⟩,⟨some 17,none,.alloc [.fslice 1 [],.fslice 1 [],.fslice 2 [],.fslice 1 []]⟩,⟨none,none,.store 4 (.t 17) (.t 80)⟩,⟨some 18,none,.mov (.t 81)⟩,⟨some 19,none,.mov (.t 82)⟩,⟨some 20,none,.mov (.t 83)⟩] (some [17])) (ybl [xM 84 16,xK 85 .neq 84 0] 85 [xM 86 20,xM 87 16,xB 88 .eql 86 87,xM 89 88,ybt 90 89 19,ybt 91 89 7,yav 92 89 (ya6 91),ybt 93 89 15,yb6 94 89 .add 92 (.t 93),yb6 95 89 .eql 90 (.t 94),xV 96 89 95,xM 97 96,ybt 98 97 18,yav 99 97 (ya6 98),yb6 100 97 .eql 99 (yar 0),xV 101 97 100,xM 102 101,ybz 103 102 f_11 [],xV 104 102 103,xM 6 104] (yad [xM 105 20,xK 106 .eql 105 0,xM 107 106,yav 108 107 (.load true 4 (.t 13)),yav 109 107 (.load true 4 (.t 17)),ybz 110 107 f_15 [.t 108,.t 109],xV 111 107 110,xM 112 111,ybt 113 112 18,yav 114 112 (.bslice .imm 1 [] []),ybt 115 112 10,yav 116 112 (ybs .app 1 8 114 (.t 115)),ybt 117 112 14,yav 118 112 (ybs .app 1 8 116 (.t 117)),ybz 119 112 f_16 [.t 113,.t 118],xV 120 112 119,xM 121 120,ybz 122 121 f_11 [],xV 123 121 122,xM 6 123])))))))⟩
def c_9:AFn:=⟨2,[.tmp 4],ybp [xJ 2 0,xJ 3 1,ycf] [xA 5 9 2,ycb 6 f_33 5,xM 7 6,yb0 8 7 7 2,yav 9 7 (yay 1 8),ybz 10 7 f_34 [.t 9,yar 40],xV 11 7 10,xM 12 11,yav 13 12 (.load true 4 (.t 3)),ybz 14 12 f_35 [.t 13],xV 15 12 14,xM 4 15]⟩
def c_10_l0:ACode:=yb4 [xM 7 3,yb2 8,xN 9 8,xB 10 .lss 7 9] 10 0 (ya1 1 (ya3 [yb2 13,xM 14 3,xX 15 9 13 14,xF 16 3 15,xA 17 4 16,ycb 18 f_36 17,ybk 19 18,xM 20 19,ya5 21 20 0,ya5 22 20 3,yac 23 20 (ybq 9 none 21 (.t 22)),yax 24 20 7 23,yax 25 20 1 24,ybu 26 20 25,ybc 27 20 26,ybm 28 20 .gtr 27 10,xW 29 20 28] 29 [yaq 2]) [xM 11 3,yck 12 .add 11,xM 3 12])
def c_10_k1:ACode:=yad [yb5 2]
def c_10:AFn:=⟨1,[.tmp 2],yba [yaq 2] [yb2 4,xN 5 4,xK 6 .gtr 5 80] 6 [yaq 2] (ybj [ybi 3] 0 c_10_l0 c_10_k1)⟩
def c_12:AFn:=⟨3,[.cell 6 true 4,.tmp 7,.tmp 8,.tmp 9],yaa [xJ 3 0,xJ 4 1,yas 6 [.fslice 1 [],.fslice 1 [],.fslice 2 [],.fslice 1 []],xC 7 (.fslice 1 []),ybi 8,ybi 9] (yba [xA 12 9 3,xA 13 4 4,ybr 14 f_41 [.t 12,.t 13],xM 11 14,xE 15 0 11,xE 16 1 11,xM 10 15,xM 9 16] [xM 17 9,xK 18 .neq 17 0] 18 [xO 19 (.build [.fslice 1 [],.fslice 1 [],.fslice 2 [],.fslice 1 []] []),xM 20 9,xS 4 6 19,xC 7 (.fslice 1 []),xI 8 (-1),xM 9 20] (yba [xM 22 10,xM 23 2,ybr 24 f_42 [.t 22,.t 23],xM 21 24,xE 25 0 21,xE 26 1 21,xE 27 2 21,xM 7 25,xM 8 26,xM 9 27] [xM 28 9,xK 29 .neq 28 0] 29 [xO 30 (.build [.fslice 1 [],.fslice 1 [],.fslice 2 [],.fslice 1 []] []),xM 31 8,xM 32 9,xS 4 6 30,xC 7 (.fslice 1 []),xM 8 31,xM 9 32] (yad [xM 33 10,ybr 34 f_43 [.t 33],xM 35 7,xS 4 6 34,xM 7 35,ybi 8,ybi 9])))⟩
def c_13_l0:ACode:=yby [xB 52 .lss 51 50] 52 0 1 [xM 53 51,xX 54 9 49 51,xA 55 9 54,yas 15 [ybb,ybb,ybb,.fslice 2 [],ybb,ybb,.fslice 1 [],ybb,.fslice 1 []],xM 14 53,xS 9 15 55] [15] (.seq (.region true [(2,3),(2,7)] [⟨some 56,none,.mov (.t 13)⟩,⟨some 57,none,.mov (.t 12)⟩,⟨some 58,none,.tcall f_43 [.t 57]⟩,⟨some 59,none,.load true 9 (.t 15)⟩,⟨some 60,none,.mov (.t 9)⟩,⟨some 61,none,.mov (.t 14)⟩,⟨some 62,none,.iaddr 1 none (.t 60) (.t 61)⟩,⟨some 63,none,.load false 1 (.t 62)⟩,⟨some 64,none,.tcall f_44 [.t 58,.t 59,.t 63]⟩,⟨some 65,none,.bslice .imm 9 (List.replicate 1 [.int .i64 0,.int .i64 0,.int .i64 0,.fslice 2 [],.int .i64 0,.int .i64 0,.fslice 1 [],.int .i64 0,.fslice 1 []]) [(0,(.t 64))]⟩,⟨some 66,none,.append .app 9 120 (.t 56) (.t 65)⟩,⟨some 13,none,.mov (.t 66)⟩] none) (xR [xM 67 12,xA 68 9 15,ybr 69 f_45 [.t 67,.t 68]])) [yck 70 .add 51,xM 51 70]
def c_13_l1:ACode:=yb4 [xM 75 18,xK 76 .geq 75 0] 76 2 (ya1 3 (yat [xM 79 13,xM 80 18,xX 81 9 79 80,xA 82 9 81,yas 19 [ybb,ybb,ybb,.fslice 2 [],ybb,ybb,.fslice 1 [],ybb,.fslice 1 []],xS 9 19 82] (xQ [xF 83 1 19,xL 84 83,xF 85 2 19,xL 86 85,xO 87 (.build [.int .i64 0,.int .i64 0] [(0,1,(.t 84)),(1,1,(.t 86))]),yas 20 [ybb,ybb],xS 2 20 87] [20]) (yae [xM 89 16,xA 90 2 20,xO 91 (.lookup .p (.int .i64 0) true (.t 89) (.t 90)),xM 88 91,xE 92 0 88,xE 93 1 88,xM 21 92,xM 22 93] (yaa [xM 94 22] (yb1 94 (xR [xM 95 21,xF 96 2 19,xS 1 96 95]))) (yae [ycd 97 19,xL 98 97,yck 99 .eql 98] (yb1 99 (xR [xF 100 2 19,⟨none,none,.store 1 (.t 100) (.c (.int .i64 0))⟩])) (yap [xM 102 12,xA 103 9 19,ybr 104 f_45 [.t 102,.t 103],xM 101 104,xE 105 0 101,xE 106 1 101,xM 23 105,xM 24 106] [ycd 107 19,xL 108 107,yck 109 .eql 108] (yb1 109 (xR [xM 110 16,xA 111 2 20,xM 112 23,⟨none,none,.update .p (.t 110) (.t 111) (.t 112)⟩])) (xR [xM 113 17,xA 114 9 19,xO 115 (.bslice .imm 9 (List.replicate 1 [.int .i64 0,.int .i64 0,.int .i64 0,.fslice 2 [],.int .i64 0,.int .i64 0,.fslice 1 [],.int .i64 0,.fslice 1 []]) [(0,(.t 114))]),xO 116 (ybs .app 9 120 113 (.t 115)),xM 17 116]))))) [xM 77 18,yck 78 .sub 77,xM 18 78])
def c_13_k2:ACode:=ybd [xA 118 9 3,xA 119 4 8,xM 120 17,yaf 121 f_12 [.t 118,.t 119,.t 120],xM 117 121,xE 122 0 117,xE 123 1 117,xE 124 2 117,xE 125 3 117,yas 25 [.fslice 1 [],.fslice 1 [],.fslice 2 [],.fslice 1 []],xS 4 25 122,xM 26 123,xM 27 124,xM 11 125] [25] (ybl [xM 126 11,xK 127 .neq 126 0,xM 128 127,yac 129 128 (.load true 4 (.t 25)),yac 130 128 (.load true 4 (.t 4)),ycj 131 128 f_14 [.t 129,.t 130],yac 132 128 (ya9 131),xW 133 128 132] 133 [xC 6 (.fslice 9 []),xI 7 14] (yad [xM 134 17,xM 6 134,ybi 7]))
def c_13_k3:ACode:=ych (xO 71 .mkmap) 16 71 (ybo [yb3 17 9] [xM 72 13,xN 73 72,yck 74 .sub 73,xM 18 74] 2 c_13_l1 c_13_k2)
def c_13:AFn:=⟨3,[.tmp 6,.tmp 7],yat [xJ 3 0,xJ 4 1,xC 6 (.fslice 9 []),ybi 7] (xQ [xA 29 9 3,xA 30 4 4,xM 31 2,yaf 32 f_12 [.t 29,.t 30,.t 31],xM 28 32,xE 33 0 28,xE 34 1 28,xE 35 2 28,xE 36 3 28,yas 8 [.fslice 1 [],.fslice 1 [],.fslice 2 [],.fslice 1 []],xS 4 8 33,xM 9 34,xM 10 35,xM 11 36] [8]) (ybl [xM 37 11,xK 38 .neq 37 0] 38 [xM 39 11,xC 6 (.fslice 9 []),xM 7 39] (yba [xA 41 9 3,xA 42 4 4,ybr 43 f_41 [.t 41,.t 42],xM 40 43,xE 44 0 40,xE 45 1 40,xM 12 44,xM 11 45] [xM 46 11,xK 47 .neq 46 0] 47 [xM 48 11,xC 6 (.fslice 9 []),xM 7 48] (ybo [yb3 13 9] [xM 49 2,xN 50 49,ybi 51] 0 c_13_l0 c_13_k3)))⟩
def c_14_l0:ACode:=ya7 [xB 29 .lss 28 27] 29 0 1 (yaa [xM 30 28,xX 31 1 26 28,xL 32 31,xM 5 30,xM 6 32] (ya3 [xM 33 6,ycd 34 3,xL 35 34,ycc 36,xX 37 1 35 36,xL 38 37,ybh 39 f_46 33 38,ybk 40 39] 40 [ycf])) [yck 41 .add 28,xM 28 41]
def c_14_l1:ACode:=ya7 [xB 46 .lss 45 44] 46 2 3 (yat [xM 47 45,xX 48 2 43 45,xA 49 2 48,yas 8 [ybb,.fslice 1 []],xM 7 47,xS 2 8 49] (xD [xA 50 2 8,xF 51 2 3,xL 52 51,xM 53 7,xX 54 2 52 53,xA 55 2 54,ybh 56 f_47 50 55,ybk 57 56]) (yai 57 [ycf])) [yck 58 .add 45,xM 45 58]
def c_14_k2:ACode:=yad [xF 59 3 2,xL 60 59,xF 61 3 3,xL 62 61,ybh 63 f_48 60 62,xM 4 63]
def c_14_k3:ACode:=ybj [xF 42 2 2,xL 43 42,xN 44 43,ybi 45] 2 c_14_l1 c_14_k2
def c_14:AFn:=⟨2,[.tmp 4],yba [ybv 2 0,ybv 3 1,ycf] [ycd 9 2,xL 10 9,xN 11 10,ycd 12 3,xL 13 12,xN 14 13,xB 15 .neq 11 14,xM 16 15,yax 17 16 2 2,ybu 18 16 17,ybc 19 16 18,yax 20 16 2 3,ybu 21 16 20,ybc 22 16 21,ycl 23 16 .neq 19 22,xW 24 16 23] 24 [ycf] (ybj [ycd 25 2,xL 26 25,xN 27 26,ybi 28] 0 c_14_l0 c_14_k3)⟩
def c_15_l0:ACode:=yb4 [ycc 39,ycd 40 2,xL 41 40,xN 42 41,xB 43 .lss 39 42] 43 0 (ya1 1 (yb7 [ycd 46 2,xL 47 46,ycc 48,xX 49 1 47 48,xL 50 49,ycd 51 3,xL 52 51,ycc 53,xX 54 1 52 53,xL 55 54,ybh 56 f_50 50 55,ybk 57 56] (yai 57 [ycf])) [ycc 44,yck 45 .add 44,xM 5 45])
def c_15_l1:ACode:=yb4 [xM 58 6,xF 59 2 2,xL 60 59,xN 61 60,xB 62 .lss 58 61] 62 2 (ya1 3 (yb7 [xF 65 2 2,xL 66 65,xM 67 6,xX 68 2 66 67,xA 69 2 68,xF 70 2 3,xL 71 70,xM 72 6,xX 73 2 71 72,xA 74 2 73,ybh 75 f_51 69 74,ybk 76 75] (yai 76 [ycf])) [xM 63 6,yck 64 .add 63,xM 6 64])
def c_15_k2:ACode:=yad [yb5 4]
def c_15_k3:ACode:=ybj [ybi 6] 2 c_15_l1 c_15_k2
def c_15:AFn:=⟨2,[.tmp 4],yba [ybv 2 0,ybv 3 1,ycf] [ycd 7 2,xL 8 7,xN 9 8,ycd 10 3,xL 11 10,xN 12 11,xB 13 .neq 9 12,xM 14 13,yax 15 14 1 2,ybu 16 14 15,yax 17 14 1 3,ybu 18 14 17,ycj 19 14 f_16 [.t 16,.t 18],yac 20 14 (ya9 19),xW 21 14 20,xM 22 21,yax 23 22 2 2,ybu 24 22 23,ybc 25 22 24,yax 26 22 2 3,ybu 27 22 26,ybc 28 22 27,ycl 29 22 .neq 25 28,xW 30 22 29,xM 31 30,yax 32 31 3 2,ybu 33 31 32,yax 34 31 3 3,ybu 35 31 34,ycj 36 31 f_49 [.t 33,.t 35],yac 37 31 (ya9 36),xW 38 31 37] 38 [ycf] (ybj [ybi 5] 0 c_15_l0 c_15_k3)⟩
def c_16_l0:ACode:=yb4 [ycc 11,yb2 12,xN 13 12,xB 14 .lss 11 13] 14 0 (ya1 1 (yb7 [yb2 17,ycc 18,xX 19 1 17 18,xL 20 19,yb8 21,ycc 22,xX 23 1 21 22,xL 24 23,xB 25 .neq 20 24] (yai 25 [ycf])) [ycc 15,yck 16 .add 15,xM 5 16])
def c_16_k1:ACode:=yad [yb5 4]
def c_16:AFn:=⟨2,[.tmp 4],yba [ycf] [yb2 6,xN 7 6,yb8 8,xN 9 8,xB 10 .neq 7 9] 10 [ycf] (ybj [ybi 5] 0 c_16_l0 c_16_k1)⟩
def c_33_l0:ACode:=yb4 [xM 55 3,xF 56 1 1,xL 57 56,xN 58 57,xB 59 .lss 55 58] 59 0 (ya1 1 (ya3 [xF 62 1 1,xL 63 62,xM 64 3,xX 65 2 63 64,ycd 66 65,xL 67 66,xO 68 (.slen (.t 67)),xK 69 .gtr 68 40,xM 70 69,yax 71 70 1 1,ybu 72 70 71,ya5 73 70 3,yac 74 70 (ybq 2 none 72 (.t 73)),yax 75 70 1 74,ybu 76 70 75,ycj 77 70 f_81 [.t 76],yac 78 70 (ya9 77),xW 79 70 78] 79 [yaq 2]) [xM 60 3,yck 61 .add 60,xM 3 61])
def c_33_l1:ACode:=yb4 [xM 80 4,xF 81 3 1,xL 82 81,xN 83 82,xB 84 .lss 80 83] 84 2 (ya1 3 (ya3 [xF 87 3 1,xL 88 87,xM 89 4,xX 90 3 88 89,ycd 91 90,xL 92 91,xO 93 (.slen (.t 92)),xK 94 .gtr 93 40] 94 [yaq 2]) [xM 85 4,yck 86 .add 85,xM 4 86])
def c_33_l2:ACode:=yb4 [ycc 95,xF 96 4 1,xL 97 96,xN 98 97,xB 99 .lss 95 98] 99 4 (ya1 5 (ya3 [xF 102 4 1,xL 103 102,ycc 104,xX 105 3 103 104,xA 106 3 105,ycb 107 f_82 106,ybk 108 107] 108 [yaq 2]) [ycc 100,yck 101 .add 100,xM 5 101])
def c_33_l3:ACode:=yb4 [xM 109 6,xF 110 5 1,xL 111 110,xN 112 111,xB 113 .lss 109 112] 113 6 (ya1 7 (ybd [xF 116 5 1,xL 117 116,xM 118 6,xX 119 6 117 118,xA 120 6 119,yas 7 [.str [],.fslice 3 [],.fslice 1 [],ybb,.fslice 1 [],ybb],xS 6 7 120] [7] (ya3 [ycd 121 7,xL 122 121,xO 123 (.slen (.t 122)),xK 124 .gtr 123 40,xM 125 124,yax 126 125 1 7,ybu 127 125 126,ybc 128 125 127,ybm 129 125 .gtr 128 10,xW 130 125 129,xM 131 130,yax 132 131 2 7,ybu 133 131 132,ybc 134 131 133,ybm 135 131 .gtr 134 24,xW 136 131 135,xM 137 136,yax 138 137 3 7,yax 139 137 1 138,ybu 140 137 139,ybc 141 137 140,ybm 142 137 .gtr 141 10,xW 143 137 142] 143 [yaq 2])) [xM 114 6,yck 115 .add 114,xM 6 115])
def c_33_l4:ACode:=yb4 [xM 144 8,xF 145 6 1,xL 146 145,xN 147 146,xB 148 .lss 144 147] 148 8 (ya1 9 (ya3 [xF 151 6 1,xL 152 151,xM 153 8,xX 154 7 152 153,ycd 155 154,xL 156 155,xO 157 (.slen (.t 156)),xK 158 .gtr 157 40,xM 159 158,yax 160 159 6 1,ybu 161 159 160,ya5 162 159 8,yac 163 159 (ybq 7 none 161 (.t 162)),yax 164 159 1 163,ybu 165 159 164,ybc 166 159 165,ybm 167 159 .gtr 166 8,xW 168 159 167,xM 169 168,yax 170 169 6 1,ybu 171 169 170,ya5 172 169 8,yac 173 169 (ybq 7 none 171 (.t 172)),yax 174 169 5 173,ybu 175 169 174,ybc 176 169 175,ybm 177 169 .gtr 176 16,xW 178 169 177] 178 [yaq 2]) [xM 149 8,yck 150 .add 149,xM 8 150])
def c_33_k5:ACode:=yad [yb5 2]
def c_33_k6:ACode:=ybj [ybi 8] 8 c_33_l4 c_33_k5
def c_33_k7:ACode:=ybj [ybi 6] 6 c_33_l3 c_33_k6
def c_33_k8:ACode:=ybj [ybi 5] 4 c_33_l2 c_33_k7
def c_33_k9:ACode:=ybj [yb9] 2 c_33_l1 c_33_k8
def c_33:AFn:=⟨1,[.tmp 2],yba [xJ 1 0,yaq 2] [ycd 9 1,xL 10 9,xO 11 (.slen (.t 10)),xK 12 .gtr 11 40,xM 13 12,yax 14 13 1 1,ybu 15 13 14,ybc 16 13 15,ybm 17 13 .gtr 16 12,xW 18 13 17,xM 19 18,yax 20 19 2 1,ybu 21 19 20,ycj 22 19 f_81 [.t 21],yac 23 19 (ya9 22),xW 24 19 23,xM 25 24,yax 26 25 3 1,ybu 27 25 26,ybc 28 25 27,ybm 29 25 .gtr 28 8,xW 30 25 29,xM 31 30,yax 32 31 4 1,ybu 33 31 32,ybc 34 31 33,ybm 35 31 .gtr 34 20,xW 36 31 35,xM 37 36,yax 38 37 5 1,ybu 39 37 38,ybc 40 37 39,ybm 41 37 .gtr 40 16,xW 42 37 41,xM 43 42,yax 44 43 6 1,ybu 45 43 44,ybc 46 43 45,ybm 47 43 .gtr 46 16,xW 48 43 47,xM 49 48,yax 50 49 8 1,ybu 51 49 50,ybc 52 49 51,ybm 53 49 .gtr 52 16,xW 54 49 53] 54 [yaq 2] (ybj [ybi 3] 0 c_33_l0 c_33_k9)⟩
def c_34:AFn:=⟨2,[.tmp 4],ybp [ycf] [yb2 5,yb8 6,yaf 7 f_83 [.t 5,.t 6,yar 12],yb8 8,xB 9 .leq 7 8,xM 4 9]⟩
def c_35_l0:ACode:=yb4 [xM 43 4,ycd 44 1,xL 45 44,xM 46 3,xX 47 1 45 46,xL 48 47,xN 49 48,xB 50 .lss 43 49] 50 2 (ya1 3 (ya3 [ycd 53 1,xL 54 53,xM 55 3,xX 56 1 54 55,xL 57 56,xM 58 4,xX 59 5 57 58,xF 60 1 59,xA 61 4 60,ycb 62 f_36 61,ybk 63 62] 63 [yaq 2]) [xM 51 4,yck 52 .add 51,xM 4 52])
def c_35_k1:ACode:=xR [xM 34 3,yck 35 .add 34,xM 3 35]
def c_35_l2:ACode:=yb4 [xM 29 3,ycd 30 1,xL 31 30,xN 32 31,xB 33 .lss 29 32] 33 0 (yaj 1 (ybl [ycd 36 1,xL 37 36,xM 38 3,xX 39 1 37 38,xL 40 39,xN 41 40,xK 42 .gtr 41 40] 42 [yaq 2] (yaa [yb9] (yal 2 c_35_l0))) c_35_k1)
def c_35_l3:ACode:=yb4 [ycc 64,xF 65 2 1,xL 66 65,xN 67 66,xB 68 .lss 64 67] 68 4 (ya1 5 (ya3 [xF 71 2 1,xL 72 71,ycc 73,xX 74 2 72 73,xF 75 1 74,xL 76 75,xN 77 76,xK 78 .gtr 77 10] 78 [yaq 2]) [ycc 69,yck 70 .add 69,xM 5 70])
def c_35_l4:ACode:=yb4 [xM 79 6,xF 80 3 1,xL 81 80,xN 82 81,xB 83 .lss 79 82] 83 6 (ya1 7 (ya3 [xF 86 3 1,xL 87 86,xM 88 6,xX 89 1 87 88,xL 90 89,xN 91 90,xK 92 .gtr 91 80] 92 [yaq 2]) [xM 84 6,yck 85 .add 84,xM 6 85])
def c_35_k5:ACode:=yad [yb5 2]
def c_35_k6:ACode:=ybj [ybi 6] 6 c_35_l4 c_35_k5
def c_35_k7:ACode:=ybj [ybi 5] 4 c_35_l3 c_35_k6
def c_35:AFn:=⟨1,[.tmp 2],yba [ybv 1 0,yaq 2] [ycd 7 1,xL 8 7,xN 9 8,xK 10 .gtr 9 16,xM 11 10,yax 12 11 1 1,ybu 13 11 12,ybc 14 11 13,ybm 15 11 .gtr 14 16,xW 16 11 15,xM 17 16,yax 18 17 2 1,ybu 19 17 18,ybc 20 17 19,ybm 21 17 .gtr 20 16,xW 22 17 21,xM 23 22,yax 24 23 3 1,ybu 25 23 24,ybc 26 23 25,ybm 27 23 .gtr 26 8,xW 28 23 27] 28 [yaq 2] (ybj [ybi 3] 0 c_35_l2 c_35_k7)⟩
def c_36:AFn:=⟨1,[.tmp 2],ybp [ybv 1 0,yaq 2] [ycd 3 1,xL 4 3,xN 5 4,xK 6 .leq 5 10,xM 7 6,yb0 8 7 2 1,yb0 9 7 1 8,yav 10 7 (yay 1 9),yav 11 7 (ya6 10),yb6 12 7 .leq 11 (yar 10),xV 13 7 12,xM 2 13]⟩
def c_41:AFn:=⟨2,[.tmp 4,.tmp 5],yap [xJ 2 0,xJ 3 1,xC 4 .nilptr,ybi 5] [xA 7 9 2,xA 8 4 3,ybh 9 f_87 7 8,xM 6 9] (ya3 [xM 10 6,xK 11 .neq 10 0] 11 [xM 12 6,xC 4 .nilptr,xM 5 12]) (yad [xA 13 9 2,xA 14 4 3,ybr 15 f_88 [.t 13,.t 14],xM 4 15,ybi 5])⟩
def c_42_l0:ACode:=ya7 [xB 37 .lss 36 35] 37 0 1 (yaa [xM 38 36,xX 39 9 34 36,xA 40 9 39,yas 11 [ybb,ybb,ybb,.fslice 2 [],ybb,ybb,.fslice 1 [],ybb,.fslice 1 []],xM 10 38,xS 9 11 40] (yba [xL 42 2,xA 43 9 11,ybr 44 f_45 [.t 42,.t 43],xM 41 44,xE 45 0 41,xE 46 1 41,xM 12 45,xM 13 46] [xM 47 13,xK 48 .neq 47 0] 48 [xM 49 10,xM 50 13,xC 4 (.fslice 1 []),xM 5 49,xS 1 6 50] (xR [xM 51 9,xM 52 12,xO 53 (.bslice .imm 1 (List.replicate 1 [.int .i64 0]) [(0,(.t 52))]),xO 54 (ybs .app 1 8 51 (.t 53)),xM 9 54]))) [yck 55 .add 36,xM 36 55]
def c_42_k1:ACode:=yad [xM 56 9,xM 4 56,ybi 5,⟨none,none,.store 1 (.t 6) (.c (.int .i64 0))⟩]
def c_42:ADFn:=⟨2,[.tmp 4,.tmp 5,.cell 6 false 1],.seq (xR [xO 2 (.box (.t 0)),xC 4 (.fslice 1 []),xI 5 0,xO 6 (.alloc [.int .i64 0])]) (.seq (xR [xL 14 2,xO 15 (.tcall f_89 [.t 14]),xO 7 (.alloc [.nilptr]),xS 1 7 15]) (.seq (.seq (xR [xL 16 2,xO 17 (.build [.int .i64 0,.fslice 1 []] []),xO 18 (.tcall f_90 [.t 16,.c (.int .i64 (-1)),.c (.int .i64 0),.t 17]),xK 19 .eql 18 1,xM 20 19,xG 21 20 false (.load false 1 (.t 7)),xG 22 20 false (.eqn false (.t 21) (.c (.nilptr))),xW 23 20 22]) (.cond (.t 23) (.seq (xR [xC 4 (.fslice 1 []),xI 5 (-1),⟨none,none,.store 1 (.t 6) (.c (.int .i64 1))⟩]) (.ret)) (.skip))) (.seq (.seq (xR [xM 24 1,xN 25 24,xK 26 .gtr 25 64]) (.cond (.t 26) (.seq (xR [xC 4 (.fslice 1 []),xI 5 (-1),⟨none,none,.store 1 (.t 6) (.c (.int .i64 12))⟩]) (.ret)) (.skip))) (.dfr [⟨some 27,none,.mkfunc (.func f_91) [] [.t 6,.t 7,.t 2]⟩] 27 (.seq (xR [xM 28 1,xN 29 28,xO 30 (.mkslice .row 9 120 [.int .i64 0,.int .i64 0,.int .i64 0,.fslice 2 [],.int .i64 0,.int .i64 0,.fslice 1 [],.int .i64 0,.fslice 1 []] (.t 29) (.t 29)),xM 8 30]) (.seq (xR [xM 31 8,xM 32 1,xO 33 (.copy 9 (.t 31) (.t 32))]) (.seq (xR [xO 9 (.nilapp 1)]) (.seq (.seq (xR [xM 34 8,xN 35 34,xI 36 0]) (.block 0 (.loop c_42_l0))) c_42_k1)))))))),f_91,3,none,.seq (xR [xL 3 0,xK 4 .neq 3 0]) (.cond (.t 4) (xD [xL 5 2,xL 6 1,xO 7 (.nilchk (.t 6)),xA 8 15 7,xO 9 (.nilchk (.t 5)),xS 15 9 8]) (.skip))⟩
def c_43:AFn:=⟨1,[.cell 2 true 4],yba [yas 2 [.fslice 1 [],.fslice 1 [],.fslice 2 [],.fslice 1 []]] [yb2 3,xO 4 (.eqn false (.t 3) (.c .nilptr)),xM 5 4,ya5 6 5 0,yac 7 5 (ybe 6),yax 8 5 14 7,ybu 9 5 8,yac 10 5 (ya9 9),xW 11 5 10] 11 [xO 12 (.build [.fslice 1 [],.fslice 1 [],.fslice 2 [],.fslice 1 []] []),xS 4 2 12] (yad [yb2 13,xO 14 (ybe 13),ycd 15 14,xA 16 4 15,ybr 17 f_92 [.t 16],xS 4 2 17])⟩
def c_44_l0:ACode:=yby [xB 23 .lss 22 21] 23 1 2 [xX 24 5 20 22,xA 25 5 24,yas 9 [ybb,.fslice 2 [],ybb,ybb,.fslice 1 []],xS 5 9 25] [9] (yae [ycd 26 9,xL 27 26,xF 28 2 4,xL 29 28,xB 30 .neq 27 29] (yb1 30 (.exit 2)) (ybw [xF 31 2 4,xL 32 31,xF 33 2 7,xS 1 33 32] [ycd 34 4,xL 35 34,xK 36 .eql 35 2] (yab 36 (.region true [(2,4)] [⟨some 37,none,.faddr 1 (.t 9)⟩,⟨some 38,none,.faddr 2 (.t 37)⟩,⟨some 39,none,.load true 2 (.t 38)⟩,⟨some 40,none,.faddr 0 (.t 7)⟩,⟨none,none,.store 1 (.t 40) (.c (.int .i64 2))⟩,⟨some 41,none,.faddr 7 (.t 7)⟩,⟨none,none,.store 2 (.t 41) (.t 39)⟩] none) (.region true [(1,3)] [⟨some 42,none,.faddr 1 (.t 9)⟩,⟨some 43,none,.load true 4 (.t 42)⟩,⟨some 44,none,.faddr 0 (.t 7)⟩,⟨none,none,.store 1 (.t 44) (.c (.int .i64 1))⟩,⟨some 45,none,.faddr 3 (.t 7)⟩,⟨none,none,.store 4 (.t 45) (.t 43)⟩] none)))) [yck 46 .add 22,xM 22 46]
def c_44_k1:ACode:=yci (xA 62 9 7) (xS 9 6 62)
def c_44:AFn:=⟨3,[.cell 6 true 9],yaa [ybv 3 0,ybv 4 1,yas 6 [ybb,ybb,ybb,.fslice 2 [],ybb,ybb,.fslice 1 [],ybb,.fslice 1 []]] (yap [xF 10 1 4,xL 11 10,xO 12 (.build [.int .i64 0,.int .i64 0,.int .i64 0,.fslice 2 [],.int .i64 0,.int .i64 0,.fslice 1 [],.int .i64 0,.fslice 1 []] [(1,1,(.t 11))]),yas 7 [ybb,ybb,ybb,.fslice 2 [],ybb,ybb,.fslice 1 [],ybb,.fslice 1 []],xS 9 7 12] [ycd 13 4,xL 14 13] (.block 0 (ych (yck 48 .eql 14) 47 48 (yab 47 (xR [xM 49 2,ycd 50 7,⟨none,none,.store 1 (.t 50) (.c (.int .i64 3))⟩,xF 51 2 7,xS 1 51 49]) (ych (xK 53 .eql 14 4) 52 53 (yab 52 (.region true [(1,7),(3,7),(5,7)] [⟨some 54,none,.faddr 2 (.t 3)⟩,⟨some 55,none,.load false 1 (.t 54)⟩,⟨some 56,none,.faddr 1 (.t 4)⟩,⟨some 57,none,.load false 1 (.t 56)⟩,⟨some 58,none,.iaddr 2 none (.t 55) (.t 57)⟩,⟨some 59,none,.load true 2 (.t 58)⟩,⟨some 60,none,.faddr 0 (.t 7)⟩,⟨none,none,.store 1 (.t 60) (.c (.int .i64 4))⟩,⟨some 61,none,.faddr 7 (.t 7)⟩,⟨none,none,.store 2 (.t 61) (.t 59)⟩] none) (yaa [ycd 15 3,xL 16 15,xF 17 1 4,xL 18 17,xX 19 1 16 18,xL 20 19,xN 21 20,ybi 22] (yal 1 c_44_l0))))))) c_44_k1)⟩
def c_45:AFn:=⟨2,[.tmp 4,.tmp 5],yap [ybv 3 1,yb9,ybi 5] [ycd 6 3,xL 7 6] (.block 0 (ybx [yck 9 .eql 7,xM 8 9] 8 [yb2 10,xF 11 1 3,xL 12 11,xF 13 3 3,xA 14 4 13,ybr 15 f_93 [.t 10,.t 12,.t 14],xE 16 0 15,xE 17 1 15,xM 4 16,xM 5 17] (ybx [xK 19 .eql 7 2,xM 18 19] 18 [yb2 20,xF 21 1 3,xL 22 21,xF 23 2 3,xL 24 23,xF 25 7 3,xA 26 2 25,ybr 27 f_90 [.t 20,.t 22,.t 24,.t 26],yb9,xM 5 27] (ybx [xK 29 .eql 7 3,xM 28 29] 28 [yb2 30,xF 31 1 3,xL 32 31,xF 33 2 3,xL 34 33,ybr 35 f_94 [.t 30,.t 32,.t 34],yb9,xM 5 35] (ya3 [xK 37 .eql 7 4,xM 36 37] 36 [yb2 38,xF 39 1 3,xL 40 39,xF 41 7 3,xA 42 2 41,ybr 43 f_95 [.t 38,.t 40,.t 42],yb9,xM 5 43]))))) (yci yb9 (xI 5 11))⟩
def c_46_l0:ACode:=ya7 [xB 15 .lss 14 13] 15 0 1 (yat [xM 16 14,xX 17 5 12 14,xA 18 5 17,yas 6 [ybb,.fslice 2 [],ybb,ybb,.fslice 1 []],xM 5 16,xS 5 6 18] (xD [xF 19 1 6,xA 20 4 19,yb8 21,ycc 22,xX 23 5 21 22,xF 24 1 23,xA 25 4 24,ybh 26 f_96 20 25,ybk 27 26]) (yai 27 [ycf])) [yck 28 .add 14,xM 14 28]
def c_46_k1:ACode:=yad [yb5 4]
def c_46:AFn:=⟨2,[.tmp 4],yba [ycf] [yb2 7,xN 8 7,yb8 9,xN 10 9,xB 11 .neq 8 10] 11 [ycf] (ybj [yb2 12,xN 13 12,ybi 14] 0 c_46_l0 c_46_k1)⟩
def c_47:AFn:=⟨2,[.tmp 4],ybp [ybv 2 0,ybv 3 1,ycf] [xA 5 2 2,xO 6 (.build [.fslice 2 [],.int .i64 0,.int .i64 0,.fslice 1 []] [(2,2,(.t 5))]),xA 7 2 3,xO 8 (.build [.fslice 2 [],.int .i64 0,.int .i64 0,.fslice 1 []] [(2,2,(.t 7))]),ybh 9 f_96 6 8,xM 4 9]⟩
def c_48_l0:ACode:=ya7 [xB 32 .lss 31 30] 32 2 3 (yaa [xM 33 31,xX 34 1 29 31,xL 35 34,xM 7 33,xM 8 35] (ya3 [xM 36 8,yb8 37,ycc 38,xX 39 1 37 38,xL 40 39,xM 41 7,xX 42 1 40 41,xL 43 42,xB 44 .neq 36 43] 44 [ycf])) [yck 45 .add 31,xM 31 45]
def c_48_k1:ACode:=xR [yck 46 .add 16,xM 16 46]
def c_48_l2:ACode:=ya4 [xB 17 .lss 16 15] 17 0 (yaj 1 (yba [xM 18 16,xX 19 1 14 16,xL 20 19,xM 5 18,xM 6 20] [xM 21 6,xN 22 21,yb8 23,ycc 24,xX 25 1 23 24,xL 26 25,xN 27 26,xB 28 .neq 22 27] 28 [ycf] (yaa [xM 29 6,xN 30 29,ybi 31] (yal 2 c_48_l0))) c_48_k1)
def c_48_k3:ACode:=yad [yb5 4]
def c_48:AFn:=⟨2,[.tmp 4],yba [ycf] [yb2 9,xN 10 9,yb8 11,xN 12 11,xB 13 .neq 10 12] 13 [ycf] (ybj [yb2 14,xN 15 14,ybi 16] 0 c_48_l2 c_48_k3)⟩
def c_49_l0:ACode:=yb4 [ycc 11,yb2 12,xN 13 12,xB 14 .lss 11 13] 14 0 (ya1 1 (yb7 [yb2 17,ycc 18,xX 19 1 17 18,xL 20 19,yb8 21,ycc 22,xX 23 1 21 22,xL 24 23,ybh 25 f_97 20 24,ybk 26 25] (yai 26 [ycf])) [ycc 15,yck 16 .add 15,xM 5 16])
def c_49_k1:ACode:=yad [yb5 4]
def c_49:AFn:=⟨2,[.tmp 4],yba [ycf] [yb2 6,xN 7 6,yb8 8,xN 9 8,xB 10 .neq 7 9] 10 [ycf] (ybj [ybi 5] 0 c_49_l0 c_49_k1)⟩
def c_50_l0:ACode:=yb4 [ycc 11,yb2 12,xN 13 12,xB 14 .lss 11 13] 14 0 (ya1 1 (yb7 [yb2 17,ycc 18,xX 19 5 17 18,ycd 20 19,xL 21 20,yb8 22,ycc 23,xX 24 5 22 23,ycd 25 24,xL 26 25,xB 27 .neq 21 26,xM 28 27,ya5 29 28 0,ya5 30 28 5,yac 31 28 (ybq 5 none 29 (.t 30)),yax 32 28 1 31,yax 33 28 1 32,ybu 34 28 33,ya5 35 28 1,ya5 36 28 5,yac 37 28 (ybq 5 none 35 (.t 36)),yax 38 28 1 37,yax 39 28 1 38,ybu 40 28 39,ycl 41 28 .neq 34 40,xW 42 28 41,xM 43 42,ya5 44 43 0,ya5 45 43 5,yac 46 43 (ybq 5 none 44 (.t 45)),yax 47 43 1 46,yac 48 43 (.load true 4 (.t 47)),ya5 49 43 1,ya5 50 43 5,yac 51 43 (ybq 5 none 49 (.t 50)),yax 52 43 1 51,yac 53 43 (.load true 4 (.t 52)),ycj 54 43 f_86 [.t 48,.t 53],yac 55 43 (ya9 54),xW 56 43 55] (yai 56 [ycf])) [ycc 15,yck 16 .add 15,xM 5 16])
def c_50_k1:ACode:=yad [yb5 4]
def c_50:AFn:=⟨2,[.tmp 4],yba [ycf] [yb2 6,xN 7 6,yb8 8,xN 9 8,xB 10 .neq 7 9] 10 [ycf] (ybj [ybi 5] 0 c_50_l0 c_50_k1)⟩
def c_51_l0:ACode:=yb4 [ycc 20,xF 21 1 2,xL 22 21,xN 23 22,xB 24 .lss 20 23] 24 0 (ya1 1 (yb7 [xF 27 1 2,xL 28 27,ycc 29,xX 30 1 28 29,xL 31 30,xF 32 1 3,xL 33 32,ycc 34,xX 35 1 33 34,xL 36 35,xB 37 .neq 31 36] (yai 37 [ycf])) [ycc 25,yck 26 .add 25,xM 5 26])
def c_51_k1:ACode:=yad [yb5 4]
def c_51:AFn:=⟨2,[.tmp 4],yba [ybv 2 0,ybv 3 1,ycf] [ycd 6 2,xL 7 6,ycd 8 3,xL 9 8,xB 10 .neq 7 9,xM 11 10,yax 12 11 1 2,ybu 13 11 12,ybc 14 11 13,yax 15 11 1 3,ybu 16 11 15,ybc 17 11 16,ycl 18 11 .neq 14 17,xW 19 11 18] 19 [ycf] (ybj [ybi 5] 0 c_51_l0 c_51_k1)⟩
def c_52:ADFn:=⟨1,[.cell 2 true 4],.seq (xR [xO 1 (.box (.t 0)),xO 2 (.alloc [.int .i64 0,.int .i64 0,.int .i64 0,.int .i64 0])]) (.dfr [⟨some 3,none,.mkfunc (.func f_98) [] [.t 2]⟩] 3 (.seq (xR [xA 4 9 1,xO 5 (.pcall f_99 [.t 4])]) (.seq (xR [xA 6 9 1,xO 7 (.pcall f_100 [.t 6])]) (.seq (xR [xA 8 9 1,xO 9 (.pcall f_101 [.t 8])]) (.seq (xR [xA 10 9 1,xO 11 (.pcall f_102 [.t 10])]) (.seq (xR [xA 12 9 1,xO 13 (.pcall f_103 [.t 12])]) (.seq (xR [xO 14 (.build [.int .i64 0,.int .i64 0,.int .i64 0,.int .i64 0] []),xS 4 2 14]) (.ret)))))))),f_98,1,(some (4,1)),.seq (.seq (xR [xM 5 1,xO 6 (.eqs false false [] (.t 5) (.c (.niliface)))]) (.cond (.t 6) (.ret) (.skip))) (.seq (.seq (xR [xM 8 1,xO 9 (.tassert 172 true (.agg [.int .i64 0,.int .i64 0,.int .i64 0,.int .i64 0]) (.t 8)),xM 7 9,xE 10 0 7,xE 11 1 7,xO 2 (.alloc [.int .i64 0,.int .i64 0,.int .i64 0,.int .i64 0]),xS 4 2 10,xM 3 11]) (.seq (xR [xM 12 3]) (.cond (.t 12) (.seq (xR [xF 13 0 2,xA 14 4 13,xS 4 0 14]) (.ret)) (.skip)))) (xR [xM 15 1,⟨none,none,.panic (.t 15)⟩]))⟩
def c_53:AFn:=⟨1,[.cell 2 true 9],yat [xJ 1 0,yas 2 [.str [],.fslice 2 [],.fslice 2 [],.fslice 3 [],.fslice 3 [],.fslice 6 [],.fslice 7 [],.fslice 5 [],.fslice 1 []]] (xD [ycd 3 1,xL 4 3,xF 5 1 1,xL 6 5,ybg 7 f_104 6 (.c (.func (.func f_105) [] [])),xF 8 2 1,xL 9 8,ycb 10 f_106 9,xF 11 3 1,xL 12 11,ycb 13 f_107 12,xF 14 4 1,xL 15 14,ybg 16 f_108 15 (.c (.func (.func f_109) [] [])),xF 17 5 1,xL 18 17,ybg 19 f_110 18 (.c (.func (.func f_111) [] [])),xF 20 6 1,xL 21 20,ybg 22 f_112 21 (.c (.func (.func f_113) [] [])),xF 23 7 1,xL 24 23,ybg 25 f_114 24 (.c (.func (.func f_115) [] [])),xF 26 8 1,xL 27 26,ycb 28 f_116 27,xO 29 (.build [.str [],.fslice 2 [],.fslice 2 [],.fslice 3 [],.fslice 3 [],.fslice 6 [],.fslice 7 [],.fslice 5 [],.fslice 1 []] [(0,1,(.t 4)),(1,1,(.t 7)),(2,1,(.t 10)),(3,1,(.t 13)),(4,1,(.t 16)),(5,1,(.t 19)),(6,1,(.t 22)),(7,1,(.t 25)),(8,1,(.t 28))]),xS 9 2 29]) .ret⟩
def c_81_l0:ACode:=yb4 [xM 7 3,yb2 8,xN 9 8,xB 10 .lss 7 9] 10 0 (ya1 1 (ya3 [yb2 13,xM 14 3,xX 15 2 13 14,ycd 16 15,xL 17 16,xO 18 (.slen (.t 17)),xK 19 .gtr 18 40] 19 [yaq 2]) [xM 11 3,yck 12 .add 11,xM 3 12])
def c_81_k1:ACode:=yad [yb5 2]
def c_81:AFn:=⟨1,[.tmp 2],yba [yaq 2] [yb2 4,xN 5 4,xK 6 .gtr 5 16] 6 [yaq 2] (ybj [ybi 3] 0 c_81_l0 c_81_k1)⟩
def c_82_l0:ACode:=yb4 [xM 20 3,xF 21 2 1,xL 22 21,xN 23 22,xB 24 .lss 20 23] 24 0 (ya1 1 (ya3 [xF 27 2 1,xL 28 27,xM 29 3,xX 30 7 28 29,xF 31 5 30,xL 32 31,xN 33 32,xK 34 .gtr 33 40,xM 35 34,yax 36 35 2 1,ybu 37 35 36,ya5 38 35 3,yac 39 35 (ybq 7 none 37 (.t 38)),yax 40 35 6 39,ybu 41 35 40,ybc 42 35 41,ybm 43 35 .gtr 42 40,xW 44 35 43] 44 [yaq 2]) [xM 25 3,yck 26 .add 25,xM 3 26])
def c_82_k1:ACode:=yad [yb5 2]
def c_82:AFn:=⟨1,[.tmp 2],yba [xJ 1 0,yaq 2] [ycd 4 1,xL 5 4,xO 6 (.slen (.t 5)),xK 7 .gtr 6 40,xM 8 7,yax 9 8 1 1,ybu 10 8 9,ycj 11 8 f_81 [.t 10],yac 12 8 (ya9 11),xW 13 8 12,xM 14 13,yax 15 14 2 1,ybu 16 14 15,ybc 17 14 16,ybm 18 14 .gtr 17 16,xW 19 14 18] 19 [yaq 2] (ybj [ybi 3] 0 c_82_l0 c_82_k1)⟩
def c_83_l0:ACode:=yb4 [xM 9 8,yb2 10,xN 11 10,xB 12 .lss 9 11,xM 13 12,ybt 14 13 7,ybt 15 13 1,yb6 16 13 .leq 14 (.t 15),xV 17 13 16] 17 0 (ya1 1 (yba [xM 20 7,yck 21 .add 20,xM 7 21] [yb2 22,xM 23 8,xX 24 5 22 23,xF 25 2 24,xL 26 25,xN 27 26,xK 28 .gtr 27 40,xM 29 28,ya5 30 29 2,ybm 31 29 .eql 30 0,xW 32 29 31] 32 [yb8 33,yck 34 .add 33,xM 6 34] (ybw [xM 35 7,yb2 36,xM 37 8,xX 38 5 36 37,xF 39 3 38,xL 40 39,yb8 41,xM 42 7,xB 43 .sub 41 42,xM 44 2,yck 45 .sub 44,yaf 46 f_83 [.t 40,.t 43,.t 45],xB 47 .add 35 46,xM 7 47] [xM 48 7,yb8 49,xB 50 .leq 48 49] (yb1 50 (xR [xM 51 7,yb2 52,xM 53 8,xX 54 5 52 53,xF 55 4 54,xL 56 55,yb8 57,xM 58 7,xB 59 .sub 57 58,xM 60 2,yck 61 .sub 60,yaf 62 f_83 [.t 56,.t 59,.t 61],xB 63 .add 51 62,xM 7 63])))) [xM 18 8,yck 19 .add 18,xM 8 19])
def c_83_k1:ACode:=yci (xM 64 7) (xM 6 64)
def c_83:AFn:=⟨3,[.tmp 6],yaa [ybi 6] (ybo [ybi 7] [ybi 8] 0 c_83_l0 c_83_k1)⟩
def c_85:AFn:=⟨1,[.cell 2 true 2],yat [xJ 1 0,yas 2 [ybb,.fslice 1 []]] (xD [ycd 3 1,xL 4 3,xF 5 1 1,xL 6 5,ycb 7 f_150 6,xO 8 (.build [.int .i64 0,.fslice 1 []] [(0,1,(.t 4)),(1,1,(.t 7))]),xS 2 2 8]) .ret⟩
def c_86:AFn:=⟨2,[.tmp 4],ybp [ybv 2 0,ybv 3 1,ycf] [xA 5 4 2,xA 6 4 3,ybh 7 f_151 5 6,xM 8 7,yb0 9 8 2 2,yav 10 8 (.load true 2 (.t 9)),yb0 11 8 2 3,yav 12 8 (.load true 2 (.t 11)),ybz 13 8 f_51 [.t 10,.t 12],xV 14 8 13,xM 4 14]⟩
def c_87_l0:ACode:=ya7 [xB 40 .lss 39 38] 40 0 1 (yat [xM 41 39,xM 7 41] (xD [xA 42 9 2,xM 43 7,ycd 44 3,xL 45 44,xM 46 7,xX 47 1 45 46,xL 48 47,xF 49 1 3,xL 50 49,xM 51 7,xX 52 1 50 51,xL 53 52,xF 54 2 3,xL 55 54,xM 56 7,xX 57 2 55 56,xA 58 2 57,yaf 59 f_152 [.t 42,.t 43,.t 48,.t 53,.t 58],xM 8 59]) (ya3 [xM 60 8,xK 61 .neq 60 0] 61 [xM 62 8,xM 4 62])) [yck 63 .add 39,xM 39 63]
def c_87_k1:ACode:=yad [xA 64 9 2,xF 65 3 3,xL 66 65,ybh 67 f_153 64 66,xM 4 67]
def c_87:AFn:=⟨2,[.tmp 4],yat [xJ 2 0,xJ 3 1,yb9] (ybd [xA 9 9 2,ycb 10 f_52 9,yas 5 [ybb,ybb,ybb,ybb],xS 4 5 10] [5] (ya3 [ycd 11 5,xL 12 11,xK 13 .neq 12 0] 13 [ycd 14 5,xL 15 14,xM 4 15])) (yba [xF 16 5 2,xL 17 16,xN 18 17,xM 6 18] [ycd 19 3,xL 20 19,xN 21 20,xM 22 6,xB 23 .neq 21 22,xM 24 23,yax 25 24 1 3,ybu 26 24 25,ybc 27 24 26,ya5 28 24 6,ycl 29 24 .neq 27 28,xW 30 24 29,xM 31 30,yax 32 31 2 3,ybu 33 31 32,ybc 34 31 33,ya5 35 31 6,ycl 36 31 .neq 34 35,xW 37 31 36] 37 [xI 4 2] (ybj [xM 38 6,ybi 39] 0 c_87_l0 c_87_k1))⟩
def c_88_l0:ACode:=ya7 [xB 30 .lss 29 28] 30 0 1 (ych (xM 31 29) 6 31 (xR [ycc 32,xM 33 6,ybr 34 f_154 [.t 32,.t 33]])) [yck 35 .add 29,xM 29 35]
def c_88_k1:ACode:=yci (ycc 36) (xM 4 36)
def c_88:AFn:=⟨2,[.tmp 4],yat [xJ 2 0,ybv 3 1,xC 4 .nilptr] (.region true [(1,2)] [⟨some 7,none,.load true 4 (.t 3)⟩,⟨some 8,none,.tcall f_92 [.t 7]⟩,⟨some 9,none,.load true 9 (.t 2)⟩,⟨some 10,none,.pcall f_53 [.t 9]⟩,⟨some 11,none,.build [.fslice 1 [],.fslice 1 [],.fslice 2 [],.fslice 1 [],.str [],.fslice 2 [],.fslice 2 [],.fslice 3 [],.fslice 3 [],.fslice 6 [],.fslice 7 [],.fslice 5 [],.fslice 1 [],.fslice 1 [],.bool false] [(0,4,(.t 8)),(4,9,(.t 10)),(14,1,(.c (.bool true)))]⟩,⟨some 12,none,.box (.t 11)⟩,⟨some 5,none,.mov (.t 12)⟩] none) (ybo [ycc 13,ycc 14,xO 15 (ybe 14),ycd 16 15,ycd 17 16,xL 18 17,xN 19 18,xO 20 (.mkslice .row 1 8 [.nilmap] (.t 19) (.t 19)),xO 21 (ybe 13),xF 22 13 21,xS 1 22 20] [ycc 23,xO 24 (ybe 23),ycd 25 24,ycd 26 25,xL 27 26,xN 28 27,ybi 29] 0 c_88_l0 c_88_k1)⟩
def c_89:AFn:=⟨1,[.tmp 2],yba [xC 2 .nilptr] [yb2 3,xO 4 (.eqn false (.t 3) (.c .nilptr)),xM 5 4,ya5 6 5 0,yac 7 5 (ybe 6),yax 8 5 14 7,ybu 9 5 8,yac 10 5 (ya9 9),xW 11 5 10] 11 [xC 2 .nilptr] (yb7 [yb2 12,xO 13 (ybe 12),xF 14 4 13,xA 15 9 14,yb2 16,xO 17 (ybe 16),ycd 18 17,xA 19 4 18,ybr 20 f_88 [.t 15,.t 19],xM 2 20] .ret)⟩
def c_90:AFn:=⟨4,[.tmp 8],ycg (ybv 7 3) (ybi 8) (yap [yb2 12,yb8 13,xM 14 2,ybr 15 f_155 [.t 12,.t 13,.t 14],xM 11 15,xE 16 0 11,xE 17 1 11,xM 9 16,xM 10 17] [xM 18 10,xK 19 .eql 18 0] (yb1 19 (xD [yb2 20,xO 21 (ybe 20),xF 22 4 21,xA 23 9 22,yb8 24,xA 25 2 7,yaf 26 f_156 [.t 23,.t 24,.t 25],xM 10 26])) (yae [xM 27 10,xK 28 .eql 27 0] (yb1 28 (xD [yb2 29,xO 30 (ybe 29),ycd 31 30,ycd 32 31,xL 33 32,yb8 34,xX 35 1 33 34,xL 36 35,xM 37 9,xA 38 2 7,ycb 39 f_85 38,xX 40 5 36 37,xF 41 1 40,xF 42 2 41,xS 2 42 39])) (yci (xM 43 10) (xM 8 43))))⟩
def c_92_l0:ACode:=yby [xB 27 .lss 26 25] 27 2 3 [xX 28 5 24 26,xA 29 5 28,yas 8 [ybb,.fslice 2 [],ybb,ybb,.fslice 1 []],xS 5 8 29] [8] (xR [xM 30 6,xA 31 5 8,ycb 32 f_157 31,xO 33 (.bslice .imm 5 (List.replicate 1 [.int .i64 0,.fslice 2 [],.int .i64 0,.int .i64 0,.fslice 1 []]) [(0,(.t 32))]),xO 34 (ybs .row 5 72 30 (.t 33)),xM 6 34]) [yck 35 .add 26,xM 26 35]
def c_92_k1:ACode:=xR [ycd 36 3,xL 37 36,xM 38 6,xO 39 (.bslice .row 1 (List.replicate 1 [.fslice 5 []]) [(0,(.t 38))]),xO 40 (ybs .row 1 24 37 (.t 39)),ycd 41 3,xS 1 41 40]
def c_92_k2:ACode:=xR [yck 42 .add 20,xM 20 42]
def c_92_l3:ACode:=ya4 [xB 21 .lss 20 19] 21 0 (yaj 1 (yaa [xX 22 1 18 20,xL 23 22,xM 5 23] (ybo [xC 6 (.fslice 5 [])] [ycc 24,xN 25 24,ybi 26] 2 c_92_l0 c_92_k1)) c_92_k2)
def c_92_l4:ACode:=yby [xB 47 .lss 46 45] 47 4 5 [xX 48 2 44 46,xA 49 2 48,yas 10 [ybb,.fslice 1 []],xS 2 10 49] [10] (xD [xF 50 2 3,xL 51 50,xA 52 2 10,ycb 53 f_85 52,xO 54 (.bslice .imm 2 (List.replicate 1 [.int .i64 0,.fslice 1 []]) [(0,(.t 53))]),xO 55 (ybs .row 2 32 51 (.t 54)),xF 56 2 3,xS 1 56 55]) [yck 57 .add 46,xM 46 57]
def c_92_l5:ACode:=ya7 [xB 62 .lss 61 60] 62 6 7 (yaa [xX 63 1 59 61,xL 64 63,xM 12 64] (xD [xF 65 3 3,xL 66 65,xM 67 12,ycb 68 f_150 67,xO 69 (.bslice .imm 1 (List.replicate 1 [.fslice 1 []]) [(0,(.t 68))]),xO 70 (ybs .app 1 24 66 (.t 69)),xF 71 3 3,xS 1 71 70])) [yck 72 .add 61,xM 61 72]
def c_92_k6:ACode:=yci (xA 73 4 3) (xS 4 2 73)
def c_92_k7:ACode:=ybj [xF 58 3 1,xL 59 58,xN 60 59,ybi 61] 6 c_92_l5 c_92_k6
def c_92_k8:ACode:=ybj [xF 43 2 1,xL 44 43,xN 45 44,ybi 46] 4 c_92_l4 c_92_k7
def c_92:AFn:=⟨1,[.cell 2 true 4],ycg (ybv 1 0) (yas 2 [.fslice 1 [],.fslice 1 [],.fslice 2 [],.fslice 1 []]) (ybo [xF 13 1 1,xL 14 13,ybr 15 f_116 [.t 14],xO 16 (.build [.fslice 1 [],.fslice 1 [],.fslice 2 [],.fslice 1 []] [(1,1,(.t 15))]),yas 3 [.fslice 1 [],.fslice 1 [],.fslice 2 [],.fslice 1 []],xS 4 3 16] [ycd 17 1,xL 18 17,xN 19 18,ybi 20] 0 c_92_l3 c_92_k8)⟩
def c_93:AFn:=⟨3,[.tmp 6,.tmp 7],yaa [ybv 5 2,ybi 6,ybi 7] (yaj 0 (ybx [yb2 11,xO 12 (.eqn false (.t 11) (.c .nilptr)),xM 13 12,ya5 14 13 0,yac 15 13 (ybe 14),yax 16 13 14 15,ybu 17 13 16,yac 18 13 (ya9 17),xW 19 13 18,xM 10 19] 10 [ybi 6,xI 7 1] (ya3 [yb2 21,yb8 22,ybr 23 f_158 [.t 21,.t 22],ybk 24 23,xM 20 24] 20 [ybi 6,xI 7 8])) (.seq (yb7 [yb2 25,xO 26 (ybe 25),xF 27 4 26,xA 28 9 27,yb8 29,xA 30 4 5,yaf 31 f_159 [.t 28,.t 29,.t 30],xM 8 31] (ya3 [xM 32 8,xK 33 .neq 32 0] 33 [xM 34 8,ybi 6,xM 7 34])) (ybl [yb2 35,xO 36 (ybe 35),ycd 37 36,ycd 38 37,xL 39 38,yb8 40,xX 41 1 39 40,xL 42 41,xO 43 (.mkfunc (.func f_161) [] [.t 5]),ybh 44 f_160 42 43] 44 [ybi 6,xI 7 7] (yat [yb2 45,xO 46 (ybe 45),ycd 47 46,xF 48 1 47,xL 49 48,yb8 50,xX 51 1 49 50,xL 52 51,xM 9 52] (yb7 [yb2 53,xO 54 (ybe 53),ycd 55 54,ycd 56 55,xL 57 56,yb8 58,xX 59 1 57 58,xL 60 59,xN 61 60,yb2 62,xO 63 (ybe 62),xF 64 4 63,xF 65 5 64,xL 66 65,yb8 67,xX 68 6 66 67,xF 69 5 68,xL 70 69,xB 71 .geq 61 70,xM 72 71,ya5 73 72 9,ybm 74 72 .geq 73 1073741824,xW 75 72 74] (yai 75 [ybi 6,xI 7 13])) (yb7 [yb2 76,xO 77 (ybe 76),xF 78 13 77,xL 79 78,yb8 80,xX 81 1 79 80,xL 82 81,xM 83 9,yb2 84,xO 85 (ybe 84),ycd 86 85,ycd 87 86,xL 88 87,yb8 89,xX 90 1 88 89,xL 91 90,xN 92 91,⟨none,none,.update .i (.t 82) (.t 83) (.t 92)⟩] (.seq (.region true [(4,19)] [⟨some 93,none,.mov (.t 0)⟩,⟨some 94,none,.nilchk (.t 93)⟩,⟨some 95,none,.faddr 0 (.t 94)⟩,⟨some 96,none,.faddr 0 (.t 95)⟩,⟨some 97,none,.load false 1 (.t 96)⟩,⟨some 98,none,.mov (.t 1)⟩,⟨some 99,none,.mov (.t 0)⟩,⟨some 100,none,.nilchk (.t 99)⟩,⟨some 101,none,.faddr 0 (.t 100)⟩,⟨some 102,none,.faddr 0 (.t 101)⟩,⟨some 103,none,.load false 1 (.t 102)⟩,⟨some 104,none,.mov (.t 1)⟩,⟨some 105,none,.iaddr 1 none (.t 103) (.t 104)⟩,⟨some 106,none,.load false 1 (.t 105)⟩,⟨some 107,none,.mov (.t 9)⟩,⟨some 108,none,.load true 4 (.t 5)⟩,⟨some 109,none,.pcall f_163 [.t 108]⟩,⟨some 110,none,.build [.int .i64 0,.fslice 2 [],.int .i64 0,.int .i64 0,.fslice 1 []] [(0,1,(.t 107)),(1,4,(.t 109))]⟩,⟨some 111,none,.bslice .imm 5 (List.replicate 1 [.int .i64 0,.fslice 2 [],.int .i64 0,.int .i64 0,.fslice 1 []]) [(0,(.t 110))]⟩,⟨some 112,none,.append .row 5 72 (.t 106) (.t 111)⟩,⟨some 113,none,.iaddr 1 none (.t 97) (.t 98)⟩,⟨none,none,.store 1 (.t 113) (.t 112)⟩] none) (ybp [yb2 114,xO 115 (ybe 114),ycd 116 115,xF 117 1 116,xL 118 117,yb8 119,xX 120 1 118 119,xL 121 120,yck 122 .add 121,xX 123 1 118 119,xS 1 123 122] [xM 124 9,xM 6 124,ybi 7])))))))⟩
def c_94:AFn:=⟨3,[.tmp 6],yaa [ybi 6] (yap [yb2 10,yb8 11,xM 12 2,ybr 13 f_155 [.t 10,.t 11,.t 12],xM 9 13,xE 14 0 9,xE 15 1 9,xM 7 14,xM 8 15] [xM 16 8,xK 17 .eql 16 0] (yb1 17 (.seq (.region true [(4,17)] [⟨some 18,none,.mov (.t 0)⟩,⟨some 19,none,.nilchk (.t 18)⟩,⟨some 20,none,.faddr 0 (.t 19)⟩,⟨some 21,none,.faddr 0 (.t 20)⟩,⟨some 22,none,.load false 1 (.t 21)⟩,⟨some 23,none,.mov (.t 1)⟩,⟨some 24,none,.mov (.t 0)⟩,⟨some 25,none,.nilchk (.t 24)⟩,⟨some 26,none,.faddr 0 (.t 25)⟩,⟨some 27,none,.faddr 0 (.t 26)⟩,⟨some 28,none,.load false 1 (.t 27)⟩,⟨some 29,none,.mov (.t 1)⟩,⟨some 30,none,.iaddr 1 none (.t 28) (.t 29)⟩,⟨some 31,none,.load false 1 (.t 30)⟩,⟨some 32,none,.mov (.t 7)⟩,⟨some 33,none,.mov (.t 7)⟩,⟨some 34,none,.bin .add (.t 33) (.c (.int .i64 1))⟩,⟨some 35,none,.tcall f_164 [.t 31,.t 32,.t 34]⟩,⟨some 36,none,.iaddr 1 none (.t 22) (.t 23)⟩,⟨none,none,.store 1 (.t 36) (.t 35)⟩] none) (xR [yb2 37,yb8 38,ybr 39 f_154 [.t 37,.t 38]]))) (yci (xM 40 8) (xM 6 40)))⟩
def c_95:AFn:=⟨3,[.tmp 6],ycg (ybv 5 2) (ybi 6) (yaj 0 (ybx [yb2 9,xO 10 (.eqn false (.t 9) (.c .nilptr)),xM 11 10,ya5 12 11 0,yac 13 11 (ybe 12),yax 14 11 14 13,ybu 15 11 14,yac 16 11 (ya9 15),xW 17 11 16,xM 8 17] 8 [xI 6 1] (ya3 [yb2 19,yb8 20,ybr 21 f_158 [.t 19,.t 20],ybk 22 21,xM 18 22] 18 [xI 6 8])) (yb7 [yb2 23,xO 24 (ybe 23),xF 25 4 24,xA 26 9 25,yb8 27,xA 28 2 5,yaf 29 f_156 [.t 26,.t 27,.t 28],xM 7 29] (yae [xM 30 7,xK 31 .eql 30 0] (yb1 31 (xD [yb2 32,xO 33 (ybe 32),ycd 34 33,xF 35 2 34,xL 36 35,yb8 37,xA 38 2 5,ycb 39 f_85 38,xX 40 2 36 37,xS 2 40 39])) (yci (xM 41 7) (xM 6 41)))))⟩
def c_96:AFn:=⟨2,[.tmp 4],ybp [ybv 2 0,ybv 3 1,ycf] [xA 5 4 2,xA 6 4 3,ybh 7 f_162 5 6,xM 8 7,yb0 9 8 2 2,yb0 10 8 0 9,yav 11 8 (yay 1 10),yb0 12 8 2 3,yb0 13 8 0 12,yav 14 8 (yay 1 13),yb6 15 8 .eql 11 (.t 14),xV 16 8 15,xM 17 16,yb0 18 17 2 2,yb0 19 17 1 18,yav 20 17 (yay 1 19),yb0 21 17 2 3,yb0 22 17 1 21,yav 23 17 (yay 1 22),ybz 24 17 f_165 [.t 20,.t 23],xV 25 17 24,xM 4 25]⟩
def c_97_l0:ACode:=yb4 [ycc 11,yb2 12,xN 13 12,xB 14 .lss 11 13] 14 0 (ya1 1 (yb7 [yb2 17,ycc 18,xX 19 1 17 18,xL 20 19,yb8 21,ycc 22,xX 23 1 21 22,xL 24 23,xB 25 .neq 20 24] (yai 25 [ycf])) [ycc 15,yck 16 .add 15,xM 5 16])
def c_97_k1:ACode:=yad [yb5 4]
def c_97:AFn:=⟨2,[.tmp 4],yba [ycf] [yb2 6,xN 7 6,yb8 8,xN 9 8,xB 10 .neq 7 9] 10 [ycf] (ybj [ybi 5] 0 c_97_l0 c_97_k1)⟩
def c_99:AFn:=⟨1,[],yaa [xJ 1 0] (ybw [ycd 2 1,xL 3 2,ycb 4 f_168 3,ybg 5 f_167 4 (yar 6),yaf 6 f_166 [.t 5,yar 0,yar 0,yar 0]] [xF 7 1 1,xL 8 7,xN 9 8,xK 10 .gtr 9 8,ybg 11 f_167 10 (yar 12),yaf 12 f_166 [.t 11,yar 0,yar 1,yar 0]] (ybw [xF 13 3 1,xL 14 13,xN 15 14,xK 16 .gtr 15 4,ybg 17 f_167 16 (yar 12),yaf 18 f_166 [.t 17,yar 0,yar 3,yar 0]] [xF 19 4 1,xL 20 19,xN 21 20,xK 22 .gtr 21 16,ybg 23 f_167 22 (yar 12),yaf 24 f_166 [.t 23,yar 0,yar 4,yar 0]] (xR [xF 25 5 1,xL 26 25,xN 27 26,xK 28 .gtr 27 12,ybg 29 f_167 28 (yar 12),yaf 30 f_166 [.t 29,yar 0,yar 5,yar 0]])))⟩
def c_100_l0:ACode:=yby [xB 12 .lss 11 10] 12 0 1 [xM 13 11,xX 14 2 9 11,xA 15 2 14,yas 4 [.str [],.fslice 2 []],xM 3 13,xS 2 4 15] [4] (ybw [xA 16 2 4,ycb 17 f_171 16,xM 18 3,yaf 19 f_166 [.t 17,yar 1,.t 18,yar 0]] [ycd 20 4,xL 21 20,xO 22 (yau .eql 21 (.c (.str [109,101,116,97]))),ybg 23 f_167 22 (yar 6),xM 24 3,yaf 25 f_166 [.t 23,yar 1,.t 24,yar 0]] (xR [xM 26 2,xM 27 3,ybh 28 f_172 26 27,ybg 29 f_167 28 (yar 7),xM 30 3,yaf 31 f_166 [.t 29,yar 1,.t 30,yar 0]])) [yck 32 .add 11,xM 11 32]
def c_100:AFn:=⟨1,[],yaa [xJ 1 0] (ybw [xF 5 1 1,xL 6 5,ybg 7 f_169 6 (.c (.func (.func f_170) [] [])),xM 2 7] [xF 8 1 1,xL 9 8,xN 10 9,ybi 11] (yal 0 c_100_l0))⟩
def c_101_l0:ACode:=yby [xB 20 .lss 19 18] 20 0 1 [xM 21 19,xX 22 2 17 19,xA 23 2 22,yas 4 [.str [],ybb],xM 3 21,xS 2 4 23] [4] (ybw [ycd 24 4,xL 25 24,ycb 26 f_168 25,ybg 27 f_167 26 (yar 6),xM 28 3,yaf 29 f_166 [.t 27,yar 2,.t 28,yar 0]] [xF 30 1 4,xL 31 30,ycb 32 f_175 31,ybg 33 f_167 32 (yar 10),xM 34 3,yaf 35 f_166 [.t 33,yar 2,.t 34,yar 0]] (xR [xM 36 2,xM 37 3,ybh 38 f_172 36 37,ybg 39 f_167 38 (yar 7),xM 40 3,yaf 41 f_166 [.t 39,yar 2,.t 40,yar 0]])) [yck 42 .add 19,xM 19 42]
def c_101_l1:ACode:=yby [xK 48 .lss 47 3] 48 2 3 [xM 49 47,xO 50 (.idxa true 3 2 (.t 46) (.t 47)),yas 6 [.str [],ybb],xM 5 49,xS 2 6 50] [6] (yb7 [ycc 51,xF 52 2 1,xL 53 52,xN 54 53,xB 55 .geq 51 54,xM 56 55,yax 57 56 2 1,ybu 58 56 57,ya5 59 56 5,yac 60 56 (ybq 2 none 58 (.t 59)),yac 61 56 (.load true 2 (.t 60)),yac 62 56 (.load true 2 (.t 6)),yac 63 56 (.eqs true true [.s,.i] (.t 61) (.t 62)),xW 64 56 63,ybg 65 f_167 64 (yar 5),ycc 66] (xR [yaf 67 f_166 [.t 65,yar 2,.t 66,yar 0]])) [yck 68 .add 47,xM 47 68]
def c_101_k2:ACode:=yaa [xO 43 (.build [.str [],.int .i64 0] [(0,1,(.c (.str [105,110]))),(1,1,(.c (.int .i64 8)))]),xO 44 (.build [.str [],.int .i64 0] [(0,1,(.c (.str [111,117,116]))),(1,1,(.c (.int .i64 8)))]),xO 45 (.build [.str [],.int .i64 0] [(0,1,(.c (.str [100,114,111,112]))),(1,1,(.c (.int .i64 1)))]),xO 46 (.build [.str [],.int .i64 0,.str [],.int .i64 0,.str [],.int .i64 0] [(0,2,(.t 43)),(2,2,(.t 44)),(4,2,(.t 45))]),ybi 47] (yal 2 c_101_l1)
def c_101:AFn:=⟨1,[],ybw [xJ 1 0] [xF 7 2 1,xL 8 7,xN 9 8,xK 10 .gtr 9 12,ybg 11 f_167 10 (yar 12),yaf 12 f_166 [.t 11,yar 2,yar 0,yar 0]] (ybo [xF 13 2 1,xL 14 13,ybg 15 f_173 14 (.c (.func (.func f_174) [] [])),xM 2 15] [xF 16 2 1,xL 17 16,xN 18 17,ybi 19] 0 c_101_l0 c_101_k2)⟩
def c_102_l0:ACode:=yby [xB 18 .lss 17 16] 18 0 1 [xM 19 17,xX 20 3 15 17,xA 21 3 20,yas 4 [.str [],ybb,ybb],xM 3 19,xS 3 4 21] [4] (yaa [xA 22 3 4,ycb 23 f_178 22,xM 24 3,yaf 25 f_166 [.t 23,yar 3,.t 24,yar 0]] (xR [xM 26 2,xM 27 3,ybh 28 f_172 26 27,ybg 29 f_167 28 (yar 7),xM 30 3,yaf 31 f_166 [.t 29,yar 3,.t 30,yar 0]])) [yck 32 .add 17,xM 17 32]
def c_102_l1:ACode:=ya7 [xB 40 .lss 39 38] 40 2 3 (ych (xM 41 39) 5 41 (ybw [xA 43 9 1,ycc 44,ybh 45 f_181 43 44,xM 42 45,xE 46 0 42,xE 47 1 42,xM 6 46,xM 7 47] [xM 48 7,ycc 49,xM 50 6,yaf 51 f_166 [.t 48,yar 4,.t 49,.t 50]] (xR [xM 52 2,ycc 53,ybh 54 f_172 52 53,ybg 55 f_167 54 (yar 7),ycc 56,yaf 57 f_166 [.t 55,yar 4,.t 56,yar 0]]))) [yck 58 .add 39,xM 39 58]
def c_102_l2:ACode:=ya7 [xB 66 .lss 65 64] 66 4 5 (ych (xM 67 65) 8 67 (ybw [xA 69 9 1,xM 70 8,ybh 71 f_184 69 70,xM 68 71,xE 72 0 68,xE 73 1 68,xM 9 72,xM 10 73] [xM 74 10,xM 75 8,xM 76 9,yaf 77 f_166 [.t 74,yar 5,.t 75,.t 76]] (xR [xM 78 2,xM 79 8,ybh 80 f_172 78 79,ybg 81 f_167 80 (yar 7),xM 82 8,yaf 83 f_166 [.t 81,yar 5,.t 82,yar 0]]))) [yck 84 .add 65,xM 65 84]
def c_102_k3:ACode:=ybw [xF 59 5 1,xL 60 59,ybg 61 f_182 60 (.c (.func (.func f_183) [] [])),xM 2 61] [xF 62 5 1,xL 63 62,xN 64 63,ybi 65] (yal 4 c_102_l2)
def c_102_k4:ACode:=ybo [xF 33 4 1,xL 34 33,ybg 35 f_179 34 (.c (.func (.func f_180) [] [])),xM 2 35] [xF 36 4 1,xL 37 36,xN 38 37,ybi 39] 2 c_102_l1 c_102_k3
def c_102:AFn:=⟨1,[],yaa [xJ 1 0] (ybo [xF 11 3 1,xL 12 11,ybg 13 f_176 12 (.c (.func (.func f_177) [] [])),xM 2 13] [xF 14 3 1,xL 15 14,xN 16 15,ybi 17] 0 c_102_l0 c_102_k4)⟩
def c_103:AFn:=⟨1,[],ybw [xJ 1 0] [xA 7 9 1,ycb 8 f_185 7,xM 6 8,xE 9 0 6,xE 10 1 6,xE 11 2 6,xM 2 9,xM 3 10,xM 4 11] (ybw [xM 12 4,xM 13 2,xM 14 3,yaf 15 f_166 [.t 12,yar 6,.t 13,.t 14]] [xA 17 9 1,ycb 18 f_186 17,xM 16 18,xE 19 0 16,xE 20 1 16,xM 5 19,xM 4 20] (ybw [xM 21 4,ycc 22,yaf 23 f_166 [.t 21,yar 7,.t 22,yar 0]] [xA 25 9 1,ycb 26 f_187 25,xM 24 26,xE 27 0 24,xE 28 1 24,xM 5 27,xM 4 28] (xR [xM 29 4,ycc 30,yaf 31 f_166 [.t 29,yar 8,.t 30,yar 0]])))⟩
def c_104_l0:ACode:=yby [xB 11 .lss 10 9] 11 0 1 [xX 12 2 8 10,xA 13 2 12,yas 7 [.str [],.fslice 2 []],xS 2 7 13] [7] (xR [ycc 14,yb8 15,xA 16 2 7,xO 17 (yce 15 [.t 16]),xO 18 (.bslice .imm 2 (List.replicate 1 [.str [],.fslice 2 []]) [(0,(.t 17))]),xO 19 (ybs .app 2 40 14 (.t 18)),xM 5 19]) [yck 20 .add 10,xM 10 20]
def c_104_k1:ACode:=yci (ycc 21) (xM 4 21)
def c_104:AFn:=⟨2,[.tmp 4],yaa [xC 4 (.fslice 2 [])] (ybo [yb3 5 2] [yb2 8,xN 9 8,ybi 10] 0 c_104_l0 c_104_k1)⟩
def c_105:AFn:=⟨1,[.cell 2 true 2],ycg (ybv 1 0) (yas 2 [.str [],.fslice 2 []]) (ybp [xF 3 1 1,xL 4 3,ycb 5 f_106 4,xF 6 1 1,xS 1 6 5] [xA 7 2 1,xS 2 2 7])⟩
def c_108_l0:ACode:=yby [xB 11 .lss 10 9] 11 0 1 [xX 12 3 8 10,xA 13 3 12,yas 7 [.str [],.fslice 2 [],.fslice 7 []],xS 3 7 13] [7] (xR [ycc 14,yb8 15,xA 16 3 7,xO 17 (yce 15 [.t 16]),xO 18 (.bslice .imm 3 (List.replicate 1 [.str [],.fslice 2 [],.fslice 7 []]) [(0,(.t 17))]),xO 19 (ybs .app 3 64 14 (.t 18)),xM 5 19]) [yck 20 .add 10,xM 10 20]
def c_108_k1:ACode:=yci (ycc 21) (xM 4 21)
def c_108:AFn:=⟨2,[.tmp 4],yaa [xC 4 (.fslice 3 [])] (ybo [yb3 5 3] [yb2 8,xN 9 8,ybi 10] 0 c_108_l0 c_108_k1)⟩
def c_109:AFn:=⟨1,[.cell 2 true 3],yat [ybv 1 0,yas 2 [.str [],.fslice 2 [],.fslice 7 []]] (xD [xF 3 1 1,xL 4 3,ycb 5 f_106 4,xF 6 2 1,xL 7 6,ybg 8 f_188 7 (.c (.func (.func f_189) [] [])),xF 9 1 1,xS 1 9 5,xF 10 2 1,xS 1 10 8]) (yci (xA 11 3 1) (xS 3 2 11))⟩
def c_110_l0:ACode:=yby [xB 11 .lss 10 9] 11 0 1 [xX 12 6 8 10,xA 13 6 12,yas 7 [.str [],.fslice 3 [],.fslice 1 [],ybb,.fslice 1 [],ybb],xS 6 7 13] [7] (xR [ycc 14,yb8 15,xA 16 6 7,xO 17 (yce 15 [.t 16]),xO 18 (.bslice .imm 6 (List.replicate 1 [.str [],.fslice 3 [],.fslice 1 [],.int .i64 0,.fslice 1 [],.int .i64 0]) [(0,(.t 17))]),xO 19 (ybs .app 6 104 14 (.t 18)),xM 5 19]) [yck 20 .add 10,xM 10 20]
def c_110_k1:ACode:=yci (ycc 21) (xM 4 21)
def c_110:AFn:=⟨2,[.tmp 4],yaa [xC 4 (.fslice 6 [])] (ybo [yb3 5 6] [yb2 8,xN 9 8,ybi 10] 0 c_110_l0 c_110_k1)⟩
def c_111:AFn:=⟨1,[.cell 2 true 6],yat [ybv 1 0,yas 2 [.str [],.fslice 3 [],.fslice 1 [],ybb,.fslice 1 [],ybb]] (xD [xF 3 1 1,xL 4 3,ycb 5 f_190 4,xF 6 2 1,xL 7 6,ycb 8 f_116 7,xF 9 3 1,xF 10 1 9,xL 11 10,ycb 12 f_150 11,xF 13 1 1,xS 1 13 5,xF 14 2 1,xS 1 14 8,xF 15 3 1,xF 16 1 15,xS 1 16 12]) (yci (xA 17 6 1) (xS 6 2 17))⟩
def c_112_l0:ACode:=yby [xB 11 .lss 10 9] 11 0 1 [xX 12 7 8 10,xA 13 7 12,yas 7 [.str [],.fslice 1 [],.bool false,ybb,ybb,.fslice 3 [],ybb],xS 7 7 13] [7] (xR [ycc 14,yb8 15,xA 16 7 7,xO 17 (yce 15 [.t 16]),xO 18 (.bslice .imm 7 (List.replicate 1 [.str [],.fslice 1 [],.bool false,.int .i64 0,.int .i64 0,.fslice 3 [],.int .i64 0]) [(0,(.t 17))]),xO 19 (ybs .app 7 96 14 (.t 18)),xM 5 19]) [yck 20 .add 10,xM 10 20]
def c_112_k1:ACode:=yci (ycc 21) (xM 4 21)
def c_112:AFn:=⟨2,[.tmp 4],yaa [xC 4 (.fslice 7 [])] (ybo [yb3 5 7] [yb2 8,xN 9 8,ybi 10] 0 c_112_l0 c_112_k1)⟩
def c_113:AFn:=⟨1,[.cell 2 true 7],yat [ybv 1 0,yas 2 [.str [],.fslice 1 [],.bool false,ybb,ybb,.fslice 3 [],ybb]] (xD [xF 3 1 1,xL 4 3,ycb 5 f_116 4,xF 6 5 1,xL 7 6,ycb 8 f_191 7,xF 9 1 1,xS 1 9 5,xF 10 5 1,xS 1 10 8]) (yci (xA 11 7 1) (xS 7 2 11))⟩
def c_114_l0:ACode:=yby [xB 11 .lss 10 9] 11 0 1 [xX 12 5 8 10,xA 13 5 12,yas 7 [ybb,ybb,.fslice 3 [],.fslice 5 [],.fslice 5 []],xS 5 7 13] [7] (xR [ycc 14,yb8 15,xA 16 5 7,xO 17 (yce 15 [.t 16]),xO 18 (.bslice .imm 5 (List.replicate 1 [.int .i64 0,.int .i64 0,.fslice 3 [],.fslice 5 [],.fslice 5 []]) [(0,(.t 17))]),xO 19 (ybs .app 5 88 14 (.t 18)),xM 5 19]) [yck 20 .add 10,xM 10 20]
def c_114_k1:ACode:=yci (ycc 21) (xM 4 21)
def c_114:AFn:=⟨2,[.tmp 4],yaa [xC 4 (.fslice 5 [])] (ybo [yb3 5 5] [yb2 8,xN 9 8,ybi 10] 0 c_114_l0 c_114_k1)⟩
def c_115:AFn:=⟨1,[.cell 2 true 5],yat [ybv 1 0,yas 2 [ybb,ybb,.fslice 3 [],.fslice 5 [],.fslice 5 []]] (xD [xF 3 2 1,xL 4 3,ycb 5 f_192 4,xF 6 3 1,xL 7 6,ybg 8 f_114 7 (.c (.func (.func f_115) [] [])),xF 9 4 1,xL 10 9,ybg 11 f_114 10 (.c (.func (.func f_115) [] [])),xF 12 2 1,xS 1 12 5,xF 13 3 1,xS 1 13 8,xF 14 4 1,xS 1 14 11]) (yci (xA 15 5 1) (xS 5 2 15))⟩
def c_149:AFn:=⟨1,[.tmp 2],ybp [xJ 1 0,yaq 2] [xF 3 2 1,xL 4 3,yck 5 .geq 4,ycc 6,yb0 7 6 2 1,yav 8 6 (yay 1 7),yb6 9 6 .leq 8 (yar 64),xV 10 6 9,xM 2 10]⟩
def c_151_l0:ACode:=yb4 [ycc 20,ycd 21 2,xL 22 21,xN 23 22,xB 24 .lss 20 23] 24 0 (ya1 1 (yb7 [ycd 27 2,xL 28 27,ycc 29,xX 30 2 28 29,xA 31 2 30,ycd 32 3,xL 33 32,ycc 34,xX 35 2 33 34,xA 36 2 35,xO 37 (.eqs true true [.i,.i] (.t 31) (.t 36))] (yai 37 [ycf])) [ycc 25,yck 26 .add 25,xM 5 26])
def c_151_k1:ACode:=yad [yb5 4]
def c_151:AFn:=⟨2,[.tmp 4],yba [ybv 2 0,ybv 3 1,ycf] [ycd 6 2,xL 7 6,xN 8 7,ycd 9 3,xL 10 9,xN 11 10,xB 12 .neq 8 11,xM 13 12,yax 14 13 1 2,ybu 15 13 14,yax 16 13 1 3,ybu 17 13 16,ycl 18 13 .neq 15 17,xW 19 13 18] 19 [ycf] (ybj [ybi 5] 0 c_151_l0 c_151_k1)⟩
def c_152_l0:ACode:=yby [xB 29 .lss 28 27] 29 0 1 [xX 30 5 26 28,xA 31 5 30,yas 13 [ybb,.fslice 2 [],ybb,ybb,.fslice 1 []],xS 5 13 31] [13] (ybl [ycd 32 13,xL 33 32,xM 34 11,xB 35 .leq 33 34] 35 [xI 10 14] (xR [ycd 36 13,xL 37 36,xM 11 37])) [yck 38 .add 28,xM 28 38]
def c_152_l1:ACode:=yby [xB 53 .lss 52 51] 53 2 3 [xM 54 52,xX 55 5 50 52,xA 56 5 55,yas 15 [ybb,.fslice 2 [],ybb,ybb,.fslice 1 []],xM 14 54,xS 5 15 56] [15] (yae [xA 57 9 5,yb8 58,xF 59 1 15,xA 60 4 59,yaf 61 f_159 [.t 57,.t 58,.t 60],xM 16 61] (ya3 [xM 62 16,xK 63 .neq 62 0] 63 [xM 64 16,xM 10 64]) (ya3 [xM 65 2,xM 66 14,xO 67 (.slc 5 (.t 65) none (some (.t 66)) none),xO 68 (.mkfunc (.func f_215) [] [.t 15]),ybh 69 f_160 67 68] 69 [xI 10 7])) [yck 70 .add 52,xM 52 70]
def c_152_k2:ACode:=yad [xA 71 9 5,yb8 72,xA 73 2 9,yaf 74 f_156 [.t 71,.t 72,.t 73],xM 10 74]
def c_152_k3:ACode:=ybl [xM 39 3,xM 40 11,xB 41 .leq 39 40,xM 42 41,ya5 43 42 3,ybm 44 42 .lss 43 1,xW 45 42 44,xM 46 45,ya5 47 46 3,ybm 48 46 .gtr 47 1073741824,xW 49 46 48] 49 [xI 10 14] (ybj [xM 50 2,xN 51 50,ybi 52] 2 c_152_l1 c_152_k2)
def c_152:AFn:=⟨5,[.tmp 10],yba [xJ 5 0,xJ 9 4,ybi 10] [xM 17 2,xN 18 17,xF 19 5 5,xL 20 19,yb8 21,xX 22 6 20 21,xF 23 5 22,xL 24 23,xB 25 .gtr 18 24] 25 [xI 10 12] (ybo [ybi 11] [xM 26 2,xN 27 26,ybi 28] 0 c_152_l0 c_152_k3)⟩
def c_153_l0:ACode:=ya7 [xB 18 .lss 17 16] 18 0 1 (yaa [xM 19 17,xX 20 1 15 17,xL 21 20,xM 5 19,xM 6 21] (ya3 [xM 22 6,xN 23 22,xF 24 3 2,xL 25 24,ycc 26,xX 27 3 25 26,xF 28 2 27,xL 29 28,xB 30 .neq 23 29] 30 [xI 4 2])) [yck 31 .add 17,xM 17 31]
def c_153_l1:ACode:=ya7 [xB 35 .lss 34 33] 35 2 3 (yat [xM 36 34,xX 37 1 32 34,xL 38 37,xM 7 36,xM 8 38] (xD [xM 39 8,xN 40 39,xK 41 .gtr 40 0,xM 42 41,ybt 43 42 8,ybz 44 42 f_216 [.t 43],yb0 45 42 3 2,yav 46 42 (yay 1 45),ybt 47 42 7,yav 48 42 (ybq 3 none 46 (.t 47)),yb0 49 42 1 48,yav 50 42 (yay 1 49),ybz 51 42 f_217 [.t 50],yb6 52 42 .gtr 44 (.t 51),xV 53 42 52]) (yai 53 [xI 4 9])) [yck 54 .add 34,xM 34 54]
def c_153_k2:ACode:=yad [yb9]
def c_153_k3:ACode:=ybj [yb8 32,xN 33 32,ybi 34] 2 c_153_l1 c_153_k2
def c_153:AFn:=⟨2,[.tmp 4],yba [xJ 2 0,yb9] [yb8 9,xN 10 9,xF 11 3 2,xL 12 11,xN 13 12,xB 14 .neq 10 13] 14 [xI 4 2] (ybj [yb8 15,xN 16 15,ybi 17] 0 c_153_l0 c_153_k3)⟩
def c_154_l0:ACode:=yby [xB 23 .lss 22 21] 23 0 1 [xM 24 22,xX 25 5 20 22,xA 26 5 25,yas 5 [ybb,.fslice 2 [],ybb,ybb,.fslice 1 []],xM 4 24,xS 5 5 26] [5] (xD [yb2 27,xO 28 (ybe 27),xF 29 13 28,xL 30 29,yb8 31,xX 32 1 30 31,xL 33 32,ycd 34 5,xL 35 34,xM 36 4,⟨none,none,.update .i (.t 33) (.t 35) (.t 36)⟩]) [yck 37 .add 22,xM 22 37]
def c_154:AFn:=⟨2,[],ybw [yb2 6,xO 7 (ybe 6),xF 8 13 7,xL 9 8,yb8 10,xO 11 .mkmap,xX 12 1 9 10,xS 1 12 11] [yb2 13,xO 14 (ybe 13),ycd 15 14,ycd 16 15,xL 17 16,yb8 18,xX 19 1 17 18,xL 20 19,xN 21 20,ybi 22] (yal 0 c_154_l0)⟩
def c_155:AFn:=⟨3,[.tmp 6,.tmp 7],ycg (ybi 6) (ybi 7) (yaj 0 (ybx [yb2 11,xO 12 (.eqn false (.t 11) (.c .nilptr)),xM 13 12,ya5 14 13 0,yac 15 13 (ybe 14),yax 16 13 14 15,ybu 17 13 16,yac 18 13 (ya9 17),xW 19 13 18,xM 10 19] 10 [ybi 6,xI 7 1] (ya3 [yb2 21,yb8 22,ybr 23 f_158 [.t 21,.t 22],ybk 24 23,xM 20 24] 20 [ybi 6,xI 7 8])) (yba [yb2 26,xO 27 (ybe 26),xF 28 13 27,xL 29 28,yb8 30,xX 31 1 29 30,xL 32 31,xM 33 2,xO 34 (.lookup .i (.int .i64 0) true (.t 32) (.t 33)),xM 25 34,xE 35 0 25,xE 36 1 25,xM 8 35,xM 9 36] [xM 37 9,ybk 38 37] 38 [ybi 6,xI 7 8] (yad [xM 39 8,xM 6 39,ybi 7])))⟩
def c_156:AFn:=⟨3,[.tmp 6],yba [xJ 3 0,xJ 5 2,ybi 6] [xA 7 9 3,yb8 8,ycd 9 5,xL 10 9,yaf 11 f_218 [.t 7,.t 8,.t 10],ybk 12 11] 12 [xI 6 8] (yad [xA 13 9 3,xA 14 2 5,ybh 15 f_219 13 14,xM 6 15])⟩
def c_157:AFn:=⟨1,[.cell 2 true 5],yat [xJ 1 0,yas 2 [ybb,.fslice 2 [],ybb,ybb,.fslice 1 []]] (xD [ycd 3 1,xL 4 3,xF 5 1 1,xA 6 4 5,ycb 7 f_163 6,xO 8 (.build [.int .i64 0,.fslice 2 [],.int .i64 0,.int .i64 0,.fslice 1 []] [(0,1,(.t 4)),(1,4,(.t 7))]),xS 5 2 8]) .ret⟩
def c_158:AFn:=⟨2,[.tmp 4],ybp [ycf] [yb8 5,xK 6 .geq 5 0,xM 7 6,ybt 8 7 1,ybt 9 7 0,yav 10 7 (ybe 9),yb0 11 7 0 10,yb0 12 7 0 11,yav 13 7 (yay 1 12),yav 14 7 (ya6 13),yb6 15 7 .lss 8 (.t 14),xV 16 7 15,xM 4 16]⟩
def c_159_l0:ACode:=yby [xB 42 .lss 41 40] 42 0 1 [xM 43 41,xX 44 2 39 41,xA 45 2 44,yas 12 [.int .u32 0,.int .u32 0],xM 11 43,xS 2 12 45] [12] (yb7 [xA 46 2 12,xM 47 9,xM 48 11,xX 49 3 47 48,xF 50 2 49,xL 51 50,xM 52 10,xM 53 11,xX 54 1 52 53,xL 55 54,yaf 56 f_221 [.t 46,.t 51,.t 55],xM 13 56] (ya3 [xM 57 13,xK 58 .neq 57 0] 58 [xM 59 13,xM 6 59])) [yck 60 .add 41,xM 41 60]
def c_159_k1:ACode:=yaj 2 (ybx [xF 62 1 5,xL 63 62,xK 64 .lss 63 0,xM 65 64,yax 66 65 1 5,ybu 67 65 66,ybm 68 65 .gtr 67 255,xW 69 65 68,xM 61 69] 61 [xI 6 9] (ybx [xF 71 1 5,xL 72 71,xK 73 .neq 72 0,xM 74 73,yav 75 74 (.load true 9 (.t 3)),ybt 76 74 1,ybz 77 74 f_222 [.t 75,.t 76],yb6 78 74 .neq 77 (yar 3),xV 79 74 78,xM 70 79] 70 [xI 6 11] (ya3 [xA 81 9 3,yb8 82,xF 83 2 5,ycd 84 83,xL 85 84,yaf 86 f_218 [.t 81,.t 82,.t 85],ybk 87 86,xM 80 87] 80 [xI 6 8]))) (yad [xA 88 9 3,xF 89 2 5,xA 90 2 89,ybh 91 f_219 88 90,xM 6 91])
def c_159:AFn:=⟨3,[.tmp 6],yap [xJ 3 0,xJ 5 2,ybi 6] [xA 15 9 3,yb8 16,ybh 17 f_184 15 16,xM 14 17,xE 18 0 14,xE 19 1 14,xM 7 18,xM 8 19] (ya3 [xM 20 8,xK 21 .neq 20 0] 21 [xM 22 8,xM 6 22]) (yb7 [xF 23 5 3,xL 24 23,yb8 25,xX 26 6 24 25,xF 27 1 26,xL 28 27,xA 29 9 3,yb8 30,ybh 31 f_220 29 30,xM 9 28,xM 10 31] (ybl [ycd 32 5,xL 33 32,xN 34 33,xM 35 9,xN 36 35,xB 37 .neq 34 36] 37 [xI 6 2] (ybj [ycd 38 5,xL 39 38,xN 40 39,ybi 41] 0 c_159_l0 c_159_k1)))⟩
def c_160:AFn:=⟨2,[.tmp 4],ybp [ycf] [yb2 5,yb8 6,ybh 7 f_223 5 6,xK 8 .geq 7 0,xM 4 8]⟩
def c_161:AFn:=⟨2,[.tmp 3],ybp [ybv 2 0,yaq 3] [xF 4 1 2,xA 5 4 4,xA 6 4 1,ybh 7 f_162 5 6,xM 3 7]⟩
def c_162_l0:ACode:=ya7 [xB 25 .lss 24 23] 25 0 1 (yat [xM 26 24,xX 27 2 22 24,xA 28 2 27,yas 6 [.int .u32 0,.int .u32 0],xM 5 26,xS 2 6 28] (xD [xA 29 2 6,ycd 30 3,xL 31 30,ycc 32,xX 33 2 31 32,xA 34 2 33,xO 35 (.eqs true true [.i,.i] (.t 29) (.t 34))]) (yai 35 [ycf])) [yck 36 .add 24,xM 24 36]
def c_162_k1:ACode:=yad [yb5 4]
def c_162:AFn:=⟨2,[.tmp 4],yba [ybv 2 0,ybv 3 1,ycf] [xF 7 1 2,xL 8 7,xF 9 1 3,xL 10 9,xB 11 .neq 8 10,xM 12 11,yax 13 12 0 2,ybu 14 12 13,ybc 15 12 14,yax 16 12 0 3,ybu 17 12 16,ybc 18 12 17,ycl 19 12 .neq 15 18,xW 20 12 19] 20 [ycf] (ybj [ycd 21 2,xL 22 21,xN 23 22,ybi 24] 0 c_162_l0 c_162_k1)⟩
def c_163:AFn:=⟨1,[.cell 2 true 4],yat [xJ 1 0,yas 2 [.fslice 2 [],ybb,ybb,.fslice 1 []]] (xD [ycd 3 1,xL 4 3,ycb 5 f_224 4,xF 6 1 1,xL 7 6,xF 8 2 1,xA 9 2 8,ycb 10 f_85 9,xO 11 (.build [.fslice 2 [],.int .i64 0,.int .i64 0,.fslice 1 []] [(0,1,(.t 5)),(1,1,(.t 7)),(2,2,(.t 10))]),xS 4 2 11]) .ret⟩
def c_164:AFn:=⟨3,[.tmp 6],yaa [xC 6 (.fslice 5 [])] (yba [yb2 8,yb8 9,xM 10 2,yb2 11,xN 12 11,xO 13 (.slcH 5 (.t 8) (some (.t 9)) (some (.t 10)) (some (.t 12)))] [yb8 14,xM 15 2,xB 16 .eql 14 15] 16 [yb2 17,xM 6 17] (yat [yb2 18,xN 19 18,xM 7 19] (xD [yb2 20,yb8 21,xO 22 (.slc 5 (.t 20) none (some (.t 21)) none),yb2 23,xM 24 2,xO 25 (.slc 5 (.t 23) (some (.t 24)) none none),xO 26 (ybs .app 5 72 22 (.t 25)),xM 0 26]) (ybp [yb2 27,yb2 28,xN 29 28,xM 30 7,xO 31 (.slcH 5 (.t 27) (some (.t 29)) (some (.t 30)) none),⟨none,none,.clear [.int .i64 0,.fslice 2 [],.int .i64 0,.int .i64 0,.fslice 1 []] (.t 31)⟩] [yb2 32,xM 6 32])))⟩
def c_165_l0:ACode:=ya7 [xB 15 .lss 14 13] 15 0 1 (yaa [xM 16 14,xX 17 1 12 14,xL 18 17,xM 5 16,xM 6 18] (ya3 [xM 19 6,yb8 20,ycc 21,xX 22 1 20 21,xL 23 22,xB 24 .neq 19 23] 24 [ycf])) [yck 25 .add 14,xM 14 25]
def c_165_k1:ACode:=yad [yb5 4]
def c_165:AFn:=⟨2,[.tmp 4],yba [ycf] [yb2 7,xN 8 7,yb8 9,xN 10 9,xB 11 .neq 8 10] 11 [ycf] (ybj [yb2 12,xN 13 12,ybi 14] 0 c_165_l0 c_165_k1)⟩
def c_166:AFn:=⟨4,[],ycg (yb2 8) (xK 9 .neq 8 0) (yb1 9 (xR [yb2 10,yb8 11,xM 12 2,xM 13 3,xO 14 (.build [.int .i64 0,.int .i64 0,.int .i64 0,.int .i64 0] [(0,1,(.t 10)),(1,1,(.t 11)),(2,1,(.t 12)),(3,1,(.t 13))]),xO 15 (.build [.int .i64 0,.int .i64 0,.int .i64 0,.int .i64 0] [(0,4,(.t 14))]),xO 16 (.mkiface 172 (.t 15)),⟨none,none,.panic (.t 16)⟩]))⟩
def c_167:AFn:=⟨2,[.tmp 4],yba [yb9] [yb2 5] 5 [yb8 6,xM 4 6] (yad [yb9])⟩
def c_168:AFn:=⟨1,[.tmp 2],ybp [yaq 2] [yb2 3,ycb 4 f_225 3,ybk 5 4,ycc 2]⟩
def c_169_l0:ACode:=yby [xB 11 .lss 10 9] 11 0 1 [xX 12 2 8 10,xA 13 2 12,yas 7 [.str [],.fslice 2 []],xS 2 7 13] [7] (xR [ycc 14,yb8 15,xA 16 2 7,xO 17 (yce 15 [.t 16]),xO 18 (.bslice .imm 1 (List.replicate 1 [.str []]) [(0,(.t 17))]),xO 19 (ybs .app 1 16 14 (.t 18)),xM 5 19]) [yck 20 .add 10,xM 10 20]
def c_169_k1:ACode:=yci (ycc 21) (xM 4 21)
def c_169:AFn:=⟨2,[.tmp 4],yaa [xC 4 (.fslice 1 [])] (ybo [yb3 5 1] [yb2 8,xN 9 8,ybi 10] 0 c_169_l0 c_169_k1)⟩
def c_170:AFn:=⟨1,[.tmp 2],ybp [xJ 1 0,xC 2 (.str [])] [ycd 3 1,xL 4 3,xM 2 4]⟩
def c_171_l0:ACode:=ya7 [xB 48 .lss 47 46] 48 3 4 (ybw [xX 49 2 45 47,xA 50 2 49,yas 6 [.str [],ybb],xS 2 6 50] [xF 51 1 4,xL 52 51,xF 53 1 6,xS 1 53 52] (ya3 [xA 54 2 6,xA 55 2 4,xO 56 (.eqs false true [.s,.i] (.t 54) (.t 55))] 56 [xI 2 7])) [yck 57 .add 47,xM 47 57]
def c_171_k1:ACode:=xR [yck 58 .add 25,xM 25 58]
def c_171_l2:ACode:=ya4 [xB 26 .lss 25 24] 26 1 (yaj 2 (ybd [xM 27 25,xX 28 2 23 25,xA 29 2 28,yas 4 [.str [],ybb],xM 3 27,xS 2 4 29] [4] (ybl [ycd 30 4,xL 31 30,ycb 32 f_225 31,ybk 33 32] 33 [xI 2 6] (ybl [xF 34 1 4,xL 35 34,yck 36 .lss 35,xM 37 36,yax 38 37 1 4,ybu 39 37 38,ybm 40 37 .gtr 39 32,xW 41 37 40] 41 [xI 2 10] (yaa [xF 42 1 1,xL 43 42,xM 44 3,xO 45 (.slc 2 (.t 43) none (some (.t 44)) none),xN 46 45,ybi 47] (yal 3 c_171_l0))))) c_171_k1)
def c_171_k3:ACode:=ybl [xA 59 2 1,ycb 60 f_227 59,ycb 61 f_226 60,xK 62 .rem 61 8,xK 63 .neq 62 0] 63 [xI 2 10] (yad [ybi 2])
def c_171:AFn:=⟨1,[.tmp 2],ycg (xJ 1 0) (ybi 2) (yaj 0 (ybx [ycd 8 1,xL 9 8,ycb 10 f_225 9,ybk 11 10,xM 7 11] 7 [xI 2 6] (ybx [xF 13 1 1,xL 14 13,xN 15 14,xK 16 .eql 15 0,xM 12 16] 12 [xI 2 8] (ya3 [xF 18 1 1,xL 19 18,xN 20 19,xK 21 .gtr 20 12,xM 17 21] 17 [xI 2 12]))) (ybj [xF 22 1 1,xL 23 22,xN 24 23,ybi 25] 1 c_171_l2 c_171_k3))⟩
def c_172:AFn:=⟨2,[.tmp 4],yat [ycf] (xD [yb2 5,yb8 6,xO 7 (.slc 1 (.t 5) none (some (.t 6)) none),yb2 8,yb8 9,xX 10 1 8 9,xL 11 10,ybh 12 f_228 7 11,xM 4 12]) .ret⟩
def c_173_l0:ACode:=yby [xB 11 .lss 10 9] 11 0 1 [xX 12 2 8 10,xA 13 2 12,yas 7 [.str [],ybb],xS 2 7 13] [7] (xR [ycc 14,yb8 15,xA 16 2 7,xO 17 (yce 15 [.t 16]),xO 18 (.bslice .imm 1 (List.replicate 1 [.str []]) [(0,(.t 17))]),xO 19 (ybs .app 1 16 14 (.t 18)),xM 5 19]) [yck 20 .add 10,xM 10 20]
def c_173_k1:ACode:=yci (ycc 21) (xM 4 21)
def c_173:AFn:=⟨2,[.tmp 4],yaa [xC 4 (.fslice 1 [])] (ybo [yb3 5 1] [yb2 8,xN 9 8,ybi 10] 0 c_173_l0 c_173_k1)⟩
def c_174:AFn:=⟨1,[.tmp 2],ybp [xJ 1 0,xC 2 (.str [])] [ycd 3 1,xL 4 3,xM 2 4]⟩
def c_175:AFn:=⟨1,[.tmp 2],ybp [yaq 2] [yb2 3,yck 4 .lss 3,xM 5 4,ya5 6 5 0,ybm 7 5 .gtr 6 32,xW 8 5 7,xM 2 8]⟩
def c_176_l0:ACode:=yby [xB 11 .lss 10 9] 11 0 1 [xX 12 3 8 10,xA 13 3 12,yas 7 [.str [],ybb,ybb],xS 3 7 13] [7] (xR [ycc 14,yb8 15,xA 16 3 7,xO 17 (yce 15 [.t 16]),xO 18 (.bslice .imm 1 (List.replicate 1 [.str []]) [(0,(.t 17))]),xO 19 (ybs .app 1 16 14 (.t 18)),xM 5 19]) [yck 20 .add 10,xM 10 20]
def c_176_k1:ACode:=yci (ycc 21) (xM 4 21)
def c_176:AFn:=⟨2,[.tmp 4],yaa [xC 4 (.fslice 1 [])] (ybo [yb3 5 1] [yb2 8,xN 9 8,ybi 10] 0 c_176_l0 c_176_k1)⟩
def c_177:AFn:=⟨1,[.tmp 2],ybp [xJ 1 0,xC 2 (.str [])] [ycd 3 1,xL 4 3,xM 2 4]⟩
def c_178:AFn:=⟨1,[.tmp 2],ycg (xJ 1 0) (ybi 2) (yaj 0 (ybx [ycd 4 1,xL 5 4,ycb 6 f_225 5,ybk 7 6,xM 3 7] 3 [xI 2 6] (ybx [xF 9 1 1,xL 10 9,ycb 11 f_217 10,xO 12 (yau .eql 11 (.c (.int .u32 0))),xM 8 12] 8 [xI 2 10] (ya3 [xA 14 3 1,ycb 15 f_149 14,ybk 16 15,xM 13 16] 13 [xI 2 9]))) (yad [ybi 2]))⟩
def c_179_l0:ACode:=yby [xB 11 .lss 10 9] 11 0 1 [xX 12 3 8 10,xA 13 3 12,yas 7 [.str [],.fslice 2 [],.fslice 7 []],xS 3 7 13] [7] (xR [ycc 14,yb8 15,xA 16 3 7,xO 17 (yce 15 [.t 16]),xO 18 (.bslice .imm 1 (List.replicate 1 [.str []]) [(0,(.t 17))]),xO 19 (ybs .app 1 16 14 (.t 18)),xM 5 19]) [yck 20 .add 10,xM 10 20]
def c_179_k1:ACode:=yci (ycc 21) (xM 4 21)
def c_179:AFn:=⟨2,[.tmp 4],yaa [xC 4 (.fslice 1 [])] (ybo [yb3 5 1] [yb2 8,xN 9 8,ybi 10] 0 c_179_l0 c_179_k1)⟩
def c_180:AFn:=⟨1,[.tmp 2],ybp [xJ 1 0,xC 2 (.str [])] [ycd 3 1,xL 4 3,xM 2 4]⟩
def c_181_l0:ACode:=yby [xB 38 .lss 37 36] 38 0 1 [xM 39 37,xX 40 7 35 37,xA 41 7 40,yas 9 [ybb,ybb,ybb,ybb,ybb,.fslice 3 [],.fslice 3 []],xM 8 39,xS 7 9 41] [9] (yaa [xA 42 10 7,xA 43 7 9,ybh 44 f_230 42 43,xM 5 44] (ya3 [ycc 45,xK 46 .neq 45 0] 46 [xM 47 8,ycc 48,xM 4 47,xM 5 48])) [yck 49 .add 37,xM 37 49]
def c_181_k1:ACode:=yci yb9 (ybi 5)
def c_181:AFn:=⟨2,[.tmp 4,.tmp 5],yba [xJ 2 0,yb9,ybi 5] [yb8 10,xK 11 .lss 10 0,xM 12 11,ya5 13 12 1,yax 14 12 4 2,ybu 15 12 14,ybc 16 12 15,ycl 17 12 .geq 13 16,xW 18 12 17] 18 [xI 4 (-1),xI 5 8] (ybd [xF 19 4 2,xL 20 19,yb8 21,xX 22 3 20 21,xA 23 3 22,yas 6 [.str [],.fslice 2 [],.fslice 7 []],xS 3 6 23] [6] (yae [xA 24 3 6,ycb 25 f_229 24,xM 5 25] (ya3 [ycc 26,xK 27 .neq 26 0] 27 [ycc 28,xI 4 (-1),xM 5 28]) (ybd [xA 29 9 2,xF 30 1 6,xL 31 30,xO 32 (.build [.str [],.fslice 2 [],.fslice 2 [],.fslice 3 [],.fslice 3 [],.fslice 6 [],.fslice 7 [],.fslice 5 [],.fslice 1 [],.fslice 2 []] [(0,9,(.t 29)),(9,1,(.t 31))]),xO 33 (.build [.str [],.fslice 2 [],.fslice 2 [],.fslice 3 [],.fslice 3 [],.fslice 6 [],.fslice 7 [],.fslice 5 [],.fslice 1 [],.fslice 2 []] [(0,10,(.t 32))]),yas 7 [.str [],.fslice 2 [],.fslice 2 [],.fslice 3 [],.fslice 3 [],.fslice 6 [],.fslice 7 [],.fslice 5 [],.fslice 1 [],.fslice 2 []],xS 10 7 33] [7] (ybj [xF 34 2 6,xL 35 34,xN 36 35,ybi 37] 0 c_181_l0 c_181_k1))))⟩
def c_182_l0:ACode:=yby [xB 11 .lss 10 9] 11 0 1 [xX 12 6 8 10,xA 13 6 12,yas 7 [.str [],.fslice 3 [],.fslice 1 [],ybb,.fslice 1 [],ybb],xS 6 7 13] [7] (xR [ycc 14,yb8 15,xA 16 6 7,xO 17 (yce 15 [.t 16]),xO 18 (.bslice .imm 1 (List.replicate 1 [.str []]) [(0,(.t 17))]),xO 19 (ybs .app 1 16 14 (.t 18)),xM 5 19]) [yck 20 .add 10,xM 10 20]
def c_182_k1:ACode:=yci (ycc 21) (xM 4 21)
def c_182:AFn:=⟨2,[.tmp 4],yaa [xC 4 (.fslice 1 [])] (ybo [yb3 5 1] [yb2 8,xN 9 8,ybi 10] 0 c_182_l0 c_182_k1)⟩
def c_183:AFn:=⟨1,[.tmp 2],ybp [xJ 1 0,xC 2 (.str [])] [ycd 3 1,xL 4 3,xM 2 4]⟩
def c_184:AFn:=⟨2,[.tmp 4,.tmp 5],yba [xJ 2 0,yb9,ybi 5] [yb8 7,xK 8 .lss 7 0,xM 9 8,ya5 10 9 1,yax 11 9 5 2,ybu 12 9 11,ybc 13 9 12,ycl 14 9 .geq 10 13,xW 15 9 14] 15 [xI 4 (-1),xI 5 8] (ybd [xF 16 5 2,xL 17 16,yb8 18,xX 19 6 17 18,xA 20 6 19,yas 6 [.str [],.fslice 3 [],.fslice 1 [],ybb,.fslice 1 [],ybb],xS 6 6 20] [6] (yaj 0 (ybx [ycd 22 6,xL 23 22,ycb 24 f_225 23,ybk 25 24,xM 21 25] 21 [xI 4 (-1),xI 5 6] (ybx [xF 27 1 6,xL 28 27,xN 29 28,xK 30 .gtr 29 6,xM 31 30,yax 32 31 2 6,ybu 33 31 32,ybc 34 31 33,ybm 35 31 .gtr 34 16,xW 36 31 35,xM 26 36] 26 [xI 4 (-1),xI 5 12] (ya3 [xF 38 5 6,xL 39 38,yck 40 .lss 39,xM 41 40,yax 42 41 5 6,ybu 43 41 42,ybm 44 41 .gtr 43 256,xW 45 41 44,xM 37 45] 37 [xI 4 (-1),xI 5 9]))) (yae [xA 47 9 2,xA 48 6 6,ybh 49 f_231 47 48,xM 46 49,xE 50 0 46,xE 51 1 46,xM 4 50,xM 5 51] (ya3 [ycc 52,xK 53 .neq 52 0] 53 [xM 54 4,ycc 55,xM 4 54,xM 5 55]) (yae [xA 56 9 2,xA 57 6 6,ybh 58 f_232 56 57,xM 5 58] (ya3 [ycc 59,xK 60 .neq 59 0] 60 [ycc 61,xI 4 (-3),xM 5 61]) (yci yb9 (ybi 5))))))⟩
def c_185_l0:ACode:=yby [xB 25 .lss 24 23] 25 1 2 [xM 26 24,xX 27 7 22 24,xA 28 7 27,yas 7 [.str [],.fslice 1 [],.bool false,ybb,ybb,.fslice 3 [],ybb],xM 6 26,xS 7 7 28] [7] (yaj 3 (ybx [ycd 30 7,xL 31 30,ycb 32 f_225 31,ybk 33 32,xM 29 33] 29 [xM 34 6,xM 2 34,xI 3 (-1),xI 4 6] (ya3 [ycc 36,ycd 37 7,xL 38 37,xO 39 (.lookup .s (.bool false) false (.t 36) (.t 38)),xM 35 39] 35 [xM 40 6,xM 2 40,xI 3 (-1),xI 4 7])) (ybw [ycc 41,ycd 42 7,xL 43 42,⟨none,none,.update .s (.t 41) (.t 43) (.c (.bool true))⟩] [xA 45 9 1,xM 46 6,ybh 47 f_233 45 46,xM 44 47,xE 48 0 44,xE 49 1 44,xM 8 48,xM 9 49] (ya3 [xM 50 9,xK 51 .neq 50 0] 51 [xM 52 6,xM 53 8,xM 54 9,xM 2 52,xM 3 53,xM 4 54]))) [yck 55 .add 24,xM 24 55]
def c_185_k1:ACode:=yad [ybi 2,ybi 3,yb9]
def c_185:AFn:=⟨1,[.tmp 2,.tmp 3,.tmp 4],yaa [xJ 1 0,ybi 2,ybi 3,yb9] (yaj 0 (ybx [xF 11 6 1,xL 12 11,xN 13 12,xK 14 .eql 13 0,xM 10 14] 10 [xI 2 (-1),xI 3 (-1),xI 4 8] (ya3 [xF 16 6 1,xL 17 16,xN 18 17,xK 19 .gtr 18 12,xM 15 19] 15 [xI 2 (-1),xI 3 (-1),xI 4 12])) (ybo [xO 20 .mkmap,xM 5 20] [xF 21 6 1,xL 22 21,xN 23 22,ybi 24] 1 c_185_l0 c_185_k1))⟩
def c_186:AFn:=⟨1,[.tmp 2,.cell 3 false 1],yba [xJ 1 0,ybi 2,yas 3 [ybb]] [xF 6 7 1,xL 7 6,ycb 8 f_234 7,xK 9 .gtr 8 24] 9 [xI 2 (-1),⟨none,none,.store 1 (.t 3) (.c (.int .i64 12))⟩] (ybl [xF 10 7 1,xL 11 10,ycb 12 f_235 11,xK 13 .gtr 12 6] 13 [xI 2 (-1),⟨none,none,.store 1 (.t 3) (.c (.int .i64 14))⟩] (ybw [yas 4 [ybb],⟨none,none,.store 1 (.t 4) (.c (.int .i64 0))⟩] [yas 5 [.fslice 1 []]] (yap [xF 14 7 1,xL 15 14,xO 16 (.mkfunc (.func f_237) [] [.t 1,.t 5,.t 3,.t 4]),ybr 17 f_236 [.t 15,.t 16]] [xL 18 3,xK 19 .neq 18 0] (yb1 19 (yb7 [xL 20 4,xL 21 3,xM 2 20,xS 1 3 21] .ret)) (yci (ybi 2) ⟨none,none,.store 1 (.t 3) (.c (.int .i64 0))⟩))))⟩
def c_187_l0:ACode:=ya7 [xB 14 .lss 13 12] 14 0 1 (yaa [xM 15 13,xX 16 1 11 13,xL 17 16,xM 4 15,xM 5 17] (.block 2 (ybx [ycc 19,xK 20 .lss 19 0,xM 21 20,ya5 22 21 5,yax 23 21 1 1,ybu 24 21 23,ybc 25 21 24,ycl 26 21 .geq 22 25,xW 27 21 26,xM 18 27] 18 [xM 28 4,xM 2 28,xI 3 8] (ya3 [xF 30 8 1,xL 31 30,xM 32 4,xO 33 (.slc 1 (.t 31) none (some (.t 32)) none),ycc 34,ybh 35 f_240 33 34,xM 29 35] 29 [xM 36 4,xM 2 36,xI 3 7])))) [yck 37 .add 13,xM 13 37]
def c_187_k1:ACode:=yci (ybi 2) (ybi 3)
def c_187:AFn:=⟨1,[.tmp 2,.tmp 3],yba [xJ 1 0,ybi 2,ybi 3] [xF 6 8 1,xL 7 6,xN 8 7,xK 9 .gtr 8 8] 9 [xI 2 (-1),xI 3 12] (ybj [xF 10 8 1,xL 11 10,xN 12 11,ybi 13] 0 c_187_l0 c_187_k1)⟩
def c_188_l0:ACode:=yby [xB 11 .lss 10 9] 11 0 1 [xX 12 7 8 10,xA 13 7 12,yas 7 [ybb,ybb,ybb,ybb,ybb,.fslice 3 [],.fslice 3 []],xS 7 7 13] [7] (xR [ycc 14,yb8 15,xA 16 7 7,xO 17 (yce 15 [.t 16]),xO 18 (.bslice .imm 7 (List.replicate 1 [.int .i64 0,.int .i64 0,.int .i64 0,.int .i64 0,.int .i64 0,.fslice 3 [],.fslice 3 []]) [(0,(.t 17))]),xO 19 (ybs .app 7 88 14 (.t 18)),xM 5 19]) [yck 20 .add 10,xM 10 20]
def c_188_k1:ACode:=yci (ycc 21) (xM 4 21)
def c_188:AFn:=⟨2,[.tmp 4],yaa [xC 4 (.fslice 7 [])] (ybo [yb3 5 7] [yb2 8,xN 9 8,ybi 10] 0 c_188_l0 c_188_k1)⟩
def c_189:AFn:=⟨1,[.cell 2 true 7],yat [ybv 1 0,yas 2 [ybb,ybb,ybb,ybb,ybb,.fslice 3 [],.fslice 3 []]] (xD [xF 3 5 1,xL 4 3,ycb 5 f_192 4,xF 6 6 1,xL 7 6,ycb 8 f_192 7,xF 9 5 1,xS 1 9 5,xF 10 6 1,xS 1 10 8]) (yci (xA 11 7 1) (xS 7 2 11))⟩
def c_215:AFn:=⟨2,[.tmp 3],ybp [xJ 2 0,yaq 3] [xF 4 1 2,xA 5 4 4,xF 6 1 1,xA 7 4 6,ybh 8 f_162 5 7,xM 3 8]⟩
def c_216_l0:ACode:=yb4 [xM 12 4,yb2 13,xN 14 13,xB 15 .lss 12 14] 15 0 (ya1 1 (xR [xM 18 3,yb2 19,xM 20 4,xX 21 1 19 20,xL 22 21,xO 23 (.minmax true [.t 18,.t 22]),xM 3 23]) [xM 16 4,yck 17 .add 16,xM 4 17])
def c_216_k1:ACode:=yci (xM 24 3) (xM 2 24)
def c_216:AFn:=⟨1,[.tmp 2],yap [xC 2 (.int .u32 0)] [yb2 5,xN 6 5,yck 7 .lss 6] (yb1 7 (xR [xO 8 (.mkiface 9 (.c (.str [115,108,105,99,101,115,46,77,97,120,58,32,101,109,112,116,121,32,108,105,115,116]))),⟨none,none,.panic (.t 8)⟩])) (ybo [yb2 9,xO 10 (ybq 1 none 9 (yar 0)),xL 11 10,xM 3 11] [xI 4 1] 0 c_216_l0 c_216_k1)⟩
def c_217:AFn:=⟨1,[.tmp 2],yba [xC 2 (.int .u32 0)] [yb2 3,xO 4 (.bslice .imm 1 (List.replicate 1 [.int .i64 0]) [(0,(.t 3))]),ycb 5 f_261 4,ybk 6 5] 6 [xC 2 (.int .u32 0)] (yad [yb2 7,xO 8 (.bin .sub (yar 32) (.t 7)),xO 9 (.bin .shr (.c (.int .u32 4294967295)) (.t 8)),xM 2 9])⟩
def c_218_l0:ACode:=ya7 [xB 21 .lss 20 19] 21 0 1 (yaa [xX 22 1 18 20,xL 23 22,xM 8 23] (ya3 [xM 24 8,xM 25 2,xB 26 .eql 24 25] 26 [yb5 6])) [yck 27 .add 20,xM 20 27]
def c_218_k1:ACode:=yad [yaq 6]
def c_218:AFn:=⟨3,[.tmp 6],yba [xJ 3 0,yaq 6] [xA 9 9 3,yb8 10,ybh 11 f_262 9 10,ybk 12 11] 12 [yaq 6] (ybj [xF 13 5 3,xL 14 13,yb8 15,xX 16 6 14 15,xF 17 2 16,xL 18 17,xN 19 18,ybi 20] 0 c_218_l0 c_218_k1)⟩
def c_219_l0:ACode:=ya7 [xB 36 .lss 35 34] 36 0 1 (yaa [xM 37 35,xX 38 1 33 35,xL 39 38,xM 6 37,xM 7 39] (ya3 [xM 40 7,ycc 41,xM 42 6,xX 43 2 41 42,xF 44 1 43,xL 45 44,ybh 46 f_263 40 45,ybk 47 46] 47 [xI 4 9])) [yck 48 .add 35,xM 35 48]
def c_219_k1:ACode:=yad [yb9]
def c_219:AFn:=⟨2,[.tmp 4],yba [xJ 2 0,xJ 3 1,yb9] [ycd 8 3,xL 9 8,xK 10 .lss 9 0,xM 11 10,yax 12 11 0 3,ybu 13 11 12,yax 14 11 4 2,ybu 15 11 14,ybc 16 11 15,ycl 17 11 .geq 13 16,xW 18 11 17] 18 [xI 4 8] (yba [xF 19 4 2,xL 20 19,ycd 21 3,xL 22 21,xX 23 3 20 22,xF 24 1 23,xL 25 24,xM 5 25] [xF 26 1 3,xL 27 26,xN 28 27,ycc 29,xN 30 29,xB 31 .neq 28 30] 31 [xI 4 2] (ybj [xF 32 1 3,xL 33 32,xN 34 33,ybi 35] 0 c_219_l0 c_219_k1))⟩
def c_220_l0:ACode:=yby [xB 20 .lss 19 18] 20 0 1 [xX 21 3 17 19,xA 22 3 21,yas 7 [ybb,ybb,ybb],xS 3 7 22] [7] (xR [ycc 23,xA 24 9 2,ycd 25 7,xA 26 2 25,ybh 27 f_264 24 26,xO 28 (.bslice .imm 1 (List.replicate 1 [.int .i64 0]) [(0,(.t 27))]),xO 29 (ybs .app 1 8 23 (.t 28)),xM 5 29]) [yck 30 .add 19,xM 19 30]
def c_220_k1:ACode:=yci (ycc 31) (xM 4 31)
def c_220:AFn:=⟨2,[.tmp 4],yba [xJ 2 0,xC 4 (.fslice 1 [])] [xA 8 9 2,yb8 9,ybh 10 f_262 8 9,ybk 11 10] 11 [xC 4 (.fslice 1 [])] (ybo [yb3 5 1] [xF 12 5 2,xL 13 12,yb8 14,xX 15 6 13 14,xF 16 1 15,xL 17 16,xN 18 17,ybi 19] 0 c_220_l0 c_220_k1)⟩
def c_221:AFn:=⟨3,[.tmp 6],ycg (xJ 3 0) (ybi 6) (yaj 0 (ybx [ycd 10 3,xL 11 10,xM 12 2,ybh 13 f_263 11 12,ybk 14 13,xM 15 14,yax 16 15 1 3,ybu 17 15 16,ya5 18 15 2,ycj 19 15 f_263 [.t 17,.t 18],yac 20 15 (ya9 19),xW 21 15 20,xM 9 21] 9 [xI 6 9] (ybx [ycd 23 3,xL 24 23,xF 25 1 3,xL 26 25,xB 27 .andNot 24 26,xO 28 (yau .neq 27 (.c (.int .u32 0))),xM 22 28] 22 [xI 6 5] (yb7 [yb8 30,yck 31 .eql 30,xM 32 31,yb0 33 32 1 3,yav 34 32 (yay 1 33),ybt 35 32 2,ybz 36 32 f_217 [.t 35],yb6 37 32 .neq 34 (.t 36),xV 38 32 37,xM 29 38] (yai 29 [xI 6 11])))) (yae [yb8 39,xK 40 .eql 39 2] (yb1 40 (yaa [xF 42 1 3,xL 43 42,xM 44 2,ybh 45 f_265 43 44,xM 41 45,xE 46 0 41,xE 47 1 41,xM 7 46,xM 8 47] (ya3 [xM 48 8,ybk 49 48] 49 [xI 6 11]))) (yad [ybi 6])))⟩
def c_222_l0:ACode:=yby [xB 20 .lss 19 18] 20 0 1 [xX 21 3 17 19,xA 22 3 21,yas 7 [ybb,ybb,ybb],xS 3 7 22] [7] (.block 2 (ybx [xF 24 2 7,xL 25 24,xK 26 .eql 25 3,xM 23 26] 23 [xI 4 3] (yaa [xF 28 2 7,xL 29 28,xK 30 .eql 29 2,xM 27 30] (yb1 27 (xR [xI 5 2]))))) [yck 31 .add 19,xM 19 31]
def c_222_k1:ACode:=yci (ycc 32) (xM 4 32)
def c_222:AFn:=⟨2,[.tmp 4],yba [xJ 2 0,yb9] [xA 8 9 2,yb8 9,ybh 10 f_262 8 9,ybk 11 10] 11 [yb9] (ybo [xI 5 1] [xF 12 5 2,xL 13 12,yb8 14,xX 15 6 13 14,xF 16 1 15,xL 17 16,xN 18 17,ybi 19] 0 c_222_l0 c_222_k1)⟩
def c_223_l0:ACode:=ya7 [xB 9 .lss 8 7] 9 0 1 (ych (xM 10 8) 5 10 (ya3 [yb8 11,yb2 12,ycc 13,xX 14 5 12 13,xA 15 5 14,xO 16 (yce 11 [.t 15])] 16 [ycc 17,xM 4 17])) [yck 18 .add 8,xM 8 18]
def c_223_k1:ACode:=yad [xI 4 (-1)]
def c_223:AFn:=⟨2,[.tmp 4],ybo [yb9] [yb2 6,xN 7 6,ybi 8] 0 c_223_l0 c_223_k1⟩
def c_225:AFn:=⟨1,[.tmp 2],yba [yaq 2] [yb2 3,xO 4 (.slen (.t 3)),xK 5 .eql 4 0,ycc 6,ya5 7 6 0,yac 8 6 (.slen (.t 7)),ybm 9 6 .gtr 8 16,xW 10 6 9,xM 11 10,ya5 12 11 0,yac 13 11 (.idxs (.t 12) (yar 0)),ycj 14 11 f_266 [.t 13],yac 15 11 (ya9 14),xW 16 11 15] 16 [yaq 2] (yad [yb2 17,ybg 18 f_267 17 (.c (.func (.func f_268) [] [])),yb2 19,xO 20 (.slen (.t 19)),xB 21 .eql 18 20,xM 2 21])⟩
def c_226_l0:ACode:=ya7 [xB 9 .lss 8 7] 9 0 1 (yaa [xX 10 1 6 8,xL 11 10,xM 5 11] (xR [xM 12 3,ycc 13,xB 14 .add 12 13,xM 3 14])) [yck 15 .add 8,xM 8 15]
def c_226_k1:ACode:=yci (xM 16 3) (xM 2 16)
def c_226:AFn:=⟨1,[.tmp 2],yaa [ybi 2] (ybo [ybi 3] [yb2 6,xN 7 6,ybi 8] 0 c_226_l0 c_226_k1)⟩
def c_227_l0:ACode:=yby [xB 10 .lss 9 8] 10 0 1 [xX 11 2 7 9,xA 12 2 11,yas 5 [.str [],ybb],xS 2 5 12] [5] (xR [xM 13 3,xF 14 1 5,xL 15 14,xO 16 (.bslice .imm 1 (List.replicate 1 [.int .i64 0]) [(0,(.t 15))]),xO 17 (ybs .app 1 8 13 (.t 16)),xM 3 17]) [yck 18 .add 9,xM 9 18]
def c_227_k1:ACode:=yci (xM 19 3) (xM 2 19)
def c_227:AFn:=⟨1,[.tmp 2],ycg (xJ 1 0) (xC 2 (.fslice 1 [])) (ybo [yb3 3 1] [xF 6 1 1,xL 7 6,xN 8 7,ybi 9] 0 c_227_l0 c_227_k1)⟩
def c_228:AFn:=⟨2,[.tmp 4],ybp [ycf] [yb2 5,yb8 6,ybh 7 f_270 5 6,xK 8 .geq 7 0,xM 4 8]⟩
def c_229_l0:ACode:=yby [xB 25 .lss 24 23] 25 1 2 [xM 26 24,xX 27 2 22 24,xA 28 2 27,yas 4 [.str [],ybb],xM 3 26,xS 2 4 28] [4] (.block 3 (ybx [ycd 30 4,xL 31 30,ycb 32 f_225 31,ybk 33 32,xM 29 33] 29 [xI 2 6] (ybx [xF 35 1 4,xL 36 35,yck 37 .lss 36,xM 38 37,yax 39 38 1 4,ybu 40 38 39,ybm 41 38 .gtr 40 32,xW 42 38 41,xM 34 42] 34 [xI 2 10] (ya3 [xF 44 1 1,xL 45 44,xM 46 3,xO 47 (.slc 2 (.t 45) none (some (.t 46)) none),xO 48 (.mkfunc (.func f_272) [] [.t 4]),ybh 49 f_271 47 48,xM 43 49] 43 [xI 2 7])))) [yck 50 .add 24,xM 24 50]
def c_229_k1:ACode:=yad [ybi 2]
def c_229:AFn:=⟨1,[.tmp 2],ycg (xJ 1 0) (ybi 2) (yaj 0 (ybx [ycd 6 1,xL 7 6,ycb 8 f_225 7,ybk 9 8,xM 5 9] 5 [xI 2 6] (ya3 [xF 11 1 1,xL 12 11,xN 13 12,xK 14 .gtr 13 4,xM 15 14,yax 16 15 2 1,ybu 17 15 16,ybc 18 15 17,ybm 19 15 .gtr 18 12,xW 20 15 19,xM 10 20] 10 [xI 2 12])) (ybj [xF 21 1 1,xL 22 21,xN 23 22,ybi 24] 1 c_229_l0 c_229_k1))⟩
def c_230:AFn:=⟨2,[.tmp 4],yat [xJ 2 0,xJ 3 1,yb9] (xQ [ycd 11 2,ycd 12 11,xA 13 9 12,yas 5 [.str [],.fslice 2 [],.fslice 2 [],.fslice 3 [],.fslice 3 [],.fslice 6 [],.fslice 7 [],.fslice 5 [],.fslice 1 []],xS 9 5 13] [5]) (yaa [xA 15 9 5,xF 16 1 3,xA 17 2 16,ybh 18 f_273 15 17,xM 14 18,xE 19 0 14,xE 20 1 14,xM 6 19,xM 7 20] (yap [xF 21 3 3,xL 22 21,xK 23 .geq 22 0,xM 24 23,yb0 25 24 3 3,yav 26 24 (yay 1 25),yb0 27 24 3 5,yav 28 24 (yay 1 27),yav 29 24 (ya6 28),yb6 30 24 .lss 26 (.t 29),xV 31 24 30,xM 8 31] [ycd 32 3,xL 33 32] (.block 0 (ych (yck 35 .eql 33) 34 35 (yab 34 (ybl [xM 36 7,ybk 37 36] 37 [xI 4 8] (yad [xA 38 10 2,xF 39 6 3,xL 40 39,xM 41 6,yaf 42 f_274 [.t 38,.t 40,.t 41],xM 4 42])) (yae [xK 44 .eql 33 2,xM 43 44] (yab 43 .skip (xR [xK 45 .eql 33 3,xM 43 45])) (yab 43 (ybl [xF 46 4 3,xL 47 46,xK 48 .lss 47 0,xM 49 48,yax 50 49 4 3,ybu 51 49 50,yax 52 49 1 5,ybu 53 49 52,ybc 54 49 53,ycl 55 49 .geq 51 54,xW 56 49 55] 56 [xI 4 8] (yad [yb9])) (yae [xK 58 .eql 33 4,xM 57 58] (yab 57 .skip (xR [xK 59 .eql 33 5,xM 57 59])) (yb1 57 (ybl [xM 60 8,ybk 61 60,xM 62 61,yax 63 62 0 3,ybu 64 62 63,ybm 65 62 .eql 64 4,ya5 66 62 65,ybt 67 66 7,yav 68 66 (ya9 67),yac 69 62 (.pick (.t 66) (.t 68) (.c (.bool false))),xW 70 62 69] 70 [xI 4 8] (yae [xF 72 5 3,xL 73 72,ycd 74 2,xA 75 10 74,ybh 76 f_275 73 75,xM 71 76,xE 77 0 71,xE 78 1 71,xM 9 77,xM 10 78] (ya3 [xM 79 10,xK 80 .neq 79 0] 80 [xM 81 10,xM 4 81]) (yae [ycd 82 3,xL 83 82,xK 84 .eql 83 5] (yb1 84 (yb7 [xA 85 10 2,xF 86 6 3,xL 87 86,xF 88 3 5,xL 89 88,xF 90 3 3,xL 91 90,xX 92 3 89 91,xF 93 1 92,xL 94 93,yaf 95 f_274 [.t 85,.t 87,.t 94],xM 4 95] .ret)) (ybl [xM 96 6,xF 97 3 5,xL 98 97,xF 99 3 3,xL 100 99,xX 101 3 98 100,xF 102 1 101,xL 103 102,xB 104 .neq 96 103] 104 [xI 4 10] (yad [yb9])))))))))))) (yad [xI 4 11])))⟩
def c_231_l0:ACode:=yby [xB 15 .lss 14 13] 15 0 1 [xM 16 14,xX 17 3 12 14,xA 18 3 17,yas 9 [ybb,ybb,ybb],xM 8 16,xS 3 9 18] [9] (yba [xA 19 9 2,ycd 20 9,xA 21 2 20,ybh 22 f_264 19 21,xM 10 22] [xM 23 10,xK 24 .eql 23 0] 24 [xM 25 8,xM 4 25,xI 5 8] (yae [xF 26 2 9,xL 27 26] (.block 2 (ych (xK 30 .eql 27 2) 29 30 (yab 29 (xR [xM 31 6,yck 32 .add 31,xM 6 32]) (yae [yck 34 .eql 27,xM 33 34] (yab 33 .skip (xR [xK 35 .eql 27 3,xM 33 35])) (yab 33 .skip (yad [xM 28 8,xM 4 28,xI 5 11])))))) (xR [xM 36 7,xM 37 10,xB 38 .add 36 37,xM 7 38]))) [yck 39 .add 14,xM 14 39]
def c_231_k1:ACode:=ybl [xM 40 6,yck 41 .gtr 40] 41 [xI 4 (-2),xI 5 7] (ybl [xM 42 7,xK 43 .gtr 42 64] 43 [xI 4 (-2),xI 5 10] (yci yb9 (ybi 5)))
def c_231:AFn:=⟨2,[.tmp 4,.tmp 5],yaa [xJ 2 0,xJ 3 1,yb9,ybi 5] (ybo [ybi 6,ybi 7] [xF 11 1 3,xL 12 11,xN 13 12,ybi 14] 0 c_231_l0 c_231_k1)⟩
def c_232_l0:ACode:=ya7 [xB 13 .lss 12 11] 13 0 1 (yba [xX 14 1 10 12,xL 15 14,xM 7 15] [xM 16 7,xK 17 .lss 16 0,xM 18 17,ya5 19 18 7,yax 20 18 4 2,ybu 21 18 20,ybc 22 18 21,ycl 23 18 .geq 19 22,xW 24 18 23] 24 [xI 4 8] (ybl [ycc 25,xM 26 7,xO 27 (.lookup .i (.bool false) false (.t 25) (.t 26))] 27 [xI 4 7] (xR [ycc 28,xM 29 7,⟨none,none,.update .i (.t 28) (.t 29) (.c (.bool true))⟩]))) [yck 30 .add 12,xM 12 30]
def c_232_k1:ACode:=ybl [ycc 31,xF 32 3 3,ycd 33 32,xL 34 33,xO 35 (.lookup .i (.bool false) false (.t 31) (.t 34)),ybk 36 35] 36 [xI 4 8] (yad [xA 37 9 2,xF 38 3 3,xA 39 2 38,ybh 40 f_219 37 39,xM 4 40])
def c_232:AFn:=⟨2,[.tmp 4],yaa [xJ 2 0,xJ 3 1,yb9] (ybo [xO 8 .mkmap,xM 5 8] [xF 9 2 3,xL 10 9,xN 11 10,ybi 12] 0 c_232_l0 c_232_k1)⟩
def c_233_l0:ACode:=ya7 [xB 31 .lss 30 29] 31 0 1 (yaa [xX 32 1 28 30,xL 33 32,xM 8 33] (ya3 [xM 34 8,xK 35 .lss 34 0,xM 36 35,ya5 37 36 8,yax 38 36 1 2,ybu 39 36 38,ybc 40 36 39,ycl 41 36 .geq 37 40,xW 42 36 41] 42 [xI 4 (-1),xI 5 8])) [yck 43 .add 30,xM 30 43]
def c_233_l1:ACode:=yby [xB 68 .lss 67 66] 68 3 4 [xM 69 67,xX 70 3 65 67,xA 71 3 70,yas 10 [.int .u32 0,.int .u32 0,ybb],xM 9 69,xS 3 10 71] [10] (yaa [xA 72 9 2,yb8 73,xA 74 3 10,yaf 75 f_276 [.t 72,.t 73,.t 74],xM 11 75] (ya3 [xM 76 11,xK 77 .neq 76 0] 77 [xM 78 9,xM 79 11,xM 4 78,xM 5 79])) [yck 80 .add 67,xM 67 80]
def c_233_k2:ACode:=ybl [xA 81 9 2,yb8 82,xF 83 6 6,xL 84 83,yaf 85 f_277 [.t 81,.t 82,.t 84],ybk 86 85] 86 [xI 4 (-1),xI 5 14] (yci yb9 (ybi 5))
def c_233_k3:ACode:=yaj 2 (ybx [xF 45 2 6,xL 46 45,xM 47 46,yav 48 47 (.load true 9 (.t 2)),yb0 49 47 3 6,yav 50 47 (.load true 2 (.t 49)),ybz 51 47 f_264 [.t 48,.t 50],yb6 52 47 .eql 51 (yar 0),xV 53 47 52,xM 44 53] 44 [xI 4 (-1),xI 5 8] (ya3 [xF 55 2 6,xL 56 55,ybk 57 56,xM 58 57,yb0 59 58 5 6,yav 60 58 (yay 1 59),yav 61 58 (ya6 60),yb6 62 58 .gtr 61 (yar 0),xV 63 58 62,xM 54 63] 54 [xI 4 (-1),xI 5 11])) (ybj [xF 64 5 6,xL 65 64,xN 66 65,ybi 67] 3 c_233_l1 c_233_k2)
def c_233:AFn:=⟨2,[.tmp 4,.tmp 5],yat [xJ 2 0,yb9,ybi 5] (xQ [xF 12 6 2,xL 13 12,yb8 14,xX 15 7 13 14,xA 16 7 15,yas 6 [.str [],.fslice 1 [],.bool false,ybb,ybb,.fslice 3 [],ybb],xS 7 6 16] [6]) (ybl [xF 17 1 6,xL 18 17,xN 19 18,xK 20 .gtr 19 4,xM 21 20,yax 22 21 5 6,ybu 23 21 22,ybc 24 21 23,ybm 25 21 .gtr 24 8,xW 26 21 25] 26 [xI 4 (-1),xI 5 12] (ybj [xF 27 1 6,xL 28 27,xN 29 28,ybi 30] 0 c_233_l0 c_233_k3))⟩
def c_234:AFn:=⟨1,[.tmp 2],ybw [ybi 2] [yas 3 [ybb],⟨none,none,.store 1 (.t 3) (.c (.int .i64 0))⟩] (ybp [yb2 4,xO 5 (.mkfunc (.func f_278) [] [.t 3]),ybr 6 f_236 [.t 4,.t 5]] [xL 7 3,xM 2 7])⟩
def c_235_l0:ACode:=yby [xB 12 .lss 11 10] 12 0 1 [xX 13 5 9 11,xA 14 5 13,yas 5 [ybb,ybb,.fslice 3 [],.fslice 5 [],.fslice 5 []],xS 5 5 14] [5] (xD [xM 15 3,xF 16 3 5,xL 17 16,ycb 18 f_235 17,xF 19 4 5,xL 20 19,ycb 21 f_235 20,xO 22 (.minmax true [.t 15,.t 18,.t 21]),xM 3 22]) [yck 23 .add 11,xM 11 23]
def c_235_k1:ACode:=yad [xM 24 3,yck 25 .add 24,xM 2 25]
def c_235:AFn:=⟨1,[.tmp 2],yba [ybi 2] [yb2 6,xN 7 6,xK 8 .eql 7 0] 8 [ybi 2] (ybo [ybi 3] [yb2 9,xN 10 9,ybi 11] 0 c_235_l0 c_235_k1)⟩
def c_236_l0:ACode:=yby [xB 10 .lss 9 8] 10 0 1 [xX 11 5 7 9,xA 12 5 11,yas 6 [ybb,ybb,.fslice 3 [],.fslice 5 [],.fslice 5 []],xS 5 6 12] [6] (ya3 [yb8 13,xA 14 5 6,xO 15 (.tcallv (.t 13) [.t 14]),ybk 16 15,xM 17 16,yax 18 17 3 6,ybu 19 17 18,ya5 20 17 1,yac 21 17 (.tcall f_236 [.t 19,.t 20]),yac 22 17 (ya9 21),xW 23 17 22,xM 24 23,yax 25 24 4 6,ybu 26 24 25,ya5 27 24 1,yac 28 24 (.tcall f_236 [.t 26,.t 27]),yac 29 24 (ya9 28),xW 30 24 29] 30 [ycf]) [yck 31 .add 9,xM 9 31]
def c_236_k1:ACode:=yad [yb5 4]
def c_236:AFn:=⟨2,[.tmp 4],ybo [ycf] [yb2 7,xN 8 7,ybi 9] 0 c_236_l0 c_236_k1⟩
def c_237:AFn:=⟨5,[.tmp 6],yap [xJ 5 0,yaq 6] [xA 7 9 1,xA 8 5 5,xL 9 2,yaf 10 f_238 [.t 7,.t 8,.t 9],xS 1 3 10] (ya3 [xL 11 3,xK 12 .neq 11 0] 12 [yaq 6]) (yae [xA 13 5 5,ycb 14 f_239 13] (yb1 14 (xR [xL 15 2,xF 16 1 5,xL 17 16,xO 18 (.bslice .imm 1 (List.replicate 1 [.int .i64 0]) [(0,(.t 17))]),xO 19 (ybs .app 1 8 15 (.t 18)),xS 1 2 19])) (ybp [xL 20 4,yck 21 .add 20,xS 1 4 21] [yb5 6]))⟩
def c_238_l0:ACode:=ya7 [xB 30 .lss 29 28] 30 1 2 (yaa [xX 31 1 27 29,xL 32 31,xM 8 32] (ya3 [xM 33 8,xF 34 1 4,xL 35 34,xB 36 .eql 33 35] 36 [xI 6 7])) [yck 37 .add 29,xM 29 37]
def c_238_k1:ACode:=ya3 [ycd 38 4,xL 39 38,yck 40 .eql 39,xM 41 40,yb0 42 41 3 4,yav 43 41 (yay 1 42),yav 44 41 (ya6 43),yb0 45 41 4 4,yav 46 41 (yay 1 45),yav 47 41 (ya6 46),yb6 48 41 .add 44 (.t 47),yb6 49 41 .gtr 48 (yar 0),xV 50 41 49] 50 [xI 6 5]
def c_238_k2:ACode:=yad [ybi 6]
def c_238:AFn:=⟨3,[.tmp 6],yap [xJ 3 0,xJ 4 1,ybi 6] [ycd 11 4,xL 12 11] (.block 0 (yae [yck 14 .eql 12,xM 13 14] (yab 13 .skip (xR [xK 15 .eql 12 3,xM 13 15])) (yab 13 (ybl [xF 16 1 4,xL 17 16,xK 18 .lss 17 0,xM 19 18,yax 20 19 1 4,ybu 21 19 20,yax 22 19 5 3,ybu 23 19 22,ybc 24 19 23,ycl 25 19 .geq 21 24,xW 26 19 25] 26 [xI 6 8] (ybj [xM 27 2,xN 28 27,ybi 29] 1 c_238_l0 c_238_k1)) (ych (xK 52 .eql 12 2) 51 52 (yab 51 (yba [xF 54 2 4,xL 55 54,xA 56 9 3,xO 57 (.build [.str [],.fslice 2 [],.fslice 2 [],.fslice 3 [],.fslice 3 [],.fslice 6 [],.fslice 7 [],.fslice 5 [],.fslice 1 [],.fslice 2 []] [(0,9,(.t 56))]),ybh 58 f_275 55 57,xM 53 58,xE 59 0 53,xE 60 1 53,xM 9 59,xM 10 60] [xM 61 10,xK 62 .neq 61 0] 62 [xM 63 10,xM 6 63] (ya3 [xM 64 9,yck 65 .neq 64] 65 [xI 6 10])) (yad [xI 6 11])))))) c_238_k2⟩
def c_239:AFn:=⟨1,[.tmp 2],ybp [xJ 1 0,yaq 2] [ycd 3 1,xL 4 3,yck 5 .eql 4,ycc 6,yax 7 6 0 1,ybu 8 6 7,ybm 9 6 .eql 8 3,xW 10 6 9,xM 2 10]⟩
def c_240:AFn:=⟨2,[.tmp 4],ybp [ycf] [yb2 5,yb8 6,ybh 7 f_279 5 6,xK 8 .geq 7 0,xM 4 8]⟩
def c_261_l0:ACode:=ya7 [xB 8 .lss 7 6] 8 0 1 (yaa [xX 9 1 5 7,xL 10 9,xM 4 10] (ya3 [xM 11 4,yck 12 .lss 11,xM 13 12,ya5 14 13 4,ybm 15 13 .gtr 14 32,xW 16 13 15] 16 [yaq 2])) [yck 17 .add 7,xM 7 17]
def c_261_k1:ACode:=yad [yb5 2]
def c_261:AFn:=⟨1,[.tmp 2],ybo [yaq 2] [yb2 5,xN 6 5,ybi 7] 0 c_261_l0 c_261_k1⟩
def c_262:AFn:=⟨2,[.tmp 4],ycg (xJ 2 0) ycf (ybp [xA 8 9 2,yb8 9,ybh 10 f_184 8 9,xM 7 10,xE 11 0 7,xE 12 1 7,xM 5 11,xM 6 12] [xM 13 6,xK 14 .eql 13 0,xM 4 14])⟩
def c_263:AFn:=⟨2,[.tmp 4],ybp [ycf] [yb8 5,xO 6 (.bslice .imm 1 (List.replicate 1 [.int .i64 0]) [(0,(.t 5))]),ycb 7 f_261 6,xM 8 7,ybt 9 8 0,ybt 10 8 1,ybz 11 8 f_217 [.t 10],yb6 12 8 .leq 9 (.t 11),xV 13 8 12,xM 4 13]⟩
def c_264:AFn:=⟨2,[.tmp 4],yat [xJ 2 0,xJ 3 1,yb9] (xD [xA 6 9 2,ycd 7 3,xL 8 7,ybh 9 f_298 6 8,xF 10 1 3,xL 11 10,ybh 12 f_297 9 11,xO 13 (.fld false 1 1 (.t 12)),xM 5 13]) (ybl [ycc 14,ycb 15 f_217 14,xO 16 (yau .eql 15 (.c (.int .u32 0)))] 16 [yb9] (yci (ycc 17) (xM 4 17)))⟩
def c_265_l0:ACode:=ya7 [xB 14 .lss 13 12] 14 0 1 (ych (xM 15 13) 6 15 (ya3 [xM 16 6,yb8 17,ybh 18 f_299 16 17,yb2 19,xB 20 .eql 18 19] 20 [xM 21 6,xM 4 21,yb5 5])) [yck 22 .add 13,xM 13 22]
def c_265_k1:ACode:=yci yb9 (yaq 5)
def c_265:AFn:=⟨2,[.tmp 4,.tmp 5],yba [yb9,yaq 5] [yb8 7,xO 8 (.bslice .imm 1 (List.replicate 1 [.int .i64 0]) [(0,(.t 7))]),ycb 9 f_261 8,ybk 10 9] 10 [yb9,yaq 5] (ybj [yb8 11,yck 12 .add 11,ybi 13] 0 c_265_l0 c_265_k1)⟩
def c_266:AFn:=⟨1,[.tmp 2],ybp [yaq 2] [yb2 3,xO 4 (yau .geq 3 (.c (.int .u8 97))),xM 5 4,ybt 6 5 0,yb6 7 5 .leq 6 (.c (.int .u8 122)),xV 8 5 7,xM 9 8,ya5 10 9 0,ya2 11 9 .geq 10 (.c (.int .u8 65)),ya5 12 9 11,ybt 13 12 0,yb6 14 12 .leq 13 (.c (.int .u8 90)),yac 15 9 (.pick (.t 12) (.t 14) (.c (.bool false))),xW 16 9 15,xM 2 16]⟩
def c_267_l0:ACode:=yb4 [ycc 6,yb2 7,xO 8 (.slen (.t 7)),xB 9 .lss 6 8,xM 10 9,ybt 11 10 1,ybt 12 10 0,ybt 13 10 5,yav 14 10 (.idxs (.t 12) (.t 13)),yav 15 10 (yce 11 [.t 14]),xV 16 10 15] 16 0 (.block 1 (xR [ycc 17,yck 18 .add 17,xM 5 18]))
def c_267_k1:ACode:=yci (ycc 19) (xM 4 19)
def c_267:AFn:=⟨2,[.tmp 4],ybw [yb9] [ybi 5] (yaj 0 (.loop c_267_l0) c_267_k1)⟩
def c_268:AFn:=⟨1,[.tmp 2],ybp [yaq 2] [yb2 3,ycb 4 f_266 3,xM 5 4,ya5 6 5 0,ycj 7 5 f_269 [.t 6],xW 8 5 7,xM 9 8,ya5 10 9 0,ya2 11 9 .eql 10 (.c (.int .u8 95)),xW 12 9 11,xM 2 12]⟩
def c_269:AFn:=⟨1,[.tmp 2],ybp [yaq 2] [yb2 3,xO 4 (yau .geq 3 (.c (.int .u8 48))),xM 5 4,ybt 6 5 0,yb6 7 5 .leq 6 (.c (.int .u8 57)),xV 8 5 7,xM 2 8]⟩
def c_270_l0:ACode:=ya7 [xB 9 .lss 8 7] 9 0 1 (ych (xM 10 8) 5 10 (ya3 [yb8 11,yb2 12,ycc 13,xX 14 1 12 13,xL 15 14,xB 16 .eql 11 15] 16 [ycc 17,xM 4 17])) [yck 18 .add 8,xM 8 18]
def c_270_k1:ACode:=yad [xI 4 (-1)]
def c_270:AFn:=⟨2,[.tmp 4],ybo [yb9] [yb2 6,xN 7 6,ybi 8] 0 c_270_l0 c_270_k1⟩
def c_271:AFn:=⟨2,[.tmp 4],ybp [ycf] [yb2 5,yb8 6,ybh 7 f_300 5 6,xK 8 .geq 7 0,xM 4 8]⟩
def c_272:AFn:=⟨2,[.tmp 3],ybp [xJ 2 0,yaq 3] [ycd 4 2,xL 5 4,ycd 6 1,xL 7 6,xB 8 .eql 5 7,xM 3 8]⟩
def c_273:AFn:=⟨2,[.tmp 4,.tmp 5],yaa [xJ 2 0,xJ 3 1,yb9,yaq 5] (yap [xF 7 2 2,xL 8 7,xM 6 8] [ycd 9 3,xL 10 9,xK 11 .neq 10 (-1)] (yb1 11 (ybl [ycd 12 3,xL 13 12,xK 14 .lss 13 0,xM 15 14,yax 16 15 0 3,ybu 17 15 16,yax 18 15 1 2,ybu 19 15 18,ybc 20 15 19,ycl 21 15 .geq 17 20,xW 22 15 21] 22 [yb9,yaq 5] (xR [xF 23 1 2,xL 24 23,ycd 25 3,xL 26 25,xX 27 2 24 26,xF 28 1 27,xL 29 28,xM 6 29]))) (ybl [xF 30 1 3,xL 31 30,xK 32 .lss 31 0,xM 33 32,yax 34 33 1 3,ybu 35 33 34,ya5 36 33 6,ybc 37 33 36,ycl 38 33 .geq 35 37,xW 39 33 38] 39 [yb9,yaq 5] (yad [xM 40 6,xF 41 1 3,xL 42 41,xX 43 2 40 42,xF 44 1 43,xL 45 44,xM 4 45,yb5 5])))⟩
def c_274:AFn:=⟨3,[.tmp 6],ycg (xJ 3 0) (ybi 6) (yba [yb8 10,ycd 11 3,xA 12 10 11,ybh 13 f_275 10 12,xM 9 13,xE 14 0 9,xE 15 1 9,xM 7 14,xM 8 15] [xM 16 8,xK 17 .eql 16 0,xM 18 17,ybt 19 18 7,ybt 20 18 2,yb6 21 18 .neq 19 (.t 20),xV 22 18 21] 22 [xI 6 10] (yci (xM 23 8) (xM 6 23)))⟩
def c_275:AFn:=⟨2,[.tmp 4,.tmp 5],yba [xJ 3 1,yb9,ybi 5] [yb2 7,xN 8 7,xK 9 .gtr 8 24] 9 [yb9,xI 5 12] (yaa [xA 11 10 3,yb2 12,yaf 13 f_301 [.t 11,.t 12,yar 0],xM 10 13,xE 14 0 10,xE 15 1 10,xE 16 2 10,xM 4 14,xM 6 15,xM 5 16] (yaj 0 (ybx [ycc 18,xK 19 .neq 18 0,xM 17 19] 17 [ycc 20,yb9,xM 5 20] (ya3 [xM 22 6,yb2 23,xN 24 23,xB 25 .lss 22 24,xM 21 25] 21 [yb9,xI 5 4])) (yad [xM 26 4,xM 4 26,ybi 5])))⟩
def c_276:AFn:=⟨3,[.tmp 6],yat [xJ 3 0,xJ 5 2,ybi 6] (xD [xA 8 9 3,xF 9 6 3,xL 10 9,yb8 11,xX 12 7 10 11,xF 13 3 12,xA 14 2 13,ybh 15 f_264 8 14,xM 7 15]) (yaj 0 (ybx [ycd 17 5,xL 18 17,xM 19 7,ybh 20 f_263 18 19,ybk 21 20,xM 22 21,yax 23 22 1 5,ybu 24 22 23,ya5 25 22 7,ycj 26 22 f_263 [.t 24,.t 25],yac 27 22 (ya9 26),xW 28 22 27,xM 16 28] 16 [xI 6 9] (ybx [ycd 30 5,xL 31 30,xF 32 1 5,xL 33 32,xB 34 .andNot 31 33,xO 35 (yau .neq 34 (.c (.int .u32 0))),xM 29 35] 29 [xI 6 5] (ya3 [xA 37 9 3,yb8 38,xF 39 2 5,xL 40 39,yaf 41 f_277 [.t 37,.t 38,.t 40],ybk 42 41,xM 36 42] 36 [xI 6 14]))) (yad [ybi 6]))⟩
def c_277:AFn:=⟨3,[.tmp 6],yap [xJ 3 0,yaq 6] [xM 7 2] (.block 0 (yaj 2 (.block 1 (.seq (yae [xK 9 .eql 7 (-1),xM 8 9] (yb1 8 (.exit 1)) (ych (xK 11 .eql 7 (-2)) 10 11 (yb1 10 (.exit 2)))) (.exit 0))) (.seq (yad [yb5 6]) (.exit 0)))) (yad [xM 12 2,yb8 13,xB 14 .gtr 12 13,xM 15 14,ybt 16 15 2,yb0 17 15 6 3,yav 18 15 (yay 1 17),yav 19 15 (ya6 18),yb6 20 15 .lss 16 (.t 19),xV 21 15 20,xM 6 21])⟩
def c_278:AFn:=⟨2,[.tmp 3],ycg (xJ 2 0) (yaq 3) (ybp [xL 4 1,yck 5 .add 4,xS 1 1 5] [yb5 3])⟩
def c_279_l0:ACode:=ya7 [xB 9 .lss 8 7] 9 0 1 (ych (xM 10 8) 5 10 (ya3 [yb8 11,yb2 12,ycc 13,xX 14 1 12 13,xL 15 14,xB 16 .eql 11 15] 16 [ycc 17,xM 4 17])) [yck 18 .add 8,xM 8 18]
def c_279_k1:ACode:=yad [xI 4 (-1)]
def c_279:AFn:=⟨2,[.tmp 4],ybo [yb9] [yb2 6,xN 7 6,ybi 8] 0 c_279_l0 c_279_k1⟩
def c_297:AFn:=⟨2,[.cell 4 true 2],yaa [yas 4 [.str [],ybb]] (yba [yas 5 [.str [],ybb]] [yb8 6,xK 7 .lss 6 0,xM 8 7,ya5 9 8 1,ya5 10 8 0,ybc 11 8 10,ycl 12 8 .geq 9 11,xW 13 8 12] 13 [xA 14 2 5,xS 2 4 14] (yad [yb2 15,yb8 16,xX 17 2 15 16,xA 18 2 17,xS 2 4 18]))⟩
def c_298:AFn:=⟨2,[.tmp 4],yba [xJ 2 0,xC 4 (.fslice 2 [])] [yb8 5,xK 6 .eql 5 (-1)] 6 [xF 7 2 2,xL 8 7,xM 4 8] (yad [xF 9 1 2,xL 10 9,yb8 11,ybh 12 f_309 10 11,xO 13 (.fld false 1 1 (.t 12)),xM 4 13])⟩
def c_299:AFn:=⟨2,[.tmp 4],yba [xC 4 (.int .u32 0)] [yb8 5,xO 6 (.bslice .imm 1 (List.replicate 1 [.int .i64 0]) [(0,(.t 5))]),ycb 7 f_261 6,ybk 8 7] 8 [xC 4 (.int .u32 0)] (yad [yb8 9,ycb 10 f_217 9,yb8 11,ycb 12 f_217 11,yb2 13,xO 14 (.minmax true [.t 13,.c (.int .i64 0)]),yb8 15,xO 16 (.minmax false [.t 14,.t 15]),xB 17 .shr 12 16,xB 18 .andNot 10 17,xM 4 18])⟩
def c_300_l0:ACode:=ya7 [xB 9 .lss 8 7] 9 0 1 (ych (xM 10 8) 5 10 (ya3 [yb8 11,yb2 12,ycc 13,xX 14 2 12 13,xA 15 2 14,xO 16 (yce 11 [.t 15])] 16 [ycc 17,xM 4 17])) [yck 18 .add 8,xM 8 18]
def c_300_k1:ACode:=yad [xI 4 (-1)]
def c_300:AFn:=⟨2,[.tmp 4],ybo [yb9] [yb2 6,xN 7 6,ybi 8] 0 c_300_l0 c_300_k1⟩
def c_301_l0:ACode:=ya7 [xB 45 .lss 44 43] 45 1 2 (ybw [xM 46 44,xM 11 46] [xM 48 11,xA 49 10 3,yb8 50,xM 51 7,yaf 52 f_301 [.t 49,.t 50,.t 51],xM 47 52,xE 53 0 47,xE 54 1 47,xE 55 2 47,xO 56 (ybq 1 (some 3) 10 (.t 48)),xS 1 56 53,xM 7 54,xM 8 55] (ya3 [xM 57 8,xK 58 .neq 57 0] 58 [xM 59 8,ybi 6,ybi 7,xM 8 59])) [yck 60 .add 44,xM 44 60]
def c_301_k1:ACode:=yb7 [yb8 62,xM 63 2,xX 64 3 62 63,xA 65 3 64,xA 66 3 10,ybh 67 f_312 65 66,xM 61 67,xE 68 0 61,xE 69 1 61,xM 6 68,xM 8 69] (yad [xM 70 6,xM 71 7,xM 72 8,xM 6 70,xM 7 71,xM 8 72])
def c_301:AFn:=⟨3,[.tmp 6,.tmp 7,.tmp 8],yba [xJ 3 0,ybi 6,ybi 7,ybi 8] [xM 12 2,yb8 13,xN 14 13,xB 15 .geq 12 14] 15 [ybi 6,ybi 7,xI 8 3] (yaa [yb8 16,xM 17 2,xX 18 3 16 17,ycd 19 18,xL 20 19,ycb 21 f_310 20,xM 9 21] (yaj 0 (ybx [xM 23 9,xK 24 .lss 23 0,xM 22 24] 22 [ybi 6,ybi 7,xI 8 11] (yaa [xM 26 9,xK 27 .eql 26 0,xM 25 27] (yb1 25 (yb7 [xA 29 10 3,yb8 30,xM 31 2,xX 32 3 30 31,xA 33 3 32,ybh 34 f_311 29 33,xM 28 34,xE 35 0 28,xE 36 1 28,xM 6 35,xM 8 36] (yad [xM 37 6,xM 38 2,yck 39 .add 38,xM 40 8,xM 6 37,xM 7 39,xM 8 40]))))) (yaa [yas 10 [ybb,ybb,ybb]] (ybo [xM 41 2,yck 42 .add 41,xM 7 42] [xM 43 9,ybi 44] 1 c_301_l0 c_301_k1))))⟩
def c_309:AFn:=⟨2,[.cell 4 true 2],yaa [yas 4 [.str [],.fslice 2 []]] (yba [yas 5 [.str [],.fslice 2 []]] [yb8 6,xK 7 .lss 6 0,xM 8 7,ya5 9 8 1,ya5 10 8 0,ybc 11 8 10,ycl 12 8 .geq 9 11,xW 13 8 12] 13 [xA 14 2 5,xS 2 4 14] (yad [yb2 15,yb8 16,xX 17 2 15 16,xA 18 2 17,xS 2 4 18]))⟩
def c_310:AFn:=⟨1,[.tmp 2],yap [ybi 2] [yb2 3] (.block 0 (yae [yck 5 .eql 3,ycc 4] (yab 4 .skip (ych (xK 6 .eql 3 2) 4 6 (yab 4 .skip (ych (xK 7 .eql 3 3) 4 7 (yab 4 .skip (xR [xK 8 .eql 3 4,xM 4 8])))))) (yah 4 [ybi 2] (yae [xK 10 .eql 3 5,xM 9 10] (yab 9 .skip (ych (xK 11 .eql 3 6) 9 11 (yab 9 .skip (ych (xK 12 .eql 3 7) 9 12 (yab 9 .skip (xR [xK 13 .eql 3 8,xM 9 13])))))) (yah 9 [xI 2 1] (yae [xK 15 .eql 3 9,xM 14 15] (yab 14 .skip (ych (xK 16 .eql 3 10) 14 16 (yab 14 .skip (ych (xK 17 .eql 3 11) 14 17 (yab 14 .skip (ych (xK 18 .eql 3 12) 14 18 (yab 14 .skip (ych (xK 19 .eql 3 13) 14 19 (yab 14 .skip (ych (xK 20 .eql 3 14) 14 20 (yab 14 .skip (ych (xK 21 .eql 3 15) 14 21 (yab 14 .skip (xR [xK 22 .eql 3 16,xM 14 22])))))))))))))) (yah 14 [xI 2 2] (ya3 [xK 24 .eql 3 17,xM 23 24] 23 [xI 2 3])))))))) (yad [xI 2 (-1)])⟩
def c_311:AFn:=⟨2,[.tmp 4,.tmp 5],yap [xJ 2 0,xJ 3 1,yb9,ybi 5] [ycd 10 3,xL 11 10] (.block 0 (ych (yck 13 .eql 11) 12 13 (yab 12 (yat [xF 15 2 3,xL 16 15,ycb 17 f_320 16,xM 14 17,xE 18 0 14,xE 19 1 14,xM 6 18,xM 7 19] (yb7 [xM 20 7,xK 21 .eql 20 0,xM 22 21,yb0 23 22 1 3,yav 24 22 (yay 1 23),yb6 25 22 .lss 24 (yar 0),ybt 26 22 25,yax 27 26 1 3,ybu 28 26 27,ya5 29 26 6,ycj 30 26 f_217 [.t 29],yac 31 26 (.conv .i64 (.t 30)),ycl 32 26 .gtr 28 31,yav 33 22 (.pick (.t 26) (.c (.bool true)) (.t 32)),xV 34 22 33] (yai 34 [yb9,xI 5 9])) (yad [xM 35 6,xM 36 7,xM 4 35,xM 5 36])) (ych (xK 38 .eql 11 2) 37 38 (yab 37 (ybd [xA 40 10 2,xF 41 1 3,xL 42 41,xF 43 2 3,xL 44 43,yaf 45 f_321 [.t 40,.t 42,.t 44],xM 39 45,xE 46 0 39,xE 47 1 39,yas 8 [.str [],ybb],xS 2 8 46,xM 9 47] [8] (ybl [xM 48 9,ybk 49 48] 49 [yb9,xI 5 8] (yad [xF 50 1 8,xL 51 50,ycb 52 f_320 51,xE 53 0 52,xE 54 1 52,xM 4 53,xM 5 54]))) (ych (xK 56 .eql 11 3) 55 56 (yb1 55 (ybl [xF 57 1 3,xL 58 57,xK 59 .lss 58 0,xM 60 59,yax 61 60 1 3,ybu 62 60 61,yax 63 60 9 2,ybu 64 60 63,ybc 65 60 64,ycl 66 60 .geq 62 65,xW 67 60 66] 67 [yb9,xI 5 8] (yad [xF 68 9 2,xL 69 68,xF 70 1 3,xL 71 70,xX 72 2 69 71,xF 73 1 72,xL 74 73,ycb 75 f_320 74,xE 76 0 75,xE 77 1 75,xM 4 76,xM 5 77]))))))))) (ybl [xF 78 1 3,xL 79 78,xK 80 .lss 79 0,xM 81 80,yax 82 81 1 3,ybu 83 81 82,yax 84 81 0 2,yax 85 81 1 84,ybu 86 81 85,ybc 87 81 86,ycl 88 81 .geq 83 87,xW 89 81 88] 89 [yb9,xI 5 8] (yci (xI 4 1) (ybi 5)))⟩
def c_312:AFn:=⟨2,[.tmp 4,.tmp 5],yap [xJ 2 0,xJ 3 1,yb9,ybi 5] [ycd 8 2,xL 9 8] (.block 0 (yae [xK 11 .eql 9 6,xM 10 11] (yab 10 .skip (xR [xK 12 .eql 9 7,xM 10 12])) (yab 10 (ya3 [xF 13 1 2,xL 14 13,xK 15 .lss 14 0,xM 16 15,yax 17 16 1 2,ybu 18 16 17,ybm 19 16 .gtr 18 31,xW 20 16 19] 20 [yb9,xI 5 9]) (ych (xK 22 .eql 9 8) 21 22 (yab 21 (ybl [xF 23 1 2,xL 24 23,xK 25 .lss 24 0] 25 [yb9,xI 5 9] (yae [xF 27 2 2,xL 28 27,ycb 29 f_320 28,xM 26 29,xE 30 0 26,xE 31 1 26,xM 6 30,xM 7 31] (ya3 [xM 32 7,xK 33 .neq 32 0,xM 34 33,yax 35 34 1 2,ybu 36 34 35,yac 37 34 (ybq 1 (some 3) 3 (yar 0)),ybu 38 34 37,yax 39 34 2 2,ybu 40 34 39,ycl 41 34 .sub 38 40,ycl 42 34 .gtr 36 41,xW 43 34 42] 43 [yb9,xI 5 10]) (yad [xF 44 2 2,xL 45 44,xM 4 45,ybi 5]))) (ybx [xK 47 .eql 9 14,xM 46 47] 46 [xO 48 (ybq 1 (some 3) 3 (yar 0)),xL 49 48,xO 50 (ybq 1 (some 3) 3 (yar 1)),xL 51 50,xB 52 .add 49 51,ycb 53 f_320 52,xE 54 0 53,xE 55 1 53,xM 4 54,xM 5 55] (ych (xK 57 .eql 9 17) 56 57 (yb1 56 (ybl [xO 58 (ybq 1 (some 3) 3 (yar 0)),xL 59 58,yck 60 .neq 59,xM 61 60,yac 62 61 (ybq 1 (some 3) 3 (yar 1)),ybu 63 61 62,yac 64 61 (ybq 1 (some 3) 3 (yar 2)),ybu 65 61 64,ycl 66 61 .neq 63 65,xW 67 61 66] 67 [yb9,xI 5 10] (yad [xO 68 (ybq 1 (some 3) 3 (yar 1)),xL 69 68,xM 4 69,ybi 5])))))))))) (ybl [ycd 70 2,xL 71 70,ycb 72 f_310 71,xK 73 .eql 72 2,xM 74 73,yav 75 74 (ybq 1 (some 3) 3 (yar 0)),yav 76 74 (yay 1 75),yav 77 74 (ybq 1 (some 3) 3 (yar 1)),yav 78 74 (yay 1 77),yb6 79 74 .neq 76 (.t 78),xV 80 74 79] 80 [yb9,xI 5 10] (ybl [ycd 81 2,xL 82 81,xK 83 .eql 82 15,xM 84 83,yax 85 84 0 2,ybu 86 84 85,ybm 87 84 .eql 86 16,xW 88 84 87] 88 [xI 4 1,ybi 5] (yad [xO 89 (ybq 1 (some 3) 3 (yar 0)),xL 90 89,xM 4 90,ybi 5])))⟩
def c_320:AFn:=⟨1,[.tmp 2,.tmp 3],yba [ybi 2,ybi 3] [yb2 4,yck 5 .lss 4,ycc 6,ya5 7 6 0,ybm 8 6 .gtr 7 32,xW 9 6 8] 9 [ybi 2,xI 3 10] (yad [yb2 10,xM 2 10,ybi 3])⟩
def c_321:AFn:=⟨3,[.cell 6 true 2,.tmp 7],yaa [xJ 3 0,yas 6 [.str [],ybb],yaq 7] (yap [ycd 9 3,xF 10 2 9,xL 11 10,xM 8 11] [yb8 12,xK 13 .neq 12 (-1)] (yb1 13 (ybl [yb8 14,xK 15 .lss 14 0,xM 16 15,ya5 17 16 1,yax 18 16 0 3,yax 19 16 1 18,ybu 20 16 19,ybc 21 16 20,ycl 22 16 .geq 17 21,xW 23 16 22] 23 [xO 24 (.build [.str [],.int .i64 0] []),xS 2 6 24,yaq 7] (xR [ycd 25 3,xF 26 1 25,xL 27 26,yb8 28,xX 29 2 27 28,xF 30 1 29,xL 31 30,xM 8 31]))) (ybl [xM 32 2,xK 33 .lss 32 0,xM 34 33,ya5 35 34 2,ya5 36 34 8,ybc 37 34 36,ycl 38 34 .geq 35 37,xW 39 34 38] 39 [xO 40 (.build [.str [],.int .i64 0] []),xS 2 6 40,yaq 7] (yad [xM 41 8,xM 42 2,xX 43 2 41 42,xA 44 2 43,xS 2 6 44,yb5 7])))⟩
def tabL:List (Nat×AFn):=[(f_3,c_3),
  (f_4,c_4),
  (f_9,c_9),
  (f_10,c_10),
  (f_12,c_12),
  (f_13,c_13),
  (f_14,c_14),
  (f_15,c_15),
  (f_16,c_16),
  (f_33,c_33),
  (f_34,c_34),
  (f_35,c_35),
  (f_36,c_36),
  (f_41,c_41),
  (f_43,c_43),
  (f_44,c_44),
  (f_45,c_45),
  (f_46,c_46),
  (f_47,c_47),
  (f_48,c_48),
  (f_49,c_49),
  (f_50,c_50),
  (f_51,c_51),
  (f_53,c_53),
  (f_81,c_81),
  (f_82,c_82),
  (f_83,c_83),
  (f_85,c_85),
  (f_86,c_86),
  (f_87,c_87),
  (f_88,c_88),
  (f_89,c_89),
  (f_90,c_90),
  (f_92,c_92),
  (f_93,c_93),
  (f_94,c_94),
  (f_95,c_95),
  (f_96,c_96),
  (f_97,c_97),
  (f_99,c_99),
  (f_100,c_100),
  (f_101,c_101),
  (f_102,c_102),
  (f_103,c_103),
  (f_104,c_104),
  (f_105,c_105),
  (f_108,c_108),
  (f_109,c_109),
  (f_110,c_110),
  (f_111,c_111),
  (f_112,c_112),
  (f_113,c_113),
  (f_114,c_114),
  (f_115,c_115),
  (f_149,c_149),
  (f_151,c_151),
  (f_152,c_152),
  (f_153,c_153),
  (f_154,c_154),
  (f_155,c_155),
  (f_156,c_156),
  (f_157,c_157),
  (f_158,c_158),
  (f_159,c_159),
  (f_160,c_160),
  (f_161,c_161),
  (f_162,c_162),
  (f_163,c_163),
  (f_164,c_164),
  (f_165,c_165),
  (f_166,c_166),
  (f_167,c_167),
  (f_168,c_168),
  (f_169,c_169),
  (f_170,c_170),
  (f_171,c_171),
  (f_172,c_172),
  (f_173,c_173),
  (f_174,c_174),
  (f_175,c_175),
  (f_176,c_176),
  (f_177,c_177),
  (f_178,c_178),
  (f_179,c_179),
  (f_180,c_180),
  (f_181,c_181),
  (f_182,c_182),
  (f_183,c_183),
  (f_184,c_184),
  (f_185,c_185),
  (f_186,c_186),
  (f_187,c_187),
  (f_188,c_188),
  (f_189,c_189),
  (f_215,c_215),
  (f_216,c_216),
  (f_217,c_217),
  (f_218,c_218),
  (f_219,c_219),
  (f_220,c_220),
  (f_221,c_221),
  (f_222,c_222),
  (f_223,c_223),
  (f_225,c_225),
  (f_226,c_226),
  (f_227,c_227),
  (f_228,c_228),
  (f_229,c_229),
  (f_230,c_230),
  (f_231,c_231),
  (f_232,c_232),
  (f_233,c_233),
  (f_234,c_234),
  (f_235,c_235),
  (f_236,c_236),
  (f_237,c_237),
  (f_238,c_238),
  (f_239,c_239),
  (f_240,c_240),
  (f_261,c_261),
  (f_262,c_262),
  (f_263,c_263),
  (f_264,c_264),
  (f_265,c_265),
  (f_266,c_266),
  (f_267,c_267),
  (f_268,c_268),
  (f_269,c_269),
  (f_270,c_270),
  (f_271,c_271),
  (f_272,c_272),
  (f_273,c_273),
  (f_274,c_274),
  (f_275,c_275),
  (f_276,c_276),
  (f_277,c_277),
  (f_278,c_278),
  (f_279,c_279),
  (f_297,c_297),
  (f_298,c_298),
  (f_299,c_299),
  (f_300,c_300),
  (f_301,c_301),
  (f_309,c_309),
  (f_310,c_310),
  (f_311,c_311),
  (f_312,c_312),
  (f_320,c_320),
  (f_321,c_321)]
def tabD:List (Nat×ADFn):=[(f_42,c_42),
  (f_52,c_52)]
def tabC:List CloneD:=[⟨f_62,1,1,.app⟩,⟨f_106,2,24,.app⟩,⟨f_107,3,32,.app⟩,⟨f_116,1,8,.row⟩,⟨f_150,1,4,.app⟩,⟨f_190,3,24,.app⟩,⟨f_191,3,16,.app⟩,⟨f_192,3,24,.app⟩,⟨f_224,2,8,.app⟩]
def nilL:List (Nat×Nat):=[(f_8,9),(f_13,13),(f_13,17),(f_42,9),(f_57,6),(f_68,3),(f_71,6),(f_72,6),(f_104,5),(f_108,5),(f_110,5),(f_112,5),(f_114,5),(f_138,3),(f_169,5),(f_173,5),(f_176,5),(f_179,5),(f_182,5),(f_188,5),(f_220,5),(f_227,3),(f_252,3),(f_257,13),(f_259,11),(f_302,12),(f_305,5)]
def thr:List Nat:=[f_17,f_20,f_21,f_22,f_29,f_31,f_41,f_42,f_43,f_44,f_45,f_58,f_64,f_70,f_88,f_89,f_90,f_92,f_93,f_94,f_95,f_122,f_123,f_124,f_126,f_129,f_130,f_154,f_155,f_158,f_161,f_164,f_193,f_194,f_195,f_236]
def thrAt:List (Nat×Nat):=[(f_210,f_210),(f_211,f_210),(f_23,f_62),(f_29,f_23),(f_5,f_23),(f_59,f_125),(f_92,f_116)]
def thrV:List Nat:=[f_126,f_236]
def rowAt:List (Nat×Nat):=[(f_8,40),(f_8,66),(f_93,112),(f_258,48),(f_260,41),(f_116,7)]
def thrVAt:List (Nat×Nat):=[]
def rowF:List Nat:=[f_92,f_38]
def rowFB:List Nat:=[]
def appAt:List (Nat×Nat):=[(f_38,32),(f_92,70)]
def immAt:List (Nat×Nat):=[(f_138,27)]
def slcHL:List Nat:=[f_164]
def browAt:List (Nat×Nat):=[(f_8,39),(f_8,65),(f_92,39)]
def boxiAt:List (Nat×Nat):=[(f_88,2),(f_41,2),(f_41,3),(f_38,1)]
def takeAt:List (Nat×Nat):=[(f_258,65)]
def boxiL:List (Nat×List Nat):=[(3,[3,4]),(4,[3,4,5]),(5,[2]),(6,[2]),(7,[2]),(8,[3]),(9,[2,3]),(12,[3,4]),(13,[3,4]),(18,[2]),(25,[1]),(28,[3]),(30,[2]),(33,[1]),(53,[1]),(54,[1]),(65,[1]),(66,[1]),(67,[3,4]),(82,[1]),(84,[1]),(85,[1]),(87,[2,3]),(99,[1]),(100,[1]),(101,[1]),(102,[1]),(103,[1]),(118,[1]),(119,[1]),(120,[1]),(131,[1]),(132,[1]),(133,[1]),(134,[1]),(135,[1]),(136,[1]),(137,[1]),(138,[1]),(139,[3,4]),(149,[1]),(152,[5,9]),(153,[2]),(156,[3,5]),(157,[1]),(159,[3,5]),(163,[1]),(170,[1]),(171,[1]),(174,[1]),(177,[1]),(178,[1]),(180,[1]),(181,[2]),(183,[1]),(184,[2]),(185,[1]),(186,[1]),(187,[1]),(198,[1]),(200,[1]),(201,[2]),(202,[2]),(203,[1]),(204,[1]),(205,[1]),(206,[2,3]),(207,[3,4,5]),(215,[2]),(218,[3]),(219,[2,3]),(220,[2]),(221,[3]),(222,[2]),(227,[1]),(229,[1]),(230,[2,3]),(231,[2,3]),(232,[2,3]),(233,[2]),(237,[5]),(238,[3,4]),(239,[1]),(243,[2]),(245,[3,4,5]),(246,[2]),(247,[2,3]),(248,[2,3]),(249,[2]),(253,[3]),(254,[4]),(255,[3,5]),(256,[2]),(257,[4,5,7]),(258,[5,6,9]),(259,[4,5]),(260,[4,5,7]),(262,[2]),(264,[2,3]),(272,[2]),(273,[2,3]),(274,[3]),(275,[3]),(276,[3,5]),(277,[3]),(278,[2]),(280,[2,3]),(281,[4]),(282,[3]),(283,[2,3]),(285,[2,3]),(286,[2,3]),(287,[2]),(288,[3]),(290,[3,5]),(291,[3]),(292,[3]),(294,[1]),(295,[4]),(298,[2]),(301,[3]),(302,[5]),(304,[1]),(305,[2]),(306,[3]),(307,[2]),(308,[2]),(311,[2,3]),(312,[2,3]),(314,[2,3]),(315,[2]),(321,[3])]
def keepL:List (Nat×List (Nat×List Nat)):=[(3,[(3,[7]),(14,[15])]),(4,[(4,[9]),(7,[13]),(8,[17])]),(6,[(11,[13])]),(7,[(4,[8])]),(11,[(1,[1]),(2,[2]),(3,[3]),(4,[7])]),(13,[(1,[8]),(10,[15]),(20,[20]),(30,[25])]),(19,[(1,[1]),(5,[4])]),(25,[(1,[4])]),(26,[(1,[8])]),(30,[(12,[14])]),(33,[(21,[7])]),(37,[(1,[1])]),(38,[(4,[5])]),(44,[(5,[9])]),(67,[(1,[10])]),(84,[(4,[5])]),(87,[(1,[5])]),(92,[(8,[8]),(15,[10])]),(100,[(4,[4])]),(101,[(5,[4]),(12,[6])]),(102,[(4,[4])]),(104,[(4,[7])]),(108,[(4,[7])]),(110,[(4,[7])]),(112,[(4,[7])]),(114,[(4,[7])]),(139,[(10,[12])]),(152,[(6,[13]),(15,[15])]),(154,[(3,[5])]),(159,[(9,[12])]),(169,[(4,[7])]),(171,[(9,[4])]),(173,[(4,[7])]),(176,[(4,[7])]),(179,[(4,[7])]),(181,[(3,[6]),(7,[7]),(10,[9])]),(182,[(4,[7])]),(184,[(3,[6])]),(185,[(8,[7])]),(188,[(4,[7])]),(198,[(11,[5])]),(201,[(3,[6])]),(202,[(3,[6])]),(207,[(5,[9]),(8,[11]),(11,[13])]),(220,[(6,[7])]),(222,[(6,[7])]),(227,[(4,[5])]),(229,[(7,[4])]),(230,[(1,[5])]),(231,[(4,[9])]),(233,[(1,[6]),(16,[10])]),(235,[(6,[5])]),(236,[(3,[6])]),(249,[(1,[6])]),(253,[(1,[7])]),(287,[(1,[6]),(6,[9])]),(311,[(8,[8])])]
def qagv:List (Nat×List Nat):=[(99,[1,2,3,4,5]),(100,[5,6,7]),(101,[1,6,7,8,13]),(102,[5,6,13,14,21,22]),(103,[2,4,6]),(166,[1]),(216,[2])]
def ann:Ann:=
  { pure:=fun fn f _=> !(qb6 f thr)&& !(thrAt.any fun p=>p.1 == fn&&p.2 == f)
    purev:=fun fn d=> !(qb6 fn thrV)&& !(match d with | some t=>thrVAt.any (fun q=>q.1 == fn&&q.2 == t) | none=>false),bmode:=fun fn d=>if qb6 fn rowFB || (match d with | some t=>browAt.any (fun q=>q.1 == fn&&q.2 == t) | none=>false) then .row else .imm,smode:=fun fn d=>match d with | some t=>if immAt.any (fun q=>q.1 == fn&&q.2 == t) then .imm else .row | none=> .row,amode:=fun fn d=>match d with | some t=>if rowAt.any (fun q=>q.1 == fn&&q.2 == t) || (qb6 fn rowF&& !(appAt.any fun q=>q.1 == fn&&q.2 == t)) then .row else .app | none=> .app
    nilapp:=fun fn d=>match d with | some t=>nilL.any (fun q=>q.1 == fn&&q.2 == t) | none=>false
    slch:=fun fn d=>(qb6 fn slcHL&&(match d with | some t=>t == 13 || t == 31 | none=>false)) || (match d with | some t=>takeAt.any (fun q=>q.1 == fn&&q.2 == t) | none=>false)
    boxi:=fun fn d=>match d with | some t=>boxiAt.any (fun q=>q.1 == fn&&q.2 == t) || (match look fn boxiL with | some l=>qb6 t l | none=>false) | none=>false
    keep:=fun fn id=>(look fn keepL).bind (look id)
    split:=fun fn id=>match look fn qagv with | some l=>qb6 id l | none=>false }
def ktabL:List Nat:=[39,37,11,40,84,38,91]
def qrm (b:FuncId->Option AFun) (P:Program) (A:Ann) (l:List Nat) (f:FuncId):Option AFun:=match b f with
  | some x=>some x
  | none=>if qb6 f l then (cFn P A f).map .code else none
def Φ:FuncId->Option AFun:=qrm (qrr tabL tabD tabC) Go.Proofs.Tryz.prog ann ktabL
end
end Go.Av
