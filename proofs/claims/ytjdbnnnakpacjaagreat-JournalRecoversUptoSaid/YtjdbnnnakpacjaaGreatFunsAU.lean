/-
  The compact form of the program's functions, printed by a program.
-/
import Derived.Test.YtjdbnnnakpacjaaGreatAvD
import Derived.Test.YtjdbnnnakpacjaaGreatRows
set_option linter.unusedVariables false
set_option linter.unusedSimpArgs false
set_option linter.constructorNameAsVariable false
namespace Go.Av
noncomputable section
abbrev xM (d s:Nat):Xw:=⟨some d,none,.mov (.t s)⟩
abbrev xI (d:Nat) (n:Int):Xw:=⟨some d,none,.mov (.c (.int .i64 n))⟩
abbrev xC (d:Nat) (v:AV):Xw:=⟨some d,none,.mov (.c v)⟩
abbrev xF (d o s:Nat):Xw:=⟨some d,none,.faddr o (.t s)⟩
abbrev xL (d s:Nat):Xw:=⟨some d,none,.load false 1 (.t s)⟩
abbrev xA (d n s:Nat):Xw:=⟨some d,none,.load true n (.t s)⟩
abbrev xX (d z a i:Nat):Xw:=⟨some d,none,.iaddr z none (.t a) (.t i)⟩
abbrev xS (n p v:Nat):Xw:=⟨none,none,.store n (.t p) (.t v)⟩
abbrev xN (d s:Nat):Xw:=⟨some d,none,.len (.t s)⟩
abbrev xE (d i s:Nat):Xw:=⟨some d,none,.ext i (.t s)⟩
abbrev xB (d:Nat) (p:BinOp) (a b:Nat):Xw:=⟨some d,none,.bin p (.t a) (.t b)⟩
abbrev xK (d:Nat) (p:BinOp) (a:Nat) (n:Int):Xw:=⟨some d,none,.bin p (.t a) (.c (.int .i64 n))⟩
abbrev xW (d a b:Nat):Xw:=⟨some d,none,.pick (.t a) (.c (.bool true)) (.t b)⟩
abbrev xV (d a b:Nat):Xw:=⟨some d,none,.pick (.t a) (.t b) (.c (.bool false))⟩
abbrev xJ (d s:Nat):Xw:=⟨some d,none,.boxi (.t s)⟩
abbrev xO (d:Nat) (p:AOp):Xw:=⟨some d,none,p⟩
abbrev xG (d g:Nat) (b:Bool) (p:AOp):Xw:=⟨some d,some (g,b),p⟩
abbrev xR (l:List Xw):Xv:= .region false [] l none
abbrev xD (l:List Xw):Xv:= .region true [] l none
abbrev xQ (l:List Xw) (k:List Nat):Xv:= .region false [] l (some k)
abbrev yaa (a:List Xw) (b:Xv):Xv:= .seq (xR a) b
abbrev yab (a:Nat) (b c:Xv):Xv:= .cond (.t a) b c
abbrev yac (a:List Xw):Xv:=yaa a .ret
abbrev yad (a b:Nat) (c:AOp):Xw:=xG a b false c
abbrev yae (a:Int):AV:= .int .i64 a
abbrev yaf (a b:Nat) (c:List AX):Xw:=xO a (.pcall b c)
abbrev yag (a:List Xw) (b c:Xv):Xv:=yaa a (.seq b c)
abbrev yah (a:List Xw) (b:Nat) (c d:Xv):Xv:=yaa a (yab b c d)
abbrev yai (a:List Xw) (b:Nat) (c:List Xw) (d:Xv):Xv:=yah a b (yac c) d
abbrev yaj (a b:Nat):AOp:= .faddr a (.t b)
abbrev yak (a:Nat) (b:Xv):Xv:= .block a (.loop b)
abbrev yal (a:List Xw) (b:Nat) (c:List Xw):Xv:=yai a b c .skip
abbrev yam (a:Nat) (b c:Xv):Xv:= .seq (.block a b) c
abbrev yan (a:Nat) (b:AX):AOp:= .load false a b
abbrev yao (a:Nat) (b:Bool):Xw:=xC a (.bool b)
abbrev yap (a:Int):AX:= .c (yae a)
abbrev yaq (a b:Nat) (c:AOp):Xw:=xG a b true c
abbrev yar (a:BinOp) (b:Nat) (c:AX):AOp:= .bin a (.t b) c
abbrev yas (a:Nat) (b:List AV):Xw:=xO a (.alloc b)
abbrev yat (a:Nat) (b:Xv) (c:Nat):Xv:=yab a b (.exit c)
abbrev yau (a b:Nat):AOp:=yan a (.t b)
abbrev yav (a:Nat):Xw:=yao a false
abbrev yaw (a b:Nat) (c:List AX):Xw:=xO a (.tcall b c)
abbrev yax (a:Nat):AOp:= .mov (.t a)
abbrev yay (a:List Xw) (b:Nat) (c:Xv):Xv:=yaa a (yak b c)
abbrev yaz (a:Nat):AOp:= .nilchk (.t a)
abbrev ya0 (a b c d:Nat):Xw:=yad a b (yaj c d)
abbrev ya1 (a b c d:Nat):Xw:=yad a b (yau c d)
abbrev ya2 (a b:Nat):Xv:=yat a .skip b
abbrev ya3 (a:Nat) (b:Xv) (c:List Xw):Xv:=yam a b (xR c)
abbrev ya4 (a:List Xw) (b c:Nat) (d:Xv):Xv:=yag a (ya2 b c) d
abbrev ya5 (a:List Xw) (b c d:Nat) (e:Xv) (f:List Xw):Xv:=ya4 a b c (ya3 d e f)
abbrev ya6 (a b:Nat) (c:BinOp) (d:Nat) (e:AX):Xw:=yad a b (yar c d e)
abbrev ya7 (a b:List Xw) (c:Nat) (d:List Xw) (e:Xv):Xv:=yag a (yal b c d) e
abbrev ya8 (a b c:Nat):Xw:=yad a b (yax c)
abbrev ya9 (a:Nat):AOp:= .len (.t a)
abbrev yba:AV:=yae 0
abbrev ybb (a:SM) (b c d:Nat) (e:AX):AOp:= .append a b c (.t d) e
abbrev ybc (a b:List Xw) (c:Xv):Xv:=yaa a (yaa b c)
abbrev ybd (a:AX):AOp:= .un .not a
abbrev ybe (a:Nat):AOp:=ybd (.t a)
abbrev ybf (a b c d:Nat):Xw:=yaq a b (yaj c d)
abbrev ybg (a b:List Xw) (c:Nat) (d e:Xv):Xv:=yag a (yay b c d) e
abbrev ybh (a:Nat):Xw:=xI a 0
abbrev ybi (a b:Nat) (c d:AX):Xw:=yaf a b [c,d]
abbrev ybj (a b c:Nat) (d:AX):Xw:=ybi a b (.t c) d
abbrev ybk (a b c d:Nat):Xw:=ybj a b c (.t d)
abbrev ybl (a b c:Nat):Xw:=yad a b (ya9 c)
abbrev ybm (a:List Xw) (b:List Nat) (c:Xv):Xv:= .seq (xQ a b) c
abbrev ybn (a:List Xw) (b:Nat) (c:List Xw) (d:Xv):Xv:= .seq (yal a b c) d
abbrev ybo (a b:Nat) (c:BinOp) (d:Nat) (e:Int):Xw:=ya6 a b c d (yap e)
abbrev ybp (a b:List Xw):Xv:=yaa a (yac b)
abbrev ybq (a:List Xw) (b:Nat) (c d:Xv):Xv:= .seq (yay a b c) d
abbrev ybr (a b:Nat):Xw:=xO a (yaz b)
abbrev ybs (a:List Xw) (b:Nat) (c:Xv):Xv:=yah a b .skip c
abbrev ybt (a:Nat):Xw:=xM a 0
abbrev ybu (a:IntKind) (b:Nat):AOp:= .conv a (.t b)
abbrev ybv (a b c d:Nat):Xw:=yaq a b (yau c d)
abbrev ybw (a b:Nat):Xw:=xO a (ybe b)
abbrev ybx (a:Nat):AOp:= .box (.t a)
abbrev yby (a:Int):AV:= .int .u32 a
abbrev ybz (a b c:Nat):Xw:=yaq a b (yax c)
abbrev yb0 (a:List Xw) (b c d:Nat) (e:Xv) (f g:Xw):Xv:=ya5 a b c d e [f,g]
abbrev yb1 (a:List Xw) (b c d:Nat) (e:Xv) (f:Xw) (g h:Nat):Xv:=yb0 a b c d e f (xM g h)
abbrev yb2 (a:List Xw) (b c d:Nat) (e:Xv) (f:Nat) (g:BinOp) (h:Nat) (i:Int) (j k:Nat):Xv:=yb1 a b c d e (xK f g h i) j k
abbrev yb3 (a b:Nat) (c:AX):Xw:=yaf a b [c]
abbrev yb4 (a b c:Nat):Xw:=yb3 a b (.t c)
abbrev yb5 (a:List Xw) (b:Nat) (c d:Xv):Xv:= .seq (ybs a b c) d
abbrev yb6 (a b:Nat) (c:BinOp) (d:Nat) (e:AX):Xw:=yaq a b (yar c d e)
abbrev yb7 (a:Nat) (b:List AX):AOp:= .pcallv (.t a) b
abbrev yb8 (a:Nat) (b:Option Nat) (c:Nat) (d:AX):AOp:= .iaddr a b (.t c) d
abbrev yb9 (a b:Xw):Xv:=yac [a,b]
abbrev yca (a b:Nat):Xw:=xO a (ybx b)
abbrev ycb (a:Nat):Xw:=yao a true
abbrev ycc (a:Xw) (b c:Nat):Xv:=yb9 a (xM b c)
abbrev ycd (a:SM) (b c d e:Nat):AOp:=ybb a b c d (.t e)
abbrev yce (a:Nat):Xw:=xM a 1
abbrev ycf (a:List Xw) (b:Nat) (c:Xv):Xv:=yah a b c .skip
abbrev ycg (a b c:Nat):Xw:=ya1 a b 1 c
abbrev ych (a b:List Xw) (c:Nat) (d:List Xw):Xv:=yaa a (yal b c d)
abbrev yci (a:Nat) (b:SM) (c d e f:Nat):Xw:=xO a (ycd b c d e f)
abbrev ycj:Xw:=ybh 4
abbrev yck (a b:Nat):Xw:=xO a (.nilapp b)
abbrev ycl (a:Nat) (b:IntKind) (c:Nat):Xw:=xO a (ybu b c)
abbrev ycm (a:List Xw) (b c:Nat) (d:Xv):Xv:=yb5 a b (.exit c) d
abbrev ycn (a b c:Nat) (d:List AX):Xw:=yaq a b (.pcall c d)
abbrev yco (a b c d:Nat):Xv:=ycc (xM a b) c d
abbrev ycp (a b:Nat):Xw:=xF a 0 b
abbrev ycq (a b c:List Xw) (d:Nat) (e f:Xv):Xv:=yaa a (ybg b c d e f)
abbrev ycr (a b:Nat):Xw:=xF a 1 b
def f_8:Nat:=8
def f_12:Nat:=12
def f_13:Nat:=13
def f_17:Nat:=17
def f_18:Nat:=18
def f_19:Nat:=19
def f_20:Nat:=20
def f_21:Nat:=21
def f_22:Nat:=22
def f_23:Nat:=23
def f_24:Nat:=24
def f_29:Nat:=29
def f_31:Nat:=31
def f_32:Nat:=32
def f_38:Nat:=38
def f_41:Nat:=41
def f_42:Nat:=42
def f_43:Nat:=43
def f_44:Nat:=44
def f_45:Nat:=45
def f_52:Nat:=52
def f_53:Nat:=53
def f_54:Nat:=54
def f_55:Nat:=55
def f_57:Nat:=57
def f_58:Nat:=58
def f_59:Nat:=59
def f_60:Nat:=60
def f_61:Nat:=61
def f_62:Nat:=62
def f_63:Nat:=63
def f_64:Nat:=64
def f_68:Nat:=68
def f_70:Nat:=70
def f_71:Nat:=71
def f_72:Nat:=72
def f_73:Nat:=73
def f_74:Nat:=74
def f_75:Nat:=75
def f_76:Nat:=76
def f_77:Nat:=77
def f_78:Nat:=78
def f_79:Nat:=79
def f_80:Nat:=80
def f_84:Nat:=84
def f_85:Nat:=85
def f_87:Nat:=87
def f_88:Nat:=88
def f_89:Nat:=89
def f_90:Nat:=90
def f_91:Nat:=91
def f_92:Nat:=92
def f_93:Nat:=93
def f_94:Nat:=94
def f_95:Nat:=95
def f_96:Nat:=96
def f_98:Nat:=98
def f_99:Nat:=99
def f_100:Nat:=100
def f_101:Nat:=101
def f_102:Nat:=102
def f_103:Nat:=103
def f_104:Nat:=104
def f_105:Nat:=105
def f_106:Nat:=106
def f_107:Nat:=107
def f_108:Nat:=108
def f_109:Nat:=109
def f_110:Nat:=110
def f_111:Nat:=111
def f_112:Nat:=112
def f_113:Nat:=113
def f_114:Nat:=114
def f_115:Nat:=115
def f_116:Nat:=116
def f_117:Nat:=117
def f_118:Nat:=118
def f_119:Nat:=119
def f_120:Nat:=120
def f_122:Nat:=122
def f_123:Nat:=123
def f_124:Nat:=124
def f_125:Nat:=125
def f_126:Nat:=126
def f_127:Nat:=127
def f_128:Nat:=128
def f_129:Nat:=129
def f_130:Nat:=130
def f_138:Nat:=138
def f_147:Nat:=147
def f_148:Nat:=148
def f_149:Nat:=149
def f_150:Nat:=150
def f_152:Nat:=152
def f_153:Nat:=153
def f_154:Nat:=154
def f_155:Nat:=155
def f_156:Nat:=156
def f_157:Nat:=157
def f_158:Nat:=158
def f_159:Nat:=159
def f_160:Nat:=160
def f_161:Nat:=161
def f_162:Nat:=162
def f_163:Nat:=163
def f_164:Nat:=164
def f_165:Nat:=165
def f_166:Nat:=166
def f_167:Nat:=167
def f_168:Nat:=168
def f_169:Nat:=169
def f_170:Nat:=170
def f_171:Nat:=171
def f_172:Nat:=172
def f_173:Nat:=173
def f_174:Nat:=174
def f_175:Nat:=175
def f_176:Nat:=176
def f_177:Nat:=177
def f_178:Nat:=178
def f_179:Nat:=179
def f_180:Nat:=180
def f_181:Nat:=181
def f_182:Nat:=182
def f_183:Nat:=183
def f_184:Nat:=184
def f_185:Nat:=185
def f_186:Nat:=186
def f_187:Nat:=187
def f_188:Nat:=188
def f_189:Nat:=189
def f_190:Nat:=190
def f_191:Nat:=191
def f_192:Nat:=192
def f_193:Nat:=193
def f_194:Nat:=194
def f_195:Nat:=195
def f_210:Nat:=210
def f_211:Nat:=211
def f_215:Nat:=215
def f_216:Nat:=216
def f_217:Nat:=217
def f_218:Nat:=218
def f_219:Nat:=219
def f_220:Nat:=220
def f_221:Nat:=221
def f_222:Nat:=222
def f_223:Nat:=223
def f_224:Nat:=224
def f_225:Nat:=225
def f_226:Nat:=226
def f_227:Nat:=227
def f_228:Nat:=228
def f_229:Nat:=229
def f_230:Nat:=230
def f_231:Nat:=231
def f_232:Nat:=232
def f_233:Nat:=233
def f_234:Nat:=234
def f_235:Nat:=235
def f_236:Nat:=236
def f_237:Nat:=237
def f_238:Nat:=238
def f_239:Nat:=239
def f_240:Nat:=240
def f_252:Nat:=252
def f_257:Nat:=257
def f_258:Nat:=258
def f_259:Nat:=259
def f_260:Nat:=260
def f_261:Nat:=261
def f_262:Nat:=262
def f_263:Nat:=263
def f_264:Nat:=264
def f_265:Nat:=265
def f_266:Nat:=266
def f_267:Nat:=267
def f_268:Nat:=268
def f_269:Nat:=269
def f_270:Nat:=270
def f_271:Nat:=271
def f_272:Nat:=272
def f_273:Nat:=273
def f_274:Nat:=274
def f_275:Nat:=275
def f_276:Nat:=276
def f_277:Nat:=277
def f_278:Nat:=278
def f_279:Nat:=279
def f_297:Nat:=297
def f_298:Nat:=298
def f_299:Nat:=299
def f_300:Nat:=300
def f_301:Nat:=301
def f_302:Nat:=302
def f_305:Nat:=305
def f_309:Nat:=309
def f_310:Nat:=310
def f_311:Nat:=311
def f_312:Nat:=312
def f_320:Nat:=320
def f_321:Nat:=321
def c_8_l0:Xv:=ycm [xM 44 11,yce 45,xN 46 45,xB 47 .lss 44 46] 47 0 (ya3 1 (yaa [xM 51 7,yce 52,xM 53 11,xX 54 1 52 53,xL 55 54,yaw 56 f_20 [.t 51,.t 55],xM 50 56,xE 57 0 50,xE 58 1 50,xE 59 2 50,xM 12 57,xM 13 58,xM 14 59] (ycf [xM 60 14,xK 61 .eql 60 0] 61 (yaa [xM 62 10,xM 63 7,yaw 64 f_31 [.t 63],xO 65 (.bslice .row 4 (List.replicate 1 [.Xu 1 [],.Xu 1 [],.Xu 2 [],.Xu 1 []]) [(0,(.t 64))]),yci 66 .row 4 96 62 65,xM 10 66] (xR [xM 67 9,xM 68 7,yaw 69 f_21 [.t 68],xN 70 69,xO 71 (.bslice .imm 1 (List.replicate 1 [.int .i64 0]) [(0,(.t 70))]),yci 72 .app 1 8 67 71,xM 9 72])))) [xM 48 11,xK 49 .add 48 1,xM 11 49])
def c_8_l1:Xv:=ycm [xM 92 17,xK 93 .add 92 1,xM 94 9,xN 95 94,xB 96 .lss 93 95,xM 97 96,ybz 98 97 9,ybz 99 97 17,yb6 100 97 .add 99 (yap 1),yaq 101 97 (yb8 1 none 98 (.t 100)),ybv 102 97 1 101,ybz 103 97 16,yb6 104 97 .leq 102 (.t 103),xV 105 97 104] 105 2 (.block 3 (xR [xM 106 17,xK 107 .add 106 1,xM 17 107]))
def c_8_k2:Xv:= .seq (xD [xA 109 9 3,xM 110 15,xM 111 16,xO 112 (.slc 1 (.t 110) none (some (.t 111)) none),yaw 113 f_29 [.t 109,.t 112],xM 108 113,xE 114 0 108,xE 115 1 108,xE 116 2 108,xM 18 114,xM 19 115,xM 20 116]) (.seq (.seq (.region true [(22,26),(32,38),(32,40)] [⟨some 117,none,.mov (.t 20)⟩,⟨some 118,none,.bin .neq (.t 117) (.c (.int .i64 0))⟩,⟨some 119,none,.mov (.t 118)⟩,⟨some 120,some (119,false),.mov (.t 18)⟩,⟨some 121,some (119,false),.eqn false (.t 120) (.c (.nilptr))⟩,⟨some 122,none,.pick (.t 119) (.c (.bool true)) (.t 121)⟩,⟨some 123,none,.mov (.t 122)⟩,⟨some 124,some (123,false),.mov (.t 19)⟩,⟨some 125,some (123,false),.mov (.t 9)⟩,⟨some 126,some (123,false),.mov (.t 17)⟩,⟨some 127,some (123,false),.iaddr 1 none (.t 125) (.t 126)⟩,⟨some 128,some (123,false),.load false 1 (.t 127)⟩,⟨some 129,some (123,false),.bin .neq (.t 124) (.t 128)⟩,⟨some 130,none,.pick (.t 123) (.c (.bool true)) (.t 129)⟩,⟨some 131,none,.mov (.t 130)⟩,⟨some 132,some (131,false),.mov (.t 18)⟩,⟨some 133,some (131,false),.tcall f_22 [.t 132]⟩,⟨some 134,some (131,false),.mov (.t 17)⟩,⟨some 135,some (131,false),.bin .neq (.t 133) (.t 134)⟩,⟨some 136,none,.pick (.t 131) (.c (.bool true)) (.t 135)⟩,⟨some 137,none,.mov (.t 136)⟩,⟨some 138,some (137,false),.mov (.t 18)⟩,⟨some 139,some (137,false),.tcall f_31 [.t 138]⟩,⟨some 140,some (137,false),.mov (.t 10)⟩,⟨some 141,some (137,false),.mov (.t 17)⟩,⟨some 142,some (137,false),.iaddr 4 none (.t 140) (.t 141)⟩,⟨some 143,some (137,false),.load true 4 (.t 142)⟩,⟨some 144,some (137,false),.pcall f_32 [.t 139,.t 143]⟩,⟨some 145,some (137,false),.un .not (.t 144)⟩,⟨some 146,none,.pick (.t 137) (.c (.bool true)) (.t 145)⟩,⟨some 147,none,.mov (.t 146)⟩,⟨some 148,some (147,false),.mov (.t 18)⟩,⟨some 149,some (147,false),.tcall f_21 [.t 148]⟩,⟨some 150,some (147,false),.b2s (.t 149)⟩,⟨some 151,some (147,false),.mov (.t 15)⟩,⟨some 152,some (147,false),.mov (.t 9)⟩,⟨some 153,some (147,false),.mov (.t 17)⟩,⟨some 154,some (147,false),.iaddr 1 none (.t 152) (.t 153)⟩,⟨some 155,some (147,false),.load false 1 (.t 154)⟩,⟨some 156,some (147,false),.slc 1 (.t 151) none (some (.t 155)) none⟩,⟨some 157,some (147,false),.b2s (.t 156)⟩,⟨some 158,some (147,false),.bin .neq (.t 150) (.t 157)⟩,⟨some 159,none,.pick (.t 147) (.c (.bool true)) (.t 158)⟩] none) (yab 159 (yac [yav 6]) .skip)) (yag [xM 161 18,yaw 162 f_20 [.t 161,.c (.Xu 9 [])],xM 160 162,xE 163 0 160,xE 164 1 160,xE 165 2 160,xM 20 165] (.region true [(0,2)] [⟨some 167,none,.load true 9 (.t 3)⟩,⟨some 168,none,.mov (.t 18)⟩,⟨some 169,none,.tcall f_21 [.t 168]⟩,⟨some 170,none,.tcall f_29 [.t 167,.t 169]⟩,⟨some 166,none,.mov (.t 170)⟩,⟨some 171,none,.ext 0 (.t 166)⟩,⟨some 172,none,.ext 1 (.t 166)⟩,⟨some 173,none,.ext 2 (.t 166)⟩,⟨some 21,none,.mov (.t 171)⟩,⟨some 19,none,.mov (.t 172)⟩,⟨some 22,none,.mov (.t 173)⟩] none) (.seq (.region true [(26,30)] [⟨some 174,none,.mov (.t 20)⟩,⟨some 175,none,.bin .eql (.t 174) (.c (.int .i64 0))⟩,⟨some 176,none,.mov (.t 175)⟩,⟨some 177,some (176,true),.mov (.t 22)⟩,⟨some 178,some (176,true),.bin .eql (.t 177) (.c (.int .i64 0))⟩,⟨some 179,none,.pick (.t 176) (.t 178) (.c (.bool false))⟩,⟨some 180,none,.mov (.t 179)⟩,⟨some 181,some (180,true),.mov (.t 21)⟩,⟨some 182,some (180,true),.eqn true (.t 181) (.c (.nilptr))⟩,⟨some 183,none,.pick (.t 180) (.t 182) (.c (.bool false))⟩,⟨some 184,none,.mov (.t 183)⟩,⟨some 185,some (184,true),.mov (.t 19)⟩,⟨some 186,some (184,true),.mov (.t 18)⟩,⟨some 187,some (184,true),.tcall f_21 [.t 186]⟩,⟨some 188,some (184,true),.len (.t 187)⟩,⟨some 189,some (184,true),.bin .eql (.t 185) (.t 188)⟩,⟨some 190,none,.pick (.t 184) (.t 189) (.c (.bool false))⟩,⟨some 191,none,.mov (.t 190)⟩,⟨some 192,some (191,true),.mov (.t 21)⟩,⟨some 193,some (191,true),.tcall f_22 [.t 192]⟩,⟨some 194,some (191,true),.mov (.t 17)⟩,⟨some 195,some (191,true),.bin .add (.t 194) (.c (.int .i64 1))⟩,⟨some 196,some (191,true),.bin .eql (.t 193) (.t 195)⟩,⟨some 197,none,.pick (.t 191) (.t 196) (.c (.bool false))⟩,⟨some 198,none,.mov (.t 197)⟩,⟨some 199,some (198,true),.mov (.t 21)⟩,⟨some 200,some (198,true),.tcall f_31 [.t 199]⟩,⟨some 201,some (198,true),.mov (.t 10)⟩,⟨some 202,some (198,true),.mov (.t 17)⟩,⟨some 203,some (198,true),.iaddr 4 none (.t 201) (.t 202)⟩,⟨some 204,some (198,true),.load true 4 (.t 203)⟩,⟨some 205,some (198,true),.pcall f_32 [.t 200,.t 204]⟩,⟨some 206,none,.pick (.t 198) (.t 205) (.c (.bool false))⟩,⟨some 207,none,.mov (.t 206)⟩,⟨some 208,some (207,true),.pcall f_19 []⟩,⟨some 209,none,.pick (.t 207) (.t 208) (.c (.bool false))⟩,⟨some 6,none,.mov (.t 209)⟩] none) .ret)))
def c_8_k3:Xv:=ya7 [xM 73 7,yaw 74 f_21 [.t 73],xM 15 74] [xM 75 15,xN 76 75,xM 77 9,xM 78 9,xN 79 78,xK 80 .sub 79 1,xX 81 1 77 80,xL 82 81,xB 83 .neq 76 82] 83 [yav 6] (yaa [xM 84 2,ycl 85 .u64 84,xM 86 15,xN 87 86,xK 88 .add 87 1,ycl 89 .u64 88,xB 90 .rem 85 89,ycl 91 .i64 90,xM 16 91] (yag [ybh 17] (yak 2 c_8_l1) c_8_k2))
def c_8:AFn:=⟨3,[.tmp 6],yaa [xJ 3 0,yav 6] (ya7 [xA 24 9 3,yaw 25 f_17 [.t 24],xM 23 25,xE 26 0 23,xE 27 1 23,xM 7 26,xM 8 27] [xA 28 9 3,yce 29,ybk 30 f_18 28 29,xM 31 30,ya8 32 31 8,ybo 33 31 .neq 32 0,xW 34 31 33] 34 [yaf 35 f_19 [],xM 6 35] (yaa [yck 9 1] (ybc [xC 10 (.Xu 4 [])] [xM 36 10,xM 37 7,yaw 38 f_31 [.t 37],xO 39 (.bslice .row 4 (List.replicate 1 [.Xu 1 [],.Xu 1 [],.Xu 2 [],.Xu 1 []]) [(0,(.t 38))]),yci 40 .row 4 96 36 39,xM 10 40] (ybg [xM 41 9,xO 42 (.bslice .imm 1 (List.replicate 1 [.int .i64 0]) [(0,(.c (.int .i64 0)))]),yci 43 .app 1 8 41 42,xM 9 43] [ybh 11] 0 c_8_l0 c_8_k3))))⟩
def c_12:AFn:=⟨3,[.cell 6 true 4,.tmp 7,.tmp 8,.tmp 9],yaa [xJ 3 0,xJ 4 1,yas 6 [.Xu 1 [],.Xu 1 [],.Xu 2 [],.Xu 1 []],xC 7 (.Xu 1 []),ybh 8,ybh 9] (ya7 [xA 12 9 3,xA 13 4 4,yaw 14 f_41 [.t 12,.t 13],xM 11 14,xE 15 0 11,xE 16 1 11,xM 10 15,xM 9 16] [xM 17 9,xK 18 .neq 17 0] 18 [xO 19 (.build [.Xu 1 [],.Xu 1 [],.Xu 2 [],.Xu 1 []] []),xM 20 9,xS 4 6 19,xC 7 (.Xu 1 []),xI 8 (-1),xM 9 20] (ya7 [xM 22 10,xM 23 2,yaw 24 f_42 [.t 22,.t 23],xM 21 24,xE 25 0 21,xE 26 1 21,xE 27 2 21,xM 7 25,xM 8 26,xM 9 27] [xM 28 9,xK 29 .neq 28 0] 29 [xO 30 (.build [.Xu 1 [],.Xu 1 [],.Xu 2 [],.Xu 1 []] []),xM 31 8,xM 32 9,xS 4 6 30,xC 7 (.Xu 1 []),xM 8 31,xM 9 32] (yac [xM 33 10,yaw 34 f_43 [.t 33],xM 35 7,xS 4 6 34,xM 7 35,ybh 8,ybh 9])))⟩
def c_17:AFn:=⟨1,[.tmp 2,.tmp 3],yag [yca 1 0,xC 2 .nilptr,ybh 3] (ych [xA 5 9 1,yb4 6 f_52 5,xO 7 (.fld false 0 1 (.t 6)),xM 4 7] [xM 8 4,xK 9 .neq 8 0] 9 [xM 10 4,xC 2 .nilptr,xM 3 10]) (.seq (xD [xA 11 9 1,yb4 12 f_53 11,xA 13 9 1,yb4 14 f_38 13,xO 15 (.build [.bool false,.str [],.Xu 2 [],.Xu 2 [],.Xu 3 [],.Xu 3 [],.Xu 6 [],.Xu 7 [],.Xu 5 [],.Xu 1 [],.Xu 1 [],.Xu 1 [],.Xu 2 [],.Xu 1 [],.Xu 1 [],.int .i64 0] [(0,1,(.c (.bool true))),(1,9,(.t 12)),(10,4,(.t 14))]),yca 16 15,xM 2 16,ybh 3]) .ret)⟩
def c_18_l0:Xv:=ycm [xM 13 5,yce 14,xN 15 14,xB 16 .lss 13 15] 16 0 (ya3 1 (yal [yce 19,xM 20 5,xX 21 1 19 20,xL 22 21,yb4 23 f_55 22] 23 [ycb 4]) [xM 17 5,xK 18 .add 17 1,xM 5 18])
def c_18_k1:Xv:=yac [yav 4]
def c_18:AFn:=⟨2,[.tmp 4],ya7 [xJ 2 0,yav 4] [xA 6 9 2,yb4 7 f_54 6,xM 8 7,ya8 9 8 1,ybl 10 8 9,ybo 11 8 .gtr 10 12,xW 12 8 11] 12 [ycb 4] (ybq [ybh 5] 0 c_18_l0 c_18_k1)⟩
def c_20:ADFn:=⟨2,[.tmp 4,.tmp 5,.cell 6 false 1],.seq (xR [xO 2 (.box (.t 0)),xC 4 (.Xu 1 []),xI 5 0,xO 6 (.alloc [.int .i64 0])]) (.seq (.seq (xR [xL 8 2,xO 9 (.eqn false (.t 8) (.c (.nilptr))),xM 10 9,xG 11 10 false (.load false 1 (.t 2)),xG 12 10 false (.nilchk (.t 11)),xG 13 10 false (.faddr 0 (.t 12)),xG 14 10 false (.load false 1 (.t 13)),xG 15 10 false (.un .not (.t 14)),xW 16 10 15]) (.cond (.t 16) (.seq (xR [xC 4 (.Xu 1 []),xI 5 0,⟨none,none,.store 1 (.t 6) (.c (.int .i64 1))⟩]) (.ret)) (.skip))) (.seq (xR [xL 17 2,xO 18 (.nilchk (.t 17)),xF 19 10 18,xA 20 4 19,xO 7 (.alloc [.Xu 1 [],.Xu 1 [],.Xu 2 [],.Xu 1 []]),xS 4 7 20]) (.dfr [⟨some 21,none,.mkfunc (.func f_58) [] [.t 6,.t 7,.t 2]⟩] 21 (.seq (xD [xL 23 2,xL 24 2,xO 25 (.nilchk (.t 24)),xF 26 1 25,xA 27 9 26,xL 28 2,xO 29 (.nilchk (.t 28)),xF 30 10 29,xA 31 4 30,xM 32 1,xO 33 (.pcall f_12 [.t 27,.t 31,.t 32]),xM 22 33,xE 34 0 22,xE 35 1 22,xE 36 2 22,xE 37 3 22,xO 38 (.nilchk (.t 23)),xF 39 10 38,xS 4 39 34,xM 4 35,xM 5 36,xS 1 6 37]) (.seq (.seq (xR [xL 40 6,xK 41 .neq 40 0]) (.cond (.t 41) (.seq (xD [xM 42 5,xL 43 6,xC 4 (.Xu 1 []),xM 5 42,xS 1 6 43]) (.ret)) (.skip))) (.seq (.region true [(0,8)] [⟨some 44,none,.load false 1 (.t 2)⟩,⟨some 45,none,.load false 1 (.t 2)⟩,⟨some 46,none,.nilchk (.t 45)⟩,⟨some 47,none,.faddr 14 (.t 46)⟩,⟨some 48,none,.load false 1 (.t 47)⟩,⟨some 49,none,.mov (.t 1)⟩,⟨some 50,none,.pcall f_24 [.t 49]⟩,⟨some 51,none,.pcall f_59 [.t 50]⟩,⟨some 52,none,.append .app 1 1 (.t 48) (.t 51)⟩,⟨some 53,none,.nilchk (.t 44)⟩,⟨some 54,none,.faddr 14 (.t 53)⟩,⟨none,none,.store 1 (.t 54) (.t 52)⟩] none) (.seq (xR [xL 55 2,xO 56 (.nilchk (.t 55)),xF 57 15 56,xL 58 57,xK 59 .add 58 1,xO 60 (.nilchk (.t 55)),xF 61 15 60,xS 1 61 59]) (.seq (xR [xM 62 4,xM 4 62,xI 5 0,⟨none,none,.store 1 (.t 6) (.c (.int .i64 0))⟩]) (.ret))))))))),f_58,3,none,.seq (xR [xL 3 0,xK 4 .neq 3 0]) (.cond (.t 4) (xR [xL 5 2,xA 6 4 1,xO 7 (.nilchk (.t 5)),xF 8 10 7,xS 4 8 6]) (.skip))⟩
def c_21:AFn:=⟨1,[.tmp 2],ya7 [xC 2 (.Xu 1 [])] [ybt 4,xO 5 (.eqn false (.t 4) (.c .nilptr))] 5 [xC 2 (.Xu 1 [])] (yag [ybt 6,ybr 7 6,xF 8 14 7,xL 9 8,xN 10 9,xO 11 (.mkslice .row 1 1 [.int .u8 0] (.t 10) (.t 10)),xM 3 11] (xQ [xM 12 3,ybt 13,ybr 14 13,xF 15 14 14,xL 16 15,xO 17 (.copy 1 (.t 12) (.t 16))] [3]) (yco 18 3 2 18))⟩
def c_22:AFn:=⟨1,[.tmp 2],ya7 [ybh 2] [ybt 3,xO 4 (.eqn false (.t 3) (.c .nilptr))] 4 [ybh 2] (yac [ybt 5,ybr 6 5,xF 7 15 6,xL 8 7,xM 2 8])⟩
def c_23:AFn:=⟨1,[.tmp 2,.tmp 3,.tmp 4],ya7 [xC 2 (.Xu 1 []),ybh 3,ycj] [ybt 7,xN 8 7,xK 9 .lss 8 8] 9 [xC 2 (.Xu 1 []),ybh 3,xI 4 3] (ya7 [ybt 10,yb4 11 f_60 10,ycl 12 .u64 11,xM 5 12] [ybt 13,xN 14 13,ycl 15 .u64 14,xO 16 (yar .sub 15 (.c (.int .u64 8))),xM 17 5,xB 18 .lss 16 17] 18 [xC 2 (.Xu 1 []),ybh 3,xI 4 3] (yag [xM 19 5,ycl 20 .i64 19,xO 21 (.bin .add (yap 4) (.t 20)),xM 6 21] (.seq (xD [ybt 22,xM 23 6,xO 24 (.slc 1 (.t 22) none (some (.t 23)) none),yb4 25 f_61 24,ybt 26,xM 27 6,xO 28 (.slc 1 (.t 26) (some (.t 27)) none none),yb4 29 f_60 28,xB 30 .neq 25 29]) (yab 30 (yac [xC 2 (.Xu 1 []),ybh 3,xI 4 24]) .skip)) (yac [ybt 31,xM 32 6,xO 33 (.slc 1 (.t 31) (some (.c (.int .i64 4))) (some (.t 32)) none),yb4 34 f_62 33,xM 35 6,xK 36 .add 35 4,xM 2 34,xM 3 36,ycj])))⟩
def c_24_l0:Xv:=yb2 [xB 16 .lss 15 14] 16 0 1 (ya7 [xX 17 9 13 15,xA 18 9 17,yas 5 [yba,yba,yba,.Xu 2 [],yba,yba,.Xu 1 [],yba,.Xu 1 []],xS 9 5 18] [xA 19 9 5,yb4 20 f_63 19,ybw 21 20] 21 [xC 2 (.Xu 1 [])] (xR [xM 22 3,xA 23 9 5,yaw 24 f_64 [.t 22,.t 23],xM 3 24])) 25 .add 15 1 15 25
def c_24_k1:Xv:=yco 26 3 2 26
def c_24:AFn:=⟨1,[.tmp 2],ya7 [xC 2 (.Xu 1 [])] [ybt 6,xN 7 6,xK 8 .gtr 7 64] 8 [xC 2 (.Xu 1 [])] (ybg [ybt 9,xN 10 9,ycl 11 .u8 10,xO 12 (.bslice .imm 1 (List.replicate 1 [.int .u8 0]) [(0,(.t 11))]),xM 3 12] [ybt 13,xN 14 13,ybh 15] 0 c_24_l0 c_24_k1)⟩
def c_29_l0:Xv:=ycm [xM 19 5,yce 20,xN 21 20,xB 22 .lss 19 21] 22 0 (.block 1 (yag [yce 24,xM 25 5,xO 26 (.slc 1 (.t 24) (some (.t 25)) none none),yb4 27 f_23 26,xM 23 27,xE 28 0 23,xE 29 1 23,xE 30 2 23,xM 7 28,xM 8 29,xM 9 30] (ycf [xM 31 9,xK 32 .neq 31 0] 32 (.exit 0)) (.seq (ych [xM 33 4,xM 34 7,yaw 35 f_70 [.t 33,.t 34],xM 10 35] [xM 36 10,xK 37 .neq 36 0] 37 [xM 38 5,xM 39 10,xC 4 .nilptr,xM 5 38,xM 6 39]) (xR [xM 40 5,xM 41 8,xB 42 .add 40 41,xM 5 42]))))
def c_29_k1:Xv:=yac [xM 43 4,xM 44 5,xM 4 43,xM 5 44,ybh 6]
def c_29:AFn:=⟨2,[.tmp 4,.tmp 5,.tmp 6],yaa [yca 2 0,xC 4 .nilptr,ybh 5,ybh 6] (ya7 [xA 12 9 2,yaw 13 f_17 [.t 12],xM 11 13,xE 14 0 11,xE 15 1 11,xM 4 14,xM 6 15] [xM 16 6,xK 17 .neq 16 0] 17 [xM 18 6,xC 4 .nilptr,ybh 5,xM 6 18] (.seq (yak 0 c_29_l0) c_29_k1))⟩
def c_31:AFn:=⟨1,[.cell 2 true 4],ya7 [yas 2 [.Xu 1 [],.Xu 1 [],.Xu 2 [],.Xu 1 []]] [ybt 5,xO 6 (.eqn false (.t 5) (.c .nilptr)),xM 7 6,ya8 8 7 0,yad 9 7 (yaz 8),ya0 10 7 0 9,ycg 11 7 10,yad 12 7 (ybe 11),xW 13 7 12] 13 [xO 14 (.build [.Xu 1 [],.Xu 1 [],.Xu 2 [],.Xu 1 []] []),xS 4 2 14] (.seq (xD [ybt 16,ybr 17 16,ycr 18 17,xA 19 9 18,ybt 20,ybr 21 20,xF 22 10 21,xA 23 4 22,yaw 24 f_41 [.t 19,.t 23],xM 15 24,xE 25 0 15,xE 26 1 15,xM 3 25,xM 4 26]) (ybn [xM 27 4,xK 28 .neq 27 0] 28 [xO 29 (.build [.Xu 1 [],.Xu 1 [],.Xu 2 [],.Xu 1 []] []),xS 4 2 29] (yac [xM 30 3,yaw 31 f_43 [.t 30],xS 4 2 31])))⟩
def c_32:AFn:=⟨2,[.tmp 4],ybp [yca 2 0,yca 3 1,yav 4] [ycp 5 2,xL 6 5,ycp 7 3,xL 8 7,yaf 9 f_73 [.t 6,.t 8,.c (.func (.func f_74) [] [])],xM 10 9,ybf 11 10 1 2,ybv 12 10 1 11,ybf 13 10 1 3,ybv 14 10 1 13,ycn 15 10 f_75 [.t 12,.t 14],xV 16 10 15,xM 17 16,ybf 18 17 2 2,ybv 19 17 1 18,ybf 20 17 2 3,ybv 21 17 1 20,ycn 22 17 f_76 [.t 19,.t 21,.c (.func (.func f_77) [] [])],xV 23 17 22,xM 24 23,ybf 25 24 3 2,ybv 26 24 1 25,ybf 27 24 3 3,ybv 28 24 1 27,ycn 29 24 f_78 [.t 26,.t 28,.c (.func (.func f_79) [] [])],xV 30 24 29,xM 4 30]⟩
def c_38_l0:Xv:=yb2 [xB 13 .lss 12 11] 13 0 1 (ybm [xX 14 6 10 12,xA 15 6 14,yas 5 [.str [],.Xu 3 [],.Xu 1 [],yba,.Xu 1 [],yba],xS 6 5 15] [5] (ybc [ycp 16 3,xL 17 16,xO 18 (.bslice .imm 1 (List.replicate 1 [.Xu 5 []]) [(0,(.c (.Xu 5 [])))]),yci 19 .row 1 24 17 18,ycp 20 3,xS 1 20 19] [ycr 21 3,xL 22 21,xO 23 (.bslice .imm 1 (List.replicate 1 [.int .i64 0]) [(0,(.c (.int .i64 1)))]),yci 24 .row 1 8 22 23,ycr 25 3,xS 1 25 24] (xD [xF 26 2 3,xL 27 26,xF 28 3 5,xA 29 2 28,yb4 30 f_85 29,xO 31 (.bslice .imm 2 (List.replicate 1 [.int .i64 0,.Xu 1 []]) [(0,(.t 30))]),yci 32 .app 2 32 27 31,xF 33 2 3,xS 1 33 32]))) 34 .add 12 1 12 34
def c_38_k1:Xv:=yb9 (xA 35 4 3) (xS 4 2 35)
def c_38:AFn:=⟨1,[.cell 2 true 4],ycq [xJ 1 0,yas 2 [.Xu 1 [],.Xu 1 [],.Xu 2 [],.Xu 1 []]] [xA 6 9 1,yb4 7 f_84 6,xO 8 (.build [.Xu 1 [],.Xu 1 [],.Xu 2 [],.Xu 1 []] [(3,1,(.t 7))]),yas 3 [.Xu 1 [],.Xu 1 [],.Xu 2 [],.Xu 1 []],xS 4 3 8] [xF 9 5 1,xL 10 9,xN 11 10,ybh 12] 0 c_38_l0 c_38_k1⟩
def c_41:AFn:=⟨2,[.tmp 4,.tmp 5],yag [xJ 2 0,xJ 3 1,xC 4 .nilptr,ybh 5] (ych [xA 7 9 2,xA 8 4 3,ybk 9 f_87 7 8,xM 6 9] [xM 10 6,xK 11 .neq 10 0] 11 [xM 12 6,xC 4 .nilptr,xM 5 12]) (yac [xA 13 9 2,xA 14 4 3,yaw 15 f_88 [.t 13,.t 14],xM 4 15,ybh 5])⟩
def c_42_l0:Xv:=yb2 [xB 37 .lss 36 35] 37 0 1 (yaa [xM 38 36,xX 39 9 34 36,xA 40 9 39,yas 11 [yba,yba,yba,.Xu 2 [],yba,yba,.Xu 1 [],yba,.Xu 1 []],xM 10 38,xS 9 11 40] (ya7 [xL 42 2,xA 43 9 11,yaw 44 f_45 [.t 42,.t 43],xM 41 44,xE 45 0 41,xE 46 1 41,xM 12 45,xM 13 46] [xM 47 13,xK 48 .neq 47 0] 48 [xM 49 10,xM 50 13,xC 4 (.Xu 1 []),xM 5 49,xS 1 6 50] (xR [xM 51 9,xM 52 12,xO 53 (.bslice .imm 1 (List.replicate 1 [.int .i64 0]) [(0,(.t 52))]),yci 54 .app 1 8 51 53,xM 9 54]))) 55 .add 36 1 36 55
def c_42_k1:Xv:=yac [xM 56 9,xM 4 56,ybh 5,⟨none,none,.store 1 (.t 6) (.c (.int .i64 0))⟩]
def c_42:ADFn:=⟨2,[.tmp 4,.tmp 5,.cell 6 false 1],.seq (xR [xO 2 (.box (.t 0)),xC 4 (.Xu 1 []),xI 5 0,xO 6 (.alloc [.int .i64 0])]) (.seq (xR [xL 14 2,xO 15 (.tcall f_89 [.t 14]),xO 7 (.alloc [.nilptr]),xS 1 7 15]) (.seq (.seq (xR [xL 16 2,xO 17 (.build [.int .i64 0,.Xu 1 []] []),xO 18 (.tcall f_90 [.t 16,.c (.int .i64 (-1)),.c (.int .i64 0),.t 17]),xK 19 .eql 18 1,xM 20 19,xG 21 20 false (.load false 1 (.t 7)),xG 22 20 false (.eqn false (.t 21) (.c (.nilptr))),xW 23 20 22]) (.cond (.t 23) (.seq (xR [xC 4 (.Xu 1 []),xI 5 (-1),⟨none,none,.store 1 (.t 6) (.c (.int .i64 1))⟩]) (.ret)) (.skip))) (.seq (.seq (xR [xM 24 1,xN 25 24,xK 26 .gtr 25 64]) (.cond (.t 26) (.seq (xR [xC 4 (.Xu 1 []),xI 5 (-1),⟨none,none,.store 1 (.t 6) (.c (.int .i64 12))⟩]) (.ret)) (.skip))) (.dfr [⟨some 27,none,.mkfunc (.func f_91) [] [.t 6,.t 7,.t 2]⟩] 27 (.seq (xR [xM 28 1,xN 29 28,xO 30 (.mkslice .row 9 120 [.int .i64 0,.int .i64 0,.int .i64 0,.Xu 2 [],.int .i64 0,.int .i64 0,.Xu 1 [],.int .i64 0,.Xu 1 []] (.t 29) (.t 29)),xM 8 30]) (.seq (xR [xM 31 8,xM 32 1,xO 33 (.copy 9 (.t 31) (.t 32))]) (.seq (xR [xO 9 (.nilapp 1)]) (.seq (.seq (xR [xM 34 8,xN 35 34,xI 36 0]) (.block 0 (.loop c_42_l0))) c_42_k1)))))))),f_91,3,none,.seq (xR [xL 3 0,xK 4 .neq 3 0]) (.cond (.t 4) (xD [xL 5 2,xL 6 1,xO 7 (.nilchk (.t 6)),xA 8 15 7,xO 9 (.nilchk (.t 5)),xS 15 9 8]) (.skip))⟩
def c_43:AFn:=⟨1,[.cell 2 true 4],ya7 [yas 2 [.Xu 1 [],.Xu 1 [],.Xu 2 [],.Xu 1 []]] [ybt 3,xO 4 (.eqn false (.t 3) (.c .nilptr)),xM 5 4,ya8 6 5 0,yad 7 5 (yaz 6),ya0 8 5 14 7,ycg 9 5 8,yad 10 5 (ybe 9),xW 11 5 10] 11 [xO 12 (.build [.Xu 1 [],.Xu 1 [],.Xu 2 [],.Xu 1 []] []),xS 4 2 12] (yac [ybt 13,ybr 14 13,ycp 15 14,xA 16 4 15,yaw 17 f_92 [.t 16],xS 4 2 17])⟩
def c_45:AFn:=⟨2,[.tmp 4,.tmp 5],yag [yca 3 1,ycj,ybh 5] (yaa [ycp 6 3,xL 7 6] (.block 0 (yai [xK 9 .eql 7 1,xM 8 9] 8 [ybt 10,ycr 11 3,xL 12 11,xF 13 3 3,xA 14 4 13,yaw 15 f_93 [.t 10,.t 12,.t 14],xE 16 0 15,xE 17 1 15,xM 4 16,xM 5 17] (yai [xK 19 .eql 7 2,xM 18 19] 18 [ybt 20,ycr 21 3,xL 22 21,xF 23 2 3,xL 24 23,xF 25 7 3,xA 26 2 25,yaw 27 f_90 [.t 20,.t 22,.t 24,.t 26],ycj,xM 5 27] (yai [xK 29 .eql 7 3,xM 28 29] 28 [ybt 30,ycr 31 3,xL 32 31,xF 33 2 3,xL 34 33,yaw 35 f_94 [.t 30,.t 32,.t 34],ycj,xM 5 35] (yal [xK 37 .eql 7 4,xM 36 37] 36 [ybt 38,ycr 39 3,xL 40 39,xF 41 7 3,xA 42 2 41,yaw 43 f_95 [.t 38,.t 40,.t 42],ycj,xM 5 43])))))) (yb9 ycj (xI 5 11))⟩
def c_52:ADFn:=⟨1,[.cell 2 true 4],.seq (xR [xO 1 (.box (.t 0)),xO 2 (.alloc [.int .i64 0,.int .i64 0,.int .i64 0,.int .i64 0])]) (.dfr [⟨some 3,none,.mkfunc (.func f_98) [] [.t 2]⟩] 3 (.seq (xR [xA 4 9 1,xO 5 (.pcall f_99 [.t 4])]) (.seq (xR [xA 6 9 1,xO 7 (.pcall f_100 [.t 6])]) (.seq (xR [xA 8 9 1,xO 9 (.pcall f_101 [.t 8])]) (.seq (xR [xA 10 9 1,xO 11 (.pcall f_102 [.t 10])]) (.seq (xR [xA 12 9 1,xO 13 (.pcall f_103 [.t 12])]) (.seq (xR [xO 14 (.build [.int .i64 0,.int .i64 0,.int .i64 0,.int .i64 0] []),xS 4 2 14]) (.ret)))))))),f_98,1,(some (4,1)),.seq (.seq (xR [xM 5 1,xO 6 (.eqs false false [] (.t 5) (.c (.niliface)))]) (.cond (.t 6) (.ret) (.skip))) (.seq (.seq (xR [xM 8 1,xO 9 (.tassert 172 true (.agg [.int .i64 0,.int .i64 0,.int .i64 0,.int .i64 0]) (.t 8)),xM 7 9,xE 10 0 7,xE 11 1 7,xO 2 (.alloc [.int .i64 0,.int .i64 0,.int .i64 0,.int .i64 0]),xS 4 2 10,xM 3 11]) (.seq (xR [xM 12 3]) (.cond (.t 12) (.seq (xR [xF 13 0 2,xA 14 4 13,xS 4 0 14]) (.ret)) (.skip)))) (xR [xM 15 1,⟨none,none,.panic (.t 15)⟩]))⟩
def c_53:AFn:=⟨1,[.cell 2 true 9],yag [xJ 1 0,yas 2 [.str [],.Xu 2 [],.Xu 2 [],.Xu 3 [],.Xu 3 [],.Xu 6 [],.Xu 7 [],.Xu 5 [],.Xu 1 []]] (xD [ycp 3 1,xL 4 3,ycr 5 1,xL 6 5,ybj 7 f_104 6 (.c (.func (.func f_105) [] [])),xF 8 2 1,xL 9 8,yb4 10 f_106 9,xF 11 3 1,xL 12 11,yb4 13 f_107 12,xF 14 4 1,xL 15 14,ybj 16 f_108 15 (.c (.func (.func f_109) [] [])),xF 17 5 1,xL 18 17,ybj 19 f_110 18 (.c (.func (.func f_111) [] [])),xF 20 6 1,xL 21 20,ybj 22 f_112 21 (.c (.func (.func f_113) [] [])),xF 23 7 1,xL 24 23,ybj 25 f_114 24 (.c (.func (.func f_115) [] [])),xF 26 8 1,xL 27 26,yb4 28 f_116 27,xO 29 (.build [.str [],.Xu 2 [],.Xu 2 [],.Xu 3 [],.Xu 3 [],.Xu 6 [],.Xu 7 [],.Xu 5 [],.Xu 1 []] [(0,1,(.t 4)),(1,1,(.t 7)),(2,1,(.t 10)),(3,1,(.t 13)),(4,1,(.t 16)),(5,1,(.t 19)),(6,1,(.t 22)),(7,1,(.t 25)),(8,1,(.t 28))]),xS 9 2 29]) .ret⟩
def c_54_l0:Xv:=ycm [xM 59 3,ycr 60 1,xL 61 60,xN 62 61,xB 63 .lss 59 62] 63 0 (ya3 1 (yal [ycr 66 1,xL 67 66,xM 68 3,xX 69 2 67 68,xA 70 2 69,yb4 71 f_118 70,ybw 72 71] 72 [ycb 2]) [xM 64 3,xK 65 .add 64 1,xM 3 65])
def c_54_l1:Xv:=ycm [xM 73 4,xF 74 4 1,xL 75 74,xN 76 75,xB 77 .lss 73 76] 77 2 (ya3 3 (yal [xF 80 4 1,xL 81 80,xM 82 4,xX 83 3 81 82,xA 84 3 83,yb4 85 f_119 84] 85 [ycb 2]) [xM 78 4,xK 79 .add 78 1,xM 4 79])
def c_54_l2:Xv:=ycm [xM 86 5,xF 87 5 1,xL 88 87,xN 89 88,xB 90 .lss 86 89] 90 4 (ya3 5 (yal [xF 93 5 1,xL 94 93,xM 95 5,xX 96 6 94 95,ycr 97 96,xL 98 97,xN 99 98,xK 100 .gtr 99 10,xM 101 100,ya0 102 101 5 1,ycg 103 101 102,ya8 104 101 5,yad 105 101 (yb8 6 none 103 (.t 104)),ya0 106 101 2 105,ycg 107 101 106,ybl 108 101 107,ybo 109 101 .gtr 108 24,xW 110 101 109,xM 111 110,ya0 112 111 5 1,ycg 113 111 112,ya8 114 111 5,yad 115 111 (yb8 6 none 113 (.t 114)),ya0 116 111 3 115,ya0 117 111 1 116,ycg 118 111 117,ybl 119 111 118,ybo 120 111 .gtr 119 8,xW 121 111 120,xM 122 121,ya0 123 122 5 1,ycg 124 122 123,ya8 125 122 5,yad 126 122 (yb8 6 none 124 (.t 125)),ya0 127 122 0 126,ycg 128 122 127,yad 129 122 (.slen (.t 128)),ybo 130 122 .gtr 129 60,xW 131 122 130] 131 [ycb 2]) [xM 91 5,xK 92 .add 91 1,xM 5 92])
def c_54_l3:Xv:=ycm [xM 132 6,xF 133 6 1,xL 134 133,xN 135 134,xB 136 .lss 132 135] 136 6 (ya3 7 (yal [xF 139 6 1,xL 140 139,xM 141 6,xX 142 7 140 141,xA 143 7 142,yb4 144 f_120 143] 144 [ycb 2]) [xM 137 6,xK 138 .add 137 1,xM 6 138])
def c_54_k4:Xv:=yac [yav 2]
def c_54_k5:Xv:=ybq [ybh 6] 6 c_54_l3 c_54_k4
def c_54_k6:Xv:=ybq [ybh 5] 4 c_54_l2 c_54_k5
def c_54_k7:Xv:=ybq [ycj] 2 c_54_l1 c_54_k6
def c_54:AFn:=⟨1,[.tmp 2],ya7 [xJ 1 0,yav 2] [ycp 7 1,xL 8 7,xO 9 (.slen (.t 8)),xK 10 .gtr 9 60,xM 11 10,ya0 12 11 1 1,ycg 13 11 12,ybl 14 11 13,ybo 15 11 .gtr 14 16,xW 16 11 15,xM 17 16,ya0 18 17 2 1,ycg 19 17 18,ybl 20 17 19,ybo 21 17 .gtr 20 20,xW 22 17 21,xM 23 22,ya0 24 23 3 1,ycg 25 23 24,ybl 26 23 25,ybo 27 23 .gtr 26 8,xW 28 23 27,xM 29 28,ya0 30 29 4 1,ycg 31 29 30,ybl 32 29 31,ybo 33 29 .gtr 32 24,xW 34 29 33,xM 35 34,ya0 36 35 5 1,ycg 37 35 36,ybl 38 35 37,ybo 39 35 .gtr 38 16,xW 40 35 39,xM 41 40,ya0 42 41 6 1,ycg 43 41 42,ybl 44 41 43,ybo 45 41 .gtr 44 16,xW 46 41 45,xM 47 46,ya0 48 47 8 1,ycg 49 47 48,ybl 50 47 49,ybo 51 47 .gtr 50 16,xW 52 47 51,xM 53 52,ya0 54 53 7 1,ycg 55 53 54,yad 56 53 (.pcall f_117 [.t 55,yap 10]),ybo 57 53 .gtr 56 60,xW 58 53 57] 58 [ycb 2] (ybq [ybh 3] 0 c_54_l0 c_54_k7)⟩
def c_55_l0:Xv:=ycm [xM 7 3,ybt 8,xN 9 8,xB 10 .lss 7 9] 10 0 (ya3 1 (yal [ybt 13,xM 14 3,xX 15 9 13 14,xF 16 3 15,ycp 17 16,xL 18 17,xN 19 18,xK 20 .gtr 19 300,xM 21 20,ya8 22 21 0,ya8 23 21 3,yad 24 21 (yb8 9 none 22 (.t 23)),ya0 25 21 3 24,ya0 26 21 2 25,ya0 27 21 1 26,ycg 28 21 27,ybl 29 21 28,ybo 30 21 .gtr 29 300,xW 31 21 30,xM 32 31,ya8 33 32 0,ya8 34 32 3,yad 35 32 (yb8 9 none 33 (.t 34)),ya0 36 32 7 35,ya0 37 32 1 36,ycg 38 32 37,ybl 39 32 38,ybo 40 32 .gtr 39 300,xW 41 32 40] 41 [ycb 2]) [xM 11 3,xK 12 .add 11 1,xM 3 12])
def c_55_k1:Xv:=yac [yav 2]
def c_55:AFn:=⟨1,[.tmp 2],ya7 [yav 2] [ybt 4,xN 5 4,xK 6 .gtr 5 80] 6 [ycb 2] (ybq [ybh 3] 0 c_55_l0 c_55_k1)⟩
def c_57_l0:Xv:=ycm [xM 18 7,xM 19 5,xB 20 .lss 18 19,xM 21 20,ybz 22 21 4,yaq 23 21 (yaz 22),ybf 24 21 1 23,ybv 25 21 1 24,yb6 26 21 .eql 25 (yap 0),xV 27 21 26] 27 0 (ya3 1 (xR [xM 30 6,xM 31 4,yaw 32 f_124 [.t 31],xO 33 (.bslice .imm 9 (List.replicate 1 [.int .i64 0,.int .i64 0,.int .i64 0,.Xu 2 [],.int .i64 0,.int .i64 0,.Xu 1 [],.int .i64 0,.Xu 1 []]) [(0,(.t 32))]),yci 34 .app 9 120 30 33,xM 6 34]) [xM 28 7,xK 29 .add 28 1,xM 7 29])
def c_57_k1:Xv:=yag [xM 35 4,xM 36 4,ybr 37 36,ycp 38 37,xL 39 38,xN 40 39,xK 41 .eql 40 0,yaw 42 f_123 [.t 35,.t 41,yap 4]] (ycf [xM 43 4,ybr 44 43,ycr 45 44,xL 46 45,xK 47 .neq 46 0] 47 (.seq (xD [xM 48 4,ybr 49 48,ycr 50 49,xL 51 50,xC 2 (.Xu 9 []),xM 3 51]) .ret)) (yac [xM 52 6,xM 2 52,ybh 3])
def c_57:AFn:=⟨1,[.tmp 2,.tmp 3],ybc [xC 2 (.Xu 9 []),ybh 3] [ybt 8,xO 9 (.build [.Xu 1 [],.int .i64 0] [(0,1,(.t 8))]),yca 10 9,xM 4 10] (ybc [xM 11 4,yaw 12 f_122 [.t 11,yap 1],ycl 13 .i64 12,xM 5 13] [xM 14 4,xM 15 5,xK 16 .leq 15 64,yaw 17 f_123 [.t 14,.t 16,yap 5]] (ybg [yck 6 9] [ybh 7] 0 c_57_l0 c_57_k1))⟩
def c_59:AFn:=⟨1,[.tmp 2],ybc [xC 2 (.Xu 1 [])] [ybt 4,xN 5 4,ycl 6 .u32 5,yaw 7 f_125 [.t 6],ybt 8,yci 9 .app 1 1 7 8,xM 3 9] (yac [xM 10 3,xM 11 3,yb4 12 f_61 11,yaw 13 f_125 [.t 12],yci 14 .app 1 1 10 13,xM 2 14])⟩
def c_60_l0:Xv:=yb2 [xB 10 .lss 9 8] 10 0 1 (yaa [xX 11 1 7 9,xL 12 11,xM 5 12] (xR [xM 13 3,xO 14 (yar .shl 13 (.c (.int .u64 8))),xM 15 5,ycl 16 .u32 15,xB 17 .or 14 16,xM 3 17])) 18 .add 9 1 9 18
def c_60_k1:Xv:=yco 19 3 2 19
def c_60:AFn:=⟨1,[.tmp 2],ycq [xC 2 (yby 0)] [xC 3 (yby 0)] [ybt 6,xO 7 (.slc 1 (.t 6) none (some (.c (.int .i64 4))) none),xN 8 7,ybh 9] 0 c_60_l0 c_60_k1⟩
def c_61:AFn:=⟨1,[.tmp 2],yaa [xC 2 (yby 0)] (ybc [xO 4 (.build [.int .u32 0] [(0,1,(.c (.int .u32 2166136261)))]),xO 5 (.build [.int .u32 0,.int .i64 0] [(0,1,(.t 4))]),yas 3 [yby 0,yba],xS 2 3 5] [ybt 6,yaw 7 f_126 [.t 3,.t 6]] (yac [ycp 8 3,ycp 9 8,xL 10 9,xM 2 10]))⟩
def c_63:AFn:=⟨1,[.tmp 2],yaa [yca 1 0,yav 2] (yag [xF 4 2 1,xL 5 4,xK 6 .geq 5 0,xM 7 6,ybf 8 7 2 1,ybv 9 7 1 8,yb6 10 7 .leq 9 (yap 2147483647),xV 11 7 10,xM 3 11] (yaa [ycp 12 1,xL 13 12] (.block 0 (yai [xK 15 .eql 13 1,xM 14 15] 14 [ycr 16 1,xL 17 16,yb4 18 f_127 17,xM 19 18,ybf 20 19 3 1,ybf 21 19 1 20,ybv 22 19 1 21,ycn 23 19 f_127 [.t 22],xV 24 19 23,xM 25 24,ybf 26 25 3 1,ybf 27 25 0 26,ybv 28 25 1 27,yaq 29 25 (ya9 28),yb6 30 25 .leq 29 (yap 255),xV 31 25 30,xM 32 31,ybf 33 32 3 1,ybf 34 32 2 33,yaq 35 32 (.load true 2 (.t 34)),ycn 36 32 f_128 [.t 35],xV 37 32 36,xM 2 37] (yai [xK 39 .eql 13 2,xM 38 39] 38 [ycr 40 1,xL 41 40,yb4 42 f_127 41,xM 43 42,ybz 44 43 3,xV 45 43 44,xM 46 45,ybf 47 46 7 1,yaq 48 46 (.load true 2 (.t 47)),ycn 49 46 f_128 [.t 48],xV 50 46 49,xM 2 50] (yai [xK 52 .eql 13 3,xM 51 52] 51 [ycr 53 1,xL 54 53,yb4 55 f_127 54,xM 56 55,ybz 57 56 3,xV 58 56 57,xM 2 58] (yal [xK 60 .eql 13 4,xM 59 60] 59 [ycr 61 1,xL 62 61,yb4 63 f_127 62,xM 64 63,ybf 65 64 7 1,yaq 66 64 (.load true 2 (.t 65)),ycn 67 64 f_128 [.t 66],xV 68 64 67,xM 2 68])))))) (yac [yav 2]))⟩
def c_64_l0:Xv:=yb2 [xB 39 .lss 38 37] 39 1 2 (ybc [xX 40 2 36 38,xA 41 2 40,yas 6 [yby 0,yby 0],xS 2 6 41] [ybt 42,ycp 43 6,xL 44 43,ycl 45 .i64 44,yaw 46 f_129 [.t 42,.t 45,yap 4],xM 0 46] (xR [ybt 47,ycr 48 6,xL 49 48,ycl 50 .i64 49,yaw 51 f_129 [.t 47,.t 50,yap 4],xM 0 51])) 52 .add 38 1 38 52
def c_64_k1:Xv:=yac [ybt 53,xF 54 3 3,xF 55 2 54,xA 56 2 55,yaw 57 f_130 [.t 53,.t 56],xM 4 57]
def c_64_k2:Xv:=yac [ybt 73,xF 74 7 3,xA 75 2 74,yaw 76 f_130 [.t 73,.t 75],xM 4 76]
def c_64:AFn:=⟨2,[.tmp 4],ybc [yca 3 1,xC 4 (.Xu 1 [])] [ybt 7,ycp 8 3,xL 9 8,ycl 10 .u8 9,xO 11 (.bslice .imm 1 (List.replicate 1 [.int .u8 0]) [(0,(.t 10))]),yci 12 .app 1 1 7 11,xM 0 12] (yag [ybt 13,ycr 14 3,xL 15 14,yaw 16 f_129 [.t 13,.t 15,yap 2],xM 0 16] (yaa [ycp 17 3,xL 18 17] (.block 0 (yah [xK 20 .eql 18 1,xM 19 20] 19 (ycq [ybt 21,xF 22 3 3,ycr 23 22,xL 24 23,yaw 25 f_129 [.t 21,.t 24,yap 2],xM 0 25] [ybt 26,xF 27 3 3,ycp 28 27,xL 29 28,xN 30 29,ycl 31 .u8 30,xO 32 (.bslice .imm 1 (List.replicate 1 [.int .u8 0]) [(0,(.t 31))]),yci 33 .app 1 1 26 32,xM 0 33] [xF 34 3 3,ycp 35 34,xL 36 35,xN 37 36,ybh 38] 1 c_64_l0 c_64_k1) (yah [xK 59 .eql 18 2,xM 58 59] 58 (.seq (.region true [(3,5)] [⟨some 60,none,.mov (.t 0)⟩,⟨some 61,none,.faddr 2 (.t 3)⟩,⟨some 62,none,.load false 1 (.t 61)⟩,⟨some 63,none,.tcall f_129 [.t 60,.t 62,.c (.int .i64 4)]⟩,⟨some 64,none,.faddr 7 (.t 3)⟩,⟨some 65,none,.load true 2 (.t 64)⟩,⟨some 66,none,.tcall f_130 [.t 63,.t 65]⟩,⟨some 4,none,.mov (.t 66)⟩] none) .ret) (yal [xK 68 .eql 18 3,xM 67 68] 67 [ybt 69,xF 70 2 3,xL 71 70,yaw 72 f_129 [.t 69,.t 71,yap 4],xM 4 72]))))) c_64_k2)⟩
def c_70:AFn:=⟨2,[.tmp 4],yaa [ycj] (ya7 [yce 8,yb4 9 f_57 8,xM 7 9,xE 10 0 7,xE 11 1 7,xM 5 10,xM 6 11] [xM 12 6,xK 13 .neq 12 0] 13 [xM 14 6,xM 4 14] (ybp [ybt 16,xM 17 5,yaw 18 f_20 [.t 16,.t 17],xM 15 18,xE 19 0 15,xE 20 1 15,xE 21 2 15,xM 6 21] [xM 22 6,xM 4 22]))⟩
def c_73_l0:Xv:=yb2 [xB 18 .lss 17 16] 18 0 1 (ybc [xM 19 17,xX 20 1 15 17,xL 21 20,xM 7 19,xM 8 21] [yce 22,xM 23 7,xX 24 1 22 23,xL 25 24,xM 9 25] (yal [xM 26 2,xM 27 8,xM 28 9,xO 29 (yb7 26 [.t 27,.t 28]),ybw 30 29] 30 [yav 6])) 31 .add 17 1 17 31
def c_73_k1:Xv:=yac [ycb 6]
def c_73:AFn:=⟨3,[.tmp 6],ya7 [yav 6] [ybt 10,xN 11 10,yce 12,xN 13 12,xB 14 .neq 11 13] 14 [yav 6] (ybq [ybt 15,xN 16 15,ybh 17] 0 c_73_l0 c_73_k1)⟩
def c_74:AFn:=⟨2,[.tmp 4],ybp [yav 4] [ybt 5,yce 6,yaf 7 f_147 [.t 5,.t 6,.c (.func (.func f_148) [] [])],xM 4 7]⟩
def c_75_l0:Xv:=yb2 [xB 14 .lss 13 12] 14 0 1 (yag [xM 15 13,xM 5 15] (xD [ybt 16,xM 17 5,xX 18 1 16 17,xL 19 18,yce 20,xM 21 5,xX 22 1 20 21,xL 23 22,xB 24 .neq 19 23]) (yab 24 (yac [yav 4]) .skip)) 25 .add 13 1 13 25
def c_75_k1:Xv:=yac [ycb 4]
def c_75:AFn:=⟨2,[.tmp 4],ya7 [yav 4] [ybt 6,xN 7 6,yce 8,xN 9 8,xB 10 .neq 7 9] 10 [yav 4] (ybq [ybt 11,xN 12 11,ybh 13] 0 c_75_l0 c_75_k1)⟩
def c_76_l0:Xv:=yb2 [xB 18 .lss 17 16] 18 0 1 (ybc [xM 19 17,xX 20 2 15 17,xA 21 2 20,yas 8 [yba,.Xu 1 []],xM 7 19,xS 2 8 21] [yce 22,xM 23 7,xX 24 2 22 23,xA 25 2 24,yas 9 [yba,.Xu 1 []],xS 2 9 25] (yal [xM 26 2,xA 27 2 8,xA 28 2 9,xO 29 (yb7 26 [.t 27,.t 28]),ybw 30 29] 30 [yav 6])) 31 .add 17 1 17 31
def c_76_k1:Xv:=yac [ycb 6]
def c_76:AFn:=⟨3,[.tmp 6],ya7 [yav 6] [ybt 10,xN 11 10,yce 12,xN 13 12,xB 14 .neq 11 13] 14 [yav 6] (ybq [ybt 15,xN 16 15,ybh 17] 0 c_76_l0 c_76_k1)⟩
def c_77:AFn:=⟨2,[.tmp 4],ybp [yca 2 0,yca 3 1,yav 4] [ycp 5 2,xL 6 5,ycp 7 3,xL 8 7,xB 9 .eql 6 8,xM 10 9,ybf 11 10 1 2,ybv 12 10 1 11,ybf 13 10 1 3,ybv 14 10 1 13,ycn 15 10 f_80 [.t 12,.t 14],xV 16 10 15,xM 4 16]⟩
def c_78_l0:Xv:=yb2 [xB 18 .lss 17 16] 18 0 1 (ybc [xM 19 17,xX 20 1 15 17,xL 21 20,xM 7 19,xM 8 21] [yce 22,xM 23 7,xX 24 1 22 23,xL 25 24,xM 9 25] (yal [xM 26 2,xM 27 8,xM 28 9,xO 29 (yb7 26 [.t 27,.t 28]),ybw 30 29] 30 [yav 6])) 31 .add 17 1 17 31
def c_78_k1:Xv:=yac [ycb 6]
def c_78:AFn:=⟨3,[.tmp 6],ya7 [yav 6] [ybt 10,xN 11 10,yce 12,xN 13 12,xB 14 .neq 11 13] 14 [yav 6] (ybq [ybt 15,xN 16 15,ybh 17] 0 c_78_l0 c_78_k1)⟩
def c_79:AFn:=⟨2,[.tmp 4],ybp [yav 4] [ybt 5,yce 6,ybk 7 f_80 5 6,xM 4 7]⟩
def c_80_l0:Xv:=yb2 [xB 14 .lss 13 12] 14 0 1 (yag [xM 15 13,xM 5 15] (xD [ybt 16,xM 17 5,xX 18 1 16 17,xL 19 18,yce 20,xM 21 5,xX 22 1 20 21,xL 23 22,xB 24 .neq 19 23]) (yab 24 (yac [yav 4]) .skip)) 25 .add 13 1 13 25
def c_80_k1:Xv:=yac [ycb 4]
def c_80:AFn:=⟨2,[.tmp 4],ya7 [yav 4] [ybt 6,xN 7 6,yce 8,xN 9 8,xB 10 .neq 7 9] 10 [yav 4] (ybq [ybt 11,xN 12 11,ybh 13] 0 c_80_l0 c_80_k1)⟩
def c_84_l0:Xv:=yb2 [xB 14 .lss 13 12] 14 0 1 (ybm [xM 15 13,xX 16 3 11 13,xA 17 3 16,yas 5 [.str [],yba,yba],xM 4 15,xS 3 5 17] [5] (ycf [xA 18 3 5,yb4 19 f_149 18] 19 (xR [xM 20 3,xM 21 4,xF 22 2 5,xL 23 22,xO 24 (.mkslice .row 1 4 [.int .u32 0] (.t 23) (.t 23)),xX 25 1 20 21,xS 1 25 24]))) 26 .add 13 1 13 26
def c_84_k1:Xv:=yco 27 3 2 27
def c_84:AFn:=⟨1,[.tmp 2],ycq [xJ 1 0,xC 2 (.Xu 1 [])] [xF 6 3 1,xL 7 6,xN 8 7,xO 9 (.mkslice .row 1 24 [.Xu 1 []] (.t 8) (.t 8)),xM 3 9] [xF 10 3 1,xL 11 10,xN 12 11,ybh 13] 0 c_84_l0 c_84_k1⟩
def c_85:AFn:=⟨1,[.cell 2 true 2],yag [xJ 1 0,yas 2 [yba,.Xu 1 []]] (xD [ycp 3 1,xL 4 3,ycr 5 1,xL 6 5,yb4 7 f_150 6,xO 8 (.build [.int .i64 0,.Xu 1 []] [(0,1,(.t 4)),(1,1,(.t 7))]),xS 2 2 8]) .ret⟩
def c_87_l0:Xv:=yb2 [xB 40 .lss 39 38] 40 0 1 (yag [xM 41 39,xM 7 41] (xD [xA 42 9 2,xM 43 7,ycp 44 3,xL 45 44,xM 46 7,xX 47 1 45 46,xL 48 47,ycr 49 3,xL 50 49,xM 51 7,xX 52 1 50 51,xL 53 52,xF 54 2 3,xL 55 54,xM 56 7,xX 57 2 55 56,xA 58 2 57,yaf 59 f_152 [.t 42,.t 43,.t 48,.t 53,.t 58],xM 8 59]) (yal [xM 60 8,xK 61 .neq 60 0] 61 [xM 62 8,xM 4 62])) 63 .add 39 1 39 63
def c_87_k1:Xv:=yac [xA 64 9 2,xF 65 3 3,xL 66 65,ybk 67 f_153 64 66,xM 4 67]
def c_87:AFn:=⟨2,[.tmp 4],yag [xJ 2 0,xJ 3 1,ycj] (ybm [xA 9 9 2,yb4 10 f_52 9,yas 5 [yba,yba,yba,yba],xS 4 5 10] [5] (yal [ycp 11 5,xL 12 11,xK 13 .neq 12 0] 13 [ycp 14 5,xL 15 14,xM 4 15])) (ya7 [xF 16 5 2,xL 17 16,xN 18 17,xM 6 18] [ycp 19 3,xL 20 19,xN 21 20,xM 22 6,xB 23 .neq 21 22,xM 24 23,ya0 25 24 1 3,ycg 26 24 25,ybl 27 24 26,ya8 28 24 6,ya6 29 24 .neq 27 (.t 28),xW 30 24 29,xM 31 30,ya0 32 31 2 3,ycg 33 31 32,ybl 34 31 33,ya8 35 31 6,ya6 36 31 .neq 34 (.t 35),xW 37 31 36] 37 [xI 4 2] (ybq [xM 38 6,ybh 39] 0 c_87_l0 c_87_k1))⟩
def c_88_l0:Xv:=yb2 [xB 30 .lss 29 28] 30 0 1 (yaa [xM 31 29,xM 6 31] (xR [xM 32 5,xM 33 6,yaw 34 f_154 [.t 32,.t 33]])) 35 .add 29 1 29 35
def c_88_k1:Xv:=yco 36 5 4 36
def c_88:AFn:=⟨2,[.tmp 4],yag [xJ 2 0,yca 3 1,xC 4 .nilptr] (.region true [(1,2)] [⟨some 7,none,.load true 4 (.t 3)⟩,⟨some 8,none,.tcall f_92 [.t 7]⟩,⟨some 9,none,.load true 9 (.t 2)⟩,⟨some 10,none,.pcall f_53 [.t 9]⟩,⟨some 11,none,.build [.Xu 1 [],.Xu 1 [],.Xu 2 [],.Xu 1 [],.str [],.Xu 2 [],.Xu 2 [],.Xu 3 [],.Xu 3 [],.Xu 6 [],.Xu 7 [],.Xu 5 [],.Xu 1 [],.Xu 1 [],.bool false] [(0,4,(.t 8)),(4,9,(.t 10)),(14,1,(.c (.bool true)))]⟩,⟨some 12,none,.box (.t 11)⟩,⟨some 5,none,.mov (.t 12)⟩] none) (ybg [xM 13 5,xM 14 5,ybr 15 14,ycp 16 15,ycp 17 16,xL 18 17,xN 19 18,xO 20 (.mkslice .row 1 8 [.nilmap] (.t 19) (.t 19)),ybr 21 13,xF 22 13 21,xS 1 22 20] [xM 23 5,ybr 24 23,ycp 25 24,ycp 26 25,xL 27 26,xN 28 27,ybh 29] 0 c_88_l0 c_88_k1)⟩
def c_89:AFn:=⟨1,[.tmp 2],ya7 [xC 2 .nilptr] [ybt 3,xO 4 (.eqn false (.t 3) (.c .nilptr)),xM 5 4,ya8 6 5 0,yad 7 5 (yaz 6),ya0 8 5 14 7,ycg 9 5 8,yad 10 5 (ybe 9),xW 11 5 10] 11 [xC 2 .nilptr] (.seq (xD [ybt 12,ybr 13 12,xF 14 4 13,xA 15 9 14,ybt 16,ybr 17 16,ycp 18 17,xA 19 4 18,yaw 20 f_88 [.t 15,.t 19],xM 2 20]) .ret)⟩
def c_90:AFn:=⟨4,[.tmp 8],yaa [yca 7 3,ybh 8] (yag [ybt 12,yce 13,xM 14 2,yaw 15 f_155 [.t 12,.t 13,.t 14],xM 11 15,xE 16 0 11,xE 17 1 11,xM 9 16,xM 10 17] (ycf [xM 18 10,xK 19 .eql 18 0] 19 (xD [ybt 20,ybr 21 20,xF 22 4 21,xA 23 9 22,yce 24,xA 25 2 7,yaf 26 f_156 [.t 23,.t 24,.t 25],xM 10 26])) (.seq (ycf [xM 27 10,xK 28 .eql 27 0] 28 (xD [ybt 29,ybr 30 29,ycp 31 30,ycp 32 31,xL 33 32,yce 34,xX 35 1 33 34,xL 36 35,xM 37 9,xA 38 2 7,yb4 39 f_85 38,xX 40 5 36 37,ycr 41 40,xF 42 2 41,xS 2 42 39])) (yco 43 10 8 43)))⟩
def c_92_l0:Xv:=yb2 [xB 27 .lss 26 25] 27 2 3 (ybm [xX 28 5 24 26,xA 29 5 28,yas 8 [yba,.Xu 2 [],yba,yba,.Xu 1 []],xS 5 8 29] [8] (xR [xM 30 6,xA 31 5 8,yb4 32 f_157 31,xO 33 (.bslice .imm 5 (List.replicate 1 [.int .i64 0,.Xu 2 [],.int .i64 0,.int .i64 0,.Xu 1 []]) [(0,(.t 32))]),yci 34 .row 5 72 30 33,xM 6 34])) 35 .add 26 1 26 35
def c_92_k1:Xv:=xR [ycp 36 3,xL 37 36,xM 38 6,xO 39 (.bslice .row 1 (List.replicate 1 [.Xu 5 []]) [(0,(.t 38))]),yci 40 .row 1 24 37 39,ycp 41 3,xS 1 41 40]
def c_92_k2:Xv:=xR [xK 42 .add 20 1,xM 20 42]
def c_92_l3:Xv:=ya4 [xB 21 .lss 20 19] 21 0 (yam 1 (ycq [xX 22 1 18 20,xL 23 22,xM 5 23] [xC 6 (.Xu 5 [])] [xM 24 5,xN 25 24,ybh 26] 2 c_92_l0 c_92_k1) c_92_k2)
def c_92_l4:Xv:=yb2 [xB 47 .lss 46 45] 47 4 5 (ybm [xX 48 2 44 46,xA 49 2 48,yas 10 [yba,.Xu 1 []],xS 2 10 49] [10] (xD [xF 50 2 3,xL 51 50,xA 52 2 10,yb4 53 f_85 52,xO 54 (.bslice .imm 2 (List.replicate 1 [.int .i64 0,.Xu 1 []]) [(0,(.t 53))]),yci 55 .row 2 32 51 54,xF 56 2 3,xS 1 56 55])) 57 .add 46 1 46 57
def c_92_l5:Xv:=yb2 [xB 62 .lss 61 60] 62 6 7 (yaa [xX 63 1 59 61,xL 64 63,xM 12 64] (xD [xF 65 3 3,xL 66 65,xM 67 12,yb4 68 f_150 67,xO 69 (.bslice .imm 1 (List.replicate 1 [.Xu 1 []]) [(0,(.t 68))]),yci 70 .app 1 24 66 69,xF 71 3 3,xS 1 71 70])) 72 .add 61 1 61 72
def c_92_k6:Xv:=yb9 (xA 73 4 3) (xS 4 2 73)
def c_92_k7:Xv:=ybq [xF 58 3 1,xL 59 58,xN 60 59,ybh 61] 6 c_92_l5 c_92_k6
def c_92_k8:Xv:=ybq [xF 43 2 1,xL 44 43,xN 45 44,ybh 46] 4 c_92_l4 c_92_k7
def c_92:AFn:=⟨1,[.cell 2 true 4],ycq [yca 1 0,yas 2 [.Xu 1 [],.Xu 1 [],.Xu 2 [],.Xu 1 []]] [ycr 13 1,xL 14 13,yaw 15 f_116 [.t 14],xO 16 (.build [.Xu 1 [],.Xu 1 [],.Xu 2 [],.Xu 1 []] [(1,1,(.t 15))]),yas 3 [.Xu 1 [],.Xu 1 [],.Xu 2 [],.Xu 1 []],xS 4 3 16] [ycp 17 1,xL 18 17,xN 19 18,ybh 20] 0 c_92_l3 c_92_k8⟩
def c_93:AFn:=⟨3,[.tmp 6,.tmp 7],yag [yca 5 2,ybh 6,ybh 7] (.block 0 (yai [ybt 11,xO 12 (.eqn false (.t 11) (.c .nilptr)),xM 13 12,ya8 14 13 0,yad 15 13 (yaz 14),ya0 16 13 14 15,ycg 17 13 16,yad 18 13 (ybe 17),xW 19 13 18,xM 10 19] 10 [ybh 6,xI 7 1] (yal [ybt 21,yce 22,yaw 23 f_158 [.t 21,.t 22],ybw 24 23,xM 20 24] 20 [ybh 6,xI 7 8]))) (.seq (.seq (xD [ybt 25,ybr 26 25,xF 27 4 26,xA 28 9 27,yce 29,xA 30 4 5,yaf 31 f_159 [.t 28,.t 29,.t 30],xM 8 31]) (yal [xM 32 8,xK 33 .neq 32 0] 33 [xM 34 8,ybh 6,xM 7 34])) (ybn [ybt 35,ybr 36 35,ycp 37 36,ycp 38 37,xL 39 38,yce 40,xX 41 1 39 40,xL 42 41,xO 43 (.mkfunc (.func f_161) [] [.t 5]),ybk 44 f_160 42 43] 44 [ybh 6,xI 7 7] (yag [ybt 45,ybr 46 45,ycp 47 46,ycr 48 47,xL 49 48,yce 50,xX 51 1 49 50,xL 52 51,xM 9 52] (.seq (xD [ybt 53,ybr 54 53,ycp 55 54,ycp 56 55,xL 57 56,yce 58,xX 59 1 57 58,xL 60 59,xN 61 60,ybt 62,ybr 63 62,xF 64 4 63,xF 65 5 64,xL 66 65,yce 67,xX 68 6 66 67,xF 69 5 68,xL 70 69,xB 71 .geq 61 70,xM 72 71,ya8 73 72 9,ybo 74 72 .geq 73 1073741824,xW 75 72 74]) (yab 75 (yb9 (ybh 6) (xI 7 13)) .skip)) (.seq (xD [ybt 76,ybr 77 76,xF 78 13 77,xL 79 78,yce 80,xX 81 1 79 80,xL 82 81,xM 83 9,ybt 84,ybr 85 84,ycp 86 85,ycp 87 86,xL 88 87,yce 89,xX 90 1 88 89,xL 91 90,xN 92 91,⟨none,none,.update .i (.t 82) (.t 83) (.t 92)⟩]) (.seq (.region true [(4,19)] [⟨some 93,none,.mov (.t 0)⟩,⟨some 94,none,.nilchk (.t 93)⟩,⟨some 95,none,.faddr 0 (.t 94)⟩,⟨some 96,none,.faddr 0 (.t 95)⟩,⟨some 97,none,.load false 1 (.t 96)⟩,⟨some 98,none,.mov (.t 1)⟩,⟨some 99,none,.mov (.t 0)⟩,⟨some 100,none,.nilchk (.t 99)⟩,⟨some 101,none,.faddr 0 (.t 100)⟩,⟨some 102,none,.faddr 0 (.t 101)⟩,⟨some 103,none,.load false 1 (.t 102)⟩,⟨some 104,none,.mov (.t 1)⟩,⟨some 105,none,.iaddr 1 none (.t 103) (.t 104)⟩,⟨some 106,none,.load false 1 (.t 105)⟩,⟨some 107,none,.mov (.t 9)⟩,⟨some 108,none,.load true 4 (.t 5)⟩,⟨some 109,none,.pcall f_163 [.t 108]⟩,⟨some 110,none,.build [.int .i64 0,.Xu 2 [],.int .i64 0,.int .i64 0,.Xu 1 []] [(0,1,(.t 107)),(1,4,(.t 109))]⟩,⟨some 111,none,.bslice .imm 5 (List.replicate 1 [.int .i64 0,.Xu 2 [],.int .i64 0,.int .i64 0,.Xu 1 []]) [(0,(.t 110))]⟩,⟨some 112,none,.append .row 5 72 (.t 106) (.t 111)⟩,⟨some 113,none,.iaddr 1 none (.t 97) (.t 98)⟩,⟨none,none,.store 1 (.t 113) (.t 112)⟩] none) (ybp [ybt 114,ybr 115 114,ycp 116 115,ycr 117 116,xL 118 117,yce 119,xX 120 1 118 119,xL 121 120,xK 122 .add 121 1,xX 123 1 118 119,xS 1 123 122] [xM 124 9,xM 6 124,ybh 7]))))))⟩
def c_94:AFn:=⟨3,[.tmp 6],yaa [ybh 6] (yag [ybt 10,yce 11,xM 12 2,yaw 13 f_155 [.t 10,.t 11,.t 12],xM 9 13,xE 14 0 9,xE 15 1 9,xM 7 14,xM 8 15] (ycf [xM 16 8,xK 17 .eql 16 0] 17 (.seq (.region true [(4,17)] [⟨some 18,none,.mov (.t 0)⟩,⟨some 19,none,.nilchk (.t 18)⟩,⟨some 20,none,.faddr 0 (.t 19)⟩,⟨some 21,none,.faddr 0 (.t 20)⟩,⟨some 22,none,.load false 1 (.t 21)⟩,⟨some 23,none,.mov (.t 1)⟩,⟨some 24,none,.mov (.t 0)⟩,⟨some 25,none,.nilchk (.t 24)⟩,⟨some 26,none,.faddr 0 (.t 25)⟩,⟨some 27,none,.faddr 0 (.t 26)⟩,⟨some 28,none,.load false 1 (.t 27)⟩,⟨some 29,none,.mov (.t 1)⟩,⟨some 30,none,.iaddr 1 none (.t 28) (.t 29)⟩,⟨some 31,none,.load false 1 (.t 30)⟩,⟨some 32,none,.mov (.t 7)⟩,⟨some 33,none,.mov (.t 7)⟩,⟨some 34,none,.bin .add (.t 33) (.c (.int .i64 1))⟩,⟨some 35,none,.tcall f_164 [.t 31,.t 32,.t 34]⟩,⟨some 36,none,.iaddr 1 none (.t 22) (.t 23)⟩,⟨none,none,.store 1 (.t 36) (.t 35)⟩] none) (xR [ybt 37,yce 38,yaw 39 f_154 [.t 37,.t 38]]))) (yco 40 8 6 40))⟩
def c_95:AFn:=⟨3,[.tmp 6],yag [yca 5 2,ybh 6] (.block 0 (yai [ybt 9,xO 10 (.eqn false (.t 9) (.c .nilptr)),xM 11 10,ya8 12 11 0,yad 13 11 (yaz 12),ya0 14 11 14 13,ycg 15 11 14,yad 16 11 (ybe 15),xW 17 11 16,xM 8 17] 8 [xI 6 1] (yal [ybt 19,yce 20,yaw 21 f_158 [.t 19,.t 20],ybw 22 21,xM 18 22] 18 [xI 6 8]))) (.seq (xD [ybt 23,ybr 24 23,xF 25 4 24,xA 26 9 25,yce 27,xA 28 2 5,yaf 29 f_156 [.t 26,.t 27,.t 28],xM 7 29]) (.seq (ycf [xM 30 7,xK 31 .eql 30 0] 31 (xD [ybt 32,ybr 33 32,ycp 34 33,xF 35 2 34,xL 36 35,yce 37,xA 38 2 5,yb4 39 f_85 38,xX 40 2 36 37,xS 2 40 39])) (yco 41 7 6 41)))⟩
def c_96:AFn:=⟨2,[.tmp 4],ybp [yca 2 0,yca 3 1,yav 4] [xA 5 4 2,xA 6 4 3,ybk 7 f_162 5 6,xM 8 7,ybf 9 8 2 2,ybf 10 8 0 9,ybv 11 8 1 10,ybf 12 8 2 3,ybf 13 8 0 12,ybv 14 8 1 13,yb6 15 8 .eql 11 (.t 14),xV 16 8 15,xM 17 16,ybf 18 17 2 2,ybf 19 17 1 18,ybv 20 17 1 19,ybf 21 17 2 3,ybf 22 17 1 21,ybv 23 17 1 22,ycn 24 17 f_165 [.t 20,.t 23],xV 25 17 24,xM 4 25]⟩
def c_99:AFn:=⟨1,[],yaa [xJ 1 0] (ybc [ycp 2 1,xL 3 2,yb4 4 f_168 3,ybj 5 f_167 4 (yap 6),yaf 6 f_166 [.t 5,yap 0,yap 0,yap 0]] [ycr 7 1,xL 8 7,xN 9 8,xK 10 .gtr 9 8,ybj 11 f_167 10 (yap 12),yaf 12 f_166 [.t 11,yap 0,yap 1,yap 0]] (ybc [xF 13 3 1,xL 14 13,xN 15 14,xK 16 .gtr 15 4,ybj 17 f_167 16 (yap 12),yaf 18 f_166 [.t 17,yap 0,yap 3,yap 0]] [xF 19 4 1,xL 20 19,xN 21 20,xK 22 .gtr 21 16,ybj 23 f_167 22 (yap 12),yaf 24 f_166 [.t 23,yap 0,yap 4,yap 0]] (xR [xF 25 5 1,xL 26 25,xN 27 26,xK 28 .gtr 27 12,ybj 29 f_167 28 (yap 12),yaf 30 f_166 [.t 29,yap 0,yap 5,yap 0]])))⟩
def c_100_l0:Xv:=yb2 [xB 12 .lss 11 10] 12 0 1 (ybm [xM 13 11,xX 14 2 9 11,xA 15 2 14,yas 4 [.str [],.Xu 2 []],xM 3 13,xS 2 4 15] [4] (ybc [xA 16 2 4,yb4 17 f_171 16,xM 18 3,yaf 19 f_166 [.t 17,yap 1,.t 18,yap 0]] [ycp 20 4,xL 21 20,xO 22 (yar .eql 21 (.c (.str [109,101,116,97]))),ybj 23 f_167 22 (yap 6),xM 24 3,yaf 25 f_166 [.t 23,yap 1,.t 24,yap 0]] (xR [xM 26 2,xM 27 3,ybk 28 f_172 26 27,ybj 29 f_167 28 (yap 7),xM 30 3,yaf 31 f_166 [.t 29,yap 1,.t 30,yap 0]]))) 32 .add 11 1 11 32
def c_100:AFn:=⟨1,[],ybc [xJ 1 0] [ycr 5 1,xL 6 5,ybj 7 f_169 6 (.c (.func (.func f_170) [] [])),xM 2 7] (yay [ycr 8 1,xL 9 8,xN 10 9,ybh 11] 0 c_100_l0)⟩
def c_101_l0:Xv:=yb2 [xB 20 .lss 19 18] 20 0 1 (ybm [xM 21 19,xX 22 2 17 19,xA 23 2 22,yas 4 [.str [],yba],xM 3 21,xS 2 4 23] [4] (ybc [ycp 24 4,xL 25 24,yb4 26 f_168 25,ybj 27 f_167 26 (yap 6),xM 28 3,yaf 29 f_166 [.t 27,yap 2,.t 28,yap 0]] [ycr 30 4,xL 31 30,yb4 32 f_175 31,ybj 33 f_167 32 (yap 10),xM 34 3,yaf 35 f_166 [.t 33,yap 2,.t 34,yap 0]] (xR [xM 36 2,xM 37 3,ybk 38 f_172 36 37,ybj 39 f_167 38 (yap 7),xM 40 3,yaf 41 f_166 [.t 39,yap 2,.t 40,yap 0]]))) 42 .add 19 1 19 42
def c_101_l1:Xv:=yb2 [xK 48 .lss 47 3] 48 2 3 (ybm [xM 49 47,xO 50 (.idxa true 3 2 (.t 46) (.t 47)),yas 6 [.str [],yba],xM 5 49,xS 2 6 50] [6] (.seq (xD [xM 51 5,xF 52 2 1,xL 53 52,xN 54 53,xB 55 .geq 51 54,xM 56 55,ya0 57 56 2 1,ycg 58 56 57,ya8 59 56 5,yad 60 56 (yb8 2 none 58 (.t 59)),yad 61 56 (.load true 2 (.t 60)),yad 62 56 (.load true 2 (.t 6)),yad 63 56 (.eqs true true [.s,.i] (.t 61) (.t 62)),xW 64 56 63,ybj 65 f_167 64 (yap 5),xM 66 5]) (xR [yaf 67 f_166 [.t 65,yap 2,.t 66,yap 0]]))) 68 .add 47 1 47 68
def c_101_k2:Xv:=yay [xO 43 (.build [.str [],.int .i64 0] [(0,1,(.c (.str [105,110]))),(1,1,(.c (.int .i64 8)))]),xO 44 (.build [.str [],.int .i64 0] [(0,1,(.c (.str [111,117,116]))),(1,1,(.c (.int .i64 8)))]),xO 45 (.build [.str [],.int .i64 0] [(0,1,(.c (.str [100,114,111,112]))),(1,1,(.c (.int .i64 1)))]),xO 46 (.build [.str [],.int .i64 0,.str [],.int .i64 0,.str [],.int .i64 0] [(0,2,(.t 43)),(2,2,(.t 44)),(4,2,(.t 45))]),ybh 47] 2 c_101_l1
def c_101:AFn:=⟨1,[],ybc [xJ 1 0] [xF 7 2 1,xL 8 7,xN 9 8,xK 10 .gtr 9 12,ybj 11 f_167 10 (yap 12),yaf 12 f_166 [.t 11,yap 2,yap 0,yap 0]] (ybg [xF 13 2 1,xL 14 13,ybj 15 f_173 14 (.c (.func (.func f_174) [] [])),xM 2 15] [xF 16 2 1,xL 17 16,xN 18 17,ybh 19] 0 c_101_l0 c_101_k2)⟩
def c_102_l0:Xv:=yb2 [xB 18 .lss 17 16] 18 0 1 (ybm [xM 19 17,xX 20 3 15 17,xA 21 3 20,yas 4 [.str [],yba,yba],xM 3 19,xS 3 4 21] [4] (yaa [xA 22 3 4,yb4 23 f_178 22,xM 24 3,yaf 25 f_166 [.t 23,yap 3,.t 24,yap 0]] (xR [xM 26 2,xM 27 3,ybk 28 f_172 26 27,ybj 29 f_167 28 (yap 7),xM 30 3,yaf 31 f_166 [.t 29,yap 3,.t 30,yap 0]]))) 32 .add 17 1 17 32
def c_102_l1:Xv:=yb2 [xB 40 .lss 39 38] 40 2 3 (yaa [xM 41 39,xM 5 41] (ybc [xA 43 9 1,xM 44 5,ybk 45 f_181 43 44,xM 42 45,xE 46 0 42,xE 47 1 42,xM 6 46,xM 7 47] [xM 48 7,xM 49 5,xM 50 6,yaf 51 f_166 [.t 48,yap 4,.t 49,.t 50]] (xR [xM 52 2,xM 53 5,ybk 54 f_172 52 53,ybj 55 f_167 54 (yap 7),xM 56 5,yaf 57 f_166 [.t 55,yap 4,.t 56,yap 0]]))) 58 .add 39 1 39 58
def c_102_l2:Xv:=yb2 [xB 66 .lss 65 64] 66 4 5 (yaa [xM 67 65,xM 8 67] (ybc [xA 69 9 1,xM 70 8,ybk 71 f_184 69 70,xM 68 71,xE 72 0 68,xE 73 1 68,xM 9 72,xM 10 73] [xM 74 10,xM 75 8,xM 76 9,yaf 77 f_166 [.t 74,yap 5,.t 75,.t 76]] (xR [xM 78 2,xM 79 8,ybk 80 f_172 78 79,ybj 81 f_167 80 (yap 7),xM 82 8,yaf 83 f_166 [.t 81,yap 5,.t 82,yap 0]]))) 84 .add 65 1 65 84
def c_102_k3:Xv:=yaa [xF 59 5 1,xL 60 59,ybj 61 f_182 60 (.c (.func (.func f_183) [] [])),xM 2 61] (yay [xF 62 5 1,xL 63 62,xN 64 63,ybh 65] 4 c_102_l2)
def c_102_k4:Xv:=ybg [xF 33 4 1,xL 34 33,ybj 35 f_179 34 (.c (.func (.func f_180) [] [])),xM 2 35] [xF 36 4 1,xL 37 36,xN 38 37,ybh 39] 2 c_102_l1 c_102_k3
def c_102:AFn:=⟨1,[],ycq [xJ 1 0] [xF 11 3 1,xL 12 11,ybj 13 f_176 12 (.c (.func (.func f_177) [] [])),xM 2 13] [xF 14 3 1,xL 15 14,xN 16 15,ybh 17] 0 c_102_l0 c_102_k4⟩
def c_103:AFn:=⟨1,[],ybc [xJ 1 0] [xA 7 9 1,yb4 8 f_185 7,xM 6 8,xE 9 0 6,xE 10 1 6,xE 11 2 6,xM 2 9,xM 3 10,xM 4 11] (ybc [xM 12 4,xM 13 2,xM 14 3,yaf 15 f_166 [.t 12,yap 6,.t 13,.t 14]] [xA 17 9 1,yb4 18 f_186 17,xM 16 18,xE 19 0 16,xE 20 1 16,xM 5 19,xM 4 20] (ybc [xM 21 4,xM 22 5,yaf 23 f_166 [.t 21,yap 7,.t 22,yap 0]] [xA 25 9 1,yb4 26 f_187 25,xM 24 26,xE 27 0 24,xE 28 1 24,xM 5 27,xM 4 28] (xR [xM 29 4,xM 30 5,yaf 31 f_166 [.t 29,yap 8,.t 30,yap 0]])))⟩
def c_104_l0:Xv:=yb2 [xB 11 .lss 10 9] 11 0 1 (ybm [xX 12 2 8 10,xA 13 2 12,yas 7 [.str [],.Xu 2 []],xS 2 7 13] [7] (xR [xM 14 5,yce 15,xA 16 2 7,xO 17 (yb7 15 [.t 16]),xO 18 (.bslice .imm 2 (List.replicate 1 [.str [],.Xu 2 []]) [(0,(.t 17))]),yci 19 .app 2 40 14 18,xM 5 19])) 20 .add 10 1 10 20
def c_104_k1:Xv:=yco 21 5 4 21
def c_104:AFn:=⟨2,[.tmp 4],ycq [xC 4 (.Xu 2 [])] [yck 5 2] [ybt 8,xN 9 8,ybh 10] 0 c_104_l0 c_104_k1⟩
def c_105:AFn:=⟨1,[.cell 2 true 2],ybc [yca 1 0,yas 2 [.str [],.Xu 2 []]] [ycr 3 1,xL 4 3,yb4 5 f_106 4,ycr 6 1,xS 1 6 5] (yb9 (xA 7 2 1) (xS 2 2 7))⟩
def c_108_l0:Xv:=yb2 [xB 11 .lss 10 9] 11 0 1 (ybm [xX 12 3 8 10,xA 13 3 12,yas 7 [.str [],.Xu 2 [],.Xu 7 []],xS 3 7 13] [7] (xR [xM 14 5,yce 15,xA 16 3 7,xO 17 (yb7 15 [.t 16]),xO 18 (.bslice .imm 3 (List.replicate 1 [.str [],.Xu 2 [],.Xu 7 []]) [(0,(.t 17))]),yci 19 .app 3 64 14 18,xM 5 19])) 20 .add 10 1 10 20
def c_108_k1:Xv:=yco 21 5 4 21
def c_108:AFn:=⟨2,[.tmp 4],ycq [xC 4 (.Xu 3 [])] [yck 5 3] [ybt 8,xN 9 8,ybh 10] 0 c_108_l0 c_108_k1⟩
def c_109:AFn:=⟨1,[.cell 2 true 3],yag [yca 1 0,yas 2 [.str [],.Xu 2 [],.Xu 7 []]] (xD [ycr 3 1,xL 4 3,yb4 5 f_106 4,xF 6 2 1,xL 7 6,ybj 8 f_188 7 (.c (.func (.func f_189) [] [])),ycr 9 1,xS 1 9 5,xF 10 2 1,xS 1 10 8]) (yb9 (xA 11 3 1) (xS 3 2 11))⟩
def c_110_l0:Xv:=yb2 [xB 11 .lss 10 9] 11 0 1 (ybm [xX 12 6 8 10,xA 13 6 12,yas 7 [.str [],.Xu 3 [],.Xu 1 [],yba,.Xu 1 [],yba],xS 6 7 13] [7] (xR [xM 14 5,yce 15,xA 16 6 7,xO 17 (yb7 15 [.t 16]),xO 18 (.bslice .imm 6 (List.replicate 1 [.str [],.Xu 3 [],.Xu 1 [],.int .i64 0,.Xu 1 [],.int .i64 0]) [(0,(.t 17))]),yci 19 .app 6 104 14 18,xM 5 19])) 20 .add 10 1 10 20
def c_110_k1:Xv:=yco 21 5 4 21
def c_110:AFn:=⟨2,[.tmp 4],ycq [xC 4 (.Xu 6 [])] [yck 5 6] [ybt 8,xN 9 8,ybh 10] 0 c_110_l0 c_110_k1⟩
def c_111:AFn:=⟨1,[.cell 2 true 6],yag [yca 1 0,yas 2 [.str [],.Xu 3 [],.Xu 1 [],yba,.Xu 1 [],yba]] (xD [ycr 3 1,xL 4 3,yb4 5 f_190 4,xF 6 2 1,xL 7 6,yb4 8 f_116 7,xF 9 3 1,ycr 10 9,xL 11 10,yb4 12 f_150 11,ycr 13 1,xS 1 13 5,xF 14 2 1,xS 1 14 8,xF 15 3 1,ycr 16 15,xS 1 16 12]) (yb9 (xA 17 6 1) (xS 6 2 17))⟩
def c_112_l0:Xv:=yb2 [xB 11 .lss 10 9] 11 0 1 (ybm [xX 12 7 8 10,xA 13 7 12,yas 7 [.str [],.Xu 1 [],.bool false,yba,yba,.Xu 3 [],yba],xS 7 7 13] [7] (xR [xM 14 5,yce 15,xA 16 7 7,xO 17 (yb7 15 [.t 16]),xO 18 (.bslice .imm 7 (List.replicate 1 [.str [],.Xu 1 [],.bool false,.int .i64 0,.int .i64 0,.Xu 3 [],.int .i64 0]) [(0,(.t 17))]),yci 19 .app 7 96 14 18,xM 5 19])) 20 .add 10 1 10 20
def c_112_k1:Xv:=yco 21 5 4 21
def c_112:AFn:=⟨2,[.tmp 4],ycq [xC 4 (.Xu 7 [])] [yck 5 7] [ybt 8,xN 9 8,ybh 10] 0 c_112_l0 c_112_k1⟩
def c_113:AFn:=⟨1,[.cell 2 true 7],yag [yca 1 0,yas 2 [.str [],.Xu 1 [],.bool false,yba,yba,.Xu 3 [],yba]] (xD [ycr 3 1,xL 4 3,yb4 5 f_116 4,xF 6 5 1,xL 7 6,yb4 8 f_191 7,ycr 9 1,xS 1 9 5,xF 10 5 1,xS 1 10 8]) (yb9 (xA 11 7 1) (xS 7 2 11))⟩
def c_114_l0:Xv:=yb2 [xB 11 .lss 10 9] 11 0 1 (ybm [xX 12 5 8 10,xA 13 5 12,yas 7 [yba,yba,.Xu 3 [],.Xu 5 [],.Xu 5 []],xS 5 7 13] [7] (xR [xM 14 5,yce 15,xA 16 5 7,xO 17 (yb7 15 [.t 16]),xO 18 (.bslice .imm 5 (List.replicate 1 [.int .i64 0,.int .i64 0,.Xu 3 [],.Xu 5 [],.Xu 5 []]) [(0,(.t 17))]),yci 19 .app 5 88 14 18,xM 5 19])) 20 .add 10 1 10 20
def c_114_k1:Xv:=yco 21 5 4 21
def c_114:AFn:=⟨2,[.tmp 4],ycq [xC 4 (.Xu 5 [])] [yck 5 5] [ybt 8,xN 9 8,ybh 10] 0 c_114_l0 c_114_k1⟩
def c_115:AFn:=⟨1,[.cell 2 true 5],yag [yca 1 0,yas 2 [yba,yba,.Xu 3 [],.Xu 5 [],.Xu 5 []]] (xD [xF 3 2 1,xL 4 3,yb4 5 f_192 4,xF 6 3 1,xL 7 6,ybj 8 f_114 7 (.c (.func (.func f_115) [] [])),xF 9 4 1,xL 10 9,ybj 11 f_114 10 (.c (.func (.func f_115) [] [])),xF 12 2 1,xS 1 12 5,xF 13 3 1,xS 1 13 8,xF 14 4 1,xS 1 14 11]) (yb9 (xA 15 5 1) (xS 5 2 15))⟩
def c_117_l0:Xv:=ycm [xM 9 6,ybt 10,xN 11 10,xB 12 .lss 9 11,xM 13 12,ybz 14 13 5,yb6 15 13 .lss 14 (yap 100),xV 16 13 15] 16 0 (ya3 1 (ybn [yce 19,xK 20 .eql 19 0,xM 21 20,ya8 22 21 0,ya8 23 21 6,yad 24 21 (yb8 5 none 22 (.t 23)),ya0 25 21 2 24,ycg 26 21 25,ybl 27 21 26,ybo 28 21 .gtr 27 40,xW 29 21 28] 29 [xI 4 100] (xD [xM 30 5,ybt 31,xM 32 6,xX 33 5 31 32,xF 34 3 33,xL 35 34,yce 36,xK 37 .sub 36 1,ybk 38 f_117 35 37,xB 39 .add 30 38,ybt 40,xM 41 6,xX 42 5 40 41,xF 43 4 42,xL 44 43,yce 45,xK 46 .sub 45 1,ybk 47 f_117 44 46,xB 48 .add 39 47,xM 5 48])) [xM 17 6,xK 18 .add 17 1,xM 6 18])
def c_117_k1:Xv:=yco 49 5 4 49
def c_117:AFn:=⟨2,[.tmp 4],ycq [ycj] [ybt 7,xN 8 7,xM 5 8] [ybh 6] 0 c_117_l0 c_117_k1⟩
def c_118_l0:Xv:=ycm [xM 14 3,ycr 15 1,xL 16 15,xN 17 16,xB 18 .lss 14 17] 18 0 (ya3 1 (yal [ycr 21 1,xL 22 21,xM 23 3,xX 24 2 22 23,ycp 25 24,xL 26 25,xO 27 (.slen (.t 26)),xK 28 .gtr 27 30] 28 [yav 2]) [xM 19 3,xK 20 .add 19 1,xM 3 20])
def c_118_k1:Xv:=yac [ycb 2]
def c_118:AFn:=⟨1,[.tmp 2],ya7 [xJ 1 0,yav 2] [ycp 4 1,xL 5 4,xO 6 (.slen (.t 5)),xK 7 .gtr 6 30,xM 8 7,ya0 9 8 1 1,ycg 10 8 9,ybl 11 8 10,ybo 12 8 .gtr 11 20,xW 13 8 12] 13 [yav 2] (ybq [ybh 3] 0 c_118_l0 c_118_k1)⟩
def c_119_l0:Xv:=ycm [xM 20 3,xF 21 2 1,xL 22 21,xN 23 22,xB 24 .lss 20 23] 24 0 (ya3 1 (yal [xF 27 2 1,xL 28 27,xM 29 3,xX 30 7 28 29,xF 31 5 30,xL 32 31,xN 33 32,xK 34 .gtr 33 40,xM 35 34,ya0 36 35 2 1,ycg 37 35 36,ya8 38 35 3,yad 39 35 (yb8 7 none 37 (.t 38)),ya0 40 35 6 39,ycg 41 35 40,ybl 42 35 41,ybo 43 35 .gtr 42 40,xW 44 35 43] 44 [ycb 2]) [xM 25 3,xK 26 .add 25 1,xM 3 26])
def c_119_k1:Xv:=yac [yav 2]
def c_119:AFn:=⟨1,[.tmp 2],ya7 [xJ 1 0,yav 2] [ycr 4 1,xL 5 4,xN 6 5,xK 7 .gtr 6 8,xM 8 7,ya0 9 8 2 1,ycg 10 8 9,ybl 11 8 10,ybo 12 8 .gtr 11 16,xW 13 8 12,xM 14 13,ya0 15 14 0 1,ycg 16 14 15,yad 17 14 (.slen (.t 16)),ybo 18 14 .gtr 17 60,xW 19 14 18] 19 [ycb 2] (ybq [ybh 3] 0 c_119_l0 c_119_k1)⟩
def c_120:AFn:=⟨1,[.tmp 2],ybp [xJ 1 0,yav 2] [ycr 3 1,xL 4 3,xN 5 4,xK 6 .gtr 5 8,xM 7 6,ya0 8 7 5 1,ycg 9 7 8,ybl 10 7 9,ybo 11 7 .gtr 10 12,xW 12 7 11,xM 13 12,ya0 14 13 0 1,ycg 15 13 14,yad 16 13 (.slen (.t 15)),ybo 17 13 .gtr 16 60,xW 18 13 17,xM 2 18]⟩
def c_122_l0:Xv:=yb2 [xB 38 .lss 37 36] 38 0 1 (yaa [xX 39 1 35 37,xL 40 39,xM 7 40] (xR [xM 41 5,xO 42 (yar .shl 41 (.c (.int .u64 8))),xM 43 7,ycl 44 .u32 43,xB 45 .or 42 44,xM 5 45])) 46 .add 37 1 37 46
def c_122_k1:Xv:=ybp [ybt 47,ybt 48,ybr 49 48,ycp 50 49,xL 51 50,yce 52,xO 53 (.slc 1 (.t 51) (some (.t 52)) none none),ybr 54 47,ycp 55 54,xS 1 55 53] [xM 56 5,xM 4 56]
def c_122:AFn:=⟨2,[.tmp 4],yag [xC 4 (yby 0)] (ycf [ybt 8,ybr 9 8,ycr 10 9,xL 11 10,xK 12 .eql 11 0,xM 13 12,ybz 14 13 0,yaq 15 13 (yaz 14),ybf 16 13 0 15,ybv 17 13 1 16,yaq 18 13 (ya9 17),ybz 19 13 1,yb6 20 13 .lss 18 (.t 19),xV 21 13 20] 21 (xR [ybt 22,ybr 23 22,ycr 24 23,⟨none,none,.store 1 (.t 24) (.c (.int .i64 3))⟩])) (ybn [ybt 25,ybr 26 25,ycr 27 26,xL 28 27,xK 29 .neq 28 0] 29 [xC 4 (yby 0)] (ybg [xC 5 (yby 0)] [ybt 30,ybr 31 30,ycp 32 31,xL 33 32,yce 34,xO 35 (.slc 1 (.t 33) none (some (.t 34)) none),xN 36 35,ybh 37] 0 c_122_l0 c_122_k1))⟩
def c_123:AFn:=⟨3,[],ycf [ybt 6,ybr 7 6,ycr 8 7,xL 9 8,xK 10 .eql 9 0,xM 11 10,ybz 12 11 1,yaq 13 11 (ybe 12),xV 14 11 13] 14 (xR [ybt 15,xM 16 2,ybr 17 15,ycr 18 17,xS 1 18 16])⟩
def c_124_l0:Xv:=ycm [xM 35 4,xO 36 (yar .gtr 35 (.c (yby 0))),xM 37 36,ybz 38 37 0,yaq 39 37 (yaz 38),ybf 40 37 1 39,ybv 41 37 1 40,yb6 42 37 .eql 41 (yap 0),xV 43 37 42] 43 1 (ya3 2 (yaa [ybt 46,yaw 47 f_122 [.t 46,yap 4],xM 5 47] (.region true [(2,5)] [⟨some 48,none,.faddr 3 (.t 3)⟩,⟨some 49,none,.faddr 0 (.t 48)⟩,⟨some 50,none,.load false 1 (.t 49)⟩,⟨some 51,none,.mov (.t 5)⟩,⟨some 52,none,.mov (.t 0)⟩,⟨some 53,none,.tcall f_122 [.t 52,.c (.int .i64 4)]⟩,⟨some 54,none,.build [.int .u32 0,.int .u32 0] [(0,1,(.t 51)),(1,1,(.t 53))]⟩,⟨some 55,none,.bslice .imm 2 (List.replicate 1 [.int .u32 0,.int .u32 0]) [(0,(.t 54))]⟩,⟨some 56,none,.append .app 2 8 (.t 50) (.t 55)⟩,⟨some 57,none,.faddr 3 (.t 3)⟩,⟨some 58,none,.faddr 0 (.t 57)⟩,⟨none,none,.store 1 (.t 58) (.t 56)⟩] none)) [xM 44 4,xO 45 (yar .sub 44 (.c (yby 1))),xM 4 45])
def c_124_k1:Xv:=xR [ybt 59,yaw 60 f_193 [.t 59],xF 61 3 3,xF 62 2 61,xS 2 62 60]
def c_124_k2:Xv:=yb9 (xA 81 9 3) (xS 9 2 81)
def c_124:AFn:=⟨1,[.cell 2 true 9],yaa [yas 2 [yba,yba,yba,.Xu 2 [],yba,yba,.Xu 1 [],yba,.Xu 1 []]] (ybc [ybt 6,yaw 7 f_122 [.t 6,yap 1],ycl 8 .i64 7,xO 9 (.build [.int .i64 0,.int .i64 0,.int .i64 0,.Xu 2 [],.int .i64 0,.int .i64 0,.Xu 1 [],.int .i64 0,.Xu 1 []] [(0,1,(.t 8))]),yas 3 [yba,yba,yba,.Xu 2 [],yba,yba,.Xu 1 [],yba,.Xu 1 []],xS 9 3 9] [ybt 10,ycp 11 3,xL 12 11,xK 13 .geq 12 1,xM 14 13,ybf 15 14 0 3,ybv 16 14 1 15,yb6 17 14 .leq 16 (yap 4),xV 18 14 17,yaw 19 f_123 [.t 10,.t 18,yap 5]] (yag [ybt 20,yaw 21 f_122 [.t 20,yap 2],ycl 22 .i64 21,ycr 23 3,xS 1 23 22] (yaa [ycp 24 3,xL 25 24] (.block 0 (yah [xK 27 .eql 25 1,xM 26 27] 26 (ybg [ybt 28,yaw 29 f_122 [.t 28,yap 2],ycl 30 .i64 29,xF 31 3 3,ycr 32 31,xS 1 32 30] [ybt 33,yaw 34 f_122 [.t 33,yap 1],xM 4 34] 1 c_124_l0 c_124_k1) (yah [xK 64 .eql 25 2,xM 63 64] 63 (yaa [ybt 65,yaw 66 f_194 [.t 65],xF 67 2 3,xS 1 67 66] (xR [ybt 68,yaw 69 f_193 [.t 68],xF 70 7 3,xS 2 70 69])) (yah [xK 72 .eql 25 3,xM 71 72] 71 (xR [ybt 73,yaw 74 f_194 [.t 73],xF 75 2 3,xS 1 75 74]) (ycf [xK 77 .eql 25 4,xM 76 77] 76 (xR [ybt 78,yaw 79 f_193 [.t 78],xF 80 7 3,xS 2 80 79]))))))) c_124_k2))⟩
def c_125:AFn:=⟨1,[.tmp 2],ybp [xC 2 (.Xu 1 [])] [ybt 3,xO 4 (yar .shr 3 (.c (.int .u64 24))),ycl 5 .u8 4,ybt 6,xO 7 (yar .shr 6 (.c (.int .u64 16))),ycl 8 .u8 7,ybt 9,xO 10 (yar .shr 9 (.c (.int .u64 8))),ycl 11 .u8 10,ybt 12,ycl 13 .u8 12,xO 14 (.bslice .imm 1 (List.replicate 4 [.int .u8 0]) [(0,(.t 5)),(1,(.t 8)),(2,(.t 11)),(3,(.t 13))]),xM 2 14]⟩
def c_126_l0:Xv:=yb2 [xB 14 .lss 13 12] 14 0 1 (yaa [xX 15 1 11 13,xL 16 15,xM 6 16] (xR [xM 17 4,xM 18 6,xO 19 (.tcallv (.t 17) [.t 18])])) 20 .add 13 1 13 20
def c_126_k1:Xv:=xR [ybt 21,ybr 22 21,ycr 23 22,xL 24 23,yce 25,xN 26 25,xB 27 .add 24 26,ybr 28 21,ycr 29 28,xS 1 29 27]
def c_126:AFn:=⟨2,[],ybg [ybt 7,ybr 8 7,ycp 9 8,xO 10 (.mkfunc (.func f_195) [.t 9] []),xM 4 10] [yce 11,xN 12 11,ybh 13] 0 c_126_l0 c_126_k1⟩
def c_127:AFn:=⟨1,[.tmp 2],ybp [yav 2] [ybt 3,xK 4 .geq 3 0,xM 5 4,ybz 6 5 0,yb6 7 5 .leq 6 (yap 65535),xV 8 5 7,xM 2 8]⟩
def c_128:AFn:=⟨1,[.tmp 2],ybp [yca 1 0,yav 2] [ycp 3 1,xL 4 3,yb4 5 f_127 4,xM 6 5,ybf 7 6 1 1,ybv 8 6 1 7,yaq 9 6 (ya9 8),yb6 10 6 .leq 9 (yap 255),xV 11 6 10,xM 2 11]⟩
def c_129_l0:Xv:=ycm [xM 10 7,xK 11 .geq 10 0] 11 0 (ya3 1 (xR [ybt 14,yce 15,xM 16 7,xO 17 (.bin .mul (yap 8) (.t 16)),xB 18 .shr 15 17,ycl 19 .u8 18,xO 20 (.bslice .imm 1 (List.replicate 1 [.int .u8 0]) [(0,(.t 19))]),yci 21 .app 1 1 14 20,xM 0 21]) [xM 12 7,xK 13 .sub 12 1,xM 7 13])
def c_129_k1:Xv:=ycc (ybt 22) 6 22
def c_129:AFn:=⟨3,[.tmp 6],ybg [xC 6 (.Xu 1 [])] [xM 8 2,xK 9 .sub 8 1,xM 7 9] 0 c_129_l0 c_129_k1⟩
def c_130_l0:Xv:=yb2 [xB 22 .lss 21 20] 22 0 1 (yaa [xX 23 1 19 21,xL 24 23,xM 6 24] (xR [ybt 25,xM 26 6,ycl 27 .i64 26,yaw 28 f_129 [.t 25,.t 27,yap 4],xM 0 28])) 29 .add 21 1 21 29
def c_130_k1:Xv:=ycc (ybt 30) 4 30
def c_130:AFn:=⟨2,[.tmp 4],ybc [yca 3 1,xC 4 (.Xu 1 [])] [ybt 7,ycp 8 3,xL 9 8,yaw 10 f_129 [.t 7,.t 9,yap 2],xM 0 10] (ybg [ybt 11,ycr 12 3,xL 13 12,xN 14 13,ycl 15 .u8 14,xO 16 (.bslice .imm 1 (List.replicate 1 [.int .u8 0]) [(0,(.t 15))]),yci 17 .app 1 1 11 16,xM 0 17] [ycr 18 3,xL 19 18,xN 20 19,ybh 21] 0 c_130_l0 c_130_k1)⟩
def c_147_l0:Xv:=yb2 [xB 18 .lss 17 16] 18 0 1 (ybc [xM 19 17,xX 20 5 15 17,xA 21 5 20,yas 8 [yba,.Xu 2 [],yba,yba,.Xu 1 []],xM 7 19,xS 5 8 21] [yce 22,xM 23 7,xX 24 5 22 23,xA 25 5 24,yas 9 [yba,.Xu 2 [],yba,yba,.Xu 1 []],xS 5 9 25] (yal [xM 26 2,xA 27 5 8,xA 28 5 9,xO 29 (yb7 26 [.t 27,.t 28]),ybw 30 29] 30 [yav 6])) 31 .add 17 1 17 31
def c_147_k1:Xv:=yac [ycb 6]
def c_147:AFn:=⟨3,[.tmp 6],ya7 [yav 6] [ybt 10,xN 11 10,yce 12,xN 13 12,xB 14 .neq 11 13] 14 [yav 6] (ybq [ybt 15,xN 16 15,ybh 17] 0 c_147_l0 c_147_k1)⟩
def c_148:AFn:=⟨2,[.tmp 4],ybp [yca 2 0,yca 3 1,yav 4] [ycp 5 2,xL 6 5,ycp 7 3,xL 8 7,xB 9 .eql 6 8,xM 10 9,ybf 11 10 1 2,yaq 12 10 (.load true 4 (.t 11)),ybf 13 10 1 3,yaq 14 10 (.load true 4 (.t 13)),ycn 15 10 f_96 [.t 12,.t 14],xV 16 10 15,xM 4 16]⟩
def c_149:AFn:=⟨1,[.tmp 2],ybp [xJ 1 0,yav 2] [xF 3 2 1,xL 4 3,xK 5 .geq 4 1,xM 6 5,ybf 7 6 2 1,ybv 8 6 1 7,yb6 9 6 .leq 8 (yap 64),xV 10 6 9,xM 2 10]⟩
def c_152_l0:Xv:=yb2 [xB 29 .lss 28 27] 29 0 1 (ybm [xX 30 5 26 28,xA 31 5 30,yas 13 [yba,.Xu 2 [],yba,yba,.Xu 1 []],xS 5 13 31] [13] (ybn [ycp 32 13,xL 33 32,xM 34 11,xB 35 .leq 33 34] 35 [xI 10 14] (xR [ycp 36 13,xL 37 36,xM 11 37]))) 38 .add 28 1 28 38
def c_152_l1:Xv:=yb2 [xB 53 .lss 52 51] 53 2 3 (ybm [xM 54 52,xX 55 5 50 52,xA 56 5 55,yas 15 [yba,.Xu 2 [],yba,yba,.Xu 1 []],xM 14 54,xS 5 15 56] [15] (.seq (ych [xA 57 9 5,yce 58,ycr 59 15,xA 60 4 59,yaf 61 f_159 [.t 57,.t 58,.t 60],xM 16 61] [xM 62 16,xK 63 .neq 62 0] 63 [xM 64 16,xM 10 64]) (yal [xM 65 2,xM 66 14,xO 67 (.slc 5 (.t 65) none (some (.t 66)) none),xO 68 (.mkfunc (.func f_215) [] [.t 15]),ybk 69 f_160 67 68] 69 [xI 10 7]))) 70 .add 52 1 52 70
def c_152_k2:Xv:=yac [xA 71 9 5,yce 72,xA 73 2 9,yaf 74 f_156 [.t 71,.t 72,.t 73],xM 10 74]
def c_152_k3:Xv:=ybn [xM 39 3,xM 40 11,xB 41 .leq 39 40,xM 42 41,ya8 43 42 3,ybo 44 42 .lss 43 1,xW 45 42 44,xM 46 45,ya8 47 46 3,ybo 48 46 .gtr 47 1073741824,xW 49 46 48] 49 [xI 10 14] (ybq [xM 50 2,xN 51 50,ybh 52] 2 c_152_l1 c_152_k2)
def c_152:AFn:=⟨5,[.tmp 10],ya7 [xJ 5 0,xJ 9 4,ybh 10] [xM 17 2,xN 18 17,xF 19 5 5,xL 20 19,yce 21,xX 22 6 20 21,xF 23 5 22,xL 24 23,xB 25 .gtr 18 24] 25 [xI 10 12] (ybg [ybh 11] [xM 26 2,xN 27 26,ybh 28] 0 c_152_l0 c_152_k3)⟩
def c_153_l0:Xv:=yb2 [xB 18 .lss 17 16] 18 0 1 (ych [xM 19 17,xX 20 1 15 17,xL 21 20,xM 5 19,xM 6 21] [xM 22 6,xN 23 22,xF 24 3 2,xL 25 24,xM 26 5,xX 27 3 25 26,xF 28 2 27,xL 29 28,xB 30 .neq 23 29] 30 [xI 4 2]) 31 .add 17 1 17 31
def c_153_l1:Xv:=yb2 [xB 35 .lss 34 33] 35 2 3 (yag [xM 36 34,xX 37 1 32 34,xL 38 37,xM 7 36,xM 8 38] (xD [xM 39 8,xN 40 39,xK 41 .gtr 40 0,xM 42 41,ybz 43 42 8,ycn 44 42 f_216 [.t 43],ybf 45 42 3 2,ybv 46 42 1 45,ybz 47 42 7,yaq 48 42 (yb8 3 none 46 (.t 47)),ybf 49 42 1 48,ybv 50 42 1 49,ycn 51 42 f_217 [.t 50],yb6 52 42 .gtr 44 (.t 51),xV 53 42 52]) (yab 53 (yac [xI 4 9]) .skip)) 54 .add 34 1 34 54
def c_153_k2:Xv:=yac [ycj]
def c_153_k3:Xv:=ybq [yce 32,xN 33 32,ybh 34] 2 c_153_l1 c_153_k2
def c_153:AFn:=⟨2,[.tmp 4],ya7 [xJ 2 0,ycj] [yce 9,xN 10 9,xF 11 3 2,xL 12 11,xN 13 12,xB 14 .neq 10 13] 14 [xI 4 2] (ybq [yce 15,xN 16 15,ybh 17] 0 c_153_l0 c_153_k3)⟩
def c_154_l0:Xv:=yb2 [xB 23 .lss 22 21] 23 0 1 (ybm [xM 24 22,xX 25 5 20 22,xA 26 5 25,yas 5 [yba,.Xu 2 [],yba,yba,.Xu 1 []],xM 4 24,xS 5 5 26] [5] (xD [ybt 27,ybr 28 27,xF 29 13 28,xL 30 29,yce 31,xX 32 1 30 31,xL 33 32,ycp 34 5,xL 35 34,xM 36 4,⟨none,none,.update .i (.t 33) (.t 35) (.t 36)⟩])) 37 .add 22 1 22 37
def c_154:AFn:=⟨2,[],yaa [ybt 6,ybr 7 6,xF 8 13 7,xL 9 8,yce 10,xO 11 .mkmap,xX 12 1 9 10,xS 1 12 11] (yay [ybt 13,ybr 14 13,ycp 15 14,ycp 16 15,xL 17 16,yce 18,xX 19 1 17 18,xL 20 19,xN 21 20,ybh 22] 0 c_154_l0)⟩
def c_155:AFn:=⟨3,[.tmp 6,.tmp 7],yag [ybh 6,ybh 7] (.block 0 (yai [ybt 11,xO 12 (.eqn false (.t 11) (.c .nilptr)),xM 13 12,ya8 14 13 0,yad 15 13 (yaz 14),ya0 16 13 14 15,ycg 17 13 16,yad 18 13 (ybe 17),xW 19 13 18,xM 10 19] 10 [ybh 6,xI 7 1] (yal [ybt 21,yce 22,yaw 23 f_158 [.t 21,.t 22],ybw 24 23,xM 20 24] 20 [ybh 6,xI 7 8]))) (ya7 [ybt 26,ybr 27 26,xF 28 13 27,xL 29 28,yce 30,xX 31 1 29 30,xL 32 31,xM 33 2,xO 34 (.lookup .i (.int .i64 0) true (.t 32) (.t 33)),xM 25 34,xE 35 0 25,xE 36 1 25,xM 8 35,xM 9 36] [xM 37 9,ybw 38 37] 38 [ybh 6,xI 7 8] (yac [xM 39 8,xM 6 39,ybh 7]))⟩
def c_156:AFn:=⟨3,[.tmp 6],ya7 [xJ 3 0,xJ 5 2,ybh 6] [xA 7 9 3,yce 8,ycp 9 5,xL 10 9,yaf 11 f_218 [.t 7,.t 8,.t 10],ybw 12 11] 12 [xI 6 8] (yac [xA 13 9 3,xA 14 2 5,ybk 15 f_219 13 14,xM 6 15])⟩
def c_157:AFn:=⟨1,[.cell 2 true 5],yag [xJ 1 0,yas 2 [yba,.Xu 2 [],yba,yba,.Xu 1 []]] (xD [ycp 3 1,xL 4 3,ycr 5 1,xA 6 4 5,yb4 7 f_163 6,xO 8 (.build [.int .i64 0,.Xu 2 [],.int .i64 0,.int .i64 0,.Xu 1 []] [(0,1,(.t 4)),(1,4,(.t 7))]),xS 5 2 8]) .ret⟩
def c_158:AFn:=⟨2,[.tmp 4],ybp [yav 4] [yce 5,xK 6 .geq 5 0,xM 7 6,ybz 8 7 1,ybz 9 7 0,yaq 10 7 (yaz 9),ybf 11 7 0 10,ybf 12 7 0 11,ybv 13 7 1 12,yaq 14 7 (ya9 13),yb6 15 7 .lss 8 (.t 14),xV 16 7 15,xM 4 16]⟩
def c_159_l0:Xv:=yb2 [xB 42 .lss 41 40] 42 0 1 (ybm [xM 43 41,xX 44 2 39 41,xA 45 2 44,yas 12 [yby 0,yby 0],xM 11 43,xS 2 12 45] [12] (.seq (xD [xA 46 2 12,xM 47 9,xM 48 11,xX 49 3 47 48,xF 50 2 49,xL 51 50,xM 52 10,xM 53 11,xX 54 1 52 53,xL 55 54,yaf 56 f_221 [.t 46,.t 51,.t 55],xM 13 56]) (yal [xM 57 13,xK 58 .neq 57 0] 58 [xM 59 13,xM 6 59]))) 60 .add 41 1 41 60
def c_159_k1:Xv:=yam 2 (yai [ycr 62 5,xL 63 62,xK 64 .lss 63 0,xM 65 64,ya0 66 65 1 5,ycg 67 65 66,ybo 68 65 .gtr 67 255,xW 69 65 68,xM 61 69] 61 [xI 6 9] (yai [ycr 71 5,xL 72 71,xK 73 .neq 72 0,xM 74 73,yaq 75 74 (.load true 9 (.t 3)),ybz 76 74 1,ycn 77 74 f_222 [.t 75,.t 76],yb6 78 74 .neq 77 (yap 3),xV 79 74 78,xM 70 79] 70 [xI 6 11] (yal [xA 81 9 3,yce 82,xF 83 2 5,ycp 84 83,xL 85 84,yaf 86 f_218 [.t 81,.t 82,.t 85],ybw 87 86,xM 80 87] 80 [xI 6 8]))) (yac [xA 88 9 3,xF 89 2 5,xA 90 2 89,ybk 91 f_219 88 90,xM 6 91])
def c_159:AFn:=⟨3,[.tmp 6],yag [xJ 3 0,xJ 5 2,ybh 6] (ych [xA 15 9 3,yce 16,ybk 17 f_184 15 16,xM 14 17,xE 18 0 14,xE 19 1 14,xM 7 18,xM 8 19] [xM 20 8,xK 21 .neq 20 0] 21 [xM 22 8,xM 6 22]) (.seq (xD [xF 23 5 3,xL 24 23,yce 25,xX 26 6 24 25,ycr 27 26,xL 28 27,xA 29 9 3,yce 30,ybk 31 f_220 29 30,xM 9 28,xM 10 31]) (ybn [ycp 32 5,xL 33 32,xN 34 33,xM 35 9,xN 36 35,xB 37 .neq 34 36] 37 [xI 6 2] (ybq [ycp 38 5,xL 39 38,xN 40 39,ybh 41] 0 c_159_l0 c_159_k1)))⟩
def c_160:AFn:=⟨2,[.tmp 4],ybp [yav 4] [ybt 5,yce 6,ybk 7 f_223 5 6,xK 8 .geq 7 0,xM 4 8]⟩
def c_161:AFn:=⟨2,[.tmp 3],ybp [yca 2 0,yav 3] [ycr 4 2,xA 5 4 4,xA 6 4 1,ybk 7 f_162 5 6,xM 3 7]⟩
def c_162_l0:Xv:=yb2 [xB 25 .lss 24 23] 25 0 1 (yag [xM 26 24,xX 27 2 22 24,xA 28 2 27,yas 6 [yby 0,yby 0],xM 5 26,xS 2 6 28] (xD [xA 29 2 6,ycp 30 3,xL 31 30,xM 32 5,xX 33 2 31 32,xA 34 2 33,xO 35 (.eqs true true [.i,.i] (.t 29) (.t 34))]) (yab 35 (yac [yav 4]) .skip)) 36 .add 24 1 24 36
def c_162_k1:Xv:=yac [ycb 4]
def c_162:AFn:=⟨2,[.tmp 4],ya7 [yca 2 0,yca 3 1,yav 4] [ycr 7 2,xL 8 7,ycr 9 3,xL 10 9,xB 11 .neq 8 10,xM 12 11,ya0 13 12 0 2,ycg 14 12 13,ybl 15 12 14,ya0 16 12 0 3,ycg 17 12 16,ybl 18 12 17,ya6 19 12 .neq 15 (.t 18),xW 20 12 19] 20 [yav 4] (ybq [ycp 21 2,xL 22 21,xN 23 22,ybh 24] 0 c_162_l0 c_162_k1)⟩
def c_163:AFn:=⟨1,[.cell 2 true 4],yag [xJ 1 0,yas 2 [.Xu 2 [],yba,yba,.Xu 1 []]] (xD [ycp 3 1,xL 4 3,yb4 5 f_224 4,ycr 6 1,xL 7 6,xF 8 2 1,xA 9 2 8,yb4 10 f_85 9,xO 11 (.build [.Xu 2 [],.int .i64 0,.int .i64 0,.Xu 1 []] [(0,1,(.t 5)),(1,1,(.t 7)),(2,2,(.t 10))]),xS 4 2 11]) .ret⟩
def c_164:AFn:=⟨3,[.tmp 6],yaa [xC 6 (.Xu 5 [])] (ya7 [ybt 8,yce 9,xM 10 2,ybt 11,xN 12 11,xO 13 (.slcH 5 (.t 8) (some (.t 9)) (some (.t 10)) (some (.t 12)))] [yce 14,xM 15 2,xB 16 .eql 14 15] 16 [ybt 17,xM 6 17] (yag [ybt 18,xN 19 18,xM 7 19] (xD [ybt 20,yce 21,xO 22 (.slc 5 (.t 20) none (some (.t 21)) none),ybt 23,xM 24 2,xO 25 (.slc 5 (.t 23) (some (.t 24)) none none),yci 26 .app 5 72 22 25,xM 0 26]) (ybp [ybt 27,ybt 28,xN 29 28,xM 30 7,xO 31 (.slcH 5 (.t 27) (some (.t 29)) (some (.t 30)) none),⟨none,none,.clear [.int .i64 0,.Xu 2 [],.int .i64 0,.int .i64 0,.Xu 1 []] (.t 31)⟩] [ybt 32,xM 6 32])))⟩
def c_165_l0:Xv:=yb2 [xB 15 .lss 14 13] 15 0 1 (ych [xM 16 14,xX 17 1 12 14,xL 18 17,xM 5 16,xM 6 18] [xM 19 6,yce 20,xM 21 5,xX 22 1 20 21,xL 23 22,xB 24 .neq 19 23] 24 [yav 4]) 25 .add 14 1 14 25
def c_165_k1:Xv:=yac [ycb 4]
def c_165:AFn:=⟨2,[.tmp 4],ya7 [yav 4] [ybt 7,xN 8 7,yce 9,xN 10 9,xB 11 .neq 8 10] 11 [yav 4] (ybq [ybt 12,xN 13 12,ybh 14] 0 c_165_l0 c_165_k1)⟩
def c_166:AFn:=⟨4,[],ycf [ybt 8,xK 9 .neq 8 0] 9 (xR [ybt 10,yce 11,xM 12 2,xM 13 3,xO 14 (.build [.int .i64 0,.int .i64 0,.int .i64 0,.int .i64 0] [(0,1,(.t 10)),(1,1,(.t 11)),(2,1,(.t 12)),(3,1,(.t 13))]),xO 15 (.build [.int .i64 0,.int .i64 0,.int .i64 0,.int .i64 0] [(0,4,(.t 14))]),xO 16 (.mkiface 172 (.t 15)),⟨none,none,.panic (.t 16)⟩])⟩
def c_167:AFn:=⟨2,[.tmp 4],ya7 [ycj] [ybt 5] 5 [yce 6,xM 4 6] (yac [ycj])⟩
def c_168:AFn:=⟨1,[.tmp 2],ybp [yav 2] [ybt 3,yb4 4 f_225 3,ybw 5 4,xM 2 5]⟩
def c_169_l0:Xv:=yb2 [xB 11 .lss 10 9] 11 0 1 (ybm [xX 12 2 8 10,xA 13 2 12,yas 7 [.str [],.Xu 2 []],xS 2 7 13] [7] (xR [xM 14 5,yce 15,xA 16 2 7,xO 17 (yb7 15 [.t 16]),xO 18 (.bslice .imm 1 (List.replicate 1 [.str []]) [(0,(.t 17))]),yci 19 .app 1 16 14 18,xM 5 19])) 20 .add 10 1 10 20
def c_169_k1:Xv:=yco 21 5 4 21
def c_169:AFn:=⟨2,[.tmp 4],ycq [xC 4 (.Xu 1 [])] [yck 5 1] [ybt 8,xN 9 8,ybh 10] 0 c_169_l0 c_169_k1⟩
def c_170:AFn:=⟨1,[.tmp 2],ybp [xJ 1 0,xC 2 (.str [])] [ycp 3 1,xL 4 3,xM 2 4]⟩
def c_171_l0:Xv:=yb2 [xB 48 .lss 47 46] 48 3 4 (ybc [xX 49 2 45 47,xA 50 2 49,yas 6 [.str [],yba],xS 2 6 50] [ycr 51 4,xL 52 51,ycr 53 6,xS 1 53 52] (yal [xA 54 2 6,xA 55 2 4,xO 56 (.eqs false true [.s,.i] (.t 54) (.t 55))] 56 [xI 2 7])) 57 .add 47 1 47 57
def c_171_k1:Xv:=xR [xK 58 .add 25 1,xM 25 58]
def c_171_l2:Xv:=ya4 [xB 26 .lss 25 24] 26 1 (yam 2 (ybm [xM 27 25,xX 28 2 23 25,xA 29 2 28,yas 4 [.str [],yba],xM 3 27,xS 2 4 29] [4] (ybn [ycp 30 4,xL 31 30,yb4 32 f_225 31,ybw 33 32] 33 [xI 2 6] (ybn [ycr 34 4,xL 35 34,xK 36 .lss 35 1,xM 37 36,ya0 38 37 1 4,ycg 39 37 38,ybo 40 37 .gtr 39 32,xW 41 37 40] 41 [xI 2 10] (yay [ycr 42 1,xL 43 42,xM 44 3,xO 45 (.slc 2 (.t 43) none (some (.t 44)) none),xN 46 45,ybh 47] 3 c_171_l0)))) c_171_k1)
def c_171_k3:Xv:=ybn [xA 59 2 1,yb4 60 f_227 59,yb4 61 f_226 60,xK 62 .rem 61 8,xK 63 .neq 62 0] 63 [xI 2 10] (yac [ybh 2])
def c_171:AFn:=⟨1,[.tmp 2],yag [xJ 1 0,ybh 2] (.block 0 (yai [ycp 8 1,xL 9 8,yb4 10 f_225 9,ybw 11 10,xM 7 11] 7 [xI 2 6] (yai [ycr 13 1,xL 14 13,xN 15 14,xK 16 .eql 15 0,xM 12 16] 12 [xI 2 8] (yal [ycr 18 1,xL 19 18,xN 20 19,xK 21 .gtr 20 12,xM 17 21] 17 [xI 2 12])))) (ybq [ycr 22 1,xL 23 22,xN 24 23,ybh 25] 1 c_171_l2 c_171_k3)⟩
def c_172:AFn:=⟨2,[.tmp 4],yag [yav 4] (xD [ybt 5,yce 6,xO 7 (.slc 1 (.t 5) none (some (.t 6)) none),ybt 8,yce 9,xX 10 1 8 9,xL 11 10,ybk 12 f_228 7 11,xM 4 12]) .ret⟩
def c_173_l0:Xv:=yb2 [xB 11 .lss 10 9] 11 0 1 (ybm [xX 12 2 8 10,xA 13 2 12,yas 7 [.str [],yba],xS 2 7 13] [7] (xR [xM 14 5,yce 15,xA 16 2 7,xO 17 (yb7 15 [.t 16]),xO 18 (.bslice .imm 1 (List.replicate 1 [.str []]) [(0,(.t 17))]),yci 19 .app 1 16 14 18,xM 5 19])) 20 .add 10 1 10 20
def c_173_k1:Xv:=yco 21 5 4 21
def c_173:AFn:=⟨2,[.tmp 4],ycq [xC 4 (.Xu 1 [])] [yck 5 1] [ybt 8,xN 9 8,ybh 10] 0 c_173_l0 c_173_k1⟩
def c_174:AFn:=⟨1,[.tmp 2],ybp [xJ 1 0,xC 2 (.str [])] [ycp 3 1,xL 4 3,xM 2 4]⟩
def c_175:AFn:=⟨1,[.tmp 2],ybp [yav 2] [ybt 3,xK 4 .lss 3 1,xM 5 4,ya8 6 5 0,ybo 7 5 .gtr 6 32,xW 8 5 7,xM 2 8]⟩
def c_176_l0:Xv:=yb2 [xB 11 .lss 10 9] 11 0 1 (ybm [xX 12 3 8 10,xA 13 3 12,yas 7 [.str [],yba,yba],xS 3 7 13] [7] (xR [xM 14 5,yce 15,xA 16 3 7,xO 17 (yb7 15 [.t 16]),xO 18 (.bslice .imm 1 (List.replicate 1 [.str []]) [(0,(.t 17))]),yci 19 .app 1 16 14 18,xM 5 19])) 20 .add 10 1 10 20
def c_176_k1:Xv:=yco 21 5 4 21
def c_176:AFn:=⟨2,[.tmp 4],ycq [xC 4 (.Xu 1 [])] [yck 5 1] [ybt 8,xN 9 8,ybh 10] 0 c_176_l0 c_176_k1⟩
def c_177:AFn:=⟨1,[.tmp 2],ybp [xJ 1 0,xC 2 (.str [])] [ycp 3 1,xL 4 3,xM 2 4]⟩
def c_178:AFn:=⟨1,[.tmp 2],yag [xJ 1 0,ybh 2] (.block 0 (yai [ycp 4 1,xL 5 4,yb4 6 f_225 5,ybw 7 6,xM 3 7] 3 [xI 2 6] (yai [ycr 9 1,xL 10 9,yb4 11 f_217 10,xO 12 (yar .eql 11 (.c (yby 0))),xM 8 12] 8 [xI 2 10] (yal [xA 14 3 1,yb4 15 f_149 14,ybw 16 15,xM 13 16] 13 [xI 2 9])))) (yac [ybh 2])⟩
def c_179_l0:Xv:=yb2 [xB 11 .lss 10 9] 11 0 1 (ybm [xX 12 3 8 10,xA 13 3 12,yas 7 [.str [],.Xu 2 [],.Xu 7 []],xS 3 7 13] [7] (xR [xM 14 5,yce 15,xA 16 3 7,xO 17 (yb7 15 [.t 16]),xO 18 (.bslice .imm 1 (List.replicate 1 [.str []]) [(0,(.t 17))]),yci 19 .app 1 16 14 18,xM 5 19])) 20 .add 10 1 10 20
def c_179_k1:Xv:=yco 21 5 4 21
def c_179:AFn:=⟨2,[.tmp 4],ycq [xC 4 (.Xu 1 [])] [yck 5 1] [ybt 8,xN 9 8,ybh 10] 0 c_179_l0 c_179_k1⟩
def c_180:AFn:=⟨1,[.tmp 2],ybp [xJ 1 0,xC 2 (.str [])] [ycp 3 1,xL 4 3,xM 2 4]⟩
def c_181_l0:Xv:=yb2 [xB 38 .lss 37 36] 38 0 1 (ybm [xM 39 37,xX 40 7 35 37,xA 41 7 40,yas 9 [yba,yba,yba,yba,yba,.Xu 3 [],.Xu 3 []],xM 8 39,xS 7 9 41] [9] (ych [xA 42 10 7,xA 43 7 9,ybk 44 f_230 42 43,xM 5 44] [xM 45 5,xK 46 .neq 45 0] 46 [xM 47 8,xM 48 5,xM 4 47,xM 5 48])) 49 .add 37 1 37 49
def c_181_k1:Xv:=yb9 ycj (ybh 5)
def c_181:AFn:=⟨2,[.tmp 4,.tmp 5],ya7 [xJ 2 0,ycj,ybh 5] [yce 10,xK 11 .lss 10 0,xM 12 11,ya8 13 12 1,ya0 14 12 4 2,ycg 15 12 14,ybl 16 12 15,ya6 17 12 .geq 13 (.t 16),xW 18 12 17] 18 [xI 4 (-1),xI 5 8] (ybm [xF 19 4 2,xL 20 19,yce 21,xX 22 3 20 21,xA 23 3 22,yas 6 [.str [],.Xu 2 [],.Xu 7 []],xS 3 6 23] [6] (.seq (ych [xA 24 3 6,yb4 25 f_229 24,xM 5 25] [xM 26 5,xK 27 .neq 26 0] 27 [xM 28 5,xI 4 (-1),xM 5 28]) (ybm [xA 29 9 2,ycr 30 6,xL 31 30,xO 32 (.build [.str [],.Xu 2 [],.Xu 2 [],.Xu 3 [],.Xu 3 [],.Xu 6 [],.Xu 7 [],.Xu 5 [],.Xu 1 [],.Xu 2 []] [(0,9,(.t 29)),(9,1,(.t 31))]),xO 33 (.build [.str [],.Xu 2 [],.Xu 2 [],.Xu 3 [],.Xu 3 [],.Xu 6 [],.Xu 7 [],.Xu 5 [],.Xu 1 [],.Xu 2 []] [(0,10,(.t 32))]),yas 7 [.str [],.Xu 2 [],.Xu 2 [],.Xu 3 [],.Xu 3 [],.Xu 6 [],.Xu 7 [],.Xu 5 [],.Xu 1 [],.Xu 2 []],xS 10 7 33] [7] (ybq [xF 34 2 6,xL 35 34,xN 36 35,ybh 37] 0 c_181_l0 c_181_k1))))⟩
def c_182_l0:Xv:=yb2 [xB 11 .lss 10 9] 11 0 1 (ybm [xX 12 6 8 10,xA 13 6 12,yas 7 [.str [],.Xu 3 [],.Xu 1 [],yba,.Xu 1 [],yba],xS 6 7 13] [7] (xR [xM 14 5,yce 15,xA 16 6 7,xO 17 (yb7 15 [.t 16]),xO 18 (.bslice .imm 1 (List.replicate 1 [.str []]) [(0,(.t 17))]),yci 19 .app 1 16 14 18,xM 5 19])) 20 .add 10 1 10 20
def c_182_k1:Xv:=yco 21 5 4 21
def c_182:AFn:=⟨2,[.tmp 4],ycq [xC 4 (.Xu 1 [])] [yck 5 1] [ybt 8,xN 9 8,ybh 10] 0 c_182_l0 c_182_k1⟩
def c_183:AFn:=⟨1,[.tmp 2],ybp [xJ 1 0,xC 2 (.str [])] [ycp 3 1,xL 4 3,xM 2 4]⟩
def c_184:AFn:=⟨2,[.tmp 4,.tmp 5],ya7 [xJ 2 0,ycj,ybh 5] [yce 7,xK 8 .lss 7 0,xM 9 8,ya8 10 9 1,ya0 11 9 5 2,ycg 12 9 11,ybl 13 9 12,ya6 14 9 .geq 10 (.t 13),xW 15 9 14] 15 [xI 4 (-1),xI 5 8] (ybm [xF 16 5 2,xL 17 16,yce 18,xX 19 6 17 18,xA 20 6 19,yas 6 [.str [],.Xu 3 [],.Xu 1 [],yba,.Xu 1 [],yba],xS 6 6 20] [6] (yam 0 (yai [ycp 22 6,xL 23 22,yb4 24 f_225 23,ybw 25 24,xM 21 25] 21 [xI 4 (-1),xI 5 6] (yai [ycr 27 6,xL 28 27,xN 29 28,xK 30 .gtr 29 6,xM 31 30,ya0 32 31 2 6,ycg 33 31 32,ybl 34 31 33,ybo 35 31 .gtr 34 16,xW 36 31 35,xM 26 36] 26 [xI 4 (-1),xI 5 12] (yal [xF 38 5 6,xL 39 38,xK 40 .lss 39 1,xM 41 40,ya0 42 41 5 6,ycg 43 41 42,ybo 44 41 .gtr 43 256,xW 45 41 44,xM 37 45] 37 [xI 4 (-1),xI 5 9]))) (.seq (ych [xA 47 9 2,xA 48 6 6,ybk 49 f_231 47 48,xM 46 49,xE 50 0 46,xE 51 1 46,xM 4 50,xM 5 51] [xM 52 5,xK 53 .neq 52 0] 53 [xM 54 4,xM 55 5,xM 4 54,xM 5 55]) (.seq (ych [xA 56 9 2,xA 57 6 6,ybk 58 f_232 56 57,xM 5 58] [xM 59 5,xK 60 .neq 59 0] 60 [xM 61 5,xI 4 (-3),xM 5 61]) (yb9 ycj (ybh 5))))))⟩
def c_185_l0:Xv:=yb2 [xB 25 .lss 24 23] 25 1 2 (ybm [xM 26 24,xX 27 7 22 24,xA 28 7 27,yas 7 [.str [],.Xu 1 [],.bool false,yba,yba,.Xu 3 [],yba],xM 6 26,xS 7 7 28] [7] (yam 3 (yai [ycp 30 7,xL 31 30,yb4 32 f_225 31,ybw 33 32,xM 29 33] 29 [xM 34 6,xM 2 34,xI 3 (-1),xI 4 6] (yal [xM 36 5,ycp 37 7,xL 38 37,xO 39 (.lookup .s (.bool false) false (.t 36) (.t 38)),xM 35 39] 35 [xM 40 6,xM 2 40,xI 3 (-1),xI 4 7])) (ybc [xM 41 5,ycp 42 7,xL 43 42,⟨none,none,.update .s (.t 41) (.t 43) (.c (.bool true))⟩] [xA 45 9 1,xM 46 6,ybk 47 f_233 45 46,xM 44 47,xE 48 0 44,xE 49 1 44,xM 8 48,xM 9 49] (yal [xM 50 9,xK 51 .neq 50 0] 51 [xM 52 6,xM 53 8,xM 54 9,xM 2 52,xM 3 53,xM 4 54])))) 55 .add 24 1 24 55
def c_185_k1:Xv:=yac [ybh 2,ybh 3,ycj]
def c_185:AFn:=⟨1,[.tmp 2,.tmp 3,.tmp 4],yag [xJ 1 0,ybh 2,ybh 3,ycj] (.block 0 (yai [xF 11 6 1,xL 12 11,xN 13 12,xK 14 .eql 13 0,xM 10 14] 10 [xI 2 (-1),xI 3 (-1),xI 4 8] (yal [xF 16 6 1,xL 17 16,xN 18 17,xK 19 .gtr 18 12,xM 15 19] 15 [xI 2 (-1),xI 3 (-1),xI 4 12]))) (ybg [xO 20 .mkmap,xM 5 20] [xF 21 6 1,xL 22 21,xN 23 22,ybh 24] 1 c_185_l0 c_185_k1)⟩
def c_186:AFn:=⟨1,[.tmp 2,.cell 3 false 1],ya7 [xJ 1 0,ybh 2,yas 3 [yba]] [xF 6 7 1,xL 7 6,yb4 8 f_234 7,xK 9 .gtr 8 24] 9 [xI 2 (-1),⟨none,none,.store 1 (.t 3) (.c (.int .i64 12))⟩] (ybn [xF 10 7 1,xL 11 10,yb4 12 f_235 11,xK 13 .gtr 12 6] 13 [xI 2 (-1),⟨none,none,.store 1 (.t 3) (.c (.int .i64 14))⟩] (ybc [yas 4 [yba],⟨none,none,.store 1 (.t 4) (.c (.int .i64 0))⟩] [yas 5 [.Xu 1 []]] (yag [xF 14 7 1,xL 15 14,xO 16 (.mkfunc (.func f_237) [] [.t 1,.t 5,.t 3,.t 4]),yaw 17 f_236 [.t 15,.t 16]] (ycf [xL 18 3,xK 19 .neq 18 0] 19 (.seq (xD [xL 20 4,xL 21 3,xM 2 20,xS 1 3 21]) .ret)) (yb9 (ybh 2) ⟨none,none,.store 1 (.t 3) (.c (.int .i64 0))⟩))))⟩
def c_187_l0:Xv:=yb2 [xB 14 .lss 13 12] 14 0 1 (yaa [xM 15 13,xX 16 1 11 13,xL 17 16,xM 4 15,xM 5 17] (.block 2 (yai [xM 19 5,xK 20 .lss 19 0,xM 21 20,ya8 22 21 5,ya0 23 21 1 1,ycg 24 21 23,ybl 25 21 24,ya6 26 21 .geq 22 (.t 25),xW 27 21 26,xM 18 27] 18 [xM 28 4,xM 2 28,xI 3 8] (yal [xF 30 8 1,xL 31 30,xM 32 4,xO 33 (.slc 1 (.t 31) none (some (.t 32)) none),xM 34 5,ybk 35 f_240 33 34,xM 29 35] 29 [xM 36 4,xM 2 36,xI 3 7])))) 37 .add 13 1 13 37
def c_187_k1:Xv:=yb9 (ybh 2) (ybh 3)
def c_187:AFn:=⟨1,[.tmp 2,.tmp 3],ya7 [xJ 1 0,ybh 2,ybh 3] [xF 6 8 1,xL 7 6,xN 8 7,xK 9 .gtr 8 8] 9 [xI 2 (-1),xI 3 12] (ybq [xF 10 8 1,xL 11 10,xN 12 11,ybh 13] 0 c_187_l0 c_187_k1)⟩
def c_188_l0:Xv:=yb2 [xB 11 .lss 10 9] 11 0 1 (ybm [xX 12 7 8 10,xA 13 7 12,yas 7 [yba,yba,yba,yba,yba,.Xu 3 [],.Xu 3 []],xS 7 7 13] [7] (xR [xM 14 5,yce 15,xA 16 7 7,xO 17 (yb7 15 [.t 16]),xO 18 (.bslice .imm 7 (List.replicate 1 [.int .i64 0,.int .i64 0,.int .i64 0,.int .i64 0,.int .i64 0,.Xu 3 [],.Xu 3 []]) [(0,(.t 17))]),yci 19 .app 7 88 14 18,xM 5 19])) 20 .add 10 1 10 20
def c_188_k1:Xv:=yco 21 5 4 21
def c_188:AFn:=⟨2,[.tmp 4],ycq [xC 4 (.Xu 7 [])] [yck 5 7] [ybt 8,xN 9 8,ybh 10] 0 c_188_l0 c_188_k1⟩
def c_189:AFn:=⟨1,[.cell 2 true 7],yag [yca 1 0,yas 2 [yba,yba,yba,yba,yba,.Xu 3 [],.Xu 3 []]] (xD [xF 3 5 1,xL 4 3,yb4 5 f_192 4,xF 6 6 1,xL 7 6,yb4 8 f_192 7,xF 9 5 1,xS 1 9 5,xF 10 6 1,xS 1 10 8]) (yb9 (xA 11 7 1) (xS 7 2 11))⟩
def c_193_l0:Xv:=ycm [xM 11 4,xO 12 (yar .gtr 11 (.c (yby 0))),xM 13 12,ybz 14 13 0,yaq 15 13 (yaz 14),ybf 16 13 1 15,ybv 17 13 1 16,yb6 18 13 .eql 17 (yap 0),xV 19 13 18] 19 0 (ya3 1 (.region true [(1,3)] [⟨some 22,none,.faddr 1 (.t 3)⟩,⟨some 23,none,.load false 1 (.t 22)⟩,⟨some 24,none,.mov (.t 0)⟩,⟨some 25,none,.tcall f_122 [.t 24,.c (.int .i64 4)]⟩,⟨some 26,none,.bslice .imm 1 (List.replicate 1 [.int .u32 0]) [(0,(.t 25))]⟩,⟨some 27,none,.append .app 1 4 (.t 23) (.t 26)⟩,⟨some 28,none,.faddr 1 (.t 3)⟩,⟨none,none,.store 1 (.t 28) (.t 27)⟩] none) [xM 20 4,xO 21 (yar .sub 20 (.c (yby 1))),xM 4 21])
def c_193_k1:Xv:=yb9 (xA 29 2 3) (xS 2 2 29)
def c_193:AFn:=⟨1,[.cell 2 true 2],ycq [yas 2 [yba,.Xu 1 []]] [ybt 5,yaw 6 f_122 [.t 5,yap 2],ycl 7 .i64 6,xO 8 (.build [.int .i64 0,.Xu 1 []] [(0,1,(.t 7))]),yas 3 [yba,.Xu 1 []],xS 2 3 8] [ybt 9,yaw 10 f_122 [.t 9,yap 1],xM 4 10] 0 c_193_l0 c_193_k1⟩
def c_194:AFn:=⟨1,[.tmp 2],yaa [ybh 2] (ybc [ybt 4,yaw 5 f_122 [.t 4,yap 4],xM 3 5] [ybt 6,xM 7 3,xO 8 (yar .leq 7 (.c (yby 2147483647))),yaw 9 f_123 [.t 6,.t 8,yap 5]] (yac [xM 10 3,ycl 11 .i64 10,xM 2 11]))⟩
def c_195:AFn:=⟨2,[],xR [ybt 4,ybt 5,ybr 6 5,ycp 7 6,xL 8 7,yce 9,ycl 10 .u32 9,xB 11 .xor 8 10,xO 12 (yar .mul 11 (.c (yby 16777619))),ybr 13 4,ycp 14 13,xS 1 14 12]⟩
def c_215:AFn:=⟨2,[.tmp 3],ybp [xJ 2 0,yav 3] [ycr 4 2,xA 5 4 4,ycr 6 1,xA 7 4 6,ybk 8 f_162 5 7,xM 3 8]⟩
def c_216_l0:Xv:=ycm [xM 12 4,ybt 13,xN 14 13,xB 15 .lss 12 14] 15 0 (ya3 1 (xR [xM 18 3,ybt 19,xM 20 4,xX 21 1 19 20,xL 22 21,xO 23 (.minmax true [.t 18,.t 22]),xM 3 23]) [xM 16 4,xK 17 .add 16 1,xM 4 17])
def c_216_k1:Xv:=yco 24 3 2 24
def c_216:AFn:=⟨1,[.tmp 2],yag [xC 2 (yby 0)] (ycf [ybt 5,xN 6 5,xK 7 .lss 6 1] 7 (xR [xO 8 (.mkiface 9 (.c (.str [115,108,105,99,101,115,46,77,97,120,58,32,101,109,112,116,121,32,108,105,115,116]))),⟨none,none,.panic (.t 8)⟩])) (ybg [ybt 9,xO 10 (yb8 1 none 9 (yap 0)),xL 11 10,xM 3 11] [xI 4 1] 0 c_216_l0 c_216_k1)⟩
def c_217:AFn:=⟨1,[.tmp 2],ya7 [xC 2 (yby 0)] [ybt 3,xO 4 (.bslice .imm 1 (List.replicate 1 [.int .i64 0]) [(0,(.t 3))]),yb4 5 f_261 4,ybw 6 5] 6 [xC 2 (yby 0)] (yac [ybt 7,xO 8 (.bin .sub (yap 32) (.t 7)),xO 9 (.bin .shr (.c (yby 4294967295)) (.t 8)),xM 2 9])⟩
def c_218_l0:Xv:=yb2 [xB 21 .lss 20 19] 21 0 1 (ych [xX 22 1 18 20,xL 23 22,xM 8 23] [xM 24 8,xM 25 2,xB 26 .eql 24 25] 26 [ycb 6]) 27 .add 20 1 20 27
def c_218_k1:Xv:=yac [yav 6]
def c_218:AFn:=⟨3,[.tmp 6],ya7 [xJ 3 0,yav 6] [xA 9 9 3,yce 10,ybk 11 f_262 9 10,ybw 12 11] 12 [yav 6] (ybq [xF 13 5 3,xL 14 13,yce 15,xX 16 6 14 15,xF 17 2 16,xL 18 17,xN 19 18,ybh 20] 0 c_218_l0 c_218_k1)⟩
def c_219_l0:Xv:=yb2 [xB 36 .lss 35 34] 36 0 1 (ych [xM 37 35,xX 38 1 33 35,xL 39 38,xM 6 37,xM 7 39] [xM 40 7,xM 41 5,xM 42 6,xX 43 2 41 42,ycr 44 43,xL 45 44,ybk 46 f_263 40 45,ybw 47 46] 47 [xI 4 9]) 48 .add 35 1 35 48
def c_219_k1:Xv:=yac [ycj]
def c_219:AFn:=⟨2,[.tmp 4],ya7 [xJ 2 0,xJ 3 1,ycj] [ycp 8 3,xL 9 8,xK 10 .lss 9 0,xM 11 10,ya0 12 11 0 3,ycg 13 11 12,ya0 14 11 4 2,ycg 15 11 14,ybl 16 11 15,ya6 17 11 .geq 13 (.t 16),xW 18 11 17] 18 [xI 4 8] (ya7 [xF 19 4 2,xL 20 19,ycp 21 3,xL 22 21,xX 23 3 20 22,ycr 24 23,xL 25 24,xM 5 25] [ycr 26 3,xL 27 26,xN 28 27,xM 29 5,xN 30 29,xB 31 .neq 28 30] 31 [xI 4 2] (ybq [ycr 32 3,xL 33 32,xN 34 33,ybh 35] 0 c_219_l0 c_219_k1))⟩
def c_220_l0:Xv:=yb2 [xB 20 .lss 19 18] 20 0 1 (ybm [xX 21 3 17 19,xA 22 3 21,yas 7 [yba,yba,yba],xS 3 7 22] [7] (xR [xM 23 5,xA 24 9 2,ycp 25 7,xA 26 2 25,ybk 27 f_264 24 26,xO 28 (.bslice .imm 1 (List.replicate 1 [.int .i64 0]) [(0,(.t 27))]),yci 29 .app 1 8 23 28,xM 5 29])) 30 .add 19 1 19 30
def c_220_k1:Xv:=yco 31 5 4 31
def c_220:AFn:=⟨2,[.tmp 4],ya7 [xJ 2 0,xC 4 (.Xu 1 [])] [xA 8 9 2,yce 9,ybk 10 f_262 8 9,ybw 11 10] 11 [xC 4 (.Xu 1 [])] (ybg [yck 5 1] [xF 12 5 2,xL 13 12,yce 14,xX 15 6 13 14,ycr 16 15,xL 17 16,xN 18 17,ybh 19] 0 c_220_l0 c_220_k1)⟩
def c_221:AFn:=⟨3,[.tmp 6],yag [xJ 3 0,ybh 6] (.block 0 (yai [ycp 10 3,xL 11 10,xM 12 2,ybk 13 f_263 11 12,ybw 14 13,xM 15 14,ya0 16 15 1 3,ycg 17 15 16,ya8 18 15 2,yad 19 15 (.pcall f_263 [.t 17,.t 18]),yad 20 15 (ybe 19),xW 21 15 20,xM 9 21] 9 [xI 6 9] (yai [ycp 23 3,xL 24 23,ycr 25 3,xL 26 25,xB 27 .andNot 24 26,xO 28 (yar .neq 27 (.c (yby 0))),xM 22 28] 22 [xI 6 5] (.seq (xD [yce 30,xK 31 .eql 30 1,xM 32 31,ybf 33 32 1 3,ybv 34 32 1 33,ybz 35 32 2,ycn 36 32 f_217 [.t 35],yb6 37 32 .neq 34 (.t 36),xV 38 32 37,xM 29 38]) (yab 29 (yac [xI 6 11]) .skip))))) (.seq (ycf [yce 39,xK 40 .eql 39 2] 40 (ych [ycr 42 3,xL 43 42,xM 44 2,ybk 45 f_265 43 44,xM 41 45,xE 46 0 41,xE 47 1 41,xM 7 46,xM 8 47] [xM 48 8,ybw 49 48] 49 [xI 6 11])) (yac [ybh 6]))⟩
def c_222_l0:Xv:=yb2 [xB 20 .lss 19 18] 20 0 1 (ybm [xX 21 3 17 19,xA 22 3 21,yas 7 [yba,yba,yba],xS 3 7 22] [7] (.block 2 (yai [xF 24 2 7,xL 25 24,xK 26 .eql 25 3,xM 23 26] 23 [xI 4 3] (ycf [xF 28 2 7,xL 29 28,xK 30 .eql 29 2,xM 27 30] 27 (xR [xI 5 2]))))) 31 .add 19 1 19 31
def c_222_k1:Xv:=yco 32 5 4 32
def c_222:AFn:=⟨2,[.tmp 4],ya7 [xJ 2 0,ycj] [xA 8 9 2,yce 9,ybk 10 f_262 8 9,ybw 11 10] 11 [ycj] (ybg [xI 5 1] [xF 12 5 2,xL 13 12,yce 14,xX 15 6 13 14,ycr 16 15,xL 17 16,xN 18 17,ybh 19] 0 c_222_l0 c_222_k1)⟩
def c_223_l0:Xv:=yb2 [xB 9 .lss 8 7] 9 0 1 (ych [xM 10 8,xM 5 10] [yce 11,ybt 12,xM 13 5,xX 14 5 12 13,xA 15 5 14,xO 16 (yb7 11 [.t 15])] 16 [xM 17 5,xM 4 17]) 18 .add 8 1 8 18
def c_223_k1:Xv:=yac [xI 4 (-1)]
def c_223:AFn:=⟨2,[.tmp 4],ybg [ycj] [ybt 6,xN 7 6,ybh 8] 0 c_223_l0 c_223_k1⟩
def c_225:AFn:=⟨1,[.tmp 2],ya7 [yav 2] [ybt 3,xO 4 (.slen (.t 3)),xK 5 .eql 4 0,xM 6 5,ya8 7 6 0,yad 8 6 (.slen (.t 7)),ybo 9 6 .gtr 8 16,xW 10 6 9,xM 11 10,ya8 12 11 0,yad 13 11 (.idxs (.t 12) (yap 0)),yad 14 11 (.pcall f_266 [.t 13]),yad 15 11 (ybe 14),xW 16 11 15] 16 [yav 2] (yac [ybt 17,ybj 18 f_267 17 (.c (.func (.func f_268) [] [])),ybt 19,xO 20 (.slen (.t 19)),xB 21 .eql 18 20,xM 2 21])⟩
def c_226_l0:Xv:=yb2 [xB 9 .lss 8 7] 9 0 1 (yaa [xX 10 1 6 8,xL 11 10,xM 5 11] (xR [xM 12 3,xM 13 5,xB 14 .add 12 13,xM 3 14])) 15 .add 8 1 8 15
def c_226_k1:Xv:=yco 16 3 2 16
def c_226:AFn:=⟨1,[.tmp 2],ycq [ybh 2] [ybh 3] [ybt 6,xN 7 6,ybh 8] 0 c_226_l0 c_226_k1⟩
def c_227_l0:Xv:=yb2 [xB 10 .lss 9 8] 10 0 1 (ybm [xX 11 2 7 9,xA 12 2 11,yas 5 [.str [],yba],xS 2 5 12] [5] (xR [xM 13 3,ycr 14 5,xL 15 14,xO 16 (.bslice .imm 1 (List.replicate 1 [.int .i64 0]) [(0,(.t 15))]),yci 17 .app 1 8 13 16,xM 3 17])) 18 .add 9 1 9 18
def c_227_k1:Xv:=yco 19 3 2 19
def c_227:AFn:=⟨1,[.tmp 2],ycq [xJ 1 0,xC 2 (.Xu 1 [])] [yck 3 1] [ycr 6 1,xL 7 6,xN 8 7,ybh 9] 0 c_227_l0 c_227_k1⟩
def c_228:AFn:=⟨2,[.tmp 4],ybp [yav 4] [ybt 5,yce 6,ybk 7 f_270 5 6,xK 8 .geq 7 0,xM 4 8]⟩
def c_229_l0:Xv:=yb2 [xB 25 .lss 24 23] 25 1 2 (ybm [xM 26 24,xX 27 2 22 24,xA 28 2 27,yas 4 [.str [],yba],xM 3 26,xS 2 4 28] [4] (.block 3 (yai [ycp 30 4,xL 31 30,yb4 32 f_225 31,ybw 33 32,xM 29 33] 29 [xI 2 6] (yai [ycr 35 4,xL 36 35,xK 37 .lss 36 1,xM 38 37,ya0 39 38 1 4,ycg 40 38 39,ybo 41 38 .gtr 40 32,xW 42 38 41,xM 34 42] 34 [xI 2 10] (yal [ycr 44 1,xL 45 44,xM 46 3,xO 47 (.slc 2 (.t 45) none (some (.t 46)) none),xO 48 (.mkfunc (.func f_272) [] [.t 4]),ybk 49 f_271 47 48,xM 43 49] 43 [xI 2 7]))))) 50 .add 24 1 24 50
def c_229_k1:Xv:=yac [ybh 2]
def c_229:AFn:=⟨1,[.tmp 2],yag [xJ 1 0,ybh 2] (.block 0 (yai [ycp 6 1,xL 7 6,yb4 8 f_225 7,ybw 9 8,xM 5 9] 5 [xI 2 6] (yal [ycr 11 1,xL 12 11,xN 13 12,xK 14 .gtr 13 4,xM 15 14,ya0 16 15 2 1,ycg 17 15 16,ybl 18 15 17,ybo 19 15 .gtr 18 12,xW 20 15 19,xM 10 20] 10 [xI 2 12]))) (ybq [ycr 21 1,xL 22 21,xN 23 22,ybh 24] 1 c_229_l0 c_229_k1)⟩
def c_230:AFn:=⟨2,[.tmp 4],yag [xJ 2 0,xJ 3 1,ycj] (xQ [ycp 11 2,ycp 12 11,xA 13 9 12,yas 5 [.str [],.Xu 2 [],.Xu 2 [],.Xu 3 [],.Xu 3 [],.Xu 6 [],.Xu 7 [],.Xu 5 [],.Xu 1 []],xS 9 5 13] [5]) (yaa [xA 15 9 5,ycr 16 3,xA 17 2 16,ybk 18 f_273 15 17,xM 14 18,xE 19 0 14,xE 20 1 14,xM 6 19,xM 7 20] (yag [xF 21 3 3,xL 22 21,xK 23 .geq 22 0,xM 24 23,ybf 25 24 3 3,ybv 26 24 1 25,ybf 27 24 3 5,ybv 28 24 1 27,yaq 29 24 (ya9 28),yb6 30 24 .lss 26 (.t 29),xV 31 24 30,xM 8 31] (yaa [ycp 32 3,xL 33 32] (.block 0 (yah [xK 35 .eql 33 1,xM 34 35] 34 (ybn [xM 36 7,ybw 37 36] 37 [xI 4 8] (yac [xA 38 10 2,xF 39 6 3,xL 40 39,xM 41 6,yaf 42 f_274 [.t 38,.t 40,.t 41],xM 4 42])) (yb5 [xK 44 .eql 33 2,xM 43 44] 43 (xR [xK 45 .eql 33 3,xM 43 45]) (yab 43 (ybn [xF 46 4 3,xL 47 46,xK 48 .lss 47 0,xM 49 48,ya0 50 49 4 3,ycg 51 49 50,ya0 52 49 1 5,ycg 53 49 52,ybl 54 49 53,ya6 55 49 .geq 51 (.t 54),xW 56 49 55] 56 [xI 4 8] (yac [ycj])) (yb5 [xK 58 .eql 33 4,xM 57 58] 57 (xR [xK 59 .eql 33 5,xM 57 59]) (yab 57 (ybn [xM 60 8,ybw 61 60,xM 62 61,ya0 63 62 0 3,ycg 64 62 63,ybo 65 62 .eql 64 4,ya8 66 62 65,ybz 67 66 7,yaq 68 66 (ybe 67),yad 69 62 (.pick (.t 66) (.t 68) (.c (.bool false))),xW 70 62 69] 70 [xI 4 8] (.seq (ych [xF 72 5 3,xL 73 72,ycp 74 2,xA 75 10 74,ybk 76 f_275 73 75,xM 71 76,xE 77 0 71,xE 78 1 71,xM 9 77,xM 10 78] [xM 79 10,xK 80 .neq 79 0] 80 [xM 81 10,xM 4 81]) (.seq (ycf [ycp 82 3,xL 83 82,xK 84 .eql 83 5] 84 (.seq (xD [xA 85 10 2,xF 86 6 3,xL 87 86,xF 88 3 5,xL 89 88,xF 90 3 3,xL 91 90,xX 92 3 89 91,ycr 93 92,xL 94 93,yaf 95 f_274 [.t 85,.t 87,.t 94],xM 4 95]) .ret)) (ybn [xM 96 6,xF 97 3 5,xL 98 97,xF 99 3 3,xL 100 99,xX 101 3 98 100,ycr 102 101,xL 103 102,xB 104 .neq 96 103] 104 [xI 4 10] (yac [ycj]))))) .skip))))))) (yac [xI 4 11])))⟩
def c_231_l0:Xv:=yb2 [xB 15 .lss 14 13] 15 0 1 (ybm [xM 16 14,xX 17 3 12 14,xA 18 3 17,yas 9 [yba,yba,yba],xM 8 16,xS 3 9 18] [9] (ya7 [xA 19 9 2,ycp 20 9,xA 21 2 20,ybk 22 f_264 19 21,xM 10 22] [xM 23 10,xK 24 .eql 23 0] 24 [xM 25 8,xM 4 25,xI 5 8] (.seq (yaa [xF 26 2 9,xL 27 26] (.block 2 (yah [xK 30 .eql 27 2,xM 29 30] 29 (xR [xM 31 6,xK 32 .add 31 1,xM 6 32]) (yb5 [xK 34 .eql 27 1,xM 33 34] 33 (xR [xK 35 .eql 27 3,xM 33 35]) (yab 33 .skip (yac [xM 28 8,xM 4 28,xI 5 11])))))) (xR [xM 36 7,xM 37 10,xB 38 .add 36 37,xM 7 38])))) 39 .add 14 1 14 39
def c_231_k1:Xv:=ybn [xM 40 6,xK 41 .gtr 40 1] 41 [xI 4 (-2),xI 5 7] (ybn [xM 42 7,xK 43 .gtr 42 64] 43 [xI 4 (-2),xI 5 10] (yb9 ycj (ybh 5)))
def c_231:AFn:=⟨2,[.tmp 4,.tmp 5],ycq [xJ 2 0,xJ 3 1,ycj,ybh 5] [ybh 6,ybh 7] [ycr 11 3,xL 12 11,xN 13 12,ybh 14] 0 c_231_l0 c_231_k1⟩
def c_232_l0:Xv:=yb2 [xB 13 .lss 12 11] 13 0 1 (ya7 [xX 14 1 10 12,xL 15 14,xM 7 15] [xM 16 7,xK 17 .lss 16 0,xM 18 17,ya8 19 18 7,ya0 20 18 4 2,ycg 21 18 20,ybl 22 18 21,ya6 23 18 .geq 19 (.t 22),xW 24 18 23] 24 [xI 4 8] (ybn [xM 25 5,xM 26 7,xO 27 (.lookup .i (.bool false) false (.t 25) (.t 26))] 27 [xI 4 7] (xR [xM 28 5,xM 29 7,⟨none,none,.update .i (.t 28) (.t 29) (.c (.bool true))⟩]))) 30 .add 12 1 12 30
def c_232_k1:Xv:=ybn [xM 31 5,xF 32 3 3,ycp 33 32,xL 34 33,xO 35 (.lookup .i (.bool false) false (.t 31) (.t 34)),ybw 36 35] 36 [xI 4 8] (yac [xA 37 9 2,xF 38 3 3,xA 39 2 38,ybk 40 f_219 37 39,xM 4 40])
def c_232:AFn:=⟨2,[.tmp 4],ycq [xJ 2 0,xJ 3 1,ycj] [xO 8 .mkmap,xM 5 8] [xF 9 2 3,xL 10 9,xN 11 10,ybh 12] 0 c_232_l0 c_232_k1⟩
def c_233_l0:Xv:=yb2 [xB 31 .lss 30 29] 31 0 1 (ych [xX 32 1 28 30,xL 33 32,xM 8 33] [xM 34 8,xK 35 .lss 34 0,xM 36 35,ya8 37 36 8,ya0 38 36 1 2,ycg 39 36 38,ybl 40 36 39,ya6 41 36 .geq 37 (.t 40),xW 42 36 41] 42 [xI 4 (-1),xI 5 8]) 43 .add 30 1 30 43
def c_233_l1:Xv:=yb2 [xB 68 .lss 67 66] 68 3 4 (ybm [xM 69 67,xX 70 3 65 67,xA 71 3 70,yas 10 [yby 0,yby 0,yba],xM 9 69,xS 3 10 71] [10] (ych [xA 72 9 2,yce 73,xA 74 3 10,yaf 75 f_276 [.t 72,.t 73,.t 74],xM 11 75] [xM 76 11,xK 77 .neq 76 0] 77 [xM 78 9,xM 79 11,xM 4 78,xM 5 79])) 80 .add 67 1 67 80
def c_233_k2:Xv:=ybn [xA 81 9 2,yce 82,xF 83 6 6,xL 84 83,yaf 85 f_277 [.t 81,.t 82,.t 84],ybw 86 85] 86 [xI 4 (-1),xI 5 14] (yb9 ycj (ybh 5))
def c_233_k3:Xv:=yam 2 (yai [xF 45 2 6,xL 46 45,xM 47 46,yaq 48 47 (.load true 9 (.t 2)),ybf 49 47 3 6,yaq 50 47 (.load true 2 (.t 49)),ycn 51 47 f_264 [.t 48,.t 50],yb6 52 47 .eql 51 (yap 0),xV 53 47 52,xM 44 53] 44 [xI 4 (-1),xI 5 8] (yal [xF 55 2 6,xL 56 55,ybw 57 56,xM 58 57,ybf 59 58 5 6,ybv 60 58 1 59,yaq 61 58 (ya9 60),yb6 62 58 .gtr 61 (yap 0),xV 63 58 62,xM 54 63] 54 [xI 4 (-1),xI 5 11])) (ybq [xF 64 5 6,xL 65 64,xN 66 65,ybh 67] 3 c_233_l1 c_233_k2)
def c_233:AFn:=⟨2,[.tmp 4,.tmp 5],yag [xJ 2 0,ycj,ybh 5] (xQ [xF 12 6 2,xL 13 12,yce 14,xX 15 7 13 14,xA 16 7 15,yas 6 [.str [],.Xu 1 [],.bool false,yba,yba,.Xu 3 [],yba],xS 7 6 16] [6]) (ybn [ycr 17 6,xL 18 17,xN 19 18,xK 20 .gtr 19 4,xM 21 20,ya0 22 21 5 6,ycg 23 21 22,ybl 24 21 23,ybo 25 21 .gtr 24 8,xW 26 21 25] 26 [xI 4 (-1),xI 5 12] (ybq [ycr 27 6,xL 28 27,xN 29 28,ybh 30] 0 c_233_l0 c_233_k3))⟩
def c_234:AFn:=⟨1,[.tmp 2],yaa [ybh 2] (ybc [yas 3 [yba],⟨none,none,.store 1 (.t 3) (.c (.int .i64 0))⟩] [ybt 4,xO 5 (.mkfunc (.func f_278) [] [.t 3]),yaw 6 f_236 [.t 4,.t 5]] (ycc (xL 7 3) 2 7))⟩
def c_235_l0:Xv:=yb2 [xB 12 .lss 11 10] 12 0 1 (ybm [xX 13 5 9 11,xA 14 5 13,yas 5 [yba,yba,.Xu 3 [],.Xu 5 [],.Xu 5 []],xS 5 5 14] [5] (xD [xM 15 3,xF 16 3 5,xL 17 16,yb4 18 f_235 17,xF 19 4 5,xL 20 19,yb4 21 f_235 20,xO 22 (.minmax true [.t 15,.t 18,.t 21]),xM 3 22])) 23 .add 11 1 11 23
def c_235_k1:Xv:=yac [xM 24 3,xK 25 .add 24 1,xM 2 25]
def c_235:AFn:=⟨1,[.tmp 2],ya7 [ybh 2] [ybt 6,xN 7 6,xK 8 .eql 7 0] 8 [ybh 2] (ybg [ybh 3] [ybt 9,xN 10 9,ybh 11] 0 c_235_l0 c_235_k1)⟩
def c_236_l0:Xv:=yb2 [xB 10 .lss 9 8] 10 0 1 (ybm [xX 11 5 7 9,xA 12 5 11,yas 6 [yba,yba,.Xu 3 [],.Xu 5 [],.Xu 5 []],xS 5 6 12] [6] (yal [yce 13,xA 14 5 6,xO 15 (.tcallv (.t 13) [.t 14]),ybw 16 15,xM 17 16,ya0 18 17 3 6,ycg 19 17 18,ya8 20 17 1,yad 21 17 (.tcall f_236 [.t 19,.t 20]),yad 22 17 (ybe 21),xW 23 17 22,xM 24 23,ya0 25 24 4 6,ycg 26 24 25,ya8 27 24 1,yad 28 24 (.tcall f_236 [.t 26,.t 27]),yad 29 24 (ybe 28),xW 30 24 29] 30 [yav 4])) 31 .add 9 1 9 31
def c_236_k1:Xv:=yac [ycb 4]
def c_236:AFn:=⟨2,[.tmp 4],ybg [yav 4] [ybt 7,xN 8 7,ybh 9] 0 c_236_l0 c_236_k1⟩
def c_237:AFn:=⟨5,[.tmp 6],yag [xJ 5 0,yav 6] (ych [xA 7 9 1,xA 8 5 5,xL 9 2,yaf 10 f_238 [.t 7,.t 8,.t 9],xS 1 3 10] [xL 11 3,xK 12 .neq 11 0] 12 [yav 6]) (.seq (ycf [xA 13 5 5,yb4 14 f_239 13] 14 (xR [xL 15 2,ycr 16 5,xL 17 16,xO 18 (.bslice .imm 1 (List.replicate 1 [.int .i64 0]) [(0,(.t 17))]),yci 19 .app 1 8 15 18,xS 1 2 19])) (ybp [xL 20 4,xK 21 .add 20 1,xS 1 4 21] [ycb 6]))⟩
def c_238_l0:Xv:=yb2 [xB 30 .lss 29 28] 30 1 2 (ych [xX 31 1 27 29,xL 32 31,xM 8 32] [xM 33 8,ycr 34 4,xL 35 34,xB 36 .eql 33 35] 36 [xI 6 7]) 37 .add 29 1 29 37
def c_238_k1:Xv:=yal [ycp 38 4,xL 39 38,xK 40 .eql 39 1,xM 41 40,ybf 42 41 3 4,ybv 43 41 1 42,yaq 44 41 (ya9 43),ybf 45 41 4 4,ybv 46 41 1 45,yaq 47 41 (ya9 46),yb6 48 41 .add 44 (.t 47),yb6 49 41 .gtr 48 (yap 0),xV 50 41 49] 50 [xI 6 5]
def c_238_k2:Xv:=yac [ybh 6]
def c_238:AFn:=⟨3,[.tmp 6],yag [xJ 3 0,xJ 4 1,ybh 6] (yaa [ycp 11 4,xL 12 11] (.block 0 (yb5 [xK 14 .eql 12 1,xM 13 14] 13 (xR [xK 15 .eql 12 3,xM 13 15]) (yab 13 (ybn [ycr 16 4,xL 17 16,xK 18 .lss 17 0,xM 19 18,ya0 20 19 1 4,ycg 21 19 20,ya0 22 19 5 3,ycg 23 19 22,ybl 24 19 23,ya6 25 19 .geq 21 (.t 24),xW 26 19 25] 26 [xI 6 8] (ybq [xM 27 2,xN 28 27,ybh 29] 1 c_238_l0 c_238_k1)) (yah [xK 52 .eql 12 2,xM 51 52] 51 (ya7 [xF 54 2 4,xL 55 54,xA 56 9 3,xO 57 (.build [.str [],.Xu 2 [],.Xu 2 [],.Xu 3 [],.Xu 3 [],.Xu 6 [],.Xu 7 [],.Xu 5 [],.Xu 1 [],.Xu 2 []] [(0,9,(.t 56))]),ybk 58 f_275 55 57,xM 53 58,xE 59 0 53,xE 60 1 53,xM 9 59,xM 10 60] [xM 61 10,xK 62 .neq 61 0] 62 [xM 63 10,xM 6 63] (yal [xM 64 9,xK 65 .neq 64 1] 65 [xI 6 10])) (yac [xI 6 11])))))) c_238_k2⟩
def c_239:AFn:=⟨1,[.tmp 2],ybp [xJ 1 0,yav 2] [ycp 3 1,xL 4 3,xK 5 .eql 4 1,xM 6 5,ya0 7 6 0 1,ycg 8 6 7,ybo 9 6 .eql 8 3,xW 10 6 9,xM 2 10]⟩
def c_240:AFn:=⟨2,[.tmp 4],ybp [yav 4] [ybt 5,yce 6,ybk 7 f_279 5 6,xK 8 .geq 7 0,xM 4 8]⟩
def c_261_l0:Xv:=yb2 [xB 8 .lss 7 6] 8 0 1 (ych [xX 9 1 5 7,xL 10 9,xM 4 10] [xM 11 4,xK 12 .lss 11 1,xM 13 12,ya8 14 13 4,ybo 15 13 .gtr 14 32,xW 16 13 15] 16 [yav 2]) 17 .add 7 1 7 17
def c_261_k1:Xv:=yac [ycb 2]
def c_261:AFn:=⟨1,[.tmp 2],ybg [yav 2] [ybt 5,xN 6 5,ybh 7] 0 c_261_l0 c_261_k1⟩
def c_262:AFn:=⟨2,[.tmp 4],ybc [xJ 2 0,yav 4] [xA 8 9 2,yce 9,ybk 10 f_184 8 9,xM 7 10,xE 11 0 7,xE 12 1 7,xM 5 11,xM 6 12] (yac [xM 13 6,xK 14 .eql 13 0,xM 4 14])⟩
def c_263:AFn:=⟨2,[.tmp 4],ybp [yav 4] [yce 5,xO 6 (.bslice .imm 1 (List.replicate 1 [.int .i64 0]) [(0,(.t 5))]),yb4 7 f_261 6,xM 8 7,ybz 9 8 0,ybz 10 8 1,ycn 11 8 f_217 [.t 10],yb6 12 8 .leq 9 (.t 11),xV 13 8 12,xM 4 13]⟩
def c_264:AFn:=⟨2,[.tmp 4],yag [xJ 2 0,xJ 3 1,ycj] (xD [xA 6 9 2,ycp 7 3,xL 8 7,ybk 9 f_298 6 8,ycr 10 3,xL 11 10,ybk 12 f_297 9 11,xO 13 (.fld false 1 1 (.t 12)),xM 5 13]) (ybn [xM 14 5,yb4 15 f_217 14,xO 16 (yar .eql 15 (.c (yby 0)))] 16 [ycj] (yco 17 5 4 17))⟩
def c_265_l0:Xv:=yb2 [xB 14 .lss 13 12] 14 0 1 (ych [xM 15 13,xM 6 15] [xM 16 6,yce 17,ybk 18 f_299 16 17,ybt 19,xB 20 .eql 18 19] 20 [xM 21 6,xM 4 21,ycb 5]) 22 .add 13 1 13 22
def c_265_k1:Xv:=yb9 ycj (yav 5)
def c_265:AFn:=⟨2,[.tmp 4,.tmp 5],ya7 [ycj,yav 5] [yce 7,xO 8 (.bslice .imm 1 (List.replicate 1 [.int .i64 0]) [(0,(.t 7))]),yb4 9 f_261 8,ybw 10 9] 10 [ycj,yav 5] (ybq [yce 11,xK 12 .add 11 1,ybh 13] 0 c_265_l0 c_265_k1)⟩
def c_266:AFn:=⟨1,[.tmp 2],ybp [yav 2] [ybt 3,xO 4 (yar .geq 3 (.c (.int .u8 97))),xM 5 4,ybz 6 5 0,yb6 7 5 .leq 6 (.c (.int .u8 122)),xV 8 5 7,xM 9 8,ya8 10 9 0,ya6 11 9 .geq 10 (.c (.int .u8 65)),ya8 12 9 11,ybz 13 12 0,yb6 14 12 .leq 13 (.c (.int .u8 90)),yad 15 9 (.pick (.t 12) (.t 14) (.c (.bool false))),xW 16 9 15,xM 2 16]⟩
def c_267_l0:Xv:=ycm [xM 6 5,ybt 7,xO 8 (.slen (.t 7)),xB 9 .lss 6 8,xM 10 9,ybz 11 10 1,ybz 12 10 0,ybz 13 10 5,yaq 14 10 (.idxs (.t 12) (.t 13)),yaq 15 10 (yb7 11 [.t 14]),xV 16 10 15] 16 0 (.block 1 (xR [xM 17 5,xK 18 .add 17 1,xM 5 18]))
def c_267_k1:Xv:=yco 19 5 4 19
def c_267:AFn:=⟨2,[.tmp 4],yaa [ycj] (yag [ybh 5] (yak 0 c_267_l0) c_267_k1)⟩
def c_268:AFn:=⟨1,[.tmp 2],ybp [yav 2] [ybt 3,yb4 4 f_266 3,xM 5 4,ya8 6 5 0,yad 7 5 (.pcall f_269 [.t 6]),xW 8 5 7,xM 9 8,ya8 10 9 0,ya6 11 9 .eql 10 (.c (.int .u8 95)),xW 12 9 11,xM 2 12]⟩
def c_269:AFn:=⟨1,[.tmp 2],ybp [yav 2] [ybt 3,xO 4 (yar .geq 3 (.c (.int .u8 48))),xM 5 4,ybz 6 5 0,yb6 7 5 .leq 6 (.c (.int .u8 57)),xV 8 5 7,xM 2 8]⟩
def c_270_l0:Xv:=yb2 [xB 9 .lss 8 7] 9 0 1 (ych [xM 10 8,xM 5 10] [yce 11,ybt 12,xM 13 5,xX 14 1 12 13,xL 15 14,xB 16 .eql 11 15] 16 [xM 17 5,xM 4 17]) 18 .add 8 1 8 18
def c_270_k1:Xv:=yac [xI 4 (-1)]
def c_270:AFn:=⟨2,[.tmp 4],ybg [ycj] [ybt 6,xN 7 6,ybh 8] 0 c_270_l0 c_270_k1⟩
def c_271:AFn:=⟨2,[.tmp 4],ybp [yav 4] [ybt 5,yce 6,ybk 7 f_300 5 6,xK 8 .geq 7 0,xM 4 8]⟩
def c_272:AFn:=⟨2,[.tmp 3],ybp [xJ 2 0,yav 3] [ycp 4 2,xL 5 4,ycp 6 1,xL 7 6,xB 8 .eql 5 7,xM 3 8]⟩
def c_273:AFn:=⟨2,[.tmp 4,.tmp 5],yaa [xJ 2 0,xJ 3 1,ycj,yav 5] (yag [xF 7 2 2,xL 8 7,xM 6 8] (ycf [ycp 9 3,xL 10 9,xK 11 .neq 10 (-1)] 11 (ybn [ycp 12 3,xL 13 12,xK 14 .lss 13 0,xM 15 14,ya0 16 15 0 3,ycg 17 15 16,ya0 18 15 1 2,ycg 19 15 18,ybl 20 15 19,ya6 21 15 .geq 17 (.t 20),xW 22 15 21] 22 [ycj,yav 5] (xR [ycr 23 2,xL 24 23,ycp 25 3,xL 26 25,xX 27 2 24 26,ycr 28 27,xL 29 28,xM 6 29]))) (ybn [ycr 30 3,xL 31 30,xK 32 .lss 31 0,xM 33 32,ya0 34 33 1 3,ycg 35 33 34,ya8 36 33 6,ybl 37 33 36,ya6 38 33 .geq 35 (.t 37),xW 39 33 38] 39 [ycj,yav 5] (yac [xM 40 6,ycr 41 3,xL 42 41,xX 43 2 40 42,ycr 44 43,xL 45 44,xM 4 45,ycb 5])))⟩
def c_274:AFn:=⟨3,[.tmp 6],yaa [xJ 3 0,ybh 6] (ya7 [yce 10,ycp 11 3,xA 12 10 11,ybk 13 f_275 10 12,xM 9 13,xE 14 0 9,xE 15 1 9,xM 7 14,xM 8 15] [xM 16 8,xK 17 .eql 16 0,xM 18 17,ybz 19 18 7,ybz 20 18 2,yb6 21 18 .neq 19 (.t 20),xV 22 18 21] 22 [xI 6 10] (yco 23 8 6 23))⟩
def c_275:AFn:=⟨2,[.tmp 4,.tmp 5],ya7 [xJ 3 1,ycj,ybh 5] [ybt 7,xN 8 7,xK 9 .gtr 8 24] 9 [ycj,xI 5 12] (yag [xA 11 10 3,ybt 12,yaf 13 f_301 [.t 11,.t 12,yap 0],xM 10 13,xE 14 0 10,xE 15 1 10,xE 16 2 10,xM 4 14,xM 6 15,xM 5 16] (.block 0 (yai [xM 18 5,xK 19 .neq 18 0,xM 17 19] 17 [xM 20 5,ycj,xM 5 20] (yal [xM 22 6,ybt 23,xN 24 23,xB 25 .lss 22 24,xM 21 25] 21 [ycj,xI 5 4]))) (yac [xM 26 4,xM 4 26,ybh 5]))⟩
def c_276:AFn:=⟨3,[.tmp 6],yag [xJ 3 0,xJ 5 2,ybh 6] (xD [xA 8 9 3,xF 9 6 3,xL 10 9,yce 11,xX 12 7 10 11,xF 13 3 12,xA 14 2 13,ybk 15 f_264 8 14,xM 7 15]) (yam 0 (yai [ycp 17 5,xL 18 17,xM 19 7,ybk 20 f_263 18 19,ybw 21 20,xM 22 21,ya0 23 22 1 5,ycg 24 22 23,ya8 25 22 7,yad 26 22 (.pcall f_263 [.t 24,.t 25]),yad 27 22 (ybe 26),xW 28 22 27,xM 16 28] 16 [xI 6 9] (yai [ycp 30 5,xL 31 30,ycr 32 5,xL 33 32,xB 34 .andNot 31 33,xO 35 (yar .neq 34 (.c (yby 0))),xM 29 35] 29 [xI 6 5] (yal [xA 37 9 3,yce 38,xF 39 2 5,xL 40 39,yaf 41 f_277 [.t 37,.t 38,.t 40],ybw 42 41,xM 36 42] 36 [xI 6 14]))) (yac [ybh 6]))⟩
def c_277:AFn:=⟨3,[.tmp 6],yag [xJ 3 0,yav 6] (yaa [xM 7 2] (.block 0 (yam 2 (.block 1 (.seq (.seq (ycf [xK 9 .eql 7 (-1),xM 8 9] 8 (.exit 1)) (ycf [xK 11 .eql 7 (-2),xM 10 11] 10 (.exit 2))) (.exit 0))) (.seq (yac [ycb 6]) (.exit 0))))) (yac [xM 12 2,yce 13,xB 14 .gtr 12 13,xM 15 14,ybz 16 15 2,ybf 17 15 6 3,ybv 18 15 1 17,yaq 19 15 (ya9 18),yb6 20 15 .lss 16 (.t 19),xV 21 15 20,xM 6 21])⟩
def c_278:AFn:=⟨2,[.tmp 3],ybc [xJ 2 0,yav 3] [xL 4 1,xK 5 .add 4 1,xS 1 1 5] (yac [ycb 3])⟩
def c_279_l0:Xv:=yb2 [xB 9 .lss 8 7] 9 0 1 (ych [xM 10 8,xM 5 10] [yce 11,ybt 12,xM 13 5,xX 14 1 12 13,xL 15 14,xB 16 .eql 11 15] 16 [xM 17 5,xM 4 17]) 18 .add 8 1 8 18
def c_279_k1:Xv:=yac [xI 4 (-1)]
def c_279:AFn:=⟨2,[.tmp 4],ybg [ycj] [ybt 6,xN 7 6,ybh 8] 0 c_279_l0 c_279_k1⟩
def c_297:AFn:=⟨2,[.cell 4 true 2],yaa [yas 4 [.str [],yba]] (ya7 [yas 5 [.str [],yba]] [yce 6,xK 7 .lss 6 0,xM 8 7,ya8 9 8 1,ya8 10 8 0,ybl 11 8 10,ya6 12 8 .geq 9 (.t 11),xW 13 8 12] 13 [xA 14 2 5,xS 2 4 14] (yac [ybt 15,yce 16,xX 17 2 15 16,xA 18 2 17,xS 2 4 18]))⟩
def c_298:AFn:=⟨2,[.tmp 4],ya7 [xJ 2 0,xC 4 (.Xu 2 [])] [yce 5,xK 6 .eql 5 (-1)] 6 [xF 7 2 2,xL 8 7,xM 4 8] (yac [ycr 9 2,xL 10 9,yce 11,ybk 12 f_309 10 11,xO 13 (.fld false 1 1 (.t 12)),xM 4 13])⟩
def c_299:AFn:=⟨2,[.tmp 4],ya7 [xC 4 (yby 0)] [yce 5,xO 6 (.bslice .imm 1 (List.replicate 1 [.int .i64 0]) [(0,(.t 5))]),yb4 7 f_261 6,ybw 8 7] 8 [xC 4 (yby 0)] (yac [yce 9,yb4 10 f_217 9,yce 11,yb4 12 f_217 11,ybt 13,xO 14 (.minmax true [.t 13,.c (.int .i64 0)]),yce 15,xO 16 (.minmax false [.t 14,.t 15]),xB 17 .shr 12 16,xB 18 .andNot 10 17,xM 4 18])⟩
def c_300_l0:Xv:=yb2 [xB 9 .lss 8 7] 9 0 1 (ych [xM 10 8,xM 5 10] [yce 11,ybt 12,xM 13 5,xX 14 2 12 13,xA 15 2 14,xO 16 (yb7 11 [.t 15])] 16 [xM 17 5,xM 4 17]) 18 .add 8 1 8 18
def c_300_k1:Xv:=yac [xI 4 (-1)]
def c_300:AFn:=⟨2,[.tmp 4],ybg [ycj] [ybt 6,xN 7 6,ybh 8] 0 c_300_l0 c_300_k1⟩
def c_301_l0:Xv:=yb2 [xB 45 .lss 44 43] 45 1 2 (ybc [xM 46 44,xM 11 46] [xM 48 11,xA 49 10 3,yce 50,xM 51 7,yaf 52 f_301 [.t 49,.t 50,.t 51],xM 47 52,xE 53 0 47,xE 54 1 47,xE 55 2 47,xO 56 (yb8 1 (some 3) 10 (.t 48)),xS 1 56 53,xM 7 54,xM 8 55] (yal [xM 57 8,xK 58 .neq 57 0] 58 [xM 59 8,ybh 6,ybh 7,xM 8 59])) 60 .add 44 1 44 60
def c_301_k1:Xv:= .seq (xD [yce 62,xM 63 2,xX 64 3 62 63,xA 65 3 64,xA 66 3 10,ybk 67 f_312 65 66,xM 61 67,xE 68 0 61,xE 69 1 61,xM 6 68,xM 8 69]) (yac [xM 70 6,xM 71 7,xM 72 8,xM 6 70,xM 7 71,xM 8 72])
def c_301:AFn:=⟨3,[.tmp 6,.tmp 7,.tmp 8],ya7 [xJ 3 0,ybh 6,ybh 7,ybh 8] [xM 12 2,yce 13,xN 14 13,xB 15 .geq 12 14] 15 [ybh 6,ybh 7,xI 8 3] (yag [yce 16,xM 17 2,xX 18 3 16 17,ycp 19 18,xL 20 19,yb4 21 f_310 20,xM 9 21] (.block 0 (yai [xM 23 9,xK 24 .lss 23 0,xM 22 24] 22 [ybh 6,ybh 7,xI 8 11] (ycf [xM 26 9,xK 27 .eql 26 0,xM 25 27] 25 (.seq (xD [xA 29 10 3,yce 30,xM 31 2,xX 32 3 30 31,xA 33 3 32,ybk 34 f_311 29 33,xM 28 34,xE 35 0 28,xE 36 1 28,xM 6 35,xM 8 36]) (yac [xM 37 6,xM 38 2,xK 39 .add 38 1,xM 40 8,xM 6 37,xM 7 39,xM 8 40]))))) (ycq [yas 10 [yba,yba,yba]] [xM 41 2,xK 42 .add 41 1,xM 7 42] [xM 43 9,ybh 44] 1 c_301_l0 c_301_k1))⟩
def c_309:AFn:=⟨2,[.cell 4 true 2],yaa [yas 4 [.str [],.Xu 2 []]] (ya7 [yas 5 [.str [],.Xu 2 []]] [yce 6,xK 7 .lss 6 0,xM 8 7,ya8 9 8 1,ya8 10 8 0,ybl 11 8 10,ya6 12 8 .geq 9 (.t 11),xW 13 8 12] 13 [xA 14 2 5,xS 2 4 14] (yac [ybt 15,yce 16,xX 17 2 15 16,xA 18 2 17,xS 2 4 18]))⟩
def c_310:AFn:=⟨1,[.tmp 2],yag [ybh 2] (yaa [ybt 3] (.block 0 (yb5 [xK 5 .eql 3 1,xM 4 5] 4 (ybs [xK 6 .eql 3 2,xM 4 6] 4 (ybs [xK 7 .eql 3 3,xM 4 7] 4 (xR [xK 8 .eql 3 4,xM 4 8]))) (yab 4 (yac [ybh 2]) (yb5 [xK 10 .eql 3 5,xM 9 10] 9 (ybs [xK 11 .eql 3 6,xM 9 11] 9 (ybs [xK 12 .eql 3 7,xM 9 12] 9 (xR [xK 13 .eql 3 8,xM 9 13]))) (yab 9 (yac [xI 2 1]) (yb5 [xK 15 .eql 3 9,xM 14 15] 14 (ybs [xK 16 .eql 3 10,xM 14 16] 14 (ybs [xK 17 .eql 3 11,xM 14 17] 14 (ybs [xK 18 .eql 3 12,xM 14 18] 14 (ybs [xK 19 .eql 3 13,xM 14 19] 14 (ybs [xK 20 .eql 3 14,xM 14 20] 14 (ybs [xK 21 .eql 3 15,xM 14 21] 14 (xR [xK 22 .eql 3 16,xM 14 22]))))))) (yab 14 (yac [xI 2 2]) (yal [xK 24 .eql 3 17,xM 23 24] 23 [xI 2 3]))))))))) (yac [xI 2 (-1)])⟩
def c_311:AFn:=⟨2,[.tmp 4,.tmp 5],yag [xJ 2 0,xJ 3 1,ycj,ybh 5] (yaa [ycp 10 3,xL 11 10] (.block 0 (yah [xK 13 .eql 11 1,xM 12 13] 12 (yag [xF 15 2 3,xL 16 15,yb4 17 f_320 16,xM 14 17,xE 18 0 14,xE 19 1 14,xM 6 18,xM 7 19] (.seq (xD [xM 20 7,xK 21 .eql 20 0,xM 22 21,ybf 23 22 1 3,ybv 24 22 1 23,yb6 25 22 .lss 24 (yap 0),ybz 26 22 25,ya0 27 26 1 3,ycg 28 26 27,ya8 29 26 6,yad 30 26 (.pcall f_217 [.t 29]),yad 31 26 (ybu .i64 30),ya6 32 26 .gtr 28 (.t 31),yaq 33 22 (.pick (.t 26) (.c (.bool true)) (.t 32)),xV 34 22 33]) (yab 34 (yb9 ycj (xI 5 9)) .skip)) (yac [xM 35 6,xM 36 7,xM 4 35,xM 5 36])) (yah [xK 38 .eql 11 2,xM 37 38] 37 (ybm [xA 40 10 2,ycr 41 3,xL 42 41,xF 43 2 3,xL 44 43,yaf 45 f_321 [.t 40,.t 42,.t 44],xM 39 45,xE 46 0 39,xE 47 1 39,yas 8 [.str [],yba],xS 2 8 46,xM 9 47] [8] (ybn [xM 48 9,ybw 49 48] 49 [ycj,xI 5 8] (yac [ycr 50 8,xL 51 50,yb4 52 f_320 51,xE 53 0 52,xE 54 1 52,xM 4 53,xM 5 54]))) (ycf [xK 56 .eql 11 3,xM 55 56] 55 (ybn [ycr 57 3,xL 58 57,xK 59 .lss 58 0,xM 60 59,ya0 61 60 1 3,ycg 62 60 61,ya0 63 60 9 2,ycg 64 60 63,ybl 65 60 64,ya6 66 60 .geq 62 (.t 65),xW 67 60 66] 67 [ycj,xI 5 8] (yac [xF 68 9 2,xL 69 68,ycr 70 3,xL 71 70,xX 72 2 69 71,ycr 73 72,xL 74 73,yb4 75 f_320 74,xE 76 0 75,xE 77 1 75,xM 4 76,xM 5 77]))))))) (ybn [ycr 78 3,xL 79 78,xK 80 .lss 79 0,xM 81 80,ya0 82 81 1 3,ycg 83 81 82,ya0 84 81 0 2,ya0 85 81 1 84,ycg 86 81 85,ybl 87 81 86,ya6 88 81 .geq 83 (.t 87),xW 89 81 88] 89 [ycj,xI 5 8] (yb9 (xI 4 1) (ybh 5)))⟩
def c_312:AFn:=⟨2,[.tmp 4,.tmp 5],yag [xJ 2 0,xJ 3 1,ycj,ybh 5] (yaa [ycp 8 2,xL 9 8] (.block 0 (yb5 [xK 11 .eql 9 6,xM 10 11] 10 (xR [xK 12 .eql 9 7,xM 10 12]) (yab 10 (yal [ycr 13 2,xL 14 13,xK 15 .lss 14 0,xM 16 15,ya0 17 16 1 2,ycg 18 16 17,ybo 19 16 .gtr 18 31,xW 20 16 19] 20 [ycj,xI 5 9]) (yah [xK 22 .eql 9 8,xM 21 22] 21 (ybn [ycr 23 2,xL 24 23,xK 25 .lss 24 0] 25 [ycj,xI 5 9] (.seq (ych [xF 27 2 2,xL 28 27,yb4 29 f_320 28,xM 26 29,xE 30 0 26,xE 31 1 26,xM 6 30,xM 7 31] [xM 32 7,xK 33 .neq 32 0,xM 34 33,ya0 35 34 1 2,ycg 36 34 35,yad 37 34 (yb8 1 (some 3) 3 (yap 0)),ycg 38 34 37,ya0 39 34 2 2,ycg 40 34 39,ya6 41 34 .sub 38 (.t 40),ya6 42 34 .gtr 36 (.t 41),xW 43 34 42] 43 [ycj,xI 5 10]) (yac [xF 44 2 2,xL 45 44,xM 4 45,ybh 5]))) (yai [xK 47 .eql 9 14,xM 46 47] 46 [xO 48 (yb8 1 (some 3) 3 (yap 0)),xL 49 48,xO 50 (yb8 1 (some 3) 3 (yap 1)),xL 51 50,xB 52 .add 49 51,yb4 53 f_320 52,xE 54 0 53,xE 55 1 53,xM 4 54,xM 5 55] (ycf [xK 57 .eql 9 17,xM 56 57] 56 (ybn [xO 58 (yb8 1 (some 3) 3 (yap 0)),xL 59 58,xK 60 .neq 59 1,xM 61 60,yad 62 61 (yb8 1 (some 3) 3 (yap 1)),ycg 63 61 62,yad 64 61 (yb8 1 (some 3) 3 (yap 2)),ycg 65 61 64,ya6 66 61 .neq 63 (.t 65),xW 67 61 66] 67 [ycj,xI 5 10] (yac [xO 68 (yb8 1 (some 3) 3 (yap 1)),xL 69 68,xM 4 69,ybh 5]))))))))) (ybn [ycp 70 2,xL 71 70,yb4 72 f_310 71,xK 73 .eql 72 2,xM 74 73,yaq 75 74 (yb8 1 (some 3) 3 (yap 0)),ybv 76 74 1 75,yaq 77 74 (yb8 1 (some 3) 3 (yap 1)),ybv 78 74 1 77,yb6 79 74 .neq 76 (.t 78),xV 80 74 79] 80 [ycj,xI 5 10] (ybn [ycp 81 2,xL 82 81,xK 83 .eql 82 15,xM 84 83,ya0 85 84 0 2,ycg 86 84 85,ybo 87 84 .eql 86 16,xW 88 84 87] 88 [xI 4 1,ybh 5] (yac [xO 89 (yb8 1 (some 3) 3 (yap 0)),xL 90 89,xM 4 90,ybh 5])))⟩
def c_320:AFn:=⟨1,[.tmp 2,.tmp 3],ya7 [ybh 2,ybh 3] [ybt 4,xK 5 .lss 4 1,xM 6 5,ya8 7 6 0,ybo 8 6 .gtr 7 32,xW 9 6 8] 9 [ybh 2,xI 3 10] (yac [ybt 10,xM 2 10,ybh 3])⟩
def c_321:AFn:=⟨3,[.cell 6 true 2,.tmp 7],yaa [xJ 3 0,yas 6 [.str [],yba],yav 7] (yag [ycp 9 3,xF 10 2 9,xL 11 10,xM 8 11] (ycf [yce 12,xK 13 .neq 12 (-1)] 13 (ybn [yce 14,xK 15 .lss 14 0,xM 16 15,ya8 17 16 1,ya0 18 16 0 3,ya0 19 16 1 18,ycg 20 16 19,ybl 21 16 20,ya6 22 16 .geq 17 (.t 21),xW 23 16 22] 23 [xO 24 (.build [.str [],.int .i64 0] []),xS 2 6 24,yav 7] (xR [ycp 25 3,ycr 26 25,xL 27 26,yce 28,xX 29 2 27 28,ycr 30 29,xL 31 30,xM 8 31]))) (ybn [xM 32 2,xK 33 .lss 32 0,xM 34 33,ya8 35 34 2,ya8 36 34 8,ybl 37 34 36,ya6 38 34 .geq 35 (.t 37),xW 39 34 38] 39 [xO 40 (.build [.str [],.int .i64 0] []),xS 2 6 40,yav 7] (yac [xM 41 8,xM 42 2,xX 43 2 41 42,xA 44 2 43,xS 2 6 44,ycb 7])))⟩
def tabL:List (Nat×AFn):=[(f_8,c_8),
  (f_12,c_12),
  (f_17,c_17),
  (f_18,c_18),
  (f_21,c_21),
  (f_22,c_22),
  (f_23,c_23),
  (f_24,c_24),
  (f_29,c_29),
  (f_31,c_31),
  (f_32,c_32),
  (f_38,c_38),
  (f_41,c_41),
  (f_43,c_43),
  (f_45,c_45),
  (f_53,c_53),
  (f_54,c_54),
  (f_55,c_55),
  (f_57,c_57),
  (f_59,c_59),
  (f_60,c_60),
  (f_61,c_61),
  (f_63,c_63),
  (f_64,c_64),
  (f_70,c_70),
  (f_73,c_73),
  (f_74,c_74),
  (f_75,c_75),
  (f_76,c_76),
  (f_77,c_77),
  (f_78,c_78),
  (f_79,c_79),
  (f_80,c_80),
  (f_84,c_84),
  (f_85,c_85),
  (f_87,c_87),
  (f_88,c_88),
  (f_89,c_89),
  (f_90,c_90),
  (f_92,c_92),
  (f_93,c_93),
  (f_94,c_94),
  (f_95,c_95),
  (f_96,c_96),
  (f_99,c_99),
  (f_100,c_100),
  (f_101,c_101),
  (f_102,c_102),
  (f_103,c_103),
  (f_104,c_104),
  (f_105,c_105),
  (f_108,c_108),
  (f_109,c_109),
  (f_110,c_110),
  (f_111,c_111),
  (f_112,c_112),
  (f_113,c_113),
  (f_114,c_114),
  (f_115,c_115),
  (f_117,c_117),
  (f_118,c_118),
  (f_119,c_119),
  (f_120,c_120),
  (f_122,c_122),
  (f_123,c_123),
  (f_124,c_124),
  (f_125,c_125),
  (f_126,c_126),
  (f_127,c_127),
  (f_128,c_128),
  (f_129,c_129),
  (f_130,c_130),
  (f_147,c_147),
  (f_148,c_148),
  (f_149,c_149),
  (f_152,c_152),
  (f_153,c_153),
  (f_154,c_154),
  (f_155,c_155),
  (f_156,c_156),
  (f_157,c_157),
  (f_158,c_158),
  (f_159,c_159),
  (f_160,c_160),
  (f_161,c_161),
  (f_162,c_162),
  (f_163,c_163),
  (f_164,c_164),
  (f_165,c_165),
  (f_166,c_166),
  (f_167,c_167),
  (f_168,c_168),
  (f_169,c_169),
  (f_170,c_170),
  (f_171,c_171),
  (f_172,c_172),
  (f_173,c_173),
  (f_174,c_174),
  (f_175,c_175),
  (f_176,c_176),
  (f_177,c_177),
  (f_178,c_178),
  (f_179,c_179),
  (f_180,c_180),
  (f_181,c_181),
  (f_182,c_182),
  (f_183,c_183),
  (f_184,c_184),
  (f_185,c_185),
  (f_186,c_186),
  (f_187,c_187),
  (f_188,c_188),
  (f_189,c_189),
  (f_193,c_193),
  (f_194,c_194),
  (f_195,c_195),
  (f_215,c_215),
  (f_216,c_216),
  (f_217,c_217),
  (f_218,c_218),
  (f_219,c_219),
  (f_220,c_220),
  (f_221,c_221),
  (f_222,c_222),
  (f_223,c_223),
  (f_225,c_225),
  (f_226,c_226),
  (f_227,c_227),
  (f_228,c_228),
  (f_229,c_229),
  (f_230,c_230),
  (f_231,c_231),
  (f_232,c_232),
  (f_233,c_233),
  (f_234,c_234),
  (f_235,c_235),
  (f_236,c_236),
  (f_237,c_237),
  (f_238,c_238),
  (f_239,c_239),
  (f_240,c_240),
  (f_261,c_261),
  (f_262,c_262),
  (f_263,c_263),
  (f_264,c_264),
  (f_265,c_265),
  (f_266,c_266),
  (f_267,c_267),
  (f_268,c_268),
  (f_269,c_269),
  (f_270,c_270),
  (f_271,c_271),
  (f_272,c_272),
  (f_273,c_273),
  (f_274,c_274),
  (f_275,c_275),
  (f_276,c_276),
  (f_277,c_277),
  (f_278,c_278),
  (f_279,c_279),
  (f_297,c_297),
  (f_298,c_298),
  (f_299,c_299),
  (f_300,c_300),
  (f_301,c_301),
  (f_309,c_309),
  (f_310,c_310),
  (f_311,c_311),
  (f_312,c_312),
  (f_320,c_320),
  (f_321,c_321)]
def tabD:List (Nat×ADFn):=[(f_20,c_20),
  (f_42,c_42),
  (f_52,c_52)]
def tabC:List CloneD:=[⟨f_62,1,1,.app⟩,⟨f_106,2,24,.app⟩,⟨f_107,3,32,.app⟩,⟨f_116,1,8,.row⟩,⟨f_150,1,4,.app⟩,⟨f_190,3,24,.app⟩,⟨f_191,3,16,.app⟩,⟨f_192,3,24,.app⟩,⟨f_224,2,8,.app⟩]
def nilL:List (Nat×Nat):=[(f_8,9),(f_13,13),(f_13,17),(f_42,9),(f_57,6),(f_68,3),(f_71,6),(f_72,6),(f_104,5),(f_108,5),(f_110,5),(f_112,5),(f_114,5),(f_138,3),(f_169,5),(f_173,5),(f_176,5),(f_179,5),(f_182,5),(f_188,5),(f_220,5),(f_227,3),(f_252,3),(f_257,13),(f_259,11),(f_302,12),(f_305,5)]
def thr:List Nat:=[f_17,f_20,f_21,f_22,f_29,f_31,f_41,f_42,f_43,f_44,f_45,f_58,f_64,f_70,f_88,f_89,f_90,f_92,f_93,f_94,f_95,f_122,f_123,f_124,f_126,f_129,f_130,f_154,f_155,f_158,f_161,f_164,f_193,f_194,f_195,f_236]
def thrAt:List (Nat×Nat):=[(f_210,f_210),(f_211,f_210),(f_59,f_125),(f_92,f_116)]
def thrV:List Nat:=[f_126,f_236]
def rowAt:List (Nat×Nat):=[(f_8,40),(f_8,66),(f_93,112),(f_258,48),(f_260,41),(f_116,7)]
def thrVAt:List (Nat×Nat):=[]
def rowF:List Nat:=[f_92,f_38]
def rowFB:List Nat:=[]
def appAt:List (Nat×Nat):=[(f_38,32),(f_92,70)]
def immAt:List (Nat×Nat):=[(f_138,27)]
def slcHL:List Nat:=[f_164]
def browAt:List (Nat×Nat):=[(f_8,39),(f_8,65),(f_92,39)]
def boxiAt:List (Nat×Nat):=[(f_88,2),(f_41,2),(f_41,3),(f_38,1)]
def takeAt:List (Nat×Nat):=[(f_258,65)]
def boxiL:List (Nat×List Nat):=[(3,[3,4]),(4,[3,4,5]),(5,[2]),(6,[2]),(7,[2]),(8,[3]),(9,[2,3]),(12,[3,4]),(13,[3,4]),(18,[2]),(25,[1]),(28,[3]),(30,[2]),(33,[1]),(53,[1]),(54,[1]),(65,[1]),(66,[1]),(67,[3,4]),(82,[1]),(84,[1]),(85,[1]),(87,[2,3]),(99,[1]),(100,[1]),(101,[1]),(102,[1]),(103,[1]),(118,[1]),(119,[1]),(120,[1]),(131,[1]),(132,[1]),(133,[1]),(134,[1]),(135,[1]),(136,[1]),(137,[1]),(138,[1]),(139,[3,4]),(149,[1]),(152,[5,9]),(153,[2]),(156,[3,5]),(157,[1]),(159,[3,5]),(163,[1]),(170,[1]),(171,[1]),(174,[1]),(177,[1]),(178,[1]),(180,[1]),(181,[2]),(183,[1]),(184,[2]),(185,[1]),(186,[1]),(187,[1]),(198,[1]),(200,[1]),(201,[2]),(202,[2]),(203,[1]),(204,[1]),(205,[1]),(206,[2,3]),(207,[3,4,5]),(215,[2]),(218,[3]),(219,[2,3]),(220,[2]),(221,[3]),(222,[2]),(227,[1]),(229,[1]),(230,[2,3]),(231,[2,3]),(232,[2,3]),(233,[2]),(237,[5]),(238,[3,4]),(239,[1]),(243,[2]),(245,[3,4,5]),(246,[2]),(247,[2,3]),(248,[2,3]),(249,[2]),(253,[3]),(254,[4]),(255,[3,5]),(256,[2]),(257,[4,5,7]),(258,[5,6,9]),(259,[4,5]),(260,[4,5,7]),(262,[2]),(264,[2,3]),(272,[2]),(273,[2,3]),(274,[3]),(275,[3]),(276,[3,5]),(277,[3]),(278,[2]),(280,[2,3]),(281,[4]),(282,[3]),(283,[2,3]),(285,[2,3]),(286,[2,3]),(287,[2]),(288,[3]),(290,[3,5]),(291,[3]),(292,[3]),(294,[1]),(295,[4]),(298,[2]),(301,[3]),(302,[5]),(304,[1]),(305,[2]),(306,[3]),(307,[2]),(308,[2]),(311,[2,3]),(312,[2,3]),(314,[2,3]),(315,[2]),(321,[3])]
def keepL:List (Nat×List (Nat×List Nat)):=[(3,[(3,[7]),(14,[15])]),(4,[(4,[9]),(7,[13]),(8,[17])]),(6,[(11,[13])]),(7,[(4,[8])]),(11,[(1,[1]),(2,[2]),(3,[3]),(4,[7])]),(13,[(1,[8]),(10,[15]),(20,[20]),(30,[25])]),(19,[(1,[1]),(5,[4])]),(21,[(4,[3])]),(25,[(1,[4])]),(26,[(1,[8])]),(30,[(12,[14])]),(33,[(21,[7])]),(37,[(1,[1])]),(38,[(4,[5])]),(44,[(5,[9])]),(67,[(1,[10])]),(84,[(4,[5])]),(87,[(1,[5])]),(92,[(8,[8]),(15,[10])]),(100,[(4,[4])]),(101,[(5,[4]),(12,[6])]),(102,[(4,[4])]),(104,[(4,[7])]),(108,[(4,[7])]),(110,[(4,[7])]),(112,[(4,[7])]),(114,[(4,[7])]),(139,[(10,[12])]),(152,[(6,[13]),(15,[15])]),(154,[(3,[5])]),(159,[(9,[12])]),(169,[(4,[7])]),(171,[(9,[4])]),(173,[(4,[7])]),(176,[(4,[7])]),(179,[(4,[7])]),(181,[(3,[6]),(7,[7]),(10,[9])]),(182,[(4,[7])]),(184,[(3,[6])]),(185,[(8,[7])]),(188,[(4,[7])]),(198,[(11,[5])]),(201,[(3,[6])]),(202,[(3,[6])]),(207,[(5,[9]),(8,[11]),(11,[13])]),(220,[(6,[7])]),(222,[(6,[7])]),(227,[(4,[5])]),(229,[(7,[4])]),(230,[(1,[5])]),(231,[(4,[9])]),(233,[(1,[6]),(16,[10])]),(235,[(6,[5])]),(236,[(3,[6])]),(249,[(1,[6])]),(253,[(1,[7])]),(287,[(1,[6]),(6,[9])]),(311,[(8,[8])])]
def qalj:List (Nat×List Nat):=[(99,[1,2,3,4,5]),(100,[5,6,7]),(101,[1,6,7,8,13]),(102,[5,6,13,14,21,22]),(103,[2,4,6]),(166,[1]),(216,[2])]
def ann:Ann:=
  { pure:=fun fn f _=> !(qb8 f thr)&& !(thrAt.any fun p=>p.1 == fn&&p.2 == f)
    purev:=fun fn d=> !(qb8 fn thrV)&& !(match d with | some t=>thrVAt.any (fun q=>q.1 == fn&&q.2 == t) | none=>false),bmode:=fun fn d=>if qb8 fn rowFB || (match d with | some t=>browAt.any (fun q=>q.1 == fn&&q.2 == t) | none=>false) then .row else .imm,smode:=fun fn d=>match d with | some t=>if immAt.any (fun q=>q.1 == fn&&q.2 == t) then .imm else .row | none=> .row,amode:=fun fn d=>match d with | some t=>if rowAt.any (fun q=>q.1 == fn&&q.2 == t) || (qb8 fn rowF&& !(appAt.any fun q=>q.1 == fn&&q.2 == t)) then .row else .app | none=> .app
    nilapp:=fun fn d=>match d with | some t=>nilL.any (fun q=>q.1 == fn&&q.2 == t) | none=>false
    slch:=fun fn d=>(qb8 fn slcHL&&(match d with | some t=>t == 13 || t == 31 | none=>false)) || (match d with | some t=>takeAt.any (fun q=>q.1 == fn&&q.2 == t) | none=>false)
    boxi:=fun fn d=>match d with | some t=>boxiAt.any (fun q=>q.1 == fn&&q.2 == t) || (match look fn boxiL with | some l=>qb8 t l | none=>false) | none=>false
    keep:=fun fn id=>(look fn keepL).bind (look id)
    split:=fun fn id=>match look fn qalj with | some l=>qb8 id l | none=>false }
def ktabL:List Nat:=[58,121,56,19,91]
def qst (b:FuncId->Option AFun) (P:Program) (A:Ann) (l:List Nat) (f:FuncId):Option AFun:=match b f with
  | some x=>some x
  | none=>if qb8 f l then (cFn P A f).map .code else none
def Φ:FuncId->Option AFun:=qst (qsz tabL tabD tabC) Go.Proofs.Tryz.prog ann ktabL
end
end Go.Av
