/-
  The compact form of the program's functions, printed by a program.
-/
import Derived.Test.YtknmfocedphgmaaGreatAvD
import Derived.Test.YtknmfocedphgmaaGreatRows
set_option linter.unusedVariables false
set_option linter.unusedSimpArgs false
set_option linter.constructorNameAsVariable false
namespace Go.Av
noncomputable section
abbrev xM (d s:Nat):Xw:=⟨some d,none,.mov (.t s)⟩
abbrev xI (d:Nat) (n:Int):Xw:=⟨some d,none,.mov (.c (.int .i64 n))⟩
abbrev xC (d:Nat) (v:AV):Xw:=⟨some d,none,.mov (.c v)⟩
abbrev xF (d o s:Nat):Xw:=⟨some d,none,.faddr o (.t s)⟩
abbrev xL (d s:Nat):Xw:=⟨some d,none,.load false 1 (.t s)⟩
abbrev xA (d n s:Nat):Xw:=⟨some d,none,.load true n (.t s)⟩
abbrev xX (d z a i:Nat):Xw:=⟨some d,none,.iaddr z none (.t a) (.t i)⟩
abbrev xS (n p v:Nat):Xw:=⟨none,none,.store n (.t p) (.t v)⟩
abbrev xN (d s:Nat):Xw:=⟨some d,none,.len (.t s)⟩
abbrev xE (d i s:Nat):Xw:=⟨some d,none,.ext i (.t s)⟩
abbrev xB (d:Nat) (p:BinOp) (a b:Nat):Xw:=⟨some d,none,.bin p (.t a) (.t b)⟩
abbrev xK (d:Nat) (p:BinOp) (a:Nat) (n:Int):Xw:=⟨some d,none,.bin p (.t a) (.c (.int .i64 n))⟩
abbrev xW (d a b:Nat):Xw:=⟨some d,none,.pick (.t a) (.c (.bool true)) (.t b)⟩
abbrev xV (d a b:Nat):Xw:=⟨some d,none,.pick (.t a) (.t b) (.c (.bool false))⟩
abbrev xJ (d s:Nat):Xw:=⟨some d,none,.boxi (.t s)⟩
abbrev xO (d:Nat) (p:AOp):Xw:=⟨some d,none,p⟩
abbrev xG (d g:Nat) (b:Bool) (p:AOp):Xw:=⟨some d,some (g,b),p⟩
abbrev xR (l:List Xw):Xv:= .region false [] l none
abbrev xD (l:List Xw):Xv:= .region true [] l none
abbrev xQ (l:List Xw) (k:List Nat):Xv:= .region false [] l (some k)
abbrev yaa (a:List Xw) (b:Xv):Xv:= .seq (xR a) b
abbrev yab (a:Nat) (b c:Xv):Xv:= .cond (.t a) b c
abbrev yac (a b:Nat) (c:AOp):Xw:=xG a b false c
abbrev yad (a:List Xw):Xv:=yaa a .ret
abbrev yae (a:List Xw) (b c:Xv):Xv:= .seq (yaa a b) c
abbrev yaf (a b:Nat) (c:List AX):Xw:=xO a (.pcall b c)
abbrev yag (a:Int):AV:= .int .i64 a
abbrev yah (a:Nat) (b:List Xw) (c:Xv):Xv:=yab a (yad b) c
abbrev yai (a:Nat) (b c:Xv):Xv:= .seq (.block a b) c
abbrev yaj (a b:Nat) (c:AOp):Xw:=xG a b true c
abbrev yak (a:Nat) (b:List Xw):Xv:=yah a b .skip
abbrev yal (a:Nat) (b:Xv):Xv:= .block a (.loop b)
abbrev yam (a:Bool) (b c:Nat):AOp:= .load a b (.t c)
abbrev yan (a:Nat):AOp:= .mov (.t a)
abbrev yao (a b:Nat):AOp:= .faddr a (.t b)
abbrev yap (a:Nat) (b:List AV):Xw:=xO a (.alloc b)
abbrev yaq (a b:List Xw) (c d:Xv):Xv:=yaa a (yae b c d)
abbrev yar (a:BinOp) (b:Nat) (c:AX):AOp:= .bin a (.t b) c
abbrev yas (a:Nat) (b:Xv) (c:Nat):Xv:=yab a b (.exit c)
abbrev yat:AV:= .bool false
abbrev yau (a b:Nat):AOp:=yam false a b
abbrev yav (a b:Nat):Xv:=yas a .skip b
abbrev yaw (a:Nat):AOp:= .nilchk (.t a)
abbrev yax (a:List Xw) (b c:Xv):Xv:=yaa a (.seq b c)
abbrev yay (a b c:Nat):Xw:=yac a b (yan c)
abbrev yaz:AV:=yag 0
abbrev ya0 (a:Nat):Xw:=xI a 0
abbrev ya1 (a:Nat) (b:Xv) (c:List Xw):Xv:=yai a b (xR c)
abbrev ya2 (a:BinOp) (b:Nat) (c:AV):AOp:=yar a b (.c c)
abbrev ya3 (a b c d:Nat):Xw:=yac a b (yao c d)
abbrev ya4 (a b c d:Nat):Xw:=yac a b (yau c d)
abbrev ya5 (a b:List Xw) (c:Nat) (d:List Xw) (e:Xv):Xv:=yaq a b (yak c d) e
abbrev ya6 (a b:Nat) (c:List AX):Xw:=xO a (.tcall b c)
abbrev ya7 (a b c:Nat):Xw:=yaj a b (yan c)
abbrev ya8 (a:AX):AOp:= .un .not a
abbrev ya9 (a:Nat):AOp:=ya8 (.t a)
abbrev yba (a:List Xw) (b:Nat) (c:List Xw):Xv:=yaa a (yak b c)
abbrev ybb (a:List Xw) (b c:Nat) (d:Xv):Xv:=yae a (yav b c) d
abbrev ybc (a:Nat):AOp:= .len (.t a)
abbrev ybd (a b:List Xw) (c:Nat) (d e:Xv):Xv:=yaq a b (yal c d) e
abbrev ybe (a:SM) (b c d:Nat) (e:AX):AOp:= .append a b c (.t d) e
abbrev ybf (a b:Nat):Xw:=xF a 0 b
abbrev ybg (a:Nat):Xw:=xM a 1
abbrev ybh (a b:Nat):Xw:=xO a (yaw b)
abbrev ybi (a b:Nat) (c d:AX):Xw:=yaf a b [c,d]
abbrev ybj (a b c:Nat) (d:AX):Xw:=ybi a b (.t c) d
abbrev ybk (a b c d:Nat):Xw:=ybj a b c (.t d)
abbrev ybl (a b:Nat):Xw:=xF a 1 b
abbrev ybm (a:Nat) (b c:Xv) (d:List Xw):Xv:=ya1 a (.seq b c) d
abbrev ybn (a b:Nat) (c:BinOp) (d:Nat) (e:AV):Xw:=yac a b (ya2 c d e)
abbrev ybo (a b:Nat):Xw:=xO a (ya9 b)
abbrev ybp (a b c d:Nat):Xw:=yaj a b (yau c d)
abbrev ybq (a:Nat):Xw:=xC a yat
abbrev ybr (a:List Xw) (b c:Nat) (d:Xv):Xv:=yax a (yav b c) d
abbrev ybs (a b c d:Nat):Xw:=yaj a b (yao c d)
abbrev ybt (a b:List Xw):Xv:=yaa a (yad b)
abbrev ybu (a:Nat):Xw:=xM a 0
abbrev ybv (a:BinOp) (b c:Nat):AOp:=yar a b (.t c)
abbrev ybw (a b c:Nat):Xw:=yac a b (ybc c)
abbrev ybx (a:List (Nat×Nat)) (b:List Xw) (c:Option (List Nat)):Xv:= .region true a b c
abbrev yby (a:List Xw) (b:Nat) (c:List Xw) (d:Xv):Xv:=yaa a (yah b c d)
abbrev ybz (a:Int):AV:= .int .u32 a
abbrev yb0 (a:Nat) (b:BinOp) (c:Nat):Xw:=xK a b c 1
abbrev yb1 (a b:Nat) (c:AX):Xw:=yaf a b [c]
abbrev yb2 (a b c:Nat):Xw:=yb1 a b (.t c)
abbrev yb3 (a:Nat) (b c d e:AV):Xw:=yap a [b,c,d,e]
abbrev yb4 (a:Nat) (b c:AX):AOp:= .iaddr a none b c
abbrev yb5 (a:List Xw) (b:Nat) (c d:Xv):Xv:=yae a (yal b c) d
abbrev yb6 (a:Nat):Xw:=xM a 5
abbrev yb7 (a b:Nat) (c:BinOp) (d:Nat) (e:Int):Xw:=ybn a b c d (yag e)
abbrev yb8 (a:SM) (b c d e:Nat):AOp:=ybe a b c d (.t e)
abbrev yb9 (a:List Xw) (b:Nat) (c:List Xw) (d:Xv):Xv:=yae a (yak b c) d
abbrev yca (a:List Xw) (b:Xv):Xv:= .seq (xD a) b
abbrev ycb (a b c:Nat):Xw:=ya4 a b 1 c
abbrev ycc (a:Nat) (b:SM) (c d e f:Nat):Xw:=xO a (yb8 b c d e f)
abbrev ycd (a:Nat):Xw:=xM a 8
abbrev yce (a:Nat):Xw:=xJ a 0
abbrev ycf:Xw:=ya0 4
abbrev ycg (a:Nat):AOp:= .box (.t a)
abbrev ych (a b:Nat):Xw:=xA a 9 b
abbrev yci (a:List Xw) (b c d:Nat) (e:Xv) (f:List Xw):Xv:=ybb a b c (ya1 d e f)
abbrev ycj (a b:Nat):Xw:=xA a 2 b
abbrev yck (a b:Xw):Xv:=yad [a,b]
abbrev ycl (a:Nat) (b:Xv):Xv:=yab a b .skip
abbrev ycm (a b:Nat) (c:BinOp) (d e:Nat):Xw:=yac a b (ybv c d e)
abbrev ycn (a b:List Xw) (c:Xv):Xv:=yaa a (yaa b c)
abbrev yco:AV:= .bool true
abbrev ycp (a b:Nat):Xw:=xO a (.nilapp b)
abbrev ycq (a:Nat) (b:BinOp) (c:Nat):Xw:=xK a b c 0
abbrev ycr (a b c d e:Nat):Xw:=ycc a .app b c d e
abbrev ycs (a b:Nat) (c:BinOp) (d:Nat) (e:AV):Xw:=yaj a b (ya2 c d e)
abbrev yct:Xw:=ya0 6
abbrev ycu (a:Nat):Xw:=xM a 6
abbrev ycv (a:Nat):Xw:=xM 5 a
abbrev ycw (a b:Nat):AOp:=yam true a b
abbrev ycx (a b:Nat):Xw:=xO a (ycg b)
abbrev ycy (a b:Nat) (c:AX):AOp:=yb4 a (.t b) c
abbrev ycz (a:Nat):Xw:=xM 4 a
abbrev yc0 (a:Nat):Xw:=xM a 7
abbrev yc1 (a b:Nat):Xw:=xA a 4 b
abbrev yc2:Xw:=yce 2
abbrev yc3 (a b c:Nat):AOp:=ycy a b (.t c)
abbrev yc4 (a b:Nat):Xw:=xF a 2 b
abbrev yc5 (a b:Nat):Xw:=xS 4 a b
abbrev yc6 (a:Nat):Xw:=ybf a 3
abbrev yc7 (a:Nat):Xw:=xM a 9
abbrev yc8 (a:Nat):Xw:=xM a 2
abbrev yc9 (a b c:Nat):Xw:=xX a 1 b c
abbrev yda (a:Nat) (b:List Xw) (c:List Nat) (d:Xv) (e:List Xw):Xv:=ybm a (xQ b c) d e
abbrev ydb (a b c:Nat):Xw:=ybp a b 1 c
abbrev ydc:Xw:=ya0 5
abbrev ydd (a:Nat):Xw:=ych a 2
abbrev yde (a b c:Nat) (d:List AX):Xw:=yac a b (.pcall c d)
abbrev ydf (a:Int):AX:= .c (yag a)
abbrev ydg (a b:List Xw) (c d:Xv):Xv:=ybd a b 0 c d
abbrev ydh (a b c d:Nat):Xw:=yac a b (ycw c d)
abbrev ydi (a b:List Xw) (c:Xv):Xv:=yax a (xD b) c
abbrev ydj (a:List Xw) (b c d:Nat) (e:List Xw) (f:List Nat) (g:Xv) (h:List Xw):Xv:=ybr a b c (yda d e f g h)
abbrev ydk (a:Nat):Xw:=xC a .nilptr
abbrev ydl (a b:Nat):Xw:=xS 1 a b
abbrev ydm (a b c:Nat) (d:List AX):Xw:=yaj a b (.pcall c d)
abbrev ydn (a:Nat):Xw:=xM 6 a
abbrev ydo (a:List (Nat×Nat)) (b:List Xw) (c:Option (List Nat)) (d:Xv):Xv:= .seq (ybx a b c) d
abbrev ydp (a:Nat) (b:Int):Xw:=xC a (ybz b)
abbrev ydq (a:Nat):Xw:=ybl a 3
abbrev ydr (a b:List Xw) (c:Nat) (d e:List Xw):Xv:=ya5 a b c d (yad e)
abbrev yds (a:Nat) (b:List Xw) (c:Nat) (d:List Xw) (e f:Xv):Xv:=yai a (yby b c d e) f
abbrev ydt (a b:Nat) (c d e:AX):Xw:=yaf a b [c,d,e]
abbrev ydu (a b c:Nat) (d e:AX):Xw:=ydt a b (.t c) d e
abbrev ydv (a b c:Nat) (d:AX) (e:Nat):Xw:=ydu a b c d (.t e)
abbrev ydw (a b c d e:Nat):Xw:=ydv a b c (.t d) e
abbrev ydx (a b:Xw) (c:Xv):Xv:=yaa [a,b] c
abbrev ydy (a:List Xw) (b c d:Nat) (e:Xv) (f g h:Xw):Xv:=yci a b c d e [f,g,h]
abbrev ydz (a:List Xw) (b c d:Nat) (e:Xv) (f:Xw) (g:Nat) (h:BinOp) (i:Nat) (j:Xw):Xv:=ydy a b c d e f (yb0 g h i) j
abbrev yd0 (a:Nat):Xw:=xM 8 a
abbrev yd1 (a:Nat):Xw:=xM 7 a
abbrev yd2 (a b:Nat) (c:BinOp) (d e:Nat):Xw:=yaj a b (ybv c d e)
abbrev yd3 (a:IntKind) (b:Nat):AOp:= .conv a (.t b)
abbrev yd4 (a:Int):AV:= .int .u8 a
abbrev yd5:AX:= .c .nilptr
abbrev yd6 (a:Int):Xw:=xI 4 a
abbrev yd7 (a:List Xw) (b c d:Nat) (e:Xv) (f:List Xw):Xv:=ybr a b c (ya1 d e f)
abbrev yd8 (a:Nat) (b c:AV):Xw:=yap a [b,c]
abbrev yd9 (a b:Nat):Xw:=xF a 3 b
abbrev yea (a:List Xw) (b:List Nat) (c:Xv):Xv:= .seq (xQ a b) c
abbrev yeb (a:Nat) (b:Xw):Xv:=yck (yb6 a) b
abbrev yec (a b:Nat):Xv:=yeb a (ycz b)
abbrev yed:Xw:=ya0 7
abbrev yee (a:Nat) (b:BinOp) (c:Nat) (d:AV):Xw:=xO a (ya2 b c d)
abbrev yef (a:Nat):Xw:=xM 9 a
abbrev yeg (a b c:Nat):Xw:=yaj a b (ybc c)
abbrev yeh:Xw:=ybq 4
abbrev yei (a b:Nat):Xw:=xE a 0 b
abbrev yej (a b:Nat):Xw:=xE a 1 b
abbrev yek (a:Nat) (b c:AX):AOp:= .pick (.t a) b c
abbrev yel:Xw:=yce 3
abbrev yem (a b c:Nat):Xw:=ya3 a b 1 c
abbrev yen (a:Nat) (b:List AX):AOp:= .pcallv (.t a) b
abbrev yeo (a:Nat):Xw:=xC a yco
abbrev yep (a:Nat):Xw:=xJ a 1
abbrev yeq:Xw:=yep 3
abbrev yer (a:Nat):Xw:=ybl a 2
abbrev yes (a b:Nat):Xw:=xS 2 a b
abbrev yet (a b:Nat):Xw:=xF a 5 b
abbrev yeu (a b c d e:Nat):Xw:=yaj a b (yc3 c d e)
abbrev yev (a b c:Nat):Xw:=yac a b (ya9 c)
abbrev yew (a b c:List Xw) (d e:Xv):Xv:=yaa a (ydg b c d e)
abbrev yex (a:List Xw) (b c d:Nat) (e f:Xv) (g:List Xw):Xv:=ybb a b c (ybm d e f g)
abbrev yey (a:Int):AV:= .int .u64 a
abbrev yez (a:Nat):Xw:=ybl a 1
abbrev ye0 (a:Nat) (b:AV):Xw:=yd8 a b yaz
abbrev ye1 (a b:Nat) (c d e f:AX):Xw:=yaf a b [c,d,e,f]
abbrev ye2 (a b c:Nat) (d e f:AX):Xw:=ye1 a b (.t c) d e f
abbrev ye3 (a b c d:Nat) (e f:AX):Xw:=ye2 a b c (.t d) e f
abbrev ye4 (a b c d e:Nat) (f:AX):Xw:=ye3 a b c d (.t e) f
abbrev ye5:Xw:=yd6 (-1)
abbrev ye6 (a:Nat):Xw:=ych a 3
abbrev ye7 (a b:AX):AOp:= .eqn false a b
abbrev ye8 (a b:List Xw) (c:Nat) (d:Xw) (e:Xv):Xv:=ya5 a b c [d] e
abbrev ye9 (a b c:Nat):Xw:=yac a b (yaw c)
abbrev yfa (a:Xw):Xv:=yad [a]
abbrev yfb (a b c:Xw):Xv:=xR [a,b,c]
abbrev yfc (a b c d e f:Nat):Xw:=ye4 a b c d e (.t f)
abbrev yfd (a:Nat):Xw:=yc5 6 a
abbrev yfe (a:Nat):Xw:=yc4 a 3
abbrev yff (a:Nat) (b c d:AV):Xw:=yb3 a b yaz c d
def f_5:Nat:=5
def f_7:Nat:=7
def f_8:Nat:=8
def f_9:Nat:=9
def f_10:Nat:=10
def f_12:Nat:=12
def f_14:Nat:=14
def f_15:Nat:=15
def f_16:Nat:=16
def f_17:Nat:=17
def f_18:Nat:=18
def f_19:Nat:=19
def f_20:Nat:=20
def f_22:Nat:=22
def f_26:Nat:=26
def f_28:Nat:=28
def f_29:Nat:=29
def f_30:Nat:=30
def f_31:Nat:=31
def f_32:Nat:=32
def f_33:Nat:=33
def f_34:Nat:=34
def f_35:Nat:=35
def f_36:Nat:=36
def f_37:Nat:=37
def f_38:Nat:=38
def f_40:Nat:=40
def f_41:Nat:=41
def f_42:Nat:=42
def f_43:Nat:=43
def f_44:Nat:=44
def f_45:Nat:=45
def f_46:Nat:=46
def f_47:Nat:=47
def f_51:Nat:=51
def f_52:Nat:=52
def f_54:Nat:=54
def f_58:Nat:=58
def f_60:Nat:=60
def f_64:Nat:=64
def f_65:Nat:=65
def f_66:Nat:=66
def f_67:Nat:=67
def f_68:Nat:=68
def f_69:Nat:=69
def f_70:Nat:=70
def f_72:Nat:=72
def f_80:Nat:=80
def f_81:Nat:=81
def f_82:Nat:=82
def f_83:Nat:=83
def f_84:Nat:=84
def f_85:Nat:=85
def f_86:Nat:=86
def f_88:Nat:=88
def f_89:Nat:=89
def f_90:Nat:=90
def f_91:Nat:=91
def f_92:Nat:=92
def f_93:Nat:=93
def f_94:Nat:=94
def f_95:Nat:=95
def f_98:Nat:=98
def f_100:Nat:=100
def f_113:Nat:=113
def f_114:Nat:=114
def f_115:Nat:=115
def f_116:Nat:=116
def f_120:Nat:=120
def f_121:Nat:=121
def f_122:Nat:=122
def f_123:Nat:=123
def f_124:Nat:=124
def f_125:Nat:=125
def f_126:Nat:=126
def f_127:Nat:=127
def f_128:Nat:=128
def f_129:Nat:=129
def f_130:Nat:=130
def f_131:Nat:=131
def f_132:Nat:=132
def f_133:Nat:=133
def f_134:Nat:=134
def f_135:Nat:=135
def f_136:Nat:=136
def f_137:Nat:=137
def f_138:Nat:=138
def f_146:Nat:=146
def f_147:Nat:=147
def f_148:Nat:=148
def f_149:Nat:=149
def f_150:Nat:=150
def f_151:Nat:=151
def f_152:Nat:=152
def f_153:Nat:=153
def f_154:Nat:=154
def f_157:Nat:=157
def f_160:Nat:=160
def f_164:Nat:=164
def f_168:Nat:=168
def f_171:Nat:=171
def f_174:Nat:=174
def f_177:Nat:=177
def f_179:Nat:=179
def f_183:Nat:=183
def f_184:Nat:=184
def f_185:Nat:=185
def f_186:Nat:=186
def f_187:Nat:=187
def f_188:Nat:=188
def f_189:Nat:=189
def f_190:Nat:=190
def f_191:Nat:=191
def f_192:Nat:=192
def f_193:Nat:=193
def f_194:Nat:=194
def f_195:Nat:=195
def f_196:Nat:=196
def f_197:Nat:=197
def f_198:Nat:=198
def f_199:Nat:=199
def f_200:Nat:=200
def f_201:Nat:=201
def f_203:Nat:=203
def f_204:Nat:=204
def f_205:Nat:=205
def f_206:Nat:=206
def f_210:Nat:=210
def f_211:Nat:=211
def f_212:Nat:=212
def f_214:Nat:=214
def f_215:Nat:=215
def f_216:Nat:=216
def f_217:Nat:=217
def f_218:Nat:=218
def f_219:Nat:=219
def f_220:Nat:=220
def f_221:Nat:=221
def f_222:Nat:=222
def f_223:Nat:=223
def f_224:Nat:=224
def f_225:Nat:=225
def f_226:Nat:=226
def f_228:Nat:=228
def f_230:Nat:=230
def f_235:Nat:=235
def f_236:Nat:=236
def f_240:Nat:=240
def f_245:Nat:=245
def f_246:Nat:=246
def f_247:Nat:=247
def f_248:Nat:=248
def f_249:Nat:=249
def f_250:Nat:=250
def f_251:Nat:=251
def f_252:Nat:=252
def f_253:Nat:=253
def f_254:Nat:=254
def f_255:Nat:=255
def f_257:Nat:=257
def f_258:Nat:=258
def f_260:Nat:=260
def f_264:Nat:=264
def f_265:Nat:=265
def f_266:Nat:=266
def f_267:Nat:=267
def f_268:Nat:=268
def f_269:Nat:=269
def f_270:Nat:=270
def f_271:Nat:=271
def f_272:Nat:=272
def f_275:Nat:=275
def f_276:Nat:=276
def f_280:Nat:=280
def f_282:Nat:=282
def f_283:Nat:=283
def f_284:Nat:=284
def f_285:Nat:=285
def f_286:Nat:=286
def f_287:Nat:=287
def f_288:Nat:=288
def f_289:Nat:=289
def f_290:Nat:=290
def f_291:Nat:=291
def f_292:Nat:=292
def f_293:Nat:=293
def f_294:Nat:=294
def f_295:Nat:=295
def f_296:Nat:=296
def f_297:Nat:=297
def f_298:Nat:=298
def f_299:Nat:=299
def f_300:Nat:=300
def f_301:Nat:=301
def f_302:Nat:=302
def f_313:Nat:=313
def f_314:Nat:=314
def f_315:Nat:=315
def f_316:Nat:=316
def f_317:Nat:=317
def f_327:Nat:=327
def f_328:Nat:=328
def f_329:Nat:=329
def f_330:Nat:=330
def f_336:Nat:=336
def f_337:Nat:=337
def f_338:Nat:=338
def f_339:Nat:=339
def f_340:Nat:=340
def f_341:Nat:=341
def f_342:Nat:=342
def f_343:Nat:=343
def f_344:Nat:=344
def f_345:Nat:=345
def f_346:Nat:=346
def f_347:Nat:=347
def f_348:Nat:=348
def f_349:Nat:=349
def f_350:Nat:=350
def f_351:Nat:=351
def f_352:Nat:=352
def f_357:Nat:=357
def f_358:Nat:=358
def f_359:Nat:=359
def f_360:Nat:=360
def f_362:Nat:=362
def f_364:Nat:=364
def f_365:Nat:=365
def f_366:Nat:=366
def f_367:Nat:=367
def f_368:Nat:=368
def f_372:Nat:=372
def c_5_l0:Xv:=ybb [xM 42 10,yc8 43,xN 44 43,xB 45 .lss 42 44,xM 46 45,ya7 47 46 7,yaj 48 46 (.eqn true (.t 47) yd5),xV 49 46 48] 49 0 (yda 1 [yc0 53,yc8 54,xM 55 10,xX 56 6 54 55,xA 57 6 56,ya6 58 f_14 [.t 53,.t 57],xM 52 58,yei 59 52,yej 60 52,xE 61 2 52,xE 62 3 52,yff 13 yaz yaz yaz,xM 11 59,xM 12 60,yc5 13 61,xM 14 62] [13] (yae [xM 63 14,ycq 64 .eql 63,xM 65 64,ya7 66 65 2,ya7 67 65 10,yeu 68 65 6 66 67,ybs 69 65 0 68,ydb 70 65 69,ycs 71 65 .eql 70 yaz,xV 72 65 71] (ycl 72 (yfb (yc7 73) (yb0 74 .add 73) (yef 74))) (xR [xM 75 11,yd1 75])) [xM 50 10,yb0 51 .add 50,xM 10 51])
def c_5_l1:Xv:=ydz [xM 80 16,yc7 81,xB 82 .lss 80 81] 82 2 3 (yax [yc0 85,xM 86 16,ya6 87 f_16 [.t 85,.t 86],xM 17 87] (xQ [yc0 89,xM 90 16,ya6 91 f_17 [.t 89,.t 90],xM 88 91,yei 92 88,yej 93 88,yff 18 yaz (.Xu 3 []) (.Xu 2 []),yc5 18 92,xM 19 93] [18]) (yea [yc0 95,xM 96 16,ya6 97 f_18 [.t 95,.t 96],xM 94 97,yei 98 94,yej 99 94,xE 100 2 94,ye0 20 yaz,yes 20 98,xM 21 99,xM 22 100] [20] (yb9 [xM 101 19,xM 102 22,xO 103 (.eqs false false [.b] (.t 101) (.t 102)),xM 104 103,yay 105 104 15,yay 106 104 16,yde 107 104 f_19 [.t 105,ydf 1,.t 106],yb7 108 104 .neq 107 1,xW 109 104 108,xM 110 109,yay 111 110 15,yay 112 110 16,yde 113 110 f_19 [.t 111,ydf 2,.t 112],yay 114 110 17,ybw 115 110 114,ycm 116 110 .neq 113 115,xW 117 110 116,xM 118 117,ydh 119 118 3 3,yay 120 118 17,yde 121 118 f_20 [.t 119,.t 120],yev 122 118 121,xW 123 118 122] 123 [ybq 6] (ydi [xM 124 15,xM 125 16,ydv 126 f_19 124 (ydf 3) 125,xM 127 15,xM 128 16,ydv 129 f_19 127 (ydf 4) 128,xM 23 126,xM 24 129] [xM 130 23,xM 131 24,xB 132 .add 130 131,yb0 133 .gtr 132,xM 134 133,yay 135 134 23,yb7 136 134 .eql 135 1,yay 137 134 19,yay 138 134 137,ybs 139 138 0 18,ydb 140 138 139,ycs 141 138 .eql 140 (yag 1),yac 142 134 (yek 138 (.t 141) (.c yat)),yac 143 134 (.eqs true false [.b] (.t 136) (.t 142)),xW 144 134 143,xM 145 144,yay 146 145 24,yb7 147 145 .eql 146 1,yay 148 145 19,yay 149 145 148,ybs 150 149 0 18,ydb 151 149 150,ycs 152 149 .eql 151 (yag 3),yac 153 145 (yek 149 (.t 152) (.c yat)),yac 154 145 (.eqs true false [.b] (.t 147) (.t 153)),xW 155 145 154,xM 156 155,yay 157 156 19,yay 158 156 157,ybs 159 158 0 18,ydb 160 158 159,ycs 161 158 .eql 160 (yag 2),ya7 162 158 17,yeg 163 158 162,ycs 164 158 .gtr 163 yaz,ya7 165 158 164,ya7 166 165 17,ya7 167 165 17,yeg 168 165 167,ycs 169 165 .sub 168 (yag 1),yeu 170 165 3 166 169,ybs 171 165 2 170,ydb 172 165 171,ycs 173 165 .eql 172 (yag (-1)),yaj 174 158 (yek 165 (.t 173) (.c yat)),yaj 175 158 (.eqs true false [.b] (.t 161) (.t 174)),yac 176 156 (yek 158 (.t 175) (.c yat)),xW 177 156 176] (yak 177 [ybq 6]))))) (xM 83 16) 84 .add 83 (xM 16 84)
def c_5_k2:Xv:=yea [yc0 179,yc7 180,ya6 181 f_17 [.t 179,.t 180],xM 178 181,yei 182 178,yej 183 178,yff 25 yaz (.Xu 3 []) (.Xu 2 []),yc5 25 182,xM 26 183] [25] (yad [xM 184 26,ybo 185 184,xM 186 185,ya7 187 186 7,ya7 188 186 9,yaj 189 186 (.tcall f_16 [.t 187,.t 188]),yeg 190 186 189,ycs 191 186 .eql 190 yaz,xV 192 186 191,xM 193 192,ydm 194 193 f_8 [],xV 195 193 194,ydn 195])
def c_5_k3:Xv:=yb9 [yc0 76,xO 77 (ye7 (.t 76) yd5)] 77 [ybq 6] (ybd [yc0 78,ya6 79 f_15 [.t 78],xM 15 79] [ya0 16] 2 c_5_l1 c_5_k2)
def c_5:AFn:=⟨3,[.tmp 6],ydx yel (ybq 6) (ya5 [xA 28 3 3,ybg 29,ya6 30 f_9 [.t 28,.t 29,.c (.func (.func f_10) [] [])],xM 27 30,yei 31 27,yej 32 27,yd1 31,yd0 32] [xA 33 3 3,ybg 34,yc8 35,ydw 36 f_7 33 34 35,xM 37 36,yay 38 37 8,ybn 39 37 .neq 38 yaz,xW 40 37 39] 40 [yaf 41 f_8 [],ydn 41] (ydg [ya0 9] [ya0 10] c_5_l0 c_5_k3))⟩
def c_7_l0:Xv:=ydz [yc7 43,ybg 44,ycd 45,xX 46 4 44 45,ybf 47 46,xL 48 47,xN 49 48,xB 50 .lss 43 49] 50 2 3 (xR [yc0 53,ybg 54,ycd 55,xX 56 4 54 55,ybf 57 56,xL 58 57,yc7 59,yc9 60 58 59,xL 61 60,xN 62 61,xB 63 .add 53 62,yd1 63]) (yc7 51) 52 .add 51 (yef 52)
def c_7_k1:Xv:=yfb (ycd 41) (yb0 42 .add 41) (yd0 42)
def c_7_l2:Xv:=ybb [ycd 37,ybg 38,xN 39 38,xB 40 .lss 37 39] 40 0 (yai 1 (yaa [ya0 9] (yal 2 c_7_l0)) c_7_k1)
def c_7_l3:Xv:=ydz [xM 64 10,yc8 65,xN 66 65,xB 67 .lss 64 66] 67 4 5 (yba [yc8 70,xM 71 10,xX 72 6 70 71,yd9 73 72,xL 74 73,xN 75 74,xK 76 .gtr 75 600,xM 77 76,yay 78 77 2,yay 79 77 10,yac 80 77 (yc3 6 78 79),ya3 81 77 4 80,yem 82 77 81,ycb 83 77 82,ybw 84 77 83,yb7 85 77 .gtr 84 70,xW 86 77 85] 86 [yeo 6]) (xM 68 10) 69 .add 68 (xM 10 69)
def c_7_k4:Xv:=yad [yc0 87,xK 88 .gtr 87 100,ydn 88]
def c_7_k5:Xv:=yb5 [ya0 10] 4 c_7_l3 c_7_k4
def c_7:AFn:=⟨3,[.tmp 6],ye8 [yel,ybq 6] [yc6 11,xL 12 11,xN 13 12,xK 14 .gtr 13 20,xM 15 14,yem 16 15 3,ycb 17 15 16,ybw 18 15 17,yb7 19 15 .gtr 18 40,xW 20 15 19,xM 21 20,ya3 22 21 2 3,ycb 23 21 22,ybw 24 21 23,yb7 25 21 .gtr 24 20,xW 26 21 25,xM 27 26,yay 28 27 1,ybw 29 27 28,yb7 30 27 .gtr 29 20,xW 31 27 30,xM 32 31,yay 33 32 2,ybw 34 32 33,yb7 35 32 .gtr 34 40,xW 36 32 35] 36 (yeo 6) (ydg [yed] [ya0 8] c_7_l2 c_7_k5)⟩
def c_9_l0:Xv:=ydj [xB 32 .lss 31 30] 32 0 1 [xX 33 4 29 31,yc1 34 33,yb3 11 (.Xu 1 []) (.Xu 1 []) (.Xu 2 []) (.Xu 1 []),yc5 11 34] [11] (yaa [ych 35 9,yc1 36 11,ybk 37 f_35 35 36,xM 12 37] (yba [xM 38 12,ycq 39 .neq 38] 39 [xM 40 12,ydk 6,yd1 40])) [yb0 41 .add 31,xM 31 41]
def c_9_k1:Xv:=yad [xA 42 3 3,yb2 43 f_36 42,ybg 44,ya6 45 f_37 [.t 44],xO 46 (.build [.Xu 1 [],.Xu 5 [],.Xu 2 [],.Xu 4 [],.Xu 9 [],.Xu 4 []] [(0,3,(.t 43)),(3,1,(.t 45))]),yc8 47,xO 48 (.build [.Xu 1 [],.Xu 5 [],.Xu 2 [],.Xu 4 [],.Xu 9 [],.Xu 4 [],.nilfunc] [(0,6,(.t 46)),(6,1,(.t 47))]),ycx 49 48,ydn 49,yed]
def c_9:AFn:=⟨3,[.tmp 6,.tmp 7],yaq [yel,ydk 6,yed] [xA 13 3 3,yb2 14 f_33 13,yd0 14] (yba [ycd 15,ycq 16 .neq 15] 16 [ycd 17,ydk 6,yd1 17]) (yb9 [yc8 18,xO 19 (.eqs false false [] (.t 18) (.c (.nilfunc))),xM 20 19,yay 21 20 1,ybw 22 20 21,ya3 23 20 0 3,ycb 24 20 23,ybw 25 20 24,ycm 26 20 .neq 22 25,xW 27 20 26] 27 [ydk 6,xI 7 2] (yea [yaf 28 f_34 [],yap 9 [.str [],.Xu 2 [],.Xu 2 [],.Xu 3 [],.Xu 3 [],.Xu 6 [],.Xu 7 [],.Xu 5 [],.Xu 1 []],xS 9 9 28] [9] (yb5 [ybg 29,xN 30 29,ya0 31] 0 c_9_l0 c_9_k1)))⟩
def c_10:AFn:=⟨2,[.cell 4 true 4,.cell 5 true 4],ydi [yc2,yeq,yff 4 yat (.Xu 1 []) (.Xu 3 []),yb3 5 (.Xu 1 []) (.Xu 1 []) (.Xu 2 []) (.Xu 1 [])] [yaf 6 f_26 [],yc1 7 2,ycj 8 3,ydw 9 f_38 6 7 8,yei 10 9,yej 11 9,yc5 4 10,yc5 5 11] .ret⟩
def c_14:AFn:=⟨2,[.tmp 4,.tmp 5,.cell 6 true 4,.tmp 7],yaq [yeq,ydk 4,ydc,yff 6 yaz yaz yaz,yed] [yc6 12,xL 13 12] (.block 0 (ydx (ycq 15 .eql 13) (xM 14 15) (yab 14 (ybt [ybu 17,ydq 18,xL 19 18,yd9 20 3,xL 21 20,ya6 22 f_28 [.t 17,.t 19,.t 21],xM 16 22,yei 23 16,yej 24 16,yd0 23,yef 24] [ybu 25,ycd 26,xO 27 (.build [.int .i64 0,.int .i64 0,.int .i64 0,.int .i64 0] []),yc7 28,ycz 25,ycv 26,yfd 27,yd1 28]) (ydx (yb0 30 .eql 13) (xM 29 30) (yab 29 (yea [ybu 32,ydq 33,xL 34 33,ya6 35 f_29 [.t 32,.t 34],xM 31 35,yei 36 31,yej 37 31,yff 10 yaz yaz yaz,yc5 10 36,xM 11 37] [10] (yca [ybu 38,yc1 39 10,xM 40 11,ycz 38,ydc,yfd 39,yd1 40] .ret)) (yby [xK 42 .eql 13 2,xM 41 42] 41 [ybu 43,xO 44 (.build [.int .i64 0,.int .i64 0,.int .i64 0,.int .i64 0] []),ybu 45,ydq 46,xL 47 46,yfe 48,xL 49 48,xF 50 4 3,ycj 51 50,ya6 52 f_41 [.t 45,.t 47,.t 49,.t 51],ycz 43,ydc,yfd 44,yd1 52] (yba [xK 54 .eql 13 3,xM 53 54] 53 [ybu 55,xO 56 (.build [.int .i64 0,.int .i64 0,.int .i64 0,.int .i64 0] []),ybu 57,ydq 58,xL 59 58,yfe 60,xL 61 60,yb0 62 .eql 61,ya6 63 f_42 [.t 57,.t 59,.t 62],ycz 55,ydc,yfd 56,yd1 63]))))))) (yad [ybu 64,ya6 65 f_22 [.t 64],xO 66 (.build [.int .i64 0,.int .i64 0,.int .i64 0,.int .i64 0] []),ycz 65,ydc,yfd 66,yed])⟩
def c_15:AFn:=⟨1,[.tmp 2],ydr [xC 2 (.Xu 4 [])] [ybu 3,ya6 4 f_43 [.t 3],ybo 5 4] 5 [xC 2 (.Xu 4 [])] [ybu 6,ybh 7 6,ybf 8 7,yet 9 8,xL 10 9,yb2 11 f_44 10,xM 2 11]⟩
def c_16:AFn:=⟨2,[.tmp 4],yaa [xC 4 (.Xu 3 [])] (ydr [ybu 6,ybg 7,ya6 8 f_45 [.t 6,.t 7],ycd 5] [yb6 9,xO 10 (ye7 (.t 9) yd5)] 10 [xC 4 (.Xu 3 [])] [yb6 11,ybh 12 11,yd9 13 12,xL 14 13,yb2 15 f_46 14,ycz 15])⟩
def c_17:AFn:=⟨2,[.cell 4 true 4,.tmp 5],ydx (yff 4 yaz (.Xu 3 []) (.Xu 2 [])) (ybq 5) (ya5 [ybu 8,ybg 9,ya6 10 f_45 [.t 8,.t 9],ydn 10] [ycu 11,xO 12 (ye7 (.t 11) yd5),xM 13 12,yay 14 13 6,ye9 15 13 14,ya3 16 13 4 15,ycb 17 13 16,yev 18 13 17,xW 19 13 18] 19 [xO 20 (.build [.int .i64 0,.int .i64 0,.Xu 3 [],.Xu 2 []] []),yc5 4 20,ybq 5] (yaa [ycu 21,ybh 22 21,yet 23 22,yc1 24 23,yff 7 yaz (.Xu 3 []) (.Xu 2 []),yc5 7 24] (ybt [ycu 25,ybh 26 25,yd9 27 26,xL 28 27,yb2 29 f_46 28,yc4 30 7,ydl 30 29] [yc1 31 7,yc5 4 31,yeo 5])))⟩
def c_18:AFn:=⟨2,[.cell 4 true 2,.tmp 5,.tmp 6],yaa [ye0 4 yaz,xC 5 (.Xu 1 []),ybq 6] (ya5 [ybu 8,ybg 9,ya6 10 f_45 [.t 8,.t 9],yd1 10] [yc0 11,xO 12 (ye7 (.t 11) yd5),xM 13 12,yay 14 13 7,ye9 15 13 14,ya3 16 13 4 15,ycb 17 13 16,xW 18 13 17] 18 [xO 19 (.build [.int .i64 0,.int .i64 0] []),yes 4 19,xC 5 (.Xu 1 []),ybq 6] (yca [yc0 20,ybh 21 20,ybf 22 21,ycj 23 22,yc0 24,ybh 25 24,yc4 26 25,xL 27 26,yb2 28 f_47 27,yes 4 23,ycv 28,yeo 6] .ret))⟩
def c_19_l0:Xv:=ydz [ycd 9,ybu 10,xN 11 10,xB 12 .lss 9 11] 12 0 1 (yaa [ybu 15,ycd 16,xX 17 4 15 16,ybf 18 17,xL 19 18,ybg 20,xB 21 .eql 19 20,xM 22 21,ya7 23 22 0,ya7 24 22 8,yeu 25 22 4 23 24,ybs 26 22 1 25,ydb 27 22 26,ya7 28 22 2,yd2 29 22 .eql 27 28,xV 30 22 29] (ycl 30 (yfb (yc0 31) (yb0 32 .add 31) (yd1 32)))) (ycd 13) 14 .add 13 (yd0 14)
def c_19_k1:Xv:=yck (yc0 33) (ydn 33)
def c_19:AFn:=⟨3,[.tmp 6],yew [yct] [yed] [ya0 8] c_19_l0 c_19_k1⟩
def c_20_l0:Xv:=ydz [yc7 40,yer 41,xL 42 41,xN 43 42,xB 44 .lss 40 43] 44 2 3 (xD [ycd 47,xM 48 47,yem 49 48 2,ycb 50 48 49,yay 51 48 9,yac 52 48 (yc3 5 50 51),ya3 53 48 0 52,ydh 54 48 2 53,ydh 55 48 2 6,yac 56 48 (.eqs false true [.i,.i] (.t 54) (.t 55)),yay 57 48 56,ybs 58 57 1 2,ydb 59 57 58,ya7 60 57 9,yeu 61 57 5 59 60,ybs 62 57 2 61,yaj 63 57 (ycw 2 62),yaj 64 57 (ycw 2 7),yaj 65 57 (.eqs false true [.i,.i] (.t 63) (.t 64)),yac 66 48 (yek 57 (.t 65) (.c yat)),xW 67 48 66,xM 68 67,yem 69 68 2,ycb 70 68 69,yay 71 68 9,yac 72 68 (yc3 5 70 71),ya3 73 68 0 72,ydh 74 68 2 73,ydh 75 68 2 7,yac 76 68 (.eqs false true [.i,.i] (.t 74) (.t 75)),yay 77 68 76,ybs 78 77 1 2,ydb 79 77 78,ya7 80 77 9,yeu 81 77 5 79 80,ybs 82 77 2 81,yaj 83 77 (ycw 2 82),yaj 84 77 (ycw 2 6),yaj 85 77 (.eqs false true [.i,.i] (.t 83) (.t 84)),yac 86 68 (yek 77 (.t 85) (.c yat)),xW 87 68 86,yd0 87]) (yc7 45) 46 .add 45 (yef 46)
def c_20_k1:Xv:=yba [ycd 88,ybo 89 88] 89 [yeh]
def c_20_k2:Xv:=yfb (yb6 14) (yb0 15 .add 14) (ycv 15)
def c_20_l3:Xv:=ybb [yb6 10,ybg 11,xN 12 11,xB 13 .lss 10 12] 13 0 (yai 1 (ydo [(5,13),(11,13)] [⟨some 16,none,.mov (.t 1)⟩,⟨some 17,none,.mov (.t 5)⟩,⟨some 18,none,.bin .sub (.t 17) (.c (.int .i64 1))⟩,⟨some 19,none,.iaddr 3 none (.t 16) (.t 18)⟩,⟨some 20,none,.faddr 0 (.t 19)⟩,⟨some 21,none,.load false 1 (.t 20)⟩,⟨some 22,none,.mov (.t 1)⟩,⟨some 23,none,.mov (.t 5)⟩,⟨some 24,none,.bin .sub (.t 23) (.c (.int .i64 1))⟩,⟨some 25,none,.iaddr 3 none (.t 22) (.t 24)⟩,⟨some 26,none,.faddr 2 (.t 25)⟩,⟨some 27,none,.load false 1 (.t 26)⟩,⟨some 28,none,.build [.int .i64 0,.int .i64 0] [(0,1,(.t 21)),(1,1,(.t 27))]⟩,⟨some 6,none,.alloc [.int .i64 0,.int .i64 0]⟩,⟨none,none,.store 2 (.t 6) (.t 28)⟩] (some [6]) (ydo [(4,11),(9,11)] [⟨some 29,none,.mov (.t 1)⟩,⟨some 30,none,.mov (.t 5)⟩,⟨some 31,none,.iaddr 3 none (.t 29) (.t 30)⟩,⟨some 32,none,.faddr 0 (.t 31)⟩,⟨some 33,none,.load false 1 (.t 32)⟩,⟨some 34,none,.mov (.t 1)⟩,⟨some 35,none,.mov (.t 5)⟩,⟨some 36,none,.iaddr 3 none (.t 34) (.t 35)⟩,⟨some 37,none,.faddr 1 (.t 36)⟩,⟨some 38,none,.load false 1 (.t 37)⟩,⟨some 39,none,.build [.int .i64 0,.int .i64 0] [(0,1,(.t 33)),(1,1,(.t 38))]⟩,⟨some 7,none,.alloc [.int .i64 0,.int .i64 0]⟩,⟨none,none,.store 2 (.t 7) (.t 39)⟩] (some [7]) (ybd [ybq 8] [ya0 9] 2 c_20_l0 c_20_k1))) c_20_k2)
def c_20_k4:Xv:=yfa (yeo 4)
def c_20:AFn:=⟨2,[.tmp 4],ydg [yc2,yeh] [xI 5 1] c_20_l3 c_20_k4⟩
def c_22_l0:Xv:=yd7 [xB 41 .lss 40 39] 41 0 1 (ydi [xX 42 9 38 40,ych 43 42,yap 5 [yaz,yaz,.Xu 1 [],.Xu 3 [],yat,yaz,yaz,.Xu 3 [],.Xu 2 []],xS 9 5 43] [yc4 44 5,xL 45 44,yb2 46 f_47 45,yd9 47 5,xL 48 47,ya6 49 f_46 [.t 48],yc4 50 5,ydl 50 46,yd9 51 5,ydl 51 49] (ybx [(5,7)] [⟨some 52,none,.mov (.t 3)⟩,⟨some 53,none,.mov (.t 3)⟩,⟨some 54,none,.nilchk (.t 53)⟩,⟨some 55,none,.faddr 0 (.t 54)⟩,⟨some 56,none,.faddr 4 (.t 55)⟩,⟨some 57,none,.load false 1 (.t 56)⟩,⟨some 58,none,.load true 9 (.t 5)⟩,⟨some 59,none,.bslice .row 9 (List.replicate 1 [.int .i64 0,.int .i64 0,.Xu 1 [],.Xu 3 [],.bool false,.int .i64 0,.int .i64 0,.Xu 3 [],.Xu 2 []]) [(0,(.t 58))]⟩,⟨some 60,none,.append .row 9 136 (.t 57) (.t 59)⟩,⟨some 61,none,.nilchk (.t 52)⟩,⟨some 62,none,.faddr 0 (.t 61)⟩,⟨some 63,none,.faddr 4 (.t 62)⟩,⟨none,none,.store 1 (.t 63) (.t 60)⟩] none)) [yb0 64 .add 40,xM 40 64]
def c_22_k1:Xv:=yck (xM 65 3) (xM 2 65)
def c_22:AFn:=⟨1,[.tmp 2],ye8 [ydk 2] [ybu 6,ya6 7 f_43 [.t 6],ybo 8 7] 8 (ydk 2) (ydo [(11,16),(11,22),(17,22)] [⟨some 9,none,.mov (.t 0)⟩,⟨some 10,none,.nilchk (.t 9)⟩,⟨some 11,none,.faddr 0 (.t 10)⟩,⟨some 12,none,.faddr 0 (.t 11)⟩,⟨some 13,none,.load true 3 (.t 12)⟩,⟨some 14,none,.pcall f_36 [.t 13]⟩,⟨some 15,none,.mov (.t 0)⟩,⟨some 16,none,.nilchk (.t 15)⟩,⟨some 17,none,.faddr 0 (.t 16)⟩,⟨some 18,none,.faddr 3 (.t 17)⟩,⟨some 19,none,.load false 1 (.t 18)⟩,⟨some 20,none,.tcall f_37 [.t 19]⟩,⟨some 21,none,.mov (.t 0)⟩,⟨some 22,none,.nilchk (.t 21)⟩,⟨some 23,none,.faddr 0 (.t 22)⟩,⟨some 24,none,.faddr 5 (.t 23)⟩,⟨some 25,none,.load false 1 (.t 24)⟩,⟨some 26,none,.tcall f_44 [.t 25]⟩,⟨some 27,none,.build [.Xu 1 [],.Xu 5 [],.Xu 2 [],.Xu 4 [],.Xu 9 [],.Xu 4 []] [(0,3,(.t 14)),(3,1,(.t 20)),(5,1,(.t 26))]⟩,⟨some 28,none,.mov (.t 0)⟩,⟨some 29,none,.nilchk (.t 28)⟩,⟨some 30,none,.faddr 6 (.t 29)⟩,⟨some 31,none,.load false 1 (.t 30)⟩,⟨some 32,none,.build [.Xu 1 [],.Xu 5 [],.Xu 2 [],.Xu 4 [],.Xu 9 [],.Xu 4 [],.nilfunc] [(0,6,(.t 27)),(6,1,(.t 31))]⟩,⟨some 33,none,.box (.t 32)⟩,⟨some 3,none,.mov (.t 33)⟩] none (yb5 [ybu 34,ybh 35 34,ybf 36 35,xF 37 4 36,xL 38 37,xN 39 38,ya0 40] 0 c_22_l0 c_22_k1))⟩
def c_28:AFn:=⟨3,[.tmp 6,.tmp 7],ydx yct yed (yds 0 [ybu 10,ya6 11 f_43 [.t 10],ybo 12 11,yef 12] 9 [yct,xI 7 1] (yby [ybg 14,ycq 15 .lss 14,xM 16 15,yay 17 16 1,yay 18 16 0,ye9 19 16 18,ya3 20 16 0 19,ya3 21 16 0 20,ya3 22 16 2 21,ycb 23 16 22,ybw 24 16 23,ycm 25 16 .geq 17 24,xW 26 16 25,xM 13 26] 13 [yct,xI 7 8] (yby [yc8 28,xN 29 28,xK 30 .gtr 29 512,xM 27 30] 27 [yct,xI 7 4] (yba [ybu 32,ybh 33 32,ybf 34 33,xF 35 4 34,xL 36 35,xN 37 36,xK 38 .geq 37 4096,xM 31 38] 31 [yct,xI 7 12]))) (yax [ybu 39,ybh 40 39,ybf 41 40,xF 42 4 41,xL 43 42,xN 44 43,yd0 44] (ybx [(5,18)] [⟨some 45,none,.mov (.t 0)⟩,⟨some 46,none,.mov (.t 0)⟩,⟨some 47,none,.nilchk (.t 46)⟩,⟨some 48,none,.faddr 0 (.t 47)⟩,⟨some 49,none,.faddr 4 (.t 48)⟩,⟨some 50,none,.load false 1 (.t 49)⟩,⟨some 51,none,.mov (.t 0)⟩,⟨some 52,none,.nilchk (.t 51)⟩,⟨some 53,none,.faddr 0 (.t 52)⟩,⟨some 54,none,.faddr 0 (.t 53)⟩,⟨some 55,none,.faddr 2 (.t 54)⟩,⟨some 56,none,.load false 1 (.t 55)⟩,⟨some 57,none,.mov (.t 1)⟩,⟨some 58,none,.iaddr 2 none (.t 56) (.t 57)⟩,⟨some 59,none,.load true 2 (.t 58)⟩,⟨some 60,none,.mov (.t 2)⟩,⟨some 61,none,.pcall f_47 [.t 60]⟩,⟨some 62,none,.build [.int .i64 0,.int .i64 0,.Xu 1 [],.Xu 3 [],.bool false,.int .i64 0,.int .i64 0,.Xu 3 [],.Xu 2 []] [(0,2,(.t 59)),(2,1,(.t 61))]⟩,⟨some 63,none,.bslice .row 9 (List.replicate 1 [.int .i64 0,.int .i64 0,.Xu 1 [],.Xu 3 [],.bool false,.int .i64 0,.int .i64 0,.Xu 3 [],.Xu 2 []]) [(0,(.t 62))]⟩,⟨some 64,none,.append .row 9 136 (.t 50) (.t 63)⟩,⟨some 65,none,.nilchk (.t 45)⟩,⟨some 66,none,.faddr 0 (.t 65)⟩,⟨some 67,none,.faddr 4 (.t 66)⟩,⟨none,none,.store 1 (.t 67) (.t 64)⟩] none) (ybt [ybu 68,ybh 69 68,ybf 70 69,ycd 71,ybg 72,ya6 73 f_64 [.t 70,ydf 1,.t 71,.t 72,.c yaz]] [ycd 74,ydn 74,yed])))⟩
def c_29:AFn:=⟨2,[.cell 4 true 4,.tmp 5],ydx (yff 4 yaz yaz yaz) ydc (yds 0 [ybu 19,ya6 20 f_43 [.t 19],ybo 21 20,xM 18 21] 18 [xO 22 (.build [.int .i64 0,.int .i64 0,.int .i64 0,.int .i64 0] []),yc5 4 22,xI 5 1] (yby [ybg 24,ycq 25 .lss 24,xM 26 25,yay 27 26 1,yay 28 26 0,ye9 29 26 28,ya3 30 26 0 29,ya3 31 26 4 30,ycb 32 26 31,ybw 33 26 32,ycm 34 26 .geq 27 33,xW 35 26 34,xM 23 35] 23 [xO 36 (.build [.int .i64 0,.int .i64 0,.int .i64 0,.int .i64 0] []),yc5 4 36,xI 5 8] (yba [ybu 38,ybh 39 38,ybf 40 39,xF 41 4 40,xL 42 41,ybg 43,xX 44 9 42 43,xF 45 4 44,xL 46 45,xM 37 46] 37 [xO 47 (.build [.int .i64 0,.int .i64 0,.int .i64 0,.int .i64 0] []),yc5 4 47,xI 5 25])) (yca [ybu 48,ybh 49 48,ybf 50 49,xF 51 4 50,xL 52 51,ybg 53,xX 54 9 52 53,ybu 55,ybh 56 55,ybf 57 56,xO 58 (.mkfunc (.func f_64) [.t 57] []),ydn 54,yd1 58] (yca [ycu 59,ybh 60 59,ybf 61 60,ybf 62 61,xL 63 62,ycu 64,ybh 65 64,ybf 66 65,ybl 67 66,xL 68 67,yd0 63,yef 68] (ydo [(3,24),(8,24),(11,24),(12,24),(17,24),(18,24),(20,24),(3,25),(8,25),(11,25),(12,25),(17,25),(18,25),(20,25),(24,25)] [⟨some 70,none,.mov (.t 0)⟩,⟨some 71,none,.nilchk (.t 70)⟩,⟨some 72,none,.faddr 6 (.t 71)⟩,⟨some 73,none,.load false 1 (.t 72)⟩,⟨some 74,none,.mov (.t 0)⟩,⟨some 75,none,.nilchk (.t 74)⟩,⟨some 76,none,.faddr 0 (.t 75)⟩,⟨some 77,none,.faddr 3 (.t 76)⟩,⟨some 78,none,.load false 1 (.t 77)⟩,⟨some 79,none,.mov (.t 8)⟩,⟨some 80,none,.iaddr 4 none (.t 78) (.t 79)⟩,⟨some 81,none,.load true 4 (.t 80)⟩,⟨some 82,none,.pcall f_65 [.t 81]⟩,⟨some 83,none,.mov (.t 9)⟩,⟨some 84,none,.mov (.t 6)⟩,⟨some 85,none,.nilchk (.t 84)⟩,⟨some 86,none,.faddr 2 (.t 85)⟩,⟨some 87,none,.load false 1 (.t 86)⟩,⟨some 88,none,.pcall f_47 [.t 87]⟩,⟨some 89,none,.build [.int .i64 0,.Xu 1 []] [(0,1,(.t 83)),(1,1,(.t 88))]⟩,⟨some 90,none,.pcallv (.t 73) [.t 82,.t 89]⟩,⟨some 69,none,.mov (.t 90)⟩,⟨some 91,none,.ext 0 (.t 69)⟩,⟨some 92,none,.ext 1 (.t 69)⟩,⟨some 10,none,.alloc [.bool false,.int .i64 0,.Xu 1 [],.Xu 3 []]⟩,⟨some 11,none,.alloc [.Xu 1 [],.Xu 1 [],.Xu 2 [],.Xu 1 []]⟩,⟨none,none,.store 4 (.t 10) (.t 91)⟩,⟨none,none,.store 4 (.t 11) (.t 92)⟩] (some [10,11]) (yca [ybu 93,ybh 94 93,ybf 95 94,yd9 96 95,xL 97 96,ycd 98,yc1 99 11,yb2 100 f_65 99,xX 101 4 97 98,yc5 101 100] (yae [ybf 102 10,xL 103 102] (ycl 103 (yaa [ycu 104,ycu 105,ybh 106 105,yd9 107 106,xL 108 107,ycd 109,yc7 110,xO 111 (.build [.int .i64 0,.int .i64 0,.int .i64 0] [(0,1,(.t 109)),(1,1,(.t 110)),(2,1,(.c (.int .i64 (-1))))]),xO 112 (.bslice .imm 3 (List.replicate 1 [.int .i64 0,.int .i64 0,.int .i64 0]) [(0,(.t 111))]),ycr 113 3 24 108 112,ybh 114 104,yd9 115 114,ydl 115 113] (ybt [ycu 116,ycd 117,ya6 118 f_66 [.t 116,ydf 2,.t 117]] [yc0 119,ybg 120,ycd 121,xO 122 (.tcallv (.t 119) [ydf 2,.t 120,.t 121,ydf (-1)]),yc5 4 122,ydc]))) (yca [ycu 123,ycu 124,ybh 125 124,yd9 126 125,xL 127 126,ycd 128,yc7 129,ybl 130 10,xL 131 130,xO 132 (.build [.int .i64 0,.int .i64 0,.int .i64 0] [(0,1,(.t 128)),(1,1,(.t 129)),(2,1,(.t 131))]),xO 133 (.bslice .imm 3 (List.replicate 1 [.int .i64 0,.int .i64 0,.int .i64 0]) [(0,(.t 132))]),ycr 134 3 24 127 133,ybh 135 123,yd9 136 135,ydl 136 134] (yax [ycu 137,yc4 138 10,xL 139 138,yb2 140 f_47 139,ybh 141 137,yc4 142 141,ydl 142 140] (xQ [yc0 143,ybg 144,ycd 145,ybl 146 10,xL 147 146,xO 148 (.tcallv (.t 143) [ydf 2,.t 144,.t 145,.t 147]),yff 12 yaz yaz yaz,yc5 12 148] [12]) (yea [ycd 149,ybl 150 10,xL 151 150,xO 152 (.build [.int .i64 0,.int .i64 0] [(0,1,(.t 149)),(1,1,(.t 151))]),ye0 13 yaz,yes 13 152] [13] (.seq (yca [ybu 154,ybh 155 154,ybf 156 155,ybf 157 156,xA 158 3 157,ycj 159 13,ybk 160 f_67 158 159,xM 153 160,yei 161 153,yej 162 153,xM 14 161,xM 15 162] (yaa [xM 163 15] (ycl 163 (ybt [ycu 164,xM 165 14,ya6 166 f_66 [.t 164,ydf 1,.t 165]] [yc0 167,ybg 168,xM 169 14,xO 170 (.tcallv (.t 167) [ydf 3,.t 168,.t 169,.c yaz]),yc5 4 170,ydc])))) (ydo [(4,10),(5,10),(6,10)] [⟨some 172,none,.mov (.t 0)⟩,⟨some 173,none,.nilchk (.t 172)⟩,⟨some 174,none,.faddr 0 (.t 173)⟩,⟨some 175,none,.faddr 0 (.t 174)⟩,⟨some 176,none,.load true 3 (.t 175)⟩,⟨some 177,none,.load true 2 (.t 13)⟩,⟨some 178,none,.pcall f_68 [.t 176,.t 177]⟩,⟨some 171,none,.mov (.t 178)⟩,⟨some 179,none,.ext 0 (.t 171)⟩,⟨some 180,none,.ext 1 (.t 171)⟩,⟨some 16,none,.alloc [.int .i64 0,.int .i64 0]⟩,⟨none,none,.store 2 (.t 16) (.t 179)⟩,⟨some 17,none,.mov (.t 180)⟩] (some [16]) (yae [xM 181 17,ycq 182 .neq 181] (ycl 182 (ybt [ycu 183,ycd 184,ya6 185 f_66 [.t 183,ydf 3,.t 184]] [yc0 186,ybg 187,ycd 188,ybl 189 10,xL 190 189,xO 191 (.tcallv (.t 186) [ydf 4,.t 187,.t 188,.t 190]),yc5 4 191,ydc])) (ybt [ycu 192,ycj 193 16,ybh 194 192,ybf 195 194,yes 195 193] [yc1 196 12,yc5 4 196,ydc])))))))))))))⟩
def c_33_l0:Xv:=yd7 [xB 38 .lss 37 36] 38 0 1 (yaa [yc9 39 35 37,xL 40 39,ycz 40] (yba [xM 41 4,yb0 42 .lss 41,xM 43 42,yay 44 43 4,yb7 45 43 .gtr 44 16,xW 46 43 45] 46 [xI 2 9])) [yb0 47 .add 37,xM 37 47]
def c_33_l1:Xv:=ydj [xB 53 .lss 52 51] 53 2 3 [xX 54 2 50 52,ycj 55 54,ye0 7 yaz,yes 7 55] [7] (yba [xA 56 3 1,ycj 57 7,ybk 58 f_70 56 57,ybo 59 58] 59 [xI 2 9]) [yb0 60 .add 52,xM 52 60]
def c_33_l2:Xv:=ydj [xB 73 .lss 72 71] 73 6 7 [xX 74 2 70 72,ycj 75 74,ye0 11 yaz,yes 11 75] [11] (yba [ycj 76 9,ycj 77 11,xO 78 (.eqs false true [.i,.i] (.t 76) (.t 77))] 78 [xI 2 7]) [yb0 79 .add 72,xM 72 79]
def c_33_k3:Xv:=xR [yb0 80 .add 63,xM 63 80]
def c_33_l4:Xv:=ybr [xB 64 .lss 63 62] 64 4 (yai 5 (yea [xM 65 63,xX 66 2 61 63,ycj 67 66,ye0 9 yaz,yd0 65,yes 9 67] [9] (yaa [yb6 68,ycd 69,xO 70 (.slc 2 (.t 68) none (some (.t 69)) none),xN 71 70,ya0 72] (yal 6 c_33_l2))) c_33_k3)
def c_33_l5:Xv:=ydj [xB 85 .lss 84 83] 85 8 9 [xX 86 5 82 84,xA 87 5 86,yap 13 [yaz,yaz,yaz,yaz,yat],xS 5 13 87] [13] (yba [ybf 88 13,ybf 89 88,xL 90 89,yc4 91 13,ybf 92 91,xL 93 92,xB 94 .eql 90 93] 94 [xI 2 2]) [yb0 95 .add 84,xM 84 95]
def c_33_k6:Xv:=yfa (ya0 2)
def c_33_k7:Xv:=yb5 [yez 81,xL 82 81,xN 83 82,ya0 84] 8 c_33_l5 c_33_k6
def c_33_k8:Xv:=yb5 [yb6 61,xN 62 61,ya0 63] 4 c_33_l4 c_33_k7
def c_33_k9:Xv:=ybd [xA 48 3 1,yb2 49 f_69 48,ycv 49] [yb6 50,xN 51 50,ya0 52] 2 c_33_l1 c_33_k8
def c_33:AFn:=⟨1,[.tmp 2],ye8 [yce 1,ya0 2] [ybf 14 1,xL 15 14,xN 16 15,ycq 17 .eql 16] 17 (xI 2 8) (yb9 [ybf 18 1,xL 19 18,xN 20 19,xK 21 .gtr 20 16,xM 22 21,yem 23 22 1,ycb 24 22 23,ybw 25 22 24,yb7 26 22 .gtr 25 32,xW 27 22 26,xM 28 27,ya3 29 28 2 1,ycb 30 28 29,ybw 31 28 30,yb7 32 28 .gtr 31 16,xW 33 28 32] 33 [xI 2 12] (yb5 [ybf 34 1,xL 35 34,xN 36 35,ya0 37] 0 c_33_l0 c_33_k9))⟩
def c_35_l0:Xv:=yd7 [xB 40 .lss 39 38] 40 0 1 (ydi [xM 41 39,yd1 41] [ydd 42,yc0 43,yc6 44,xL 45 44,yc0 46,yc9 47 45 46,xL 48 47,ydq 49,xL 50 49,yc0 51,yc9 52 50 51,xL 53 52,yfe 54,xL 55 54,yc0 56,xX 57 2 55 56,ycj 58 57,yaf 59 f_81 [.t 42,.t 43,.t 48,.t 53,.t 58],yd0 59] (yba [ycd 60,ycq 61 .neq 60] 61 [ycd 62,ycz 62])) [yb0 63 .add 39,xM 39 63]
def c_35_k1:Xv:=yad [ydd 64,yd9 65 3,xL 66 65,ybk 67 f_82 64 66,ycz 67]
def c_35:AFn:=⟨2,[.tmp 4],yax [yc2,yeq,ycf] (yea [ydd 9,yb2 10 f_80 9,yff 5 yaz yaz yaz,yc5 5 10] [5] (yba [ybf 11 5,xL 12 11,ycq 13 .neq 12] 13 [ybf 14 5,xL 15 14,ycz 15])) (ye8 [yet 16 2,xL 17 16,xN 18 17,ydn 18] [yc6 19,xL 20 19,xN 21 20,ycu 22,xB 23 .neq 21 22,xM 24 23,yem 25 24 3,ycb 26 24 25,ybw 27 24 26,yay 28 24 6,ycm 29 24 .neq 27 28,xW 30 24 29,xM 31 30,ya3 32 31 2 3,ycb 33 31 32,ybw 34 31 33,yay 35 31 6,ycm 36 31 .neq 34 35,xW 37 31 36] 37 (yd6 2) (yb5 [ycu 38,ya0 39] 0 c_35_l0 c_35_k1))⟩
def c_36:AFn:=⟨1,[.cell 2 true 3],yax [yce 1,yap 2 [.Xu 1 [],.Xu 5 [],.Xu 2 []]] (ybx [(2,4),(2,7),(5,7)] [⟨some 3,none,.faddr 0 (.t 1)⟩,⟨some 4,none,.load false 1 (.t 3)⟩,⟨some 5,none,.append .app 1 8 (.c (.Xu 1 [])) (.t 4)⟩,⟨some 6,none,.faddr 1 (.t 1)⟩,⟨some 7,none,.load false 1 (.t 6)⟩,⟨some 8,none,.append .row 5 40 (.c (.Xu 5 [])) (.t 7)⟩,⟨some 9,none,.faddr 2 (.t 1)⟩,⟨some 10,none,.load false 1 (.t 9)⟩,⟨some 11,none,.append .app 2 16 (.c (.Xu 2 [])) (.t 10)⟩,⟨some 12,none,.build [.Xu 1 [],.Xu 5 [],.Xu 2 []] [(0,1,(.t 5)),(1,1,(.t 8)),(2,1,(.t 11))]⟩,⟨none,none,.store 3 (.t 2) (.t 12)⟩] none) .ret⟩
def c_37_l0:Xv:=ydj [xB 9 .lss 8 7] 9 0 1 [xX 10 4 6 8,yc1 11 10,yb3 5 (.Xu 1 []) (.Xu 1 []) (.Xu 2 []) (.Xu 1 []),yc5 5 11] [5] (xR [xM 12 3,yc1 13 5,yb2 14 f_65 13,xO 15 (.bslice .row 4 (List.replicate 1 [.Xu 1 [],.Xu 1 [],.Xu 2 [],.Xu 1 []]) [(0,(.t 14))]),ycc 16 .row 4 96 12 15,xM 3 16]) [yb0 17 .add 8,yd0 17]
def c_37_k1:Xv:=yck (xM 18 3) (xM 2 18)
def c_37:AFn:=⟨1,[.tmp 2],yew [xC 2 (.Xu 4 [])] [xC 3 (.Xu 4 [])] [ybu 6,xN 7 6,ya0 8] c_37_l0 c_37_k1⟩
def c_38:AFn:=⟨3,[.cell 6 true 4,.cell 7 true 4],yax [yel,yep 4,xJ 5 2,yff 6 yat (.Xu 1 []) (.Xu 3 []),yb3 7 (.Xu 1 []) (.Xu 1 []) (.Xu 2 []) (.Xu 1 [])] (xQ [ye6 11,yc1 12 4,ycj 13 5,ydw 14 f_83 11 12 13,xM 10 14,yei 15 10,yej 16 10,yap 8 [.Xu 1 [],.Xu 1 [],.Xu 1 [],.Xu 1 [],.Xu 1 [],.Xu 3 []],xS 6 8 15,yef 16] [8]) (yae [yc7 17,ybo 18 17] (ycl 18 (ydo [(1,2)] [⟨some 19,none,.build [.bool false,.int .i64 0,.Xu 1 [],.Xu 3 []] [(0,1,(.c (.bool true)))]⟩,⟨some 20,none,.load true 4 (.t 4)⟩,⟨none,none,.store 4 (.t 6) (.t 19)⟩,⟨none,none,.store 4 (.t 7) (.t 20)⟩] none .ret)) (yca [ye6 21,yc1 22 4,ye6 23,yc1 24 4,xF 25 7 3,xL 26 25,xA 27 6 8,yfc 28 f_85 23 24 26 27,ydw 29 f_84 21 22 28,yei 30 29,yej 31 29,yfd 30,yc5 7 31] .ret))⟩
def c_40_l0:Xv:=yex [ycu 39,yb6 40,xB 41 .lss 39 40] 41 1 2 (xD [ydd 44,ycu 45,yc6 46,xL 47 46,ycu 48,yc9 49 47 48,xL 50 49,ydq 51,xL 52 51,ycu 53,yc9 54 52 53,xL 55 54,yfc 56 f_89 44 45 50 55,yd1 56]) (yb9 [yc0 57,ycq 58 .neq 57] 58 [yc0 59,ycz 59] (yca [ydd 60,ycu 61,yfe 62,xL 63 62,ycu 64,xX 65 2 63 64,ycj 66 65,ydw 67 f_90 60 61 66,yd1 67] (yba [yc0 68,ycq 69 .neq 68] 69 [yc0 70,ycz 70]))) [ycu 42,yb0 43 .add 42,ydn 43]
def c_40_k1:Xv:=yad [ydd 71,yd9 72 3,xL 73 72,ybk 74 f_91 71 73,ycz 74]
def c_40:AFn:=⟨2,[.tmp 4],ycn [yc2,yeq,ycf] [yet 8 2,xL 9 8,xN 10 9,ycv 10] (yds 0 [ydd 12,yb2 13 f_88 12,xO 14 (.fld false 0 1 (.t 13)),ycq 15 .neq 14,xM 11 15] 11 [ydd 16,yb2 17 f_88 16,xO 18 (.fld false 0 1 (.t 17)),ycz 18] (yba [yc6 20,xL 21 20,xN 22 21,yb6 23,xB 24 .neq 22 23,xM 25 24,yem 26 25 3,ycb 27 25 26,ybw 28 25 27,yay 29 25 5,ycm 30 25 .neq 28 29,xW 31 25 30,xM 32 31,ya3 33 32 2 3,ycb 34 32 33,ybw 35 32 34,yay 36 32 5,ycm 37 32 .neq 35 36,xW 38 32 37,xM 19 38] 19 [yd6 2]) (yb5 [yct] 1 c_40_l0 c_40_k1))⟩
def c_41:AFn:=⟨4,[.tmp 8],ydx (ycx 7 3) (ya0 8) (yds 0 [ybu 14,ya6 15 f_43 [.t 14],ybo 16 15,xM 13 16] 13 [xI 8 1] (yby [ybg 18,yb0 19 .lss 18,xM 20 19,yay 21 20 1,yb7 22 20 .gtr 21 3,xW 23 20 22,xM 24 23,yay 25 24 2,ybn 26 24 .lss 25 yaz,xW 27 24 26,xM 17 27] 17 [xI 8 9] (yca [ybf 29 7,xL 30 29,ycq 31 .lss 30,xM 32 31,ya3 33 32 0 7,ycb 34 32 33,yay 35 32 0,ye9 36 32 35,ya3 37 32 0 36,ya3 38 32 3 37,ycb 39 32 38,ybw 40 32 39,ycm 41 32 .geq 34 40,xW 42 32 41,xM 28 42] (yak 28 [xI 8 8]))) (ydo [(0,18),(5,18),(7,18),(9,18),(11,18),(12,18)] [⟨some 44,none,.pcall f_34 []⟩,⟨some 45,none,.mov (.t 0)⟩,⟨some 46,none,.nilchk (.t 45)⟩,⟨some 47,none,.faddr 0 (.t 46)⟩,⟨some 48,none,.faddr 3 (.t 47)⟩,⟨some 49,none,.load false 1 (.t 48)⟩,⟨some 50,none,.faddr 0 (.t 7)⟩,⟨some 51,none,.load false 1 (.t 50)⟩,⟨some 52,none,.iaddr 4 none (.t 49) (.t 51)⟩,⟨some 53,none,.load true 4 (.t 52)⟩,⟨some 54,none,.faddr 1 (.t 7)⟩,⟨some 55,none,.load false 1 (.t 54)⟩,⟨some 56,none,.pcall f_92 [.t 44,.t 53,.t 55]⟩,⟨some 43,none,.mov (.t 56)⟩,⟨some 57,none,.ext 0 (.t 43)⟩,⟨some 58,none,.ext 1 (.t 43)⟩,⟨some 59,none,.ext 2 (.t 43)⟩,⟨some 60,none,.ext 3 (.t 43)⟩,⟨some 9,none,.alloc [.Xu 1 [],.Xu 1 [],.Xu 2 [],.Xu 1 []]⟩,⟨none,none,.store 4 (.t 9) (.t 57)⟩,⟨some 10,none,.mov (.t 58)⟩,⟨some 11,none,.mov (.t 59)⟩,⟨some 12,none,.mov (.t 60)⟩] (some [9]) (yb9 [xM 61 12,ycq 62 .neq 61] 62 [xM 63 12,yd0 63] (yca [ybu 64,ybh 65 64,ybf 66 65,yd9 67 66,xL 68 67,ybf 69 7,xL 70 69,yc1 71 9,xX 72 4 68 70,yc5 72 71] (ybt [ybu 73,ybh 74 73,ybf 75 74,ybg 76,yc8 77,ya6 78 f_64 [.t 75,ydf 5,.t 76,.t 77,.c yaz]] [ya0 8])))))⟩
def c_42:AFn:=⟨3,[.tmp 6],ye8 [yct] [ybu 10,ya6 11 f_43 [.t 10],ybo 12 11] 12 (xI 6 1) (yea [ybu 14,ybh 15 14,ybf 16 15,ybf 17 16,xA 18 3 17,ybg 19,yc8 20,ydw 21 f_93 18 19 20,xM 13 21,yei 22 13,yej 23 13,yap 7 [.Xu 1 [],.Xu 5 [],.Xu 2 []],xS 3 7 22,yd0 23] [7] (yb9 [ycd 24,ycq 25 .neq 24] 25 [ycd 26,ydn 26] (yaa [ybu 27,xA 28 3 7,ybh 29 27,ybf 30 29,ybf 31 30,xS 3 31 28] (yaq [ya0 9] [yc8 32] (ycl 32 (xR [xI 9 1])) (ybt [ybu 33,ybh 34 33,ybf 35 34,ybg 36,yc7 37,ya6 38 f_64 [.t 35,ydf 6,.t 36,.t 37,.c yaz]] [yct])))))⟩
def c_43:AFn:=⟨1,[.tmp 2],ybt [ybq 2] [ybu 3,xO 4 (.eqn true (.t 3) yd5),ycv 4,ya7 6 5 0,yaj 7 5 (yaw 6),ybs 8 5 6 7,ydb 9 5 8,yaj 10 5 (.eqs true false [] (.t 9) (.c (.nilfunc))),xV 11 5 10,xM 2 11]⟩
def c_45:AFn:=⟨2,[.tmp 4],ydr [ydk 4] [ybu 5,ya6 6 f_43 [.t 5],ybo 7 6,yc0 8,yay 9 8 1,ybn 10 8 .lss 9 yaz,xW 11 8 10,xM 12 11,yay 13 12 1,yay 14 12 0,ye9 15 12 14,ya3 16 12 0 15,ya3 17 12 4 16,ycb 18 12 17,ybw 19 12 18,ycm 20 12 .geq 13 19,xW 21 12 20] 21 [ydk 4] [ybu 22,ybh 23 22,ybf 24 23,xF 25 4 24,xL 26 25,ybg 27,xX 28 9 26 27,ycz 28]⟩
def c_64:AFn:=⟨5,[.cell 10 true 4],yax [yff 10 yaz yaz yaz] (xQ [ybg 12,yc8 13,xM 14 3,xM 15 4,xO 16 (.build [.int .i64 0,.int .i64 0,.int .i64 0,.int .i64 0] [(0,1,(.t 12)),(1,1,(.t 13)),(2,1,(.t 14)),(3,1,(.t 15))]),yff 11 yaz yaz yaz,yc5 11 16] [11]) (yca [ybu 17,ybu 18,ybh 19 18,yet 20 19,xL 21 20,yc1 22 11,xO 23 (.bslice .imm 4 (List.replicate 1 [.int .i64 0,.int .i64 0,.int .i64 0,.int .i64 0]) [(0,(.t 22))]),ycr 24 4 32 21 23,ybh 25 17,yet 26 25,ydl 26 24] (yck (yc1 27 11) (yc5 10 27)))⟩
def c_65_l0:Xv:=yd7 [xB 27 .lss 26 25] 27 2 3 (yaa [xX 28 5 24 26,xA 29 5 28,yap 8 [yaz,.Xu 2 [],yaz,yaz,.Xu 1 []],xS 5 8 29] (ycn [ybl 30 8,ybf 31 30,xL 32 31,yb2 33 f_114 32,ybl 34 8,ybf 35 34,ydl 35 33] [ybl 36 8,yc4 37 36,ybl 38 37,xL 39 38,yb2 40 f_115 39,ybl 41 8,yc4 42 41,ybl 43 42,ydl 43 40] (xR [ycu 44,xA 45 5 8,xO 46 (.bslice .imm 5 (List.replicate 1 [.int .i64 0,.Xu 2 [],.int .i64 0,.int .i64 0,.Xu 1 []]) [(0,(.t 45))]),ycr 47 5 72 44 46,ydn 47]))) [yb0 48 .add 26,xM 26 48]
def c_65_k1:Xv:=xR [yc6 49,xL 50 49,ycu 51,xO 52 (.bslice .imm 1 (List.replicate 1 [.Xu 5 []]) [(0,(.t 51))]),ycr 53 1 24 50 52,yc6 54,ydl 54 53]
def c_65_k2:Xv:=xR [yb0 55 .add 20,xM 20 55]
def c_65_l3:Xv:=ybr [xB 21 .lss 20 19] 21 0 (yai 1 (yaa [yc9 22 18 20,xL 23 22,ycv 23] (ybd [ycp 6 5] [yb6 24,xN 25 24,ya0 26] 2 c_65_l0 c_65_k1)) c_65_k2)
def c_65_l4:Xv:=yd7 [xB 60 .lss 59 58] 60 4 5 (ycn [xX 61 2 57 59,ycj 62 61,yd8 10 yaz (.Xu 1 []),yes 10 62] [ybl 63 10,xL 64 63,yb2 65 f_115 64,ybl 66 10,ydl 66 65] (xR [yfe 67,xL 68 67,ycj 69 10,xO 70 (.bslice .imm 2 (List.replicate 1 [.int .i64 0,.Xu 1 []]) [(0,(.t 69))]),ycr 71 2 32 68 70,yfe 72,ydl 72 71])) [yb0 73 .add 59,xM 59 73]
def c_65_l5:Xv:=yd7 [xB 78 .lss 77 76] 78 6 7 (yaa [yc9 79 75 77,xL 80 79,xM 12 80] (xD [yd9 81 3,xL 82 81,xM 83 12,yb2 84 f_115 83,xO 85 (.bslice .imm 1 (List.replicate 1 [.Xu 1 []]) [(0,(.t 84))]),ycr 86 1 24 82 85,yd9 87 3,ydl 87 86])) [yb0 88 .add 77,xM 77 88]
def c_65_k6:Xv:=yck (yc1 89 3) (yc5 2 89)
def c_65_k7:Xv:=yb5 [yd9 74 1,xL 75 74,xN 76 75,ya0 77] 6 c_65_l5 c_65_k6
def c_65_k8:Xv:=yb5 [yc4 56 1,xL 57 56,xN 58 57,ya0 59] 4 c_65_l4 c_65_k7
def c_65:AFn:=⟨1,[.cell 2 true 4],ydx (yce 1) (yb3 2 (.Xu 1 []) (.Xu 1 []) (.Xu 2 []) (.Xu 1 [])) (ydg [yez 13,xL 14 13,yb2 15 f_113 14,xO 16 (.build [.Xu 1 [],.Xu 1 [],.Xu 2 [],.Xu 1 []] [(1,1,(.t 15))]),yb3 3 (.Xu 1 []) (.Xu 1 []) (.Xu 2 []) (.Xu 1 []),yc5 3 16] [ybf 17 1,xL 18 17,xN 19 18,ya0 20] c_65_l3 c_65_k8)⟩
def c_66:AFn:=⟨3,[],yaa [ybu 6,ybh 7 6,xF 8 4 7,⟨none,none,.store 1 (.t 8) (.c (.bool true))⟩] (xR [ybu 9,ybg 10,yc8 11,xO 12 (.build [.int .i64 0,.int .i64 0,.Xu 3 [],.Xu 2 []] [(0,1,(.t 10)),(1,1,(.t 11))]),ybh 13 9,yet 14 13,yc5 14 12])⟩
def c_67_l0:Xv:=ydj [xB 12 .lss 11 10] 12 0 1 [xM 13 11,xX 14 2 9 11,ycj 15 14,ye0 7 yaz,ydn 13,yes 7 15] [7] (yba [ycj 16 7,ycj 17 3,xO 18 (.eqs false true [.i,.i] (.t 16) (.t 17))] 18 [ycu 19,ycz 19,yeo 5]) [yb0 20 .add 11,xM 11 20]
def c_67_k1:Xv:=yck ycf (ybq 5)
def c_67:AFn:=⟨2,[.tmp 4,.tmp 5],ydg [yc2,yeq,ycf,ybq 5] [yc4 8 2,xL 9 8,xN 10 9,ya0 11] c_67_l0 c_67_k1⟩
def c_68:AFn:=⟨2,[.cell 4 true 2,.tmp 5],yaq [yc2,yeq,ye0 4 yaz,ydc] [xA 9 3 2,yb2 10 f_33 9,ydn 10] (yba [ycu 11,ycq 12 .neq 11] 12 [xO 13 (.build [.int .i64 0,.int .i64 0] []),ycu 14,yes 4 13,ycv 14]) (yaa [xA 16 3 2,ycj 17 3,ybk 18 f_116 16 17,xM 15 18,yei 19 15,yej 20 15,yd1 19,yd0 20] (yds 0 [yc0 22,yb0 23 .neq 22,xM 21 23] 21 [xO 24 (.build [.int .i64 0,.int .i64 0] []),yes 4 24,xI 5 8] (yby [yer 26,xL 27 26,ycd 28,xX 29 5 27 28,xF 30 4 29,xL 31 30,xM 25 31] 25 [xO 32 (.build [.int .i64 0,.int .i64 0] []),yes 4 32,xI 5 20] (yca [yer 34,xL 35 34,ycd 36,xX 37 5 35 36,ybf 38 37,ycj 39 38,ycj 40 3,xO 41 (.eqs false true [.i,.i] (.t 39) (.t 40)),xM 33 41] (yak 33 [yer 42,xL 43 42,ycd 44,xX 45 5 43 44,yc4 46 45,ycj 47 46,yes 4 47,ydc]))) (yad [yer 48,xL 49 48,ycd 50,xX 51 5 49 50,ybf 52 51,ycj 53 52,yes 4 53,ydc])))⟩
def c_69_l0:Xv:=ydj [xB 10 .lss 9 8] 10 0 1 [xX 11 5 7 9,xA 12 5 11,yap 5 [yaz,yaz,yaz,yaz,yat],xS 5 5 12] [5] (xR [xM 13 3,ybf 14 5,ycj 15 14,yc4 16 5,ycj 17 16,xO 18 (.bslice .imm 2 (List.replicate 2 [.int .i64 0,.int .i64 0]) [(0,(.t 15)),(1,(.t 17))]),ycr 19 2 16 13 18,xM 3 19]) [yb0 20 .add 9,yef 20]
def c_69_k1:Xv:=yad [xM 21 3,yc4 22 1,xL 23 22,ycr 24 2 16 21 23,xM 2 24]
def c_69:AFn:=⟨1,[.tmp 2],ydx (yce 1) (xC 2 (.Xu 2 [])) (ydg [ycp 3 2] [yez 6,xL 7 6,xN 8 7,ya0 9] c_69_l0 c_69_k1)⟩
def c_70:AFn:=⟨2,[.tmp 4],ydi [yc2,yeq,yeh] [yc6 5,xL 6 5,ycq 7 .geq 6,yc0 8,ybs 9 8 0 3,ydb 10 8 9,ybs 11 8 0 2,ydb 12 8 11,yeg 13 8 12,yd2 14 8 .lss 10 13,xV 15 8 14,xM 16 15,ybs 17 16 1 3,ydb 18 16 17,ycs 19 16 .geq 18 yaz,xV 20 16 19,xM 21 20,ybs 22 21 1 3,ydb 23 21 22,ybs 24 21 0 2,ydb 25 21 24,ybs 26 21 0 3,ydb 27 21 26,yeu 28 21 1 25 27,ydb 29 21 28,yd2 30 21 .lss 23 29,xV 31 21 30,ycz 31] .ret⟩
def c_80:ADFn:=⟨1,[.cell 2 true 4],.seq (xR [xO 1 (.box (.t 0)),xO 2 (.alloc [.int .i64 0,.int .i64 0,.int .i64 0,.int .i64 0])]) (.dfr [⟨some 3,none,.mkfunc (.func f_121) [] [.t 2]⟩] 3 (.seq (xR [xA 4 9 1,xO 5 (.pcall f_122 [.t 4])]) (.seq (xR [xA 6 9 1,xO 7 (.pcall f_123 [.t 6])]) (.seq (xR [xA 8 9 1,xO 9 (.pcall f_124 [.t 8])]) (.seq (xR [xA 10 9 1,xO 11 (.pcall f_125 [.t 10])]) (.seq (xR [xA 12 9 1,xO 13 (.pcall f_126 [.t 12])]) (.seq (xR [xO 14 (.build [.int .i64 0,.int .i64 0,.int .i64 0,.int .i64 0] []),xS 4 2 14]) (.ret)))))))),f_121,1,(some (4,1)),.seq (.seq (xR [xM 5 1,xO 6 (.eqs false false [] (.t 5) (.c (.niliface)))]) (.cond (.t 6) (.ret) (.skip))) (.seq (.seq (xR [xM 8 1,xO 9 (.tassert 249 true (.agg [.int .i64 0,.int .i64 0,.int .i64 0,.int .i64 0]) (.t 8)),xM 7 9,xE 10 0 7,xE 11 1 7,xO 2 (.alloc [.int .i64 0,.int .i64 0,.int .i64 0,.int .i64 0]),xS 4 2 10,xM 3 11]) (.seq (xR [xM 12 3]) (.cond (.t 12) (.seq (xR [xF 13 0 2,xA 14 4 13,xS 4 0 14]) (.ret)) (.skip)))) (xR [xM 15 1,⟨none,none,.panic (.t 15)⟩]))⟩
def c_81_l0:Xv:=ydj [xB 29 .lss 28 27] 29 0 1 [xX 30 5 26 28,xA 31 5 30,yap 13 [yaz,.Xu 2 [],yaz,yaz,.Xu 1 []],xS 5 13 31] [13] (yb9 [ybf 32 13,xL 33 32,xM 34 11,xB 35 .leq 33 34] 35 [xI 10 14] (yfb (ybf 36 13) (xL 37 36) (xM 11 37))) [yb0 38 .add 28,xM 28 38]
def c_81_l1:Xv:=ydj [xB 53 .lss 52 51] 53 2 3 [xM 54 52,xX 55 5 50 52,xA 56 5 55,yap 15 [yaz,.Xu 2 [],yaz,yaz,.Xu 1 []],xM 14 54,xS 5 15 56] [15] (yae [ych 57 5,ybg 58,ybl 59 15,yc1 60 59,ydw 61 f_127 57 58 60,xM 16 61] (yba [xM 62 16,ycq 63 .neq 62] 63 [xM 64 16,xM 10 64]) (yba [yc8 65,xM 66 14,xO 67 (.slc 5 (.t 65) none (some (.t 66)) none),xO 68 (.mkfunc (.func f_129) [] [.t 15]),ybk 69 f_128 67 68] 69 [xI 10 7])) [yb0 70 .add 52,xM 52 70]
def c_81_k2:Xv:=yad [ych 71 5,ybg 72,ycj 73 9,ydw 74 f_131 71 72 73,xM 10 74]
def c_81_k3:Xv:=yb9 [xM 39 3,xM 40 11,xB 41 .leq 39 40,xM 42 41,yay 43 42 3,yb7 44 42 .lss 43 1,xW 45 42 44,xM 46 45,yay 47 46 3,yb7 48 46 .gtr 47 1073741824,xW 49 46 48] 49 [xI 10 14] (yb5 [yc8 50,xN 51 50,ya0 52] 2 c_81_l1 c_81_k2)
def c_81:AFn:=⟨5,[.tmp 10],ye8 [yce 5,xJ 9 4,ya0 10] [yc8 17,xN 18 17,yet 19 5,xL 20 19,ybg 21,xX 22 6 20 21,yet 23 22,xL 24 23,xB 25 .gtr 18 24] 25 (xI 10 12) (ydg [ya0 11] [yc8 26,xN 27 26,ya0 28] c_81_l0 c_81_k3)⟩
def c_82_l0:Xv:=yd7 [xB 18 .lss 17 16] 18 0 1 (yaa [xM 19 17,yc9 20 15 17,xL 21 20,ycv 19,ydn 21] (yba [ycu 22,xN 23 22,yd9 24 2,xL 25 24,yb6 26,xX 27 3 25 26,yc4 28 27,xL 29 28,xB 30 .neq 23 29] 30 [yd6 2])) [yb0 31 .add 17,xM 17 31]
def c_82_l1:Xv:=yd7 [xB 35 .lss 34 33] 35 2 3 (ydi [xM 36 34,yc9 37 32 34,xL 38 37,yd1 36,yd0 38] [ycd 39,xN 40 39,ycq 41 .gtr 40,xM 42 41,ya7 43 42 8,ydm 44 42 f_132 [.t 43],ybs 45 42 3 2,ydb 46 42 45,ya7 47 42 7,yeu 48 42 3 46 47,ybs 49 42 1 48,ydb 50 42 49,ydm 51 42 f_133 [.t 50],yd2 52 42 .gtr 44 51,xV 53 42 52] (yak 53 [yd6 9])) [yb0 54 .add 34,xM 34 54]
def c_82_k2:Xv:=yfa ycf
def c_82_k3:Xv:=yb5 [ybg 32,xN 33 32,ya0 34] 2 c_82_l1 c_82_k2
def c_82:AFn:=⟨2,[.tmp 4],ye8 [yc2,ycf] [ybg 9,xN 10 9,yd9 11 2,xL 12 11,xN 13 12,xB 14 .neq 10 13] 14 (yd6 2) (yb5 [ybg 15,xN 16 15,ya0 17] 0 c_82_l0 c_82_k3)⟩
def c_83:AFn:=⟨3,[.cell 6 true 6,.tmp 7],ya5 [yel,yep 4,xJ 5 2,yap 6 [.Xu 1 [],.Xu 1 [],.Xu 1 [],.Xu 1 [],.Xu 1 [],.Xu 3 []],ybq 7] [ye6 10,yb2 11 f_88 10,xO 12 (.fld false 0 1 (.t 11)),ycq 13 .neq 12,xM 14 13,ydh 15 14 9 3,ydh 16 14 4 4,yde 17 14 f_40 [.t 15,.t 16],ybn 18 14 .neq 17 yaz,xW 19 14 18,xM 20 19,ya3 21 20 0 5,ycb 22 20 21,ybn 23 20 .lss 22 yaz,xW 24 20 23,xM 25 24,ya3 26 25 0 5,ycb 27 25 26,yb7 28 25 .gtr 27 255,xW 29 25 28] 29 [xO 30 (.build [.Xu 1 [],.Xu 1 [],.Xu 1 [],.Xu 1 [],.Xu 1 [],.Xu 3 []] []),xS 6 6 30,ybq 7] (yea [ye6 32,ybl 33 5,xL 34 33,ybk 35 f_134 32 34,xM 31 35,yei 36 31,yej 37 31,yb3 8 (.Xu 1 []) (.Xu 1 []) (.Xu 1 []) (.Xu 1 []),yc5 8 36,yef 37] [8] (yb9 [yc7 38,ycq 39 .neq 38] 39 [xO 40 (.build [.Xu 1 [],.Xu 1 [],.Xu 1 [],.Xu 1 [],.Xu 1 [],.Xu 3 []] []),xS 6 6 40,ybq 7] (yca [ye6 41,yc1 42 8,xO 43 (.build [.int .i64 0,.int .i64 0] [(0,1,(.c (.int .i64 (-1)))),(1,1,(.c (.int .i64 0)))]),ybf 44 5,xL 45 44,xO 46 (yd3 .u32 45),yfc 47 f_135 41 42 43 46,yd9 48 4,xL 49 48,xO 50 (.build [.Xu 1 [],.Xu 1 [],.Xu 1 [],.Xu 1 [],.Xu 1 [],.Xu 3 []] [(0,4,(.t 47)),(4,1,(.t 49))]),xS 6 6 50,yeo 7] .ret)))⟩
def c_84:AFn:=⟨3,[.cell 6 true 4,.cell 7 true 4],ycn [yel,ycx 4 1,xJ 5 2,yff 6 yat (.Xu 1 []) (.Xu 3 []),yb3 7 (.Xu 1 []) (.Xu 1 []) (.Xu 2 []) (.Xu 1 [])] [xF 9 4 5,xL 10 9,yd9 11 4,ydl 11 10] (yaq [ye6 12,ybf 13 5,yc1 14 13,ybk 15 f_136 12 14,yd0 15] [ybf 16 5,yc4 17 16,xL 18 17,xO 19 (ycy 1 18 (ydf 2)),xL 20 19,yee 21 .eql 20 (ybz 1),xM 22 21,yay 23 22 8,ybw 24 22 23,yb7 25 22 .gtr 24 512,xW 26 22 25] (ycl 26 (ydo [(3,4)] [⟨some 27,none,.faddr 5 (.t 5)⟩,⟨some 28,none,.load false 1 (.t 27)⟩,⟨some 29,none,.build [.bool false,.int .i64 0,.Xu 1 [],.Xu 3 []] [(0,1,(.c (.bool true))),(3,1,(.t 28))]⟩,⟨some 30,none,.load true 4 (.t 4)⟩,⟨none,none,.store 4 (.t 6) (.t 29)⟩,⟨none,none,.store 4 (.t 7) (.t 30)⟩] none .ret)) (ydo [(10,11)] [⟨some 31,none,.faddr 0 (.t 5)⟩,⟨some 32,none,.faddr 2 (.t 31)⟩,⟨some 33,none,.load false 1 (.t 32)⟩,⟨some 34,none,.iaddr 1 none (.t 33) (.c (.int .i64 1))⟩,⟨some 35,none,.load false 1 (.t 34)⟩,⟨some 36,none,.conv .i64 (.t 35)⟩,⟨some 37,none,.mov (.t 8)⟩,⟨some 38,none,.faddr 5 (.t 5)⟩,⟨some 39,none,.load false 1 (.t 38)⟩,⟨some 40,none,.build [.bool false,.int .i64 0,.Xu 1 [],.Xu 3 []] [(1,1,(.t 36)),(2,1,(.t 37)),(3,1,(.t 39))]⟩,⟨some 41,none,.load true 4 (.t 4)⟩,⟨none,none,.store 4 (.t 6) (.t 40)⟩,⟨none,none,.store 4 (.t 7) (.t 41)⟩] none .ret))⟩
def c_85_l0:Xv:=ydz [yc7 11,yc8 12,xN 13 12,xB 14 .lss 11 13] 14 0 1 (yaq [ybq 10] [yc8 17,yc7 18,xX 19 5 17 18,ybf 20 19,xL 21 20,xK 22 .eql 21 2] (yab 22 (xD [yc8 23,yc7 24,xX 25 5 23 24,yc4 26 25,xL 27 26,ych 28 4,xO 29 (.build [.str [],.Xu 2 [],.Xu 2 [],.Xu 3 [],.Xu 3 [],.Xu 6 [],.Xu 7 [],.Xu 5 [],.Xu 1 [],.Xu 2 []] [(0,9,(.t 28))]),ybf 30 7,yc1 31 30,ye4 32 f_137 27 29 31 (.c (.Xu 1 [])),yee 33 .eql 32 (ybz 1),xM 10 33]) (xD [ych 35 4,yc1 36 5,yc8 37,yc7 38,xX 39 5 37 38,ybl 40 39,xL 41 40,xA 42 6 7,yfc 43 f_138 35 36 41 42,xM 34 43,yei 44 34,yej 45 34,xS 6 7 44,xM 10 45])) (yaa [xM 46 10] (yab 46 (xD [ych 47 4,yc1 48 5,yc8 49,yc7 50,xX 51 5 49 50,yd9 52 51,xL 53 52,xA 54 6 7,yfc 55 f_85 47 48 53 54,xS 6 7 55]) (xD [ych 56 4,yc1 57 5,yc8 58,yc7 59,xX 60 5 58 59,xF 61 4 60,xL 62 61,xA 63 6 7,yfc 64 f_85 56 57 62 63,xS 6 7 64])))) (yc7 15) 16 .add 15 (yef 16)
def c_85_k1:Xv:=yck (xA 65 6 7) (xS 6 8 65)
def c_85:AFn:=⟨4,[.cell 8 true 6],ydg [yce 4,yep 5,ycx 7 3,yap 8 [.Xu 1 [],.Xu 1 [],.Xu 1 [],.Xu 1 [],.Xu 1 [],.Xu 3 []]] [ya0 9] c_85_l0 c_85_k1⟩
def c_89_l0:Xv:=ydz [xM 22 10,yc8 23,xN 24 23,xB 25 .lss 22 24] 25 0 1 (yb9 [yc8 28,xM 29 10,xX 30 5 28 29,ybf 31 30,xL 32 31,yc7 33,xB 34 .leq 32 33] 34 [xI 8 14] (xR [yc8 35,xM 36 10,xX 37 5 35 36,ybf 38 37,xL 39 38,yef 39])) (xM 26 10) 27 .add 26 (xM 10 27)
def c_89_l1:Xv:=yex [xM 47 11,yc8 48,xN 49 48,xB 50 .lss 47 49] 50 2 3 (xD [ych 53 4,ybg 54,yc8 55,xM 56 11,xX 57 5 55 56,ybl 58 57,yc1 59 58,ydw 60 f_146 53 54 59,xM 12 60]) (.block 4 (yby [xM 62 12,ycq 63 .neq 62,xM 61 63] 61 [xM 64 12,yd0 64] (yca [yc8 66,xM 67 11,xO 68 (.slc 5 (.t 66) none (some (.t 67)) none),yc8 69,xM 70 11,xX 71 5 69 70,ybl 72 71,yc1 73 72,ybk 74 f_147 68 73,xM 65 74] (yak 65 [xI 8 7])))) [xM 51 11,yb0 52 .add 51,xM 11 52]
def c_89_k2:Xv:=yfa (ya0 8)
def c_89_k3:Xv:=yb9 [xM 40 3,yc7 41,xB 42 .leq 40 41,xM 43 42,yay 44 43 3,yb7 45 43 .gtr 44 1073741824,xW 46 43 45] 46 [xI 8 14] (yb5 [ya0 11] 2 c_89_l1 c_89_k2)
def c_89:AFn:=⟨4,[.tmp 8],ye8 [yce 4,ya0 8] [yc8 13,xN 14 13,yet 15 4,xL 16 15,ybg 17,xX 18 6 16 17,yet 19 18,xL 20 19,xB 21 .gtr 14 20] 21 (xI 8 12) (ydg [ya0 9] [ya0 10] c_89_l0 c_89_k3)⟩
def c_90:AFn:=⟨3,[.tmp 6],ydr [yel,xJ 5 2,yct] [ye6 7,ybg 8,ybf 9 5,xL 10 9,ydw 11 f_148 7 8 10,ybo 12 11] 12 [xI 6 8] [ye6 13,ycj 14 5,ybk 15 f_149 13 14,ydn 15]⟩
def c_91_l0:Xv:=yex [yb6 14,ybg 15,xN 16 15,xB 17 .lss 14 16] 17 0 1 (xD [ybg 20,yb6 21,yc9 22 20 21,xL 23 22,xN 24 23,yd9 25 2,xL 26 25,yb6 27,xX 28 3 26 27,yc4 29 28,xL 30 29,xB 31 .neq 24 30]) (yak 31 [yd6 2]) [yb6 18,yb0 19 .add 18,ycv 19]
def c_91_l1:Xv:=yex [yc0 38,ybg 39,ycu 40,yc9 41 39 40,xL 42 41,xN 43 42,xB 44 .lss 38 43] 44 4 5 (xD [ybg 47,ycu 48,yc9 49 47 48,xL 50 49,yc0 51,yc9 52 50 51,xL 53 52,yd9 54 2,xL 55 54,ycu 56,xX 57 3 55 56,xA 58 3 57,yb2 59 f_151 58,ybk 60 f_150 53 59,ybo 61 60]) (yak 61 [yd6 9]) [yc0 45,yb0 46 .add 45,yd1 46]
def c_91_k2:Xv:=yfb (ycu 36) (yb0 37 .add 36) (ydn 37)
def c_91_l3:Xv:=ybb [ycu 32,ybg 33,xN 34 33,xB 35 .lss 32 34] 35 2 (yai 3 (yaa [yed] (yal 4 c_91_l1)) c_91_k2)
def c_91_k4:Xv:=yfa ycf
def c_91_k5:Xv:=yb5 [yct] 2 c_91_l3 c_91_k4
def c_91:AFn:=⟨2,[.tmp 4],ye8 [yc2,ycf] [ybg 8,xN 9 8,yd9 10 2,xL 11 10,xN 12 11,xB 13 .neq 9 12] 13 (yd6 2) (yb5 [ydc] 0 c_91_l0 c_91_k5)⟩
def c_92:AFn:=⟨3,[.cell 6 true 4,.tmp 7,.tmp 8,.tmp 9],yaa [yel,yep 4,yb3 6 (.Xu 1 []) (.Xu 1 []) (.Xu 2 []) (.Xu 1 []),xC 7 (.Xu 1 []),ya0 8,ya0 9] (ya5 [ye6 12,yc1 13 4,ya6 14 f_152 [.t 12,.t 13],xM 11 14,yei 15 11,yej 16 11,xM 10 15,yef 16] [yc7 17,ycq 18 .neq 17] 18 [xO 19 (.build [.Xu 1 [],.Xu 1 [],.Xu 2 [],.Xu 1 []] []),yc7 20,yfd 19,xC 7 (.Xu 1 []),xI 8 (-1),yef 20] (ydr [xM 22 10,yc8 23,ya6 24 f_153 [.t 22,.t 23],xM 21 24,yei 25 21,yej 26 21,xE 27 2 21,yd1 25,yd0 26,yef 27] [yc7 28,ycq 29 .neq 28] 29 [xO 30 (.build [.Xu 1 [],.Xu 1 [],.Xu 2 [],.Xu 1 []] []),ycd 31,yc7 32,yfd 30,xC 7 (.Xu 1 []),yd0 31,yef 32] [xM 33 10,ya6 34 f_154 [.t 33],yc0 35,yfd 34,yd1 35,ya0 8,ya0 9]))⟩
def c_93:AFn:=⟨3,[.cell 6 true 3,.tmp 7],ya5 [yel,yap 6 [.Xu 1 [],.Xu 5 [],.Xu 2 []],yed] [ybg 9,ycq 10 .lss 9,xM 11 10,yay 12 11 1,yem 13 11 3,ycb 14 11 13,ybw 15 11 14,ycm 16 11 .geq 12 15,xW 17 11 16] 17 [xO 18 (.build [.Xu 1 [],.Xu 5 [],.Xu 2 []] []),xS 3 6 18,xI 7 8] (yea [xA 19 3 3,ya6 20 f_36 [.t 19],yap 8 [.Xu 1 [],.Xu 5 [],.Xu 2 []],xS 3 8 20] [8] (ybt [ybl 21 8,xL 22 21,ybg 23,yc8 24,xX 25 5 22 23,xF 26 4 25,ydl 26 24] [xA 27 3 8,xS 3 6 27,yed]))⟩
def c_116:AFn:=⟨2,[.tmp 4,.tmp 5],yaq [yc2,yeq,ycf,ydc] [xA 11 3 2,ycj 12 3,ybk 13 f_160 11 12,xM 10 13,yei 14 10,yej 15 10,ydn 14,yd1 15] (yba [yc0 16] 16 [ycu 17,yd6 1,ycv 17]) (yae [xA 19 3 2,ycj 20 3,ybk 21 f_67 19 20,xM 18 21,yei 22 18,yej 23 18,yd0 22,yef 23] (yba [yc7 24] 24 [ycd 25,yd6 2,ycv 25]) (yck ycf ydc))⟩
def c_127_l0:Xv:=ydj [xB 42 .lss 41 40] 42 0 1 [xM 43 41,xX 44 2 39 41,ycj 45 44,yd8 12 (ybz 0) (ybz 0),xM 11 43,yes 12 45] [12] (yca [ycj 46 12,yc7 47,xM 48 11,xX 49 3 47 48,yc4 50 49,xL 51 50,xM 52 10,xM 53 11,yc9 54 52 53,xL 55 54,ydw 56 f_184 46 51 55,xM 13 56] (yba [xM 57 13,ycq 58 .neq 57] 58 [xM 59 13,ydn 59])) [yb0 60 .add 41,xM 41 60]
def c_127_k1:Xv:=yds 2 [ybl 62 5,xL 63 62,ycq 64 .lss 63,xM 65 64,yem 66 65 5,ycb 67 65 66,yb7 68 65 .gtr 67 255,xW 69 65 68,xM 61 69] 61 [xI 6 9] (yby [ybl 71 5,xL 72 71,ycq 73 .neq 72,xM 74 73,yaj 75 74 (ycw 9 3),ya7 76 74 1,ydm 77 74 f_185 [.t 75,.t 76],ycs 78 74 .neq 77 (yag 3),xV 79 74 78,xM 70 79] 70 [xI 6 11] (yba [ye6 81,ybg 82,yc4 83 5,ybf 84 83,xL 85 84,ydw 86 f_186 81 82 85,ybo 87 86,xM 80 87] 80 [xI 6 8])) (yad [ye6 88,yc4 89 5,ycj 90 89,ybk 91 f_187 88 90,ydn 91])
def c_127:AFn:=⟨3,[.tmp 6],yaq [yel,xJ 5 2,yct] [ye6 15,ybg 16,ybk 17 f_179 15 16,xM 14 17,yei 18 14,yej 19 14,yd1 18,yd0 19] (yba [ycd 20,ycq 21 .neq 20] 21 [ycd 22,ydn 22]) (yca [yet 23 3,xL 24 23,ybg 25,xX 26 6 24 25,ybl 27 26,xL 28 27,ye6 29,ybg 30,ybk 31 f_183 29 30,yef 28,xM 10 31] (yb9 [ybf 32 5,xL 33 32,xN 34 33,yc7 35,xN 36 35,xB 37 .neq 34 36] 37 [xI 6 2] (yb5 [ybf 38 5,xL 39 38,xN 40 39,ya0 41] 0 c_127_l0 c_127_k1)))⟩
def c_128:AFn:=⟨2,[.tmp 4],ybt [yeh] [ybu 5,ybg 6,ybk 7 f_188 5 6,ycq 8 .geq 7,ycd 4]⟩
def c_129:AFn:=⟨2,[.tmp 3],ybt [yc2,ybq 3] [yer 4,yc1 5 4,yez 6,yc1 7 6,ybk 8 f_130 5 7,ycd 3]⟩
def c_130_l0:Xv:=yd7 [xB 25 .lss 24 23] 25 0 1 (ydi [xM 26 24,xX 27 2 22 24,ycj 28 27,yd8 6 (ybz 0) (ybz 0),ycv 26,yes 6 28] [ycj 29 6,yc6 30,xL 31 30,yb6 32,xX 33 2 31 32,ycj 34 33,xO 35 (.eqs true true [.i,.i] (.t 29) (.t 34))] (yak 35 [yeh])) [yb0 36 .add 24,xM 24 36]
def c_130_k1:Xv:=yfa (yeo 4)
def c_130:AFn:=⟨2,[.tmp 4],ye8 [ycx 2 0,ycx 3 1,yeh] [yer 7,xL 8 7,ydq 9,xL 10 9,xB 11 .neq 8 10,xM 12 11,ya3 13 12 0 2,ycb 14 12 13,ybw 15 12 14,ya3 16 12 0 3,ycb 17 12 16,ybw 18 12 17,ycm 19 12 .neq 15 18,xW 20 12 19] 20 yeh (yb5 [ybf 21 2,xL 22 21,xN 23 22,ya0 24] 0 c_130_l0 c_130_k1)⟩
def c_131:AFn:=⟨3,[.tmp 6],ydr [yel,xJ 5 2,yct] [ye6 7,ybg 8,ybf 9 5,xL 10 9,ydw 11 f_186 7 8 10,ybo 12 11] 12 [xI 6 8] [ye6 13,ycj 14 5,ybk 15 f_187 13 14,ydn 15]⟩
def c_132_l0:Xv:=ydz [xM 12 4,ybu 13,xN 14 13,xB 15 .lss 12 14] 15 0 1 (xR [xM 18 3,ybu 19,xM 20 4,yc9 21 19 20,xL 22 21,xO 23 (.minmax true [.t 18,.t 22]),xM 3 23]) (xM 16 4) 17 .add 16 (ycz 17)
def c_132_k1:Xv:=yck (xM 24 3) (xM 2 24)
def c_132:AFn:=⟨1,[.tmp 2],yaq [ydp 2 0] [ybu 5,xN 6 5,yb0 7 .lss 6] (ycl 7 (xR [xO 8 (.mkiface 9 (.c (.str [115,108,105,99,101,115,46,77,97,120,58,32,101,109,112,116,121,32,108,105,115,116]))),⟨none,none,.panic (.t 8)⟩])) (ydg [ybu 9,xO 10 (ycy 1 9 (.c yaz)),xL 11 10,xM 3 11] [yd6 1] c_132_l0 c_132_k1)⟩
def c_133:AFn:=⟨1,[.tmp 2],ydr [ydp 2 0] [ybu 3,xO 4 (.bslice .imm 1 (List.replicate 1 [.int .i64 0]) [(0,(.t 3))]),yb2 5 f_189 4,ybo 6 5] 6 [ydp 2 0] [ybu 7,xO 8 (.bin .sub (ydf 32) (.t 7)),xO 9 (.bin .shr (.c (ybz 4294967295)) (.t 8)),yc7 2]⟩
def c_134:AFn:=⟨2,[.cell 4 true 4,.tmp 5],yax [yc2,yb3 4 (.Xu 1 []) (.Xu 1 []) (.Xu 1 []) (.Xu 1 []),ydc] (xQ [ydd 10,ybg 11,ybk 12 f_190 10 11,yef 12,yei 13 9,yej 14 9,xE 15 2 9,yb3 6 (.Xu 1 []) (.Xu 1 []) (.Xu 1 []) (.Xu 1 []),yfd 13,yd1 14,yd0 15] [6]) (yad [yc1 16 6,ycd 17,yc5 4 16,ycv 17])⟩
def c_135:AFn:=⟨4,[.cell 8 true 4],yax [yce 4,yep 5,xJ 6 2,yb3 8 (.Xu 1 []) (.Xu 1 []) (.Xu 1 []) (.Xu 1 [])] (xQ [yc1 11 5,ya6 12 f_191 [.t 11],yb3 9 (.Xu 1 []) (.Xu 1 []) (.Xu 1 []) (.Xu 1 []),yc5 9 12] [9]) (ya5 [ych 13 4,ycj 14 6,ybk 15 f_192 13 14,xM 10 15] [xM 16 10,ycq 17 .eql 16,xM 18 17,ydh 19 18 4 5,ydh 20 18 2 6,yde 21 18 f_193 [.t 19,.t 20],yev 22 18 21,xW 23 18 22,xM 24 23,ya3 25 24 0 6,ycb 26 24 25,yb7 27 24 .neq 26 (-1),yay 28 24 27,yaj 29 28 (ycw 4 5),ybs 30 28 0 6,ydb 31 28 30,ydm 32 28 f_194 [.t 29,.t 31],yaj 33 28 (ya9 32),yac 34 24 (yek 28 (.t 33) (.c yat)),xW 35 24 34] 35 [yc1 36 9,yc5 8 36] (yae [ybf 37 6,xL 38 37,xK 39 .eql 38 (-1)] (yab 39 (xD [yc4 40 9,xL 41 40,ybl 42 6,xL 43 42,xM 44 3,xM 45 10,ybk 46 f_195 44 45,yc9 47 41 43,ydl 47 46]) (xD [ybl 48 9,xL 49 48,ybf 50 6,xL 51 50,yc9 52 49 51,xL 53 52,ybl 54 6,xL 55 54,xM 56 3,xM 57 10,ybk 58 f_195 56 57,yc9 59 53 55,ydl 59 58])) (yck (yc1 60 9) (yc5 8 60))))⟩
def c_136_l0:Xv:=ydz [yc0 29,yer 30,xL 31 30,xN 32 31,xB 33 .lss 29 32] 33 0 1 (yba [yer 36,xL 37 36,yc0 38,xX 39 2 37 38,ycj 40 39,yb2 41 f_198 40,ycq 42 .neq 41] 42 [xC 4 (.Xu 1 [])]) (yc0 34) 35 .add 34 (yd1 35)
def c_136_l1:Xv:=ydz [yc7 44,xF 45 8 2,xL 46 45,xN 47 46,xB 48 .lss 44 47] 48 2 3 (ycn [xF 51 8 2,xL 52 51,yc7 53,yc9 54 52 53,xL 55 54,xM 10 55] [yc6 56,xL 57 56,xM 58 10,yc9 59 57 58,xL 60 59] (ycl 60 (ydo [(1,15),(4,15),(6,15),(9,15),(10,15),(11,15)] [⟨some 62,none,.faddr 1 (.t 2)⟩,⟨some 63,none,.load false 1 (.t 62)⟩,⟨some 64,none,.mov (.t 10)⟩,⟨some 65,none,.iaddr 2 none (.t 63) (.t 64)⟩,⟨some 66,none,.load true 2 (.t 65)⟩,⟨some 67,none,.faddr 1 (.t 3)⟩,⟨some 68,none,.load false 1 (.t 67)⟩,⟨some 69,none,.mov (.t 10)⟩,⟨some 70,none,.iaddr 1 none (.t 68) (.t 69)⟩,⟨some 71,none,.load false 1 (.t 70)⟩,⟨some 72,none,.load true 1 (.t 8)⟩,⟨some 73,none,.pcall f_200 [.t 66,.t 71,.t 72]⟩,⟨some 61,none,.mov (.t 73)⟩,⟨some 74,none,.ext 0 (.t 61)⟩,⟨some 75,none,.ext 1 (.t 61)⟩,⟨some 11,none,.alloc [.Xu 1 []]⟩,⟨none,none,.store 1 (.t 11) (.t 74)⟩,⟨some 12,none,.mov (.t 75)⟩] (some [11]) (xR [xA 76 1 11,ydl 8 76])))) (yc7 49) 50 .add 49 (yef 50)
def c_136_k2:Xv:=yaa [xA 78 1 8,yb2 79 f_201 78,xM 77 79,yei 80 77,yej 81 77,xM 13 80,xM 14 81] (ycn [ycp 15 1] [xM 82 15,xM 83 13,ycr 84 1 1 82 83,xM 15 84] (ybt [xM 85 15,yd9 86 3,xL 87 86,ycr 88 1 1 85 87,xM 15 88] [xM 89 15,ycz 89]))
def c_136_k3:Xv:=ybd [yaf 43 f_199 [],yap 8 [.Xu 1 []],ydl 8 43] [ya0 9] 2 c_136_l1 c_136_k2
def c_136:AFn:=⟨2,[.tmp 4],yaa [yc2,yeq,xC 4 (.Xu 1 [])] (ye8 [ydd 17,yb2 18 f_196 17,xM 16 18,yei 19 16,yej 20 16,ycv 19,ydn 20] [ycu 21,ycq 22 .neq 21,xM 23 22,ydh 24 23 9 2,ydh 25 23 4 3,yde 26 23 f_197 [.t 24,.t 25],ybn 27 23 .neq 26 yaz,xW 28 23 27] 28 (xC 4 (.Xu 1 [])) (yb5 [yed] 0 c_136_l0 c_136_k3))⟩
def c_138:AFn:=⟨4,[.cell 8 true 6,.tmp 9],yax [yce 4,yep 5,xJ 7 3,yap 8 [.Xu 1 [],.Xu 1 [],.Xu 1 [],.Xu 1 [],.Xu 1 [],.Xu 3 []],ybq 9] (xQ [ych 16 4,yc1 17 5,yc8 18,ybf 19 7,yc1 20 19,yfc 21 f_204 16 17 18 20,xM 15 21,yei 22 15,yej 23 15,yap 10 [yaz,.Xu 2 [],yaz,yaz,.Xu 1 []],yd8 11 yaz (.Xu 1 []),xS 5 10 22,yes 11 23] [10,11]) (yea [ych 25 4,ycj 26 11,ybf 27 7,yc1 28 27,xF 29 4 7,xL 30 29,yfc 31 f_205 25 26 28 30,xM 24 31,yei 32 24,yej 33 24,yb3 12 (.Xu 1 []) (.Xu 1 []) (.Xu 1 []) (.Xu 1 []),yc5 12 32,xM 13 33] [12] (ycn [ycp 14 3] [xM 34 14,yet 35 7,xL 36 35,ycr 37 3 24 34 36,xM 14 37] (yax [xM 38 14,yc8 39,ybf 40 10,xL 41 40,ybf 42 11,xL 43 42,xO 44 (.build [.int .i64 0,.int .i64 0,.int .i64 0] [(0,1,(.t 39)),(1,1,(.t 41)),(2,1,(.t 43))]),xO 45 (.bslice .imm 3 (List.replicate 1 [.int .i64 0,.int .i64 0,.int .i64 0]) [(0,(.t 44))]),ycr 46 3 24 38 45,xM 14 46] (ybx [(5,7)] [⟨some 47,none,.load true 4 (.t 12)⟩,⟨some 48,none,.mov (.t 13)⟩,⟨some 49,none,.mov (.t 14)⟩,⟨some 50,none,.build [.Xu 1 [],.Xu 1 [],.Xu 1 [],.Xu 1 [],.Xu 1 [],.Xu 3 []] [(0,4,(.t 47)),(4,1,(.t 48)),(5,1,(.t 49))]⟩,⟨some 51,none,.faddr 0 (.t 10)⟩,⟨some 52,none,.load false 1 (.t 51)⟩,⟨some 53,none,.bin .gtr (.t 52) (.c (.int .i64 0))⟩,⟨none,none,.store 6 (.t 8) (.t 50)⟩,⟨some 9,none,.mov (.t 53)⟩] none) .ret)))⟩
def c_146_l0:Xv:=yex [xM 29 10,yc7 30,xN 31 30,xB 32 .lss 29 31] 32 0 1 (xD [ybf 35 5,xL 36 35,xM 37 10,xX 38 2 36 37,ycj 39 38,yc7 40,xM 41 10,yc9 42 40 41,xL 43 42,yet 44 3,xL 45 44,ybg 46,xX 47 6 45 46,ybl 48 47,xL 49 48,xM 50 10,xX 51 3 49 50,yc4 52 51,xL 53 52,ydw 54 f_215 39 43 53,yd0 54]) (yba [ycd 55,ycq 56 .neq 55] 56 [ycd 57,ydn 57]) [xM 33 10,yb0 34 .add 33,xM 10 34]
def c_146_k1:Xv:=yds 2 [ybl 59 5,xL 60 59,ycq 61 .lss 60,xM 62 61,yem 63 62 5,ycb 64 62 63,yb7 65 62 .gtr 64 255,xW 66 62 65,xM 58 66] 58 [xI 6 9] (yby [ybl 68 5,xL 69 68,ycq 70 .gtr 69,xM 71 70,yaj 72 71 (ycw 9 3),ya7 73 71 1,ydm 74 71 f_216 [.t 72,.t 73],ycs 75 71 .neq 74 (yag 3),xV 76 71 75,xM 67 76] 67 [xI 6 11] (yba [ye6 78,ybg 79,yc4 80 5,ybf 81 80,xL 82 81,ydw 83 f_148 78 79 82,ybo 84 83,xM 77 84] 77 [xI 6 8])) (yad [ye6 85,yc4 86 5,ycj 87 86,ybk 88 f_149 85 87,ydn 88])
def c_146:AFn:=⟨3,[.tmp 6],yaa [yel,xJ 5 2,yct] (ya5 [ye6 12,ybg 13,ybk 14 f_211 12 13,xM 11 14,yei 15 11,yej 16 11,yd1 15,yd0 16] [ycd 17,ycq 18 .neq 17] 18 [ycd 19,ydn 19] (ye8 [ye6 20,ybg 21,ybk 22 f_214 20 21,yef 22] [ybf 23 5,xL 24 23,xN 25 24,yc7 26,xN 27 26,xB 28 .neq 25 27] 28 (xI 6 2) (yb5 [ya0 10] 0 c_146_l0 c_146_k1)))⟩
def c_147_l0:Xv:=yex [yb6 6,ybu 7,xN 8 7,xB 9 .lss 6 8] 9 0 1 (xD [ybu 12,yb6 13,xX 14 5 12 13,ybl 15 14,yc1 16 15,yc1 17 3,ybk 18 f_217 16 17]) (yak 18 [yeo 4]) [yb6 10,yb0 11 .add 10,ycv 11]
def c_147_k1:Xv:=yfa yeh
def c_147:AFn:=⟨2,[.tmp 4],ydg [yeq,yeh] [ydc] c_147_l0 c_147_k1⟩
def c_148:AFn:=⟨3,[.tmp 6],ybt [yel,ybq 6] [ye6 7,ybg 8,ybk 9 f_218 7 8,yc7 10,ybs 11 10 5 3,ydb 12 10 11,ya7 13 10 1,yeu 14 10 6 12 13,ybs 15 10 2 14,ydb 16 10 15,ya7 17 10 2,ydm 18 10 f_219 [.t 16,.t 17],ycs 19 10 .geq 18 yaz,xV 20 10 19,ydn 20]⟩
def c_149_l0:Xv:=yex [ycu 31,yb6 32,xN 33 32,xB 34 .lss 31 33] 34 0 1 (xD [ydq 37,xL 38 37,ycu 39,yc9 40 38 39,xL 41 40,yb6 42,ycu 43,xX 44 2 42 43,ybl 45 44,xL 46 45,ybk 47 f_220 41 46,ybo 48 47]) (yak 48 [yd6 9]) [ycu 35,yb0 36 .add 35,ydn 36]
def c_149_k1:Xv:=yfa ycf
def c_149:AFn:=⟨2,[.tmp 4],ye8 [yc2,yeq,ycf] [yc6 7,xL 8 7,ycq 9 .lss 8,yc7 10,ya3 11 10 0 3,ycb 12 10 11,ya3 13 10 4 2,ycb 14 10 13,ybw 15 10 14,ycm 16 10 .geq 12 15,xW 17 10 16] 17 (yd6 8) (ye8 [xF 18 4 2,xL 19 18,yc6 20,xL 21 20,xX 22 3 19 21,ybl 23 22,xL 24 23,ycv 24] [ydq 25,xL 26 25,xN 27 26,yb6 28,xN 29 28,xB 30 .neq 27 29] 30 (yd6 2) (yb5 [yct] 0 c_149_l0 c_149_k1))⟩
def c_150_l0:Xv:=ydz [ycu 7,ybg 8,xB 9 .lss 7 8] 9 0 1 (yfb (yb6 12) (xO 13 (.bin .mul (.c (yey 2)) (.t 12))) (ycv 13)) (ycu 10) 11 .add 10 (ydn 11)
def c_150_k1:Xv:=yad [ybu 14,xO 15 (yd3 .u64 14),yb6 16,xB 17 .lss 15 16,ycz 17]
def c_150:AFn:=⟨2,[.tmp 4],yew [yeh] [xC 5 (yey 1)] [yct] c_150_l0 c_150_k1⟩
def c_151:AFn:=⟨1,[.tmp 2],ydr [yce 1,ya0 2] [yez 3,xL 4 3,yb0 5 .lss 4,yb6 6,yem 7 6 1,ycb 8 6 7,yb7 9 6 .gtr 8 32,xW 10 6 9] 10 [ya0 2] [yez 11,xL 12 11,xM 2 12]⟩
def c_152:AFn:=⟨2,[.tmp 4,.tmp 5],yaq [yc2,yeq,ydk 4,ydc] [ydd 7,yc1 8 3,ybk 9 f_35 7 8,yc7 6] (yba [ycu 10,ycq 11 .neq 10] 11 [ycu 12,ydk 4,ycv 12]) (yad [ydd 13,yc1 14 3,ya6 15 f_221 [.t 13,.t 14],ycz 15,ydc])⟩
def c_153_l0:Xv:=yd7 [xB 37 .lss 36 35] 37 0 1 (yaa [xM 38 36,xX 39 9 34 36,ych 40 39,yap 11 [yaz,yaz,yaz,.Xu 2 [],yaz,yaz,.Xu 1 [],yaz,.Xu 1 []],xM 10 38,xS 9 11 40] (ya5 [xL 42 2,ych 43 11,ya6 44 f_225 [.t 42,.t 43],xM 41 44,yei 45 41,yej 46 41,xM 12 45,xM 13 46] [xM 47 13,ycq 48 .neq 47] 48 [xM 49 10,xM 50 13,xC 4 (.Xu 1 []),ycv 49,ydl 6 50] (xR [yc7 51,xM 52 12,xO 53 (.bslice .imm 1 (List.replicate 1 [.int .i64 0]) [(0,(.t 52))]),ycr 54 1 8 51 53,yef 54]))) [yb0 55 .add 36,xM 36 55]
def c_153_k1:Xv:=yad [yc7 56,ycz 56,ydc,⟨none,none,.store 1 (.t 6) (.c (.int .i64 0))⟩]
def c_153:ADFn:=⟨2,[.tmp 4,.tmp 5,.cell 6 false 1],.seq (xR [xO 2 (.box (.t 0)),xC 4 (.Xu 1 []),xI 5 0,xO 6 (.alloc [.int .i64 0])]) (.seq (xR [xL 14 2,xO 15 (.tcall f_222 [.t 14]),xO 7 (.alloc [.nilptr]),xS 1 7 15]) (.seq (.seq (xR [xL 16 2,xO 17 (.build [.int .i64 0,.Xu 1 []] []),xO 18 (.tcall f_223 [.t 16,.c (.int .i64 (-1)),.c (.int .i64 0),.t 17]),xK 19 .eql 18 1,xM 20 19,xG 21 20 false (.load false 1 (.t 7)),xG 22 20 false (.eqn false (.t 21) (.c (.nilptr))),xW 23 20 22]) (.cond (.t 23) (.seq (xR [xC 4 (.Xu 1 []),xI 5 (-1),⟨none,none,.store 1 (.t 6) (.c (.int .i64 1))⟩]) (.ret)) (.skip))) (.seq (.seq (xR [xM 24 1,xN 25 24,xK 26 .gtr 25 64]) (.cond (.t 26) (.seq (xR [xC 4 (.Xu 1 []),xI 5 (-1),⟨none,none,.store 1 (.t 6) (.c (.int .i64 12))⟩]) (.ret)) (.skip))) (.dfr [⟨some 27,none,.mkfunc (.func f_224) [] [.t 6,.t 7,.t 2]⟩] 27 (.seq (xR [xM 28 1,xN 29 28,xO 30 (.mkslice .row 9 120 [.int .i64 0,.int .i64 0,.int .i64 0,.Xu 2 [],.int .i64 0,.int .i64 0,.Xu 1 [],.int .i64 0,.Xu 1 []] (.t 29) (.t 29)),xM 8 30]) (.seq (xR [xM 31 8,xM 32 1,xO 33 (.copy 9 (.t 31) (.t 32))]) (.seq (xR [xO 9 (.nilapp 1)]) (.seq (.seq (xR [xM 34 8,xN 35 34,xI 36 0]) (.block 0 (.loop c_153_l0))) c_153_k1)))))))),f_224,3,none,.seq (xR [xL 3 0,xK 4 .neq 3 0]) (.cond (.t 4) (xD [xL 5 2,xL 6 1,xO 7 (.nilchk (.t 6)),xA 8 15 7,xO 9 (.nilchk (.t 5)),xS 15 9 8]) (.skip))⟩
def c_154:AFn:=⟨1,[.cell 2 true 4],ydr [yb3 2 (.Xu 1 []) (.Xu 1 []) (.Xu 2 []) (.Xu 1 [])] [ybu 3,xO 4 (ye7 (.t 3) yd5),ycv 4,yay 6 5 0,ye9 7 5 6,ya3 8 5 14 7,ycb 9 5 8,yev 10 5 9,xW 11 5 10] 11 [xO 12 (.build [.Xu 1 [],.Xu 1 [],.Xu 2 [],.Xu 1 []] []),yc5 2 12] [ybu 13,ybh 14 13,ybf 15 14,yc1 16 15,ya6 17 f_226 [.t 16],yc5 2 17]⟩
def c_160_l0:Xv:=ydj [xB 12 .lss 11 10] 12 0 1 [xM 13 11,xX 14 5 9 11,xA 15 5 14,yap 7 [yaz,yaz,yaz,yaz,yat],ydn 13,xS 5 7 15] [7] (yba [ybf 16 7,ycj 17 16,ycj 18 3,xO 19 (.eqs false true [.i,.i] (.t 17) (.t 18)),xM 20 19,ya3 21 20 2 7,ydh 22 20 2 21,ydh 23 20 2 3,yac 24 20 (.eqs false true [.i,.i] (.t 22) (.t 23)),xW 25 20 24] 25 [ycu 26,ycz 26,yeo 5]) [yb0 27 .add 11,xM 11 27]
def c_160_k1:Xv:=yck ycf (ybq 5)
def c_160:AFn:=⟨2,[.tmp 4,.tmp 5],ydg [yc2,yeq,ycf,ybq 5] [yer 8,xL 9 8,xN 10 9,ya0 11] c_160_l0 c_160_k1⟩
def c_179:AFn:=⟨2,[.tmp 4,.tmp 5],ya5 [yc2,ycf,ydc] [ybg 7,ycq 8 .lss 7,ycd 9,yay 10 9 1,ya3 11 9 5 2,ycb 12 9 11,ybw 13 9 12,ycm 14 9 .geq 10 13,xW 15 9 14] 15 [ye5,xI 5 8] (yea [yet 16 2,xL 17 16,ybg 18,xX 19 6 17 18,xA 20 6 19,yap 6 [.str [],.Xu 3 [],.Xu 1 [],yaz,.Xu 1 [],yaz],xS 6 6 20] [6] (yds 0 [ybf 22 6,xL 23 22,yb2 24 f_228 23,ybo 25 24,xM 21 25] 21 [ye5,xI 5 6] (yby [ybl 27 6,xL 28 27,xN 29 28,xK 30 .gtr 29 6,xM 31 30,ya3 32 31 2 6,ycb 33 31 32,ybw 34 31 33,yb7 35 31 .gtr 34 16,xW 36 31 35,xM 26 36] 26 [ye5,xI 5 12] (yba [yet 38 6,xL 39 38,yb0 40 .lss 39,xM 41 40,ya3 42 41 5 6,ycb 43 41 42,yb7 44 41 .gtr 43 256,xW 45 41 44,xM 37 45] 37 [ye5,xI 5 9])) (yae [ydd 47,xA 48 6 6,ybk 49 f_235 47 48,xM 46 49,yei 50 46,yej 51 46,ycz 50,ycv 51] (yba [yb6 52,ycq 53 .neq 52] 53 [xM 54 4,yb6 55,ycz 54,ycv 55]) (yae [ydd 56,xA 57 6 6,ybk 58 f_236 56 57,ycv 58] (yba [yb6 59,ycq 60 .neq 59] 60 [yb6 61,yd6 (-3),ycv 61]) (yck ycf ydc)))))⟩
def c_183_l0:Xv:=ydj [xB 20 .lss 19 18] 20 0 1 [xX 21 3 17 19,xA 22 3 21,yap 7 [yaz,yaz,yaz],xS 3 7 22] [7] (xR [yb6 23,ydd 24,ybf 25 7,ycj 26 25,ybk 27 f_246 24 26,xO 28 (.bslice .imm 1 (List.replicate 1 [.int .i64 0]) [(0,(.t 27))]),ycr 29 1 8 23 28,ycv 29]) [yb0 30 .add 19,xM 19 30]
def c_183_k1:Xv:=yec 31 31
def c_183:AFn:=⟨2,[.tmp 4],ye8 [yc2,xC 4 (.Xu 1 [])] [ydd 8,ybg 9,ybk 10 f_245 8 9,ybo 11 10] 11 (xC 4 (.Xu 1 [])) (ydg [ycp 5 1] [yet 12 2,xL 13 12,ybg 14,xX 15 6 13 14,ybl 16 15,xL 17 16,xN 18 17,ya0 19] c_183_l0 c_183_k1)⟩
def c_184:AFn:=⟨3,[.tmp 6],ydx yel yct (yds 0 [yc6 10,xL 11 10,yc8 12,ybk 13 f_247 11 12,ybo 14 13,xM 15 14,yem 16 15 3,ycb 17 15 16,yay 18 15 2,yde 19 15 f_247 [.t 17,.t 18],yev 20 15 19,xW 21 15 20,yef 21] 9 [xI 6 9] (yby [yc6 23,xL 24 23,ydq 25,xL 26 25,xB 27 .andNot 24 26,yee 28 .neq 27 (ybz 0),xM 22 28] 22 [xI 6 5] (yca [ybg 30,yb0 31 .eql 30,xM 32 31,ybs 33 32 1 3,ydb 34 32 33,ya7 35 32 2,ydm 36 32 f_133 [.t 35],yd2 37 32 .neq 34 36,xV 38 32 37,xM 29 38] (yak 29 [xI 6 11]))) (yae [ybg 39,xK 40 .eql 39 2] (ycl 40 (yaa [ydq 42,xL 43 42,yc8 44,ybk 45 f_248 43 44,xM 41 45,yei 46 41,yej 47 41,yd1 46,yd0 47] (yba [ycd 48,ybo 49 48] 49 [xI 6 11]))) (yfa yct)))⟩
def c_185_l0:Xv:=ydj [xB 20 .lss 19 18] 20 0 1 [xX 21 3 17 19,xA 22 3 21,yap 7 [yaz,yaz,yaz],xS 3 7 22] [7] (.block 2 (yby [yc4 24 7,xL 25 24,xK 26 .eql 25 3,xM 23 26] 23 [yd6 3] (yaa [yc4 28 7,xL 29 28,xK 30 .eql 29 2,xM 27 30] (ycl 27 (xR [xI 5 2]))))) [yb0 31 .add 19,xM 19 31]
def c_185_k1:Xv:=yec 32 32
def c_185:AFn:=⟨2,[.tmp 4],ye8 [yc2,ycf] [ydd 8,ybg 9,ybk 10 f_245 8 9,ybo 11 10] 11 ycf (ydg [xI 5 1] [yet 12 2,xL 13 12,ybg 14,xX 15 6 13 14,ybl 16 15,xL 17 16,xN 18 17,ya0 19] c_185_l0 c_185_k1)⟩
def c_186_l0:Xv:=yd7 [xB 21 .lss 20 19] 21 0 1 (yaa [yc9 22 18 20,xL 23 22,yd0 23] (yba [ycd 24,yc8 25,xB 26 .eql 24 25] 26 [yeo 6])) [yb0 27 .add 20,xM 20 27]
def c_186_k1:Xv:=yfa (ybq 6)
def c_186:AFn:=⟨3,[.tmp 6],ye8 [yel,ybq 6] [ye6 9,ybg 10,ybk 11 f_245 9 10,ybo 12 11] 12 (ybq 6) (yb5 [yet 13 3,xL 14 13,ybg 15,xX 16 6 14 15,yc4 17 16,xL 18 17,xN 19 18,ya0 20] 0 c_186_l0 c_186_k1)⟩
def c_187_l0:Xv:=yd7 [xB 36 .lss 35 34] 36 0 1 (yaa [xM 37 35,yc9 38 33 35,xL 39 38,ydn 37,yd1 39] (yba [yc0 40,yb6 41,ycu 42,xX 43 2 41 42,ybl 44 43,xL 45 44,ybk 46 f_247 40 45,ybo 47 46] 47 [yd6 9])) [yb0 48 .add 35,xM 35 48]
def c_187_k1:Xv:=yfa ycf
def c_187:AFn:=⟨2,[.tmp 4],ye8 [yc2,yeq,ycf] [yc6 8,xL 9 8,ycq 10 .lss 9,xM 11 10,ya3 12 11 0 3,ycb 13 11 12,ya3 14 11 4 2,ycb 15 11 14,ybw 16 11 15,ycm 17 11 .geq 13 16,xW 18 11 17] 18 (yd6 8) (ye8 [xF 19 4 2,xL 20 19,yc6 21,xL 22 21,xX 23 3 20 22,ybl 24 23,xL 25 24,ycv 25] [ydq 26,xL 27 26,xN 28 27,yb6 29,xN 30 29,xB 31 .neq 28 30] 31 (yd6 2) (yb5 [ydq 32,xL 33 32,xN 34 33,ya0 35] 0 c_187_l0 c_187_k1))⟩
def c_188_l0:Xv:=yd7 [xB 9 .lss 8 7] 9 0 1 (ydx (ycd 10) (ycv 10) (yba [ybg 11,ybu 12,yb6 13,xX 14 5 12 13,xA 15 5 14,xO 16 (yen 11 [.t 15])] 16 [yb6 17,ycz 17])) [yb0 18 .add 8,yd0 18]
def c_188_k1:Xv:=yfa ye5
def c_188:AFn:=⟨2,[.tmp 4],ydg [ycf] [ybu 6,xN 7 6,ya0 8] c_188_l0 c_188_k1⟩
def c_189_l0:Xv:=yd7 [xB 8 .lss 7 6] 8 0 1 (yaa [yc9 9 5 7,xL 10 9,ycz 10] (yba [xM 11 4,yb0 12 .lss 11,xM 13 12,yay 14 13 4,yb7 15 13 .gtr 14 32,xW 16 13 15] 16 [ybq 2])) [yb0 17 .add 7,yd1 17]
def c_189_k1:Xv:=yfa (yeo 2)
def c_189:AFn:=⟨1,[.tmp 2],ydg [ybq 2] [ybu 5,xN 6 5,yed] c_189_l0 c_189_k1⟩
def c_190_l0:Xv:=ybb [xM 24 11,ycq 25 .geq 24] 25 0 (.block 1 (ydi [xM 26 10,xM 27 11,xO 28 (.bslice .imm 1 (List.replicate 1 [.int .i64 0]) [(0,(.t 27))]),ycr 29 1 8 26 28,xM 10 29] [ydd 31,xF 32 6 2,xL 33 32,xM 34 11,xX 35 7 33 34,xA 36 7 35,yc1 37 8,ycj 38 9,yfc 39 f_252 31 36 37 38,xM 30 39,yei 40 30,yej 41 30,xE 42 2 30,yc5 8 40,yes 9 41,yd1 42] (yb9 [yc0 43,ycq 44 .neq 43] 44 [ydd 45,yb2 46 f_250 45,xM 47 10,yc0 48,yc5 4 46,ycv 47,ydn 48] (xD [xF 49 6 2,xL 50 49,xM 51 11,xX 52 7 50 51,xA 53 7 52,yc1 54 8,ybk 55 f_253 53 54,xM 11 55]))))
def c_190_k1:Xv:=yb9 [xM 56 11,xK 57 .eql 56 (-2)] 57 [ydd 58,yb2 59 f_250 58,xM 60 10,yc5 4 59,ycv 60,xI 6 15] (ybt [ycj 62 9,yb2 63 f_254 62,xM 61 63,yei 64 61,yej 65 61,yd9 66 8,ydl 66 64] [yc1 67 8,xM 68 10,yc5 4 67,ycv 68,yct])
def c_190:AFn:=⟨2,[.cell 4 true 4,.tmp 5,.tmp 6],yaa [yc2,yb3 4 (.Xu 1 []) (.Xu 1 []) (.Xu 1 []) (.Xu 1 []),xC 5 (.Xu 1 []),yct] (ya5 [ydd 12,ybg 13,ybk 14 f_249 12 13,yd1 14] [yc0 15,ycq 16 .neq 15] 16 [ydd 17,yb2 18 f_250 17,yc0 19,yc5 4 18,xC 5 (.Xu 1 []),ydn 19] (ycn [ydd 20,yb2 21 f_250 20,yb3 8 (.Xu 1 []) (.Xu 1 []) (.Xu 1 []) (.Xu 1 []),yc5 8 21] [ybg 22,yb2 23 f_251 22,ye0 9 (.Xu 1 []),yes 9 23] (ycn [ycp 10 1] [ya0 11] (yai 0 (.loop c_190_l0) c_190_k1))))⟩
def c_191_l0:Xv:=ydz [xM 11 4,yez 12,xL 13 12,xN 14 13,xB 15 .lss 11 14] 15 0 1 (ybx [(1,8),(1,9)] [⟨some 18,none,.faddr 1 (.t 3)⟩,⟨some 19,none,.load false 1 (.t 18)⟩,⟨some 20,none,.bslice .imm 1 [] []⟩,⟨some 21,none,.faddr 1 (.t 1)⟩,⟨some 22,none,.load false 1 (.t 21)⟩,⟨some 23,none,.mov (.t 4)⟩,⟨some 24,none,.iaddr 1 none (.t 22) (.t 23)⟩,⟨some 25,none,.load false 1 (.t 24)⟩,⟨some 26,none,.append .row 1 4 (.t 20) (.t 25)⟩,⟨some 27,none,.bslice .row 1 (List.replicate 1 [.Xu 1 []]) [(0,(.t 26))]⟩,⟨some 28,none,.append .row 1 24 (.t 19) (.t 27)⟩,⟨some 29,none,.faddr 1 (.t 3)⟩,⟨none,none,.store 1 (.t 29) (.t 28)⟩] none) (xM 16 4) 17 .add 16 (ycz 17)
def c_191_k1:Xv:=yaa [yfe 30,xL 31 30,yc4 32 1,xL 33 32,ycc 34 .row 1 4 31 33,yfe 35,ydl 35 34] (ybt [yd9 36 3,xL 37 36,yd9 38 1,xL 39 38,ycr 40 1 1 37 39,yd9 41 3,ydl 41 40] [yc1 42 3,yc5 2 42])
def c_191:AFn:=⟨1,[.cell 2 true 4],ycn [yce 1,yb3 2 (.Xu 1 []) (.Xu 1 []) (.Xu 1 []) (.Xu 1 [])] [yb3 3 (.Xu 1 []) (.Xu 1 []) (.Xu 1 []) (.Xu 1 [])] (ydg [yc6 5,xL 6 5,ybf 7 1,xL 8 7,ycc 9 .row 1 1 6 8,yc6 10,ydl 10 9] [ycf] c_191_l0 c_191_k1)⟩
def c_192:AFn:=⟨2,[.tmp 4],yaa [yc2,yeq,ycf] (yaq [yc4 6 2,xL 7 6,ycv 7] [yc6 8,xL 9 8,ycq 10 .geq 9] (ycl 10 (yb9 [yc6 11,xL 12 11,yer 13,xL 14 13,xN 15 14,xB 16 .geq 12 15] 16 [ycf] (xR [yer 17,xL 18 17,yc6 19,xL 20 19,xX 21 2 18 20,ybl 22 21,xL 23 22,ycv 23]))) (yb9 [yc6 24,xL 25 24,xK 26 .lss 25 (-1),xM 27 26,yem 28 27 3,ycb 29 27 28,ybn 30 27 .lss 29 yaz,xW 31 27 30,xM 32 31,yem 33 32 3,ycb 34 32 33,yay 35 32 5,ybw 36 32 35,ycm 37 32 .geq 34 36,xW 38 32 37,xM 39 38,yay 40 39 5,yem 41 39 3,ycb 42 39 41,yac 43 39 (yc3 2 40 42),yem 44 39 43,ycb 45 39 44,yb7 46 39 .lss 45 1,xW 47 39 46,xM 48 47,yay 49 48 5,yem 50 48 3,ycb 51 48 50,yac 52 48 (yc3 2 49 51),yem 53 48 52,ycb 54 48 53,yb7 55 48 .gtr 54 32,xW 56 48 55] 56 [ycf] (yad [yb6 57,ydq 58,xL 59 58,xX 60 2 57 59,ybl 61 60,xL 62 61,ycz 62])))⟩
def c_193:AFn:=⟨2,[.tmp 4],ya5 [yc2,yeq,yeh] [yc6 5,xL 6 5,xK 7 .eql 6 (-1)] 7 [ydq 8,xL 9 8,ycq 10 .geq 9,xM 11 10,ybs 12 11 1 3,ydb 13 11 12,ybs 14 11 2 2,ydb 15 11 14,yeg 16 11 15,yd2 17 11 .lss 13 16,xV 18 11 17,ycz 18] (yca [yc6 19,xL 20 19,ycq 21 .geq 20,xM 22 21,ybs 23 22 0 3,ydb 24 22 23,ybs 25 22 1 2,ydb 26 22 25,yeg 27 22 26,yd2 28 22 .lss 24 27,xV 29 22 28,xM 30 29,ybs 31 30 1 3,ydb 32 30 31,ycs 33 30 .geq 32 yaz,xV 34 30 33,xM 35 34,ybs 36 35 1 3,ydb 37 35 36,ybs 38 35 1 2,ydb 39 35 38,ybs 40 35 0 3,ydb 41 35 40,yeu 42 35 1 39 41,ydb 43 35 42,yeg 44 35 43,yd2 45 35 .lss 37 44,xV 46 35 45,ycz 46] .ret)⟩
def c_194:AFn:=⟨2,[.tmp 4],ybt [yc2,yeh] [ybg 5,ycq 6 .geq 5,ycu 7,ya7 8 7 1,ybs 9 7 0 2,ydb 10 7 9,yeg 11 7 10,yd2 12 7 .lss 8 11,xV 13 7 12,xM 14 13,ybs 15 14 0 2,ydb 16 14 15,ya7 17 14 1,yeu 18 14 1 16 17,ydb 19 14 18,xV 20 14 19,ycz 20]⟩
def c_195_l0:Xv:=ydz [ycu 7,ybg 8,xB 9 .lss 7 8] 9 0 1 (yfb (yb6 12) (xO 13 (.bin .mul (.c (yey 2)) (.t 12))) (ycv 13)) (ycu 10) 11 .add 10 (ydn 11)
def c_195_k1:Xv:=yad [ybu 14,xO 15 (yd3 .u64 14),yb6 16,xB 17 .rem 15 16,xO 18 (yd3 .u32 17),ycz 18]
def c_195:AFn:=⟨2,[.tmp 4],yew [ydp 4 0] [xC 5 (yey 1)] [yct] c_195_l0 c_195_k1⟩
def c_197_l0:Xv:=yex [ycu 21,ydq 22,xL 23 22,yb6 24,yc9 25 23 24,xL 26 25,xN 27 26,xB 28 .lss 21 27] 28 2 3 (xD [ydq 31,xL 32 31,yb6 33,yc9 34 32 33,xL 35 34,ycu 36,yc9 37 35 36,xL 38 37,ydd 39,yb6 40,ycu 41,xO 42 (.build [.int .i64 0,.int .i64 0] [(0,1,(.t 40)),(1,1,(.t 41))]),ybk 43 f_192 39 42,ybk 44 f_150 38 43,ybo 45 44]) (yak 45 [yd6 9]) [ycu 29,yb0 30 .add 29,ydn 30]
def c_197_k1:Xv:=yfb (yb6 19) (yb0 20 .add 19) (ycv 20)
def c_197_l2:Xv:=ybb [yb6 14,ydq 15,xL 16 15,xN 17 16,xB 18 .lss 14 17] 18 0 (yai 1 (yaa [yct] (yal 2 c_197_l0)) c_197_k1)
def c_197_l3:Xv:=yex [yc0 46,yfe 47,xL 48 47,xN 49 48,xB 50 .lss 46 49] 50 4 5 (xD [yfe 53,xL 54 53,yc0 55,yc9 56 54 55,xL 57 56,ydd 58,yc0 59,xO 60 (.build [.int .i64 0,.int .i64 0] [(0,1,(.c (.int .i64 (-1)))),(1,1,(.t 59))]),ybk 61 f_192 58 60,ybk 62 f_150 57 61,ybo 63 62]) (yak 63 [yd6 9]) [yc0 51,yb0 52 .add 51,yd1 52]
def c_197_l4:Xv:=ydz [yc7 71,ydq 72,xL 73 72,ycd 74,yc9 75 73 74,xL 76 75,xN 77 76,xB 78 .lss 71 77] 78 8 9 (yba [yc6 81,xL 82 81,ycd 83,yc9 84 82 83,xL 85 84,ybo 86 85,xM 87 86,ybs 88 87 1 3,ydb 89 87 88,ya7 90 87 8,yeu 91 87 1 89 90,ydb 92 87 91,ya7 93 87 9,yeu 94 87 1 92 93,ydb 95 87 94,ycs 96 87 .neq 95 (ybz 0),xV 97 87 96] 97 [yd6 5]) (yc7 79) 80 .add 79 (yef 80)
def c_197_k5:Xv:=yfb (ycd 69) (yb0 70 .add 69) (yd0 70)
def c_197_l6:Xv:=ybb [ycd 64,ydq 65,xL 66 65,xN 67 66,xB 68 .lss 64 67] 68 6 (yai 7 (yaa [ya0 9] (yal 8 c_197_l4)) c_197_k5)
def c_197_k7:Xv:=yfa ycf
def c_197_k8:Xv:=yb5 [ya0 8] 6 c_197_l6 c_197_k7
def c_197_k9:Xv:=yb5 [yed] 4 c_197_l3 c_197_k8
def c_197:AFn:=⟨2,[.tmp 4],ye8 [yc2,yeq,ycf] [ydd 10,yc1 11 3,ybk 12 f_255 10 11,ybo 13 12] 13 (yd6 2) (yb5 [ydc] 0 c_197_l2 c_197_k9)⟩
def c_199:AFn:=⟨0,[.cell 0 true 1],ybt [yap 0 [.Xu 1 []]] [xO 1 (.build [.Xu 1 []] []),ydl 0 1]⟩
def c_200_l0:Xv:=yex [xM 29 10,ybg 30,xN 31 30,xB 32 .lss 29 31] 32 1 2 (ybx [(0,15),(4,15),(6,15),(10,15),(11,15)] [⟨some 36,none,.load true 1 (.t 9)⟩,⟨some 37,none,.mov (.t 1)⟩,⟨some 38,none,.mov (.t 10)⟩,⟨some 39,none,.iaddr 1 none (.t 37) (.t 38)⟩,⟨some 40,none,.load false 1 (.t 39)⟩,⟨some 41,none,.faddr 1 (.t 3)⟩,⟨some 42,none,.load false 1 (.t 41)⟩,⟨some 43,none,.mov (.t 10)⟩,⟨some 44,none,.iaddr 2 none (.t 42) (.t 43)⟩,⟨some 45,none,.faddr 1 (.t 44)⟩,⟨some 46,none,.load false 1 (.t 45)⟩,⟨some 47,none,.pcall f_257 [.t 36,.t 40,.t 46]⟩,⟨some 35,none,.mov (.t 47)⟩,⟨some 48,none,.ext 0 (.t 35)⟩,⟨some 49,none,.ext 1 (.t 35)⟩,⟨some 11,none,.alloc [.Xu 1 []]⟩,⟨none,none,.store 1 (.t 11) (.t 48)⟩,⟨some 12,none,.mov (.t 49)⟩] (some [11])) (yb9 [xM 50 12,ycq 51 .neq 50] 51 [xA 52 1 5,xM 53 12,ydl 6 52,yd1 53] (xR [xA 54 1 11,ydl 9 54])) [xM 33 10,yb0 34 .add 33,xM 10 34]
def c_200_k1:Xv:=yad [xA 55 1 9,ydl 6 55,yed]
def c_200:AFn:=⟨3,[.cell 6 true 1,.tmp 7],ycn [yel,xJ 5 2,yap 6 [.Xu 1 []],yed] [ycj 13 3,yb2 14 f_198 13,yd0 14] (yds 0 [ycd 16,ycq 17 .neq 16,xM 15 17] 15 [xA 18 1 5,ycd 19,ydl 6 18,yd1 19] (yba [ybg 21,xN 22 21,ydq 23,xL 24 23,xN 25 24,xB 26 .neq 22 25,xM 20 26] 20 [xA 27 1 5,ydl 6 27,xI 7 2]) (ybd [xA 28 1 5,yap 9 [.Xu 1 []],ydl 9 28] [ya0 10] 1 c_200_l0 c_200_k1))⟩
def c_201_l0:Xv:=ydz [yb6 16,ybf 17 1,xL 18 17,xN 19 18,xB 20 .lss 16 19] 20 0 1 (ycn [xM 23 4,yb6 24,xK 25 .quo 24 8,xM 26 4,yb6 27,xK 28 .quo 27 8,yc9 29 26 28,xL 30 29,xO 31 (.bin .mul (.c (yd4 2)) (.t 30)),yc9 32 23 25,ydl 32 31] [ybf 33 1,xL 34 33,yb6 35,yc9 36 34 35,xL 37 36] (ycl 37 (xR [xM 38 4,yb6 39,xK 40 .quo 39 8,yc9 41 38 40,xL 42 41,yee 43 .add 42 (yd4 1),yc9 44 38 40,ydl 44 43]))) (yb6 21) 22 .add 21 (ycv 22)
def c_201_k1:Xv:=yad [xM 45 4,xM 2 45,ya0 3]
def c_201:AFn:=⟨1,[.tmp 2,.tmp 3],ya5 [yce 1,xC 2 (.Xu 1 []),ya0 3] [ybf 6 1,xL 7 6,xN 8 7,xK 9 .rem 8 8,ycq 10 .neq 9] 10 [xC 2 (.Xu 1 []),xI 3 10] (ydg [ybf 11 1,xL 12 11,xN 13 12,xK 14 .quo 13 8,xO 15 (.mkslice .row 1 1 [.int .u8 0] (.t 14) (.t 14)),ycz 15] [ydc] c_201_l0 c_201_k1)⟩
def c_204:AFn:=⟨4,[.cell 8 true 5,.cell 9 true 2],yax [yce 4,yep 5,xJ 7 3,yap 8 [yaz,.Xu 2 [],yaz,yaz,.Xu 1 []],yd8 9 yaz (.Xu 1 [])] (ybx [(0,15),(3,15),(6,15),(7,15),(9,15),(10,15),(11,15)] [⟨some 13,none,.load true 9 (.t 4)⟩,⟨some 14,none,.mov (.t 2)⟩,⟨some 15,none,.faddr 0 (.t 5)⟩,⟨some 16,none,.load false 1 (.t 15)⟩,⟨some 17,none,.mov (.t 2)⟩,⟨some 18,none,.iaddr 1 none (.t 16) (.t 17)⟩,⟨some 19,none,.load false 1 (.t 18)⟩,⟨some 20,none,.load true 9 (.t 4)⟩,⟨some 21,none,.mov (.t 2)⟩,⟨some 22,none,.load true 4 (.t 7)⟩,⟨some 23,none,.pcall f_265 [.t 20,.t 21,.t 22]⟩,⟨some 24,none,.pcall f_264 [.t 13,.t 14,.t 19,.t 23]⟩,⟨some 12,none,.mov (.t 24)⟩,⟨some 25,none,.ext 0 (.t 12)⟩,⟨some 26,none,.ext 1 (.t 12)⟩,⟨some 10,none,.alloc [.int .i64 0,.Xu 2 [],.int .i64 0,.int .i64 0,.Xu 1 []]⟩,⟨none,none,.store 5 (.t 10) (.t 25)⟩,⟨some 11,none,.mov (.t 26)⟩] (some [10])) (yae [xM 27 11,ybo 28 27] (ycl 28 (ydo [(2,6),(5,6)] [⟨some 29,none,.build [.int .i64 0,.Xu 2 [],.int .i64 0,.int .i64 0,.Xu 1 []] []⟩,⟨some 30,none,.faddr 2 (.t 5)⟩,⟨some 31,none,.load false 1 (.t 30)⟩,⟨some 32,none,.mov (.t 2)⟩,⟨some 33,none,.iaddr 2 none (.t 31) (.t 32)⟩,⟨some 34,none,.load true 2 (.t 33)⟩,⟨none,none,.store 5 (.t 8) (.t 29)⟩,⟨none,none,.store 2 (.t 9) (.t 34)⟩] none .ret)) (ydo [(3,4)] [⟨some 35,none,.load true 5 (.t 10)⟩,⟨some 36,none,.faddr 1 (.t 10)⟩,⟨some 37,none,.faddr 2 (.t 36)⟩,⟨some 38,none,.load true 2 (.t 37)⟩,⟨none,none,.store 5 (.t 8) (.t 35)⟩,⟨none,none,.store 2 (.t 9) (.t 38)⟩] none .ret))⟩
def c_205_l0:Xv:=ybb [xM 46 14,xM 47 13,xN 48 47,xB 49 .lss 46 48] 49 0 (yda 1 [xM 52 13,xM 53 14,xX 54 7 52 53,xA 55 7 54,yap 15 [yaz,yaz,yaz,yaz,yaz,.Xu 3 [],.Xu 3 []],xS 7 15 55] [15] (yaa [yet 56 15,xL 57 56,xA 58 10 12,yc1 59 6,ybl 60 5,xL 61 60,yfc 62 f_137 57 58 59 61,xM 16 62] (ycn [xF 63 6 15,xL 64 63,xA 65 10 12,yc1 66 6,ybl 67 5,xL 68 67,yfc 69 f_137 64 65 66 68,xM 17 69] [ybf 70 15,xL 71 70] (.block 2 (ydx (yb0 80 .eql 71) (xM 79 80) (yab 79 (xR [ych 81 4,yc1 82 6,ybl 83 15,ycj 84 83,xM 85 17,yfc 86 f_135 81 82 84 85,yfd 86]) (ydx (xK 88 .eql 71 2) (xM 87 88) (yab 87 (xR [ych 89 4,yc1 90 6,xF 91 4 15,xL 92 91,ydw 93 f_267 89 90 92,yfd 93]) (ydx (xK 95 .eql 71 3) (xM 94 95) (yab 94 (xR [ych 96 4,yc1 97 6,xF 98 4 15,xL 99 98,ydw 100 f_268 96 97 99,yfd 100]) (ydx (xK 102 .eql 71 4) (xM 101 102) (yab 101 (xD [ych 103 4,yc1 104 6,ybl 105 15,ycj 106 105,ych 107 4,xM 108 3,yd9 109 15,xL 110 109,xM 111 16,yfc 112 f_269 107 108 110 111,yfc 113 f_135 103 104 106 112,yfd 113]) (xR [ych 72 4,xM 73 3,yd9 74 15,xL 75 74,xM 76 16,xM 77 17,yaf 78 f_270 [.t 72,.t 73,.t 75,.t 76,.t 77],xM 3 78])))))))))))) [xM 50 14,yb0 51 .add 50,xM 14 51])
def c_205_k1:Xv:=yad [yc1 114 6,xM 115 3,yc5 8 114,yef 115]
def c_205:AFn:=⟨4,[.cell 8 true 4,.tmp 9],yaa [yce 4,yep 5,ycx 6 2,yb3 8 (.Xu 1 []) (.Xu 1 []) (.Xu 1 []) (.Xu 1 []),xC 9 (.Xu 1 [])] (ya5 [ych 19 4,ybf 20 5,xL 21 20,ybk 22 f_210 19 21,xM 18 22,yei 23 18,yej 24 18,xM 10 23,xM 11 24] [xM 25 11,ycq 26 .neq 25,xM 27 26,ydh 28 27 9 4,ydh 29 27 2 5,yde 30 27 f_149 [.t 28,.t 29],ybn 31 27 .neq 30 yaz,xW 32 27 31] 32 [yc1 33 6,xM 34 3,yc5 8 33,yef 34] (yea [ych 35 4,ybf 36 5,xL 37 36,ybk 38 f_266 35 37,yap 12 [.str [],.Xu 2 [],.Xu 2 [],.Xu 3 [],.Xu 3 [],.Xu 6 [],.Xu 7 [],.Xu 5 [],.Xu 1 [],.Xu 2 []],xS 10 12 38] [12] (ydg [xF 39 4 4,xL 40 39,ybf 41 5,xL 42 41,xX 43 3 40 42,yc4 44 43,xL 45 44,xM 13 45] [ya0 14] c_205_l0 c_205_k1)))⟩
def c_206_l0:Xv:=ydz [xM 17 3,ybu 18,xO 19 (.slen (.t 18)),xB 20 .lss 17 19] 20 0 1 (yba [ybu 23,xM 24 3,xO 25 (.idxs (.t 23) (.t 24)),yb2 26 f_271 25,ybo 27 26,xM 28 27,ya7 29 28 0,ya7 30 28 3,yaj 31 28 (.idxs (.t 29) (.t 30)),ydm 32 28 f_272 [.t 31],yaj 33 28 (ya9 32),xV 34 28 33,xM 35 34,ya7 36 35 0,ya7 37 35 3,yaj 38 35 (.idxs (.t 36) (.t 37)),ycs 39 35 .neq 38 (yd4 95),xV 40 35 39] 40 [ybq 2]) (xM 21 3) 22 .add 21 (xM 3 22)
def c_206_k1:Xv:=yfa (yeo 2)
def c_206:AFn:=⟨1,[.tmp 2],ye8 [ybq 2] [ybu 4,yee 5 .eql 4 (.str []),yb6 6,yay 7 6 0,yac 8 6 (.slen (.t 7)),yb7 9 6 .gtr 8 16,xW 10 6 9,xM 11 10,yay 12 11 0,yac 13 11 (.idxs (.t 12) (.c yaz)),yde 14 11 f_271 [.t 13],yev 15 11 14,xW 16 11 15] 16 (ybq 2) (yb5 [ya0 3] 0 c_206_l0 c_206_k1)⟩
def c_211:AFn:=⟨2,[.tmp 4,.tmp 5],ya5 [yc2,ycf,ydc] [ybg 9,ycq 10 .lss 9,xM 11 10,yay 12 11 1,ya3 13 11 5 2,ycb 14 11 13,ybw 15 11 14,ycm 16 11 .geq 12 15,xW 17 11 16] 17 [ye5,xI 5 8] (yea [yet 18 2,xL 19 18,ybg 20,xX 21 6 19 20,xA 22 6 21,yap 6 [.str [],.Xu 3 [],.Xu 1 [],yaz,.Xu 1 [],yaz],xS 6 6 22] [6] (yds 0 [ybf 24 6,xL 25 24,yb2 26 f_206 25,ybo 27 26,xM 23 27] 23 [ye5,xI 5 6] (yby [ybl 29 6,xL 30 29,xN 31 30,xK 32 .gtr 31 6,xM 33 32,ya3 34 33 2 6,ycb 35 33 34,ybw 36 33 35,yb7 37 33 .gtr 36 16,xW 38 33 37,xM 28 38] 28 [ye5,xI 5 12] (yba [yet 40 6,xL 41 40,yb0 42 .lss 41,xM 43 42,ya3 44 43 5 6,ycb 45 43 44,yb7 46 43 .gtr 45 256,xW 47 43 46,xM 39 47] 39 [ye5,xI 5 9])) (ya5 [ydd 49,xA 50 6 6,ybk 51 f_275 49 50,xM 48 51,yei 52 48,yej 53 48,yd1 52,yd0 53] [ycd 54,ycq 55 .neq 54] 55 [yc0 56,ycd 57,ycz 56,ycv 57] (ya5 [ydd 58,xA 59 6 6,ybk 60 f_276 58 59,yd0 60] [ycd 61,ycq 62 .neq 61] 62 [ycd 63,yd6 (-3),ycv 63] (yck ycf ydc)))))⟩
def c_214_l0:Xv:=ydz [ycu 11,yet 12 2,xL 13 12,ybg 14,xX 15 6 13 14,ybl 16 15,xL 17 16,xN 18 17,xB 19 .lss 11 18] 19 0 1 (xD [yb6 22,ydd 23,yet 24 2,xL 25 24,ybg 26,xX 27 6 25 26,ybl 28 27,xL 29 28,ycu 30,xX 31 3 29 30,ybf 32 31,ycj 33 32,ybk 34 f_282 23 33,xO 35 (.bslice .imm 1 (List.replicate 1 [.int .i64 0]) [(0,(.t 34))]),ycr 36 1 8 22 35,ycv 36]) (ycu 20) 21 .add 20 (ydn 21)
def c_214_k1:Xv:=yec 37 37
def c_214:AFn:=⟨2,[.tmp 4],ye8 [yc2,xC 4 (.Xu 1 [])] [ydd 7,ybg 8,ybk 9 f_218 7 8,ybo 10 9] 10 (xC 4 (.Xu 1 [])) (ydg [ycp 5 1] [yct] c_214_l0 c_214_k1)⟩
def c_215:AFn:=⟨3,[.tmp 6],ycn [yel,yct] [ydq 10,xL 11 10,ybg 12,ybk 13 f_283 11 12,yef 13,yei 14 9,yej 15 9,yd1 14,yd0 15] (yds 0 [yc6 17,xL 18 17,ybg 19,ybk 20 f_220 18 19,ybo 21 20,xM 22 21,yem 23 22 3,ycb 24 22 23,yay 25 22 1,yde 26 22 f_220 [.t 24,.t 25],yev 27 22 26,xW 28 22 27,xM 16 28] 16 [xI 6 9] (yby [yc6 30,xL 31 30,ydq 32,xL 33 32,xB 34 .and 31 33,yc6 35,xL 36 35,xB 37 .neq 34 36,xM 29 37] 29 [xI 6 5] (yca [yc8 39,yb0 40 .eql 39,xM 41 40,ybs 42 41 1 3,ydb 43 41 42,ya7 44 41 1,ydm 45 41 f_284 [.t 44],yd2 46 41 .neq 43 45,xV 47 41 46,xM 48 47,yay 49 48 2,yb7 50 48 .eql 49 2,yay 51 48 50,ya7 52 51 8,yaj 53 51 (ya9 52),yac 54 48 (yek 51 (.t 53) (.c yat)),xW 55 48 54,xM 38 55] (yak 38 [xI 6 11]))) (yfa yct))⟩
def c_216_l0:Xv:=ydz [ycu 11,yet 12 2,xL 13 12,ybg 14,xX 15 6 13 14,ybl 16 15,xL 17 16,xN 18 17,xB 19 .lss 11 18] 19 0 1 (xR [yb6 22,yet 23 2,xL 24 23,ybg 25,xX 26 6 24 25,ybl 27 26,xL 28 27,ycu 29,xX 30 3 28 29,yc4 31 30,xL 32 31,xO 33 (.minmax true [.t 22,.t 32]),ycv 33]) (ycu 20) 21 .add 20 (ydn 21)
def c_216_k1:Xv:=yec 34 34
def c_216:AFn:=⟨2,[.tmp 4],ye8 [yc2,ycf] [ydd 7,ybg 8,ybk 9 f_218 7 8,ybo 10 9] 10 ycf (ydg [xI 5 1] [yct] c_216_l0 c_216_k1)⟩
def c_217_l0:Xv:=yex [yb6 20,ybf 21 2,xL 22 21,xN 23 22,xB 24 .lss 20 23] 24 0 1 (xD [ybf 27 2,xL 28 27,yb6 29,xX 30 2 28 29,ycj 31 30,yc6 32,xL 33 32,yb6 34,xX 35 2 33 34,ycj 36 35,xO 37 (.eqs true true [.i,.i] (.t 31) (.t 36))]) (yak 37 [yeh]) [yb6 25,yb0 26 .add 25,ycv 26]
def c_217_k1:Xv:=yfa (yeo 4)
def c_217:AFn:=⟨2,[.tmp 4],ye8 [ycx 2 0,ycx 3 1,yeh] [ybf 6 2,xL 7 6,xN 8 7,yc6 9,xL 10 9,xN 11 10,xB 12 .neq 8 11,xM 13 12,yem 14 13 2,ycb 15 13 14,yem 16 13 3,ycb 17 13 16,ycm 18 13 .neq 15 17,xW 19 13 18] 19 yeh (yb5 [ydc] 0 c_217_l0 c_217_k1)⟩
def c_218:AFn:=⟨2,[.tmp 4],ydx yc2 yeh (ybt [ydd 8,ybg 9,ybk 10 f_211 8 9,yd1 10,yei 11 7,yej 12 7,ycv 11,ydn 12] [ycu 13,ycq 14 .eql 13,ycz 14])⟩
def c_219_l0:Xv:=ydz [yb6 6,ybu 7,xN 8 7,xB 9 .lss 6 8] 9 0 1 (yba [ybu 12,yb6 13,yc9 14 12 13,xL 15 14,ybg 16,xB 17 .eql 15 16] 17 [yb6 18,ycz 18]) (yb6 10) 11 .add 10 (ycv 11)
def c_219_k1:Xv:=yfa ye5
def c_219:AFn:=⟨2,[.tmp 4],ydg [ycf] [ydc] c_219_l0 c_219_k1⟩
def c_220:AFn:=⟨2,[.tmp 4],ybt [yeh] [ybg 5,yb2 6 f_285 5,ycu 7,ya7 8 7 0,yaj 9 7 (yd3 .u64 8),ya7 10 7 1,ydm 11 7 f_286 [.t 10],yd2 12 7 .lss 9 11,xV 13 7 12,ycz 13]⟩
def c_221_l0:Xv:=yd7 [xB 30 .lss 29 28] 30 0 1 (ydx (xM 31 29) (ydn 31) (yfb (yb6 32) (ycu 33) (ya6 34 f_288 [.t 32,.t 33]))) [yb0 35 .add 29,xM 29 35]
def c_221_k1:Xv:=yec 36 36
def c_221:AFn:=⟨2,[.tmp 4],yax [yc2,ycx 3 1,ydk 4] (ybx [(1,2)] [⟨some 7,none,.load true 4 (.t 3)⟩,⟨some 8,none,.tcall f_226 [.t 7]⟩,⟨some 9,none,.load true 9 (.t 2)⟩,⟨some 10,none,.pcall f_287 [.t 9]⟩,⟨some 11,none,.build [.Xu 1 [],.Xu 1 [],.Xu 2 [],.Xu 1 [],.str [],.Xu 2 [],.Xu 2 [],.Xu 3 [],.Xu 3 [],.Xu 6 [],.Xu 7 [],.Xu 5 [],.Xu 1 [],.Xu 1 [],.bool false] [(0,4,(.t 8)),(4,9,(.t 10)),(14,1,(.c (.bool true)))]⟩,⟨some 12,none,.box (.t 11)⟩,⟨some 5,none,.mov (.t 12)⟩] none) (ydg [yb6 13,yb6 14,ybh 15 14,ybf 16 15,ybf 17 16,xL 18 17,xN 19 18,xO 20 (.mkslice .row 1 8 [.nilmap] (.t 19) (.t 19)),ybh 21 13,xF 22 13 21,ydl 22 20] [yb6 23,ybh 24 23,ybf 25 24,ybf 26 25,xL 27 26,xN 28 27,ya0 29] c_221_l0 c_221_k1)⟩
def c_222:AFn:=⟨1,[.tmp 2],ye8 [ydk 2] [ybu 3,xO 4 (ye7 (.t 3) yd5),ycv 4,yay 6 5 0,ye9 7 5 6,ya3 8 5 14 7,ycb 9 5 8,yev 10 5 9,xW 11 5 10] 11 (ydk 2) (yca [ybu 12,ybh 13 12,xF 14 4 13,ych 15 14,ybu 16,ybh 17 16,ybf 18 17,yc1 19 18,ya6 20 f_221 [.t 15,.t 19],xM 2 20] .ret)⟩
def c_223:AFn:=⟨4,[.tmp 8],ydx (ycx 7 3) (ya0 8) (yaq [ybu 12,ybg 13,yc8 14,ya6 15 f_289 [.t 12,.t 13,.t 14],xM 11 15,yei 16 11,yej 17 11,yef 16,xM 10 17] [xM 18 10,ycq 19 .eql 18] (ycl 19 (xD [ybu 20,ybh 21 20,xF 22 4 21,ych 23 22,ybg 24,ycj 25 7,ydw 26 f_131 23 24 25,xM 10 26])) (yae [xM 27 10,ycq 28 .eql 27] (ycl 28 (xD [ybu 29,ybh 30 29,ybf 31 30,ybf 32 31,xL 33 32,ybg 34,yc9 35 33 34,xL 36 35,yc7 37,ycj 38 7,yb2 39 f_290 38,xX 40 5 36 37,ybl 41 40,yc4 42 41,yes 42 39])) (yck (xM 43 10) (yd0 43))))⟩
def c_225:AFn:=⟨2,[.tmp 4,.tmp 5],yaq [ycx 3 1,ycf,ydc] [yc6 6,xL 7 6] (.block 0 (yby [yb0 9 .eql 7,yc7 8] 8 [ybu 10,ydq 11,xL 12 11,yd9 13 3,yc1 14 13,ya6 15 f_291 [.t 10,.t 12,.t 14],yei 16 15,yej 17 15,ycz 16,ycv 17] (yby [xK 19 .eql 7 2,xM 18 19] 18 [ybu 20,ydq 21,xL 22 21,yfe 23,xL 24 23,xF 25 7 3,ycj 26 25,ya6 27 f_223 [.t 20,.t 22,.t 24,.t 26],ycf,ycv 27] (yby [xK 29 .eql 7 3,xM 28 29] 28 [ybu 30,ydq 31,xL 32 31,yfe 33,xL 34 33,ya6 35 f_292 [.t 30,.t 32,.t 34],ycf,ycv 35] (yba [xK 37 .eql 7 4,xM 36 37] 36 [ybu 38,ydq 39,xL 40 39,xF 41 7 3,ycj 42 41,ya6 43 f_293 [.t 38,.t 40,.t 42],ycf,ycv 43]))))) (yck ycf (xI 5 11))⟩
def c_226_l0:Xv:=ydj [xB 27 .lss 26 25] 27 2 3 [xX 28 5 24 26,xA 29 5 28,yap 8 [yaz,.Xu 2 [],yaz,yaz,.Xu 1 []],xS 5 8 29] [8] (xR [ycu 30,xA 31 5 8,yb2 32 f_294 31,xO 33 (.bslice .imm 5 (List.replicate 1 [.int .i64 0,.Xu 2 [],.int .i64 0,.int .i64 0,.Xu 1 []]) [(0,(.t 32))]),ycc 34 .row 5 72 30 33,ydn 34]) [yb0 35 .add 26,xM 26 35]
def c_226_k1:Xv:=xR [yc6 36,xL 37 36,ycu 38,xO 39 (.bslice .row 1 (List.replicate 1 [.Xu 5 []]) [(0,(.t 38))]),ycc 40 .row 1 24 37 39,yc6 41,ydl 41 40]
def c_226_k2:Xv:=xR [yb0 42 .add 20,xM 20 42]
def c_226_l3:Xv:=ybr [xB 21 .lss 20 19] 21 0 (yai 1 (yaa [yc9 22 18 20,xL 23 22,ycv 23] (ybd [xC 6 (.Xu 5 [])] [yb6 24,xN 25 24,ya0 26] 2 c_226_l0 c_226_k1)) c_226_k2)
def c_226_l4:Xv:=ydj [xB 47 .lss 46 45] 47 4 5 [xX 48 2 44 46,ycj 49 48,yd8 10 yaz (.Xu 1 []),yes 10 49] [10] (xD [yfe 50,xL 51 50,ycj 52 10,yb2 53 f_290 52,xO 54 (.bslice .imm 2 (List.replicate 1 [.int .i64 0,.Xu 1 []]) [(0,(.t 53))]),ycc 55 .row 2 32 51 54,yfe 56,ydl 56 55]) [yb0 57 .add 46,xM 46 57]
def c_226_l5:Xv:=yd7 [xB 62 .lss 61 60] 62 6 7 (yaa [yc9 63 59 61,xL 64 63,xM 12 64] (xD [yd9 65 3,xL 66 65,xM 67 12,yb2 68 f_115 67,xO 69 (.bslice .imm 1 (List.replicate 1 [.Xu 1 []]) [(0,(.t 68))]),ycr 70 1 24 66 69,yd9 71 3,ydl 71 70])) [yb0 72 .add 61,xM 61 72]
def c_226_k6:Xv:=yck (yc1 73 3) (yc5 2 73)
def c_226_k7:Xv:=yb5 [yd9 58 1,xL 59 58,xN 60 59,ya0 61] 6 c_226_l5 c_226_k6
def c_226_k8:Xv:=yb5 [yc4 43 1,xL 44 43,xN 45 44,ya0 46] 4 c_226_l4 c_226_k7
def c_226:AFn:=⟨1,[.cell 2 true 4],ydx (ycx 1 0) (yb3 2 (.Xu 1 []) (.Xu 1 []) (.Xu 2 []) (.Xu 1 [])) (ydg [yez 13,xL 14 13,ya6 15 f_113 [.t 14],xO 16 (.build [.Xu 1 [],.Xu 1 [],.Xu 2 [],.Xu 1 []] [(1,1,(.t 15))]),yb3 3 (.Xu 1 []) (.Xu 1 []) (.Xu 2 []) (.Xu 1 []),yc5 3 16] [ybf 17 1,xL 18 17,xN 19 18,ya0 20] c_226_l3 c_226_k8)⟩
def c_228:AFn:=⟨1,[.tmp 2],ydr [ybq 2] [ybu 3,xO 4 (.slen (.t 3)),ycq 5 .eql 4,yb6 6,yay 7 6 0,yac 8 6 (.slen (.t 7)),yb7 9 6 .gtr 8 16,xW 10 6 9,xM 11 10,yay 12 11 0,yac 13 11 (.idxs (.t 12) (.c yaz)),yde 14 11 f_299 [.t 13],yev 15 11 14,xW 16 11 15] 16 [ybq 2] [ybu 17,ybj 18 f_300 17 (.c (.func (.func f_301) [] [])),ybu 19,xO 20 (.slen (.t 19)),xB 21 .eql 18 20,xM 2 21]⟩
def c_235_l0:Xv:=ydj [xB 15 .lss 14 13] 15 0 1 [xM 16 14,xX 17 3 12 14,xA 18 3 17,yap 9 [yaz,yaz,yaz],yd0 16,xS 3 9 18] [9] (ya5 [ydd 19,ybf 20 9,ycj 21 20,ybk 22 f_246 19 21,xM 10 22] [xM 23 10,ycq 24 .eql 23] 24 [ycd 25,ycz 25,xI 5 8] (yae [yc4 26 9,xL 27 26] (.block 2 (ydx (xK 30 .eql 27 2) (xM 29 30) (yab 29 (yfb (ycu 31) (yb0 32 .add 31) (ydn 32)) (yae [yb0 34 .eql 27,xM 33 34] (yab 33 .skip (xR [xK 35 .eql 27 3,xM 33 35])) (yab 33 .skip (yad [ycd 28,ycz 28,xI 5 11])))))) (xR [yc0 36,xM 37 10,xB 38 .add 36 37,yd1 38]))) [yb0 39 .add 14,xM 14 39]
def c_235_k1:Xv:=yb9 [ycu 40,yb0 41 .gtr 40] 41 [yd6 (-2),xI 5 7] (yb9 [yc0 42,xK 43 .gtr 42 64] 43 [yd6 (-2),xI 5 10] (yck ycf ydc))
def c_235:AFn:=⟨2,[.tmp 4,.tmp 5],yew [yc2,yeq,ycf,ydc] [yct,yed] [ydq 11,xL 12 11,xN 13 12,ya0 14] c_235_l0 c_235_k1⟩
def c_236_l0:Xv:=yd7 [xB 13 .lss 12 11] 13 0 1 (ye8 [yc9 14 10 12,xL 15 14,yd1 15] [yc0 16,ycq 17 .lss 16,xM 18 17,yay 19 18 7,ya3 20 18 4 2,ycb 21 18 20,ybw 22 18 21,ycm 23 18 .geq 19 22,xW 24 18 23] 24 (yd6 8) (yb9 [yb6 25,yc0 26,xO 27 (.lookup .i (.bool false) false (.t 25) (.t 26))] 27 [yd6 7] (yfb (yb6 28) (yc0 29) ⟨none,none,.update .i (.t 28) (.t 29) (.c (.bool true))⟩))) [yb0 30 .add 12,xM 12 30]
def c_236_k1:Xv:=yb9 [yb6 31,yd9 32 3,ybf 33 32,xL 34 33,xO 35 (.lookup .i (.bool false) false (.t 31) (.t 34)),ybo 36 35] 36 [yd6 8] (yad [ydd 37,yd9 38 3,ycj 39 38,ybk 40 f_187 37 39,ycz 40])
def c_236:AFn:=⟨2,[.tmp 4],yew [yc2,yeq,ycf] [xO 8 .mkmap,ycd 5] [yfe 9,xL 10 9,xN 11 10,ya0 12] c_236_l0 c_236_k1⟩
def c_245:AFn:=⟨2,[.tmp 4],ydx yc2 yeh (ybt [ydd 8,ybg 9,ybk 10 f_179 8 9,yd1 10,yei 11 7,yej 12 7,ycv 11,ydn 12] [ycu 13,ycq 14 .eql 13,ycz 14])⟩
def c_246:AFn:=⟨2,[.tmp 4],ydi [yc2,yeq,ycf] [ydd 6,yc6 7,xL 8 7,ybk 9 f_314 6 8,ydq 10,xL 11 10,ybk 12 f_313 9 11,xO 13 (.fld false 1 1 (.t 12)),ycv 13] (yb9 [yb6 14,yb2 15 f_133 14,yee 16 .eql 15 (ybz 0)] 16 [ycf] (yec 17 17))⟩
def c_247:AFn:=⟨2,[.tmp 4],ybt [yeh] [ybg 5,xO 6 (.bslice .imm 1 (List.replicate 1 [.int .i64 0]) [(0,(.t 5))]),yb2 7 f_189 6,yc0 8,ya7 9 8 0,ya7 10 8 1,ydm 11 8 f_133 [.t 10],yd2 12 8 .leq 9 11,xV 13 8 12,ycz 13]⟩
def c_248_l0:Xv:=yd7 [xB 14 .lss 13 12] 14 0 1 (ydx (xM 15 13) (ydn 15) (yba [ycu 16,ybg 17,ybk 18 f_315 16 17,ybu 19,xB 20 .eql 18 19] 20 [ycu 21,ycz 21,yeo 5])) [yb0 22 .add 13,xM 13 22]
def c_248_k1:Xv:=yck ycf (ybq 5)
def c_248:AFn:=⟨2,[.tmp 4,.tmp 5],ya5 [ycf,ybq 5] [ybg 7,xO 8 (.bslice .imm 1 (List.replicate 1 [.int .i64 0]) [(0,(.t 7))]),yb2 9 f_189 8,ybo 10 9] 10 [ycf,ybq 5] (yb5 [ybg 11,yb0 12 .add 11,ya0 13] 0 c_248_l0 c_248_k1)⟩
def c_249_l0:Xv:=ydz [ycd 17,yer 18,xL 19 18,xN 20 19,xB 21 .lss 17 20] 21 0 1 (yba [yer 24,xL 25 24,ycd 26,xX 27 2 25 26,ycj 28 27,yb2 29 f_198 28,ycq 30 .neq 29] 30 [yd6 2]) (ycd 22) 23 .add 22 (yd0 23)
def c_249_k1:Xv:=yb9 [ybg 31,xN 32 31,xK 33 .gtr 32 512] 33 [yd6 4] (yfa ycf)
def c_249:AFn:=⟨2,[.tmp 4],ydx yc2 ycf (ye8 [ydd 10,yb2 11 f_212 10,yef 11,yei 12 9,yej 13 9,xE 14 2 9,ycv 12,ydn 13,yd1 14] [yc0 15,ycq 16 .neq 15] 16 (yd6 2) (yb5 [ya0 8] 0 c_249_l0 c_249_k1))⟩
def c_251:AFn:=⟨1,[.cell 2 true 2],yaa [ye0 2 (.Xu 1 [])] (ybt [ycp 3 1] [ycz 3,ybu 5,ycr 6 1 1 4 5,xO 7 (.build [.Xu 1 [],.int .i64 0] [(0,1,(.t 6))]),yes 2 7])⟩
def c_252_l0:Xv:=ydz [xM 16 11,ybl 17 5,xL 18 17,xN 19 18,xB 20 .lss 16 19] 20 0 1 (yax [ybl 23 5,xL 24 23,xM 25 11,yc9 26 24 25,xL 27 26,xM 12 27] (ybx [(1,11),(4,11),(5,11),(6,11)] [⟨some 29,none,.faddr 1 (.t 4)⟩,⟨some 30,none,.load false 1 (.t 29)⟩,⟨some 31,none,.mov (.t 12)⟩,⟨some 32,none,.iaddr 2 none (.t 30) (.t 31)⟩,⟨some 33,none,.load true 2 (.t 32)⟩,⟨some 34,none,.load true 2 (.t 7)⟩,⟨some 35,none,.pcall f_316 [.t 33,.t 34]⟩,⟨some 28,none,.mov (.t 35)⟩,⟨some 36,none,.ext 0 (.t 28)⟩,⟨some 37,none,.ext 1 (.t 28)⟩,⟨some 38,none,.ext 2 (.t 28)⟩,⟨some 13,none,.alloc [.Xu 1 [],.int .i64 0]⟩,⟨none,none,.store 2 (.t 13) (.t 36)⟩,⟨some 14,none,.mov (.t 37)⟩,⟨some 15,none,.mov (.t 38)⟩] (some [13])) (yae [xM 39 15,ycq 40 .neq 39] (ycl 40 (ydo [(1,3)] [⟨some 41,none,.load true 4 (.t 6)⟩,⟨some 42,none,.load true 2 (.t 7)⟩,⟨some 43,none,.mov (.t 15)⟩,⟨none,none,.store 4 (.t 8) (.t 41)⟩,⟨none,none,.store 2 (.t 9) (.t 42)⟩,⟨some 10,none,.mov (.t 43)⟩] none .ret)) (ydx (ycj 44 13) (yes 7 44) (ycn [yc1 45 6,ya6 46 f_191 [.t 45],yfd 46] [ybf 47 6,xL 48 47,xM 49 12,yc9 50 48 49,⟨none,none,.store 1 (.t 50) (.c (.bool true))⟩] (xR [ybl 51 6,xL 52 51,xM 53 12,xM 54 14,yc9 55 52 53,ydl 55 54]))))) (xM 21 11) 22 .add 21 (xM 11 22)
def c_252_k1:Xv:=ydo [(1,2)] [⟨some 56,none,.load true 4 (.t 6)⟩,⟨some 57,none,.load true 2 (.t 7)⟩,⟨none,none,.store 4 (.t 8) (.t 56)⟩,⟨none,none,.store 2 (.t 9) (.t 57)⟩,⟨some 10,none,.mov (.c (.int .i64 0))⟩] none .ret
def c_252:AFn:=⟨4,[.cell 8 true 4,.cell 9 true 2,.tmp 10],ydg [yce 4,yep 5,ycx 6 2,ycx 7 3,yb3 8 (.Xu 1 []) (.Xu 1 []) (.Xu 1 []) (.Xu 1 []),ye0 9 (.Xu 1 []),ya0 10] [ya0 11] c_252_l0 c_252_k1⟩
def c_253_l0:Xv:=yex [yb6 6,yet 7 2,xL 8 7,xN 9 8,xB 10 .lss 6 9,xM 11 10,ybs 12 11 2 2,ydb 13 11 12,xV 14 11 13] 14 0 1 (xD [yc1 17 3,yd9 18 2,ycj 19 18,ybk 20 f_260 17 19,yet 21 2,xL 22 21,yb6 23,xX 24 3 22 23,ybl 25 24,xL 26 25,xB 27 .and 20 26,yet 28 2,xL 29 28,yb6 30,xX 31 3 29 30,ybf 32 31,xL 33 32,xB 34 .eql 27 33]) (yak 34 [yet 35 2,xL 36 35,yb6 37,xX 38 3 36 37,yc4 39 38,xL 40 39,ycz 40]) [yb6 15,yb0 16 .add 15,ycv 16]
def c_253_k1:Xv:=yad [xF 41 6 2,xL 42 41,ycz 42]
def c_253:AFn:=⟨2,[.tmp 4],ydg [yc2,yeq,ycf] [ydc] c_253_l0 c_253_k1⟩
def c_254:AFn:=⟨1,[.tmp 2,.tmp 3],ya5 [yce 1,xC 2 (.Xu 1 []),ya0 3] [yez 5,xL 6 5,xK 7 .rem 6 8,ycq 8 .neq 7] 8 [xC 2 (.Xu 1 []),xI 3 10] (ybt [ycp 4 1] [yef 4,ybf 10 1,xL 11 10,yez 12,xL 13 12,xK 14 .quo 13 8,xO 15 (.slc 1 (.t 11) (some (.t 14)) none none),ycr 16 1 1 9 15,xM 2 16,ya0 3])⟩
def c_257_l0:Xv:=ydz [yc7 27,ycq 28 .geq 27] 28 1 2 (xR [ycd 31,ybg 32,yc7 33,xB 34 .shr 32 33,yee 35 .rem 34 (ybz 2),yee 36 .eql 35 (ybz 1),xO 37 (.bslice .imm 1 (List.replicate 1 [.bool false]) [(0,(.t 36))]),ycr 38 1 1 31 37,yd0 38]) (yc7 29) 30 .sub 29 (yef 30)
def c_257_k1:Xv:=yad [ycd 39,xO 40 (.build [.Xu 1 []] [(0,1,(.t 39))]),ydl 6 40,yed]
def c_257:AFn:=⟨3,[.cell 6 true 1,.tmp 7],yaa [yel,yap 6 [.Xu 1 []],yed] (yds 0 [yc8 11,yb2 12 f_317 11,ybo 13 12,xM 10 13] 10 [xA 14 1 3,ydl 6 14,xI 7 10] (yba [ybg 16,yc8 17,ybk 18 f_220 16 17,ybo 19 18,xM 15 19] 15 [xA 20 1 3,ydl 6 20,xI 7 9]) (yaa [ycp 8 1] (ybd [ycd 21,yc6 22,xL 23 22,ycr 24 1 1 21 23,yd0 24] [yc8 25,yb0 26 .sub 25,yef 26] 1 c_257_l0 c_257_k1)))⟩
def c_260:AFn:=⟨2,[.tmp 4],ye8 [yc2,yeq,ydp 4 0] [yc1 5 2,ycj 6 3,ybk 7 f_193 5 6,ybo 8 7] 8 (ydp 4 0) (yb9 [yc6 9,xL 10 9,xK 11 .eql 10 (-1)] 11 [yc4 12 2,xL 13 12,ydq 14,xL 15 14,yc9 16 13 15,xL 17 16,ycz 17] (yb9 [yc1 18 2,yc6 19,xL 20 19,ybk 21 f_194 18 20,ybo 22 21] 22 [ydp 4 0] (yca [yer 23,xL 24 23,yc6 25,xL 26 25,yc9 27 24 26,xL 28 27,ydq 29,xL 30 29,yc9 31 28 30,xL 32 31,ycz 32] .ret)))⟩
def c_264_l0:Xv:=yex [xM 14 12,yc8 15,xN 16 15,xB 17 .lss 14 16,xM 18 17,ya7 19 18 1,ycs 20 18 .geq 19 yaz,xV 21 18 20,xM 22 21,ya7 23 22 1,ybs 24 22 5 4,ydb 25 22 24,yeg 26 22 25,yd2 27 22 .lss 23 26,xV 28 22 27] 28 0 1 (xD [yc8 31,xM 32 12,xX 33 5 31 32,ybl 34 33,yc1 35 34,xM 36 3,ybk 37 f_327 35 36,xM 38 37,ya7 39 38 11,yaj 40 38 (ya9 39),ya7 41 38 40,ydh 42 41 9 4,yay 43 41 1,yay 44 41 2,yay 45 41 12,yac 46 41 (yc3 5 44 45),ydh 47 41 5 46,ydh 48 41 5 10,yde 49 41 f_328 [.t 42,.t 43,.t 47,.t 48],yaj 50 38 (yek 41 (.c yco) (.t 49)),xV 51 38 50]) (ycl 51 (yaa [yc8 52,xM 53 12,xX 54 5 52 53,xA 55 5 54,xS 5 10 55] (xR [yeo 11]))) [xM 29 12,yb0 30 .add 29,xM 12 30]
def c_264_k1:Xv:=yad [xA 56 5 10,xM 57 11,xS 5 8 56,yef 57]
def c_264:AFn:=⟨4,[.cell 8 true 5,.tmp 9],ycn [yce 4,yap 8 [yaz,.Xu 2 [],yaz,yaz,.Xu 1 []],ybq 9] [xO 13 (.build [.int .i64 0,.Xu 2 [],.int .i64 0,.int .i64 0,.Xu 1 []] []),yap 10 [yaz,.Xu 2 [],yaz,yaz,.Xu 1 []],xS 5 10 13] (ydg [ybq 11] [ya0 12] c_264_l0 c_264_k1)⟩
def c_266:AFn:=⟨2,[.cell 4 true 10],ydi [yc2,yap 4 [.str [],.Xu 2 [],.Xu 2 [],.Xu 3 [],.Xu 3 [],.Xu 6 [],.Xu 7 [],.Xu 5 [],.Xu 1 [],.Xu 2 []]] [ydd 5,xF 6 4 2,xL 7 6,ybg 8,xX 9 3 7 8,ybl 10 9,xL 11 10,xO 12 (.build [.str [],.Xu 2 [],.Xu 2 [],.Xu 3 [],.Xu 3 [],.Xu 6 [],.Xu 7 [],.Xu 5 [],.Xu 1 [],.Xu 2 []] [(0,9,(.t 5)),(9,1,(.t 11))]),xS 10 4 12] .ret⟩
def c_267:AFn:=⟨3,[.cell 6 true 4],ydr [yel,yep 4,yb3 6 (.Xu 1 []) (.Xu 1 []) (.Xu 1 []) (.Xu 1 [])] [yc8 7,ycq 8 .lss 7,ycd 9,yay 10 9 2,yem 11 9 3,ycb 12 9 11,ybw 13 9 12,ycm 14 9 .geq 10 13,xW 15 9 14,xM 16 15,yay 17 16 2,ya3 18 16 0 4,ycb 19 16 18,ybw 20 16 19,ycm 21 16 .geq 17 20,xW 22 16 21,xM 23 22,ya3 24 23 0 4,ycb 25 23 24,yay 26 23 2,yac 27 23 (yc3 1 25 26),ycb 28 23 27,xW 29 23 28] 29 [yc1 30 4,yb2 31 f_191 30,yfd 31] [yc1 32 4,yc8 33,ydu 34 f_329 32 (.t 33) (.c yco),yfd 34]⟩
def c_268:AFn:=⟨3,[.cell 6 true 4],ydr [yel,yep 4,yb3 6 (.Xu 1 []) (.Xu 1 []) (.Xu 1 []) (.Xu 1 [])] [yc8 7,ycq 8 .lss 7,ycd 9,yay 10 9 2,yem 11 9 3,ycb 12 9 11,ybw 13 9 12,ycm 14 9 .geq 10 13,xW 15 9 14,xM 16 15,yay 17 16 2,ya3 18 16 0 4,ycb 19 16 18,ybw 20 16 19,ycm 21 16 .geq 17 20,xW 22 16 21] 22 [yc1 23 4,yb2 24 f_191 23,yfd 24] [yc1 25 4,yc8 26,ydu 27 f_329 25 (.t 26) (.c yat),yfd 27]⟩
def c_269:AFn:=⟨4,[.tmp 8],ydr [yce 4,ydp 8 0] [ych 9 4,ybg 10,yc8 11,xM 12 3,yfc 13 f_330 9 10 11 12,ybo 14 13] 14 [ydp 8 0] [ybg 15,yc8 16,yc9 17 15 16,xL 18 17,xM 19 3,yc9 20 18 19,xL 21 20,yd0 21]⟩
def c_270_l0:Xv:=ydz [xM 15 12,ybg 16,xN 17 16,xB 18 .lss 15 17] 18 0 1 (xR [xM 21 11,xO 22 (.bslice .imm 1 [] []),ybg 23,xM 24 12,yc9 25 23 24,xL 26 25,ycc 27 .row 1 4 22 26,xO 28 (.bslice .row 1 (List.replicate 1 [.Xu 1 []]) [(0,(.t 27))]),ycc 29 .row 1 24 21 28,xM 11 29]) (xM 19 12) 20 .add 19 (xM 12 20)
def c_270_l1:Xv:=ydz [xM 46 14,yd9 47 5,xL 48 47,yc8 49,xX 50 3 48 49,ybl 51 50,xL 52 51,xB 53 .lss 46 52] 53 2 3 (yfb (xM 56 13) (xO 57 (.bin .mul (.c (yey 2)) (.t 56))) (xM 13 57)) (xM 54 14) 55 .add 54 (xM 14 55)
def c_270_k2:Xv:=yca [xM 58 11,yc8 59,yc9 60 58 59,xL 61 60,xM 62 3,xM 63 4,xO 64 (yd3 .u64 63),xM 65 13,xB 66 .rem 64 65,xO 67 (yd3 .u32 66),yc9 68 61 62,ydl 68 67] (yck (xM 69 11) (xM 10 69))
def c_270_k3:Xv:=yb9 [ych 30 5,ybg 31,yc8 32,xM 33 3,yfc 34 f_330 30 31 32 33,ybo 35 34,xM 36 35,ya3 37 36 3 5,ycb 38 36 37,yay 39 36 2,yac 40 36 (yc3 3 38 39),ydh 41 36 3 40,yde 42 36 f_151 [.t 41],ybn 43 36 .eql 42 yaz,xW 44 36 43] 44 [xM 45 11,xM 10 45] (ybd [xC 13 (yey 1)] [ya0 14] 2 c_270_l1 c_270_k2)
def c_270:AFn:=⟨5,[.tmp 10],ydx (yce 5) (xC 10 (.Xu 1 [])) (ydg [xC 11 (.Xu 1 [])] [ya0 12] c_270_l0 c_270_k3)⟩
def c_271:AFn:=⟨1,[.tmp 2],ybt [ybq 2] [ybu 3,yee 4 .geq 3 (yd4 97),ycv 4,ya7 6 5 0,ycs 7 5 .leq 6 (yd4 122),xV 8 5 7,ycd 9,yay 10 9 0,ybn 11 9 .geq 10 (yd4 65),yay 12 9 11,ya7 13 12 0,ycs 14 12 .leq 13 (yd4 90),yac 15 9 (yek 12 (.t 14) (.c yat)),xW 16 9 15,xM 2 16]⟩
def c_272:AFn:=⟨1,[.tmp 2],ybt [ybq 2] [ybu 3,yee 4 .geq 3 (yd4 48),ycv 4,ya7 6 5 0,ycs 7 5 .leq 6 (yd4 57),xV 8 5 7,ycd 2]⟩
def c_275_l0:Xv:=yex [ycd 11,ydq 12,xL 13 12,xN 14 13,xB 15 .lss 11 14] 15 0 1 (xD [ydd 18,ydq 19,xL 20 19,ycd 21,xX 22 3 20 21,ybf 23 22,ycj 24 23,ybk 25 f_282 18 24,yef 25]) (yaa [ydq 26,xL 27 26,ycd 28,xX 29 3 27 28,yc4 30 29,xL 31 30,xM 10 31] (ya1 2 (yby [yc7 33,ycq 34 .eql 33,xM 32 34] 32 [ycd 35,ycz 35,xI 5 8] (yby [xM 37 10,yb0 38 .neq 37,xM 39 38,ya7 40 39 10,ycs 41 39 .neq 40 (yag 2),xV 42 39 41,xM 43 42,ya7 44 43 10,ycs 45 43 .neq 44 (yag 3),xV 46 43 45,xM 36 46] 36 [ycd 47,ycz 47,xI 5 11] (yaa [xM 49 10,xK 50 .eql 49 2,xM 48 50] (ycl 48 (yfb (yc0 51) (yb0 52 .add 51) (yd1 52)))))) [ycu 53,yc7 54,xB 55 .add 53 54,ydn 55])) [ycd 16,yb0 17 .add 16,yd0 17]
def c_275_k1:Xv:=yds 3 [yc0 57,yb0 58 .gtr 57,xM 56 58] 56 [yd6 (-2),xI 5 7] (yba [ycu 60,xK 61 .gtr 60 64,xM 59 61] 59 [yd6 (-2),xI 5 10]) (yck ycf ydc)
def c_275:AFn:=⟨2,[.tmp 4,.tmp 5],ycn [yc2,yeq,ycf,ydc] [yct] (ydg [yed] [ya0 8] c_275_l0 c_275_k1)⟩
def c_276_l0:Xv:=ydz [yb6 6,yfe 7,xL 8 7,xN 9 8,xB 10 .lss 6 9] 10 0 1 (.block 2 (yca [yfe 14,xL 15 14,yb6 16,yc9 17 15 16,xL 18 17,ycq 19 .lss 18,xM 20 19,ya3 21 20 2 3,ycb 22 20 21,yay 23 20 5,yac 24 20 (yc3 1 22 23),ycb 25 20 24,ya3 26 20 4 2,ycb 27 20 26,ybw 28 20 27,ycm 29 20 .geq 25 28,xW 30 20 29,xM 13 30] (yah 13 [yd6 8] (yca [yfe 32,xL 33 32,yfe 34,xL 35 34,yb6 36,yc9 37 35 36,xL 38 37,ybk 39 f_219 33 38,yb6 40,xB 41 .lss 39 40,xM 31 41] (yak 31 [yd6 7]))))) (yb6 11) 12 .add 11 (ycv 12)
def c_276_k1:Xv:=yb9 [yfe 42,xL 43 42,yd9 44 3,ybf 45 44,xL 46 45,ybk 47 f_219 43 46,ycq 48 .lss 47] 48 [yd6 8] (yad [ydd 49,yd9 50 3,ycj 51 50,ybk 52 f_149 49 51,ycz 52])
def c_276:AFn:=⟨2,[.tmp 4],ydg [yc2,yeq,ycf] [ydc] c_276_l0 c_276_k1⟩
def c_282:AFn:=⟨2,[.tmp 4],yaa [yc2,yeq,ycf] (yaq [yc4 6 2,xL 7 6,ycv 7] [yc6 8,xL 9 8,ycq 10 .geq 9] (ycl 10 (yb9 [yc6 11,xL 12 11,yer 13,xL 14 13,xN 15 14,xB 16 .geq 12 15] 16 [ycf] (xR [yer 17,xL 18 17,yc6 19,xL 20 19,xX 21 2 18 20,ybl 22 21,xL 23 22,ycv 23]))) (yb9 [yc6 24,xL 25 24,xK 26 .lss 25 (-1),xM 27 26,yem 28 27 3,ycb 29 27 28,ybn 30 27 .lss 29 yaz,xW 31 27 30,xM 32 31,yem 33 32 3,ycb 34 32 33,yay 35 32 5,ybw 36 32 35,ycm 37 32 .geq 34 36,xW 38 32 37,xM 39 38,yay 40 39 5,yem 41 39 3,ycb 42 39 41,yac 43 39 (yc3 2 40 42),yem 44 39 43,ycb 45 39 44,yb7 46 39 .lss 45 1,xW 47 39 46,xM 48 47,yay 49 48 5,yem 50 48 3,ycb 51 48 50,yac 52 48 (yc3 2 49 51),yem 53 48 52,ycb 54 48 53,yb7 55 48 .gtr 54 32,xW 56 48 55] 56 [ycf] (yad [yb6 57,ydq 58,xL 59 58,xX 60 2 57 59,ybl 61 60,xL 62 61,ycz 62])))⟩
def c_283_l0:Xv:=ydz [ycu 7,ybg 8,xB 9 .leq 7 8,yc7 10,ya7 11 10 1,ydm 12 10 f_285 [.t 11],xV 13 10 12] 13 0 1 (yba [ycu 16,ybg 17,ybk 18 f_336 16 17,ybu 19,xB 20 .eql 18 19] 20 [ycu 21,ycz 21,yeo 5]) (ycu 14) 15 .add 14 (ydn 15)
def c_283_k1:Xv:=yck ycf (ybq 5)
def c_283:AFn:=⟨2,[.tmp 4,.tmp 5],ydg [ycf,ybq 5] [yct] c_283_l0 c_283_k1⟩
def c_284:AFn:=⟨1,[.tmp 2],ydr [ydp 2 0] [ybu 3,yb2 4 f_285 3,ybo 5 4] 5 [ydp 2 0] [ybu 6,yb2 7 f_286 6,yee 8 .sub 7 (yey 1),xO 9 (yd3 .u32 8),yc7 2]⟩
def c_285:AFn:=⟨1,[.tmp 2],ybt [ybq 2] [ybu 3,yb0 4 .geq 3,ycv 4,ya7 6 5 0,ycs 7 5 .leq 6 (yag 32),xV 8 5 7,ycd 2]⟩
def c_286_l0:Xv:=ydz [ycv 4,ybu 6,xB 7 .lss 5 6] 7 0 1 (yfb (xM 10 3) (xO 11 (.bin .mul (.c (yey 2)) (.t 10))) (xM 3 11)) (yd0 4) 9 .add 8 (ycz 9)
def c_286_k1:Xv:=yck (xM 12 3) (xM 2 12)
def c_286:AFn:=⟨1,[.tmp 2],yew [xC 2 (yey 0)] [xC 3 (yey 1)] [ycf] c_286_l0 c_286_k1⟩
def c_287:AFn:=⟨1,[.cell 2 true 9],ydi [yce 1,yap 2 [.str [],.Xu 2 [],.Xu 2 [],.Xu 3 [],.Xu 3 [],.Xu 6 [],.Xu 7 [],.Xu 5 [],.Xu 1 []]] [ybf 3 1,xL 4 3,yez 5,xL 6 5,ybj 7 f_337 6 (.c (.func (.func f_338) [] [])),yc4 8 1,xL 9 8,yb2 10 f_339 9,yd9 11 1,xL 12 11,yb2 13 f_340 12,xF 14 4 1,xL 15 14,ybj 16 f_341 15 (.c (.func (.func f_342) [] [])),yet 17 1,xL 18 17,ybj 19 f_343 18 (.c (.func (.func f_344) [] [])),xF 20 6 1,xL 21 20,ybj 22 f_345 21 (.c (.func (.func f_346) [] [])),xF 23 7 1,xL 24 23,ybj 25 f_347 24 (.c (.func (.func f_348) [] [])),xF 26 8 1,xL 27 26,yb2 28 f_113 27,xO 29 (.build [.str [],.Xu 2 [],.Xu 2 [],.Xu 3 [],.Xu 3 [],.Xu 6 [],.Xu 7 [],.Xu 5 [],.Xu 1 []] [(0,1,(.t 4)),(1,1,(.t 7)),(2,1,(.t 10)),(3,1,(.t 13)),(4,1,(.t 16)),(5,1,(.t 19)),(6,1,(.t 22)),(7,1,(.t 25)),(8,1,(.t 28))]),xS 9 2 29] .ret⟩
def c_288_l0:Xv:=ydj [xB 23 .lss 22 21] 23 0 1 [xM 24 22,xX 25 5 20 22,xA 26 5 25,yap 5 [yaz,.Xu 2 [],yaz,yaz,.Xu 1 []],ycz 24,xS 5 5 26] [5] (xD [ybu 27,ybh 28 27,xF 29 13 28,xL 30 29,ybg 31,yc9 32 30 31,xL 33 32,ybf 34 5,xL 35 34,xM 36 4,⟨none,none,.update .i (.t 33) (.t 35) (.t 36)⟩]) [yb0 37 .add 22,xM 22 37]
def c_288:AFn:=⟨2,[],ycn [ybu 6,ybh 7 6,xF 8 13 7,xL 9 8,ybg 10,xO 11 .mkmap,yc9 12 9 10,ydl 12 11] [ybu 13,ybh 14 13,ybf 15 14,ybf 16 15,xL 17 16,ybg 18,yc9 19 17 18,xL 20 19,xN 21 20,ya0 22] (yal 0 c_288_l0)⟩
def c_289:AFn:=⟨3,[.tmp 6,.tmp 7],ydx yct yed (yds 0 [ybu 11,xO 12 (ye7 (.t 11) yd5),xM 13 12,yay 14 13 0,ye9 15 13 14,ya3 16 13 14 15,ycb 17 13 16,yev 18 13 17,xW 19 13 18,xM 10 19] 10 [yct,xI 7 1] (yba [ybu 21,ybg 22,ya6 23 f_349 [.t 21,.t 22],ybo 24 23,xM 20 24] 20 [yct,xI 7 8]) (ydr [ybu 26,ybh 27 26,xF 28 13 27,xL 29 28,ybg 30,yc9 31 29 30,xL 32 31,yc8 33,xO 34 (.lookup .i (.int .i64 0) true (.t 32) (.t 33)),xM 25 34,yei 35 25,yej 36 25,yd0 35,yef 36] [yc7 37,ybo 38 37] 38 [yct,xI 7 8] [ycd 39,ydn 39,yed]))⟩
def c_290:AFn:=⟨1,[.cell 2 true 2],ydi [yce 1,yd8 2 yaz (.Xu 1 [])] [ybf 3 1,xL 4 3,yez 5,xL 6 5,yb2 7 f_115 6,xO 8 (.build [.int .i64 0,.Xu 1 []] [(0,1,(.t 4)),(1,1,(.t 7))]),yes 2 8] .ret⟩
def c_291:AFn:=⟨3,[.tmp 6,.tmp 7],yaa [ycx 5 2,yct,yed] (yds 0 [ybu 11,xO 12 (ye7 (.t 11) yd5),xM 13 12,yay 14 13 0,ye9 15 13 14,ya3 16 13 14 15,ycb 17 13 16,yev 18 13 17,xW 19 13 18,xM 10 19] 10 [yct,xI 7 1] (yba [ybu 21,ybg 22,ya6 23 f_349 [.t 21,.t 22],ybo 24 23,xM 20 24] 20 [yct,xI 7 8]) (.seq (yca [ybu 25,ybh 26 25,xF 27 4 26,ych 28 27,ybg 29,yc1 30 5,ydw 31 f_127 28 29 30,yd0 31] (yba [ycd 32,ycq 33 .neq 32] 33 [ycd 34,yct,yd1 34])) (yb9 [ybu 35,ybh 36 35,ybf 37 36,ybf 38 37,xL 39 38,ybg 40,yc9 41 39 40,xL 42 41,xO 43 (.mkfunc (.func f_350) [] [.t 5]),ybk 44 f_128 42 43] 44 [yct,xI 7 7] (yax [ybu 45,ybh 46 45,ybf 47 46,ybl 48 47,xL 49 48,ybg 50,yc9 51 49 50,xL 52 51,yef 52] (yca [ybu 53,ybh 54 53,ybf 55 54,ybf 56 55,xL 57 56,ybg 58,yc9 59 57 58,xL 60 59,xN 61 60,ybu 62,ybh 63 62,xF 64 4 63,yet 65 64,xL 66 65,ybg 67,xX 68 6 66 67,yet 69 68,xL 70 69,xB 71 .geq 61 70,xM 72 71,yay 73 72 9,yb7 74 72 .geq 73 1073741824,xW 75 72 74] (yak 75 [yct,xI 7 13])) (yca [ybu 76,ybh 77 76,xF 78 13 77,xL 79 78,ybg 80,yc9 81 79 80,xL 82 81,yc7 83,ybu 84,ybh 85 84,ybf 86 85,ybf 87 86,xL 88 87,ybg 89,yc9 90 88 89,xL 91 90,xN 92 91,⟨none,none,.update .i (.t 82) (.t 83) (.t 92)⟩] (ydo [(4,19)] [⟨some 93,none,.mov (.t 0)⟩,⟨some 94,none,.nilchk (.t 93)⟩,⟨some 95,none,.faddr 0 (.t 94)⟩,⟨some 96,none,.faddr 0 (.t 95)⟩,⟨some 97,none,.load false 1 (.t 96)⟩,⟨some 98,none,.mov (.t 1)⟩,⟨some 99,none,.mov (.t 0)⟩,⟨some 100,none,.nilchk (.t 99)⟩,⟨some 101,none,.faddr 0 (.t 100)⟩,⟨some 102,none,.faddr 0 (.t 101)⟩,⟨some 103,none,.load false 1 (.t 102)⟩,⟨some 104,none,.mov (.t 1)⟩,⟨some 105,none,.iaddr 1 none (.t 103) (.t 104)⟩,⟨some 106,none,.load false 1 (.t 105)⟩,⟨some 107,none,.mov (.t 9)⟩,⟨some 108,none,.load true 4 (.t 5)⟩,⟨some 109,none,.pcall f_351 [.t 108]⟩,⟨some 110,none,.build [.int .i64 0,.Xu 2 [],.int .i64 0,.int .i64 0,.Xu 1 []] [(0,1,(.t 107)),(1,4,(.t 109))]⟩,⟨some 111,none,.bslice .imm 5 (List.replicate 1 [.int .i64 0,.Xu 2 [],.int .i64 0,.int .i64 0,.Xu 1 []]) [(0,(.t 110))]⟩,⟨some 112,none,.append .row 5 72 (.t 106) (.t 111)⟩,⟨some 113,none,.iaddr 1 none (.t 97) (.t 98)⟩,⟨none,none,.store 1 (.t 113) (.t 112)⟩] none (ybt [ybu 114,ybh 115 114,ybf 116 115,ybl 117 116,xL 118 117,ybg 119,yc9 120 118 119,xL 121 120,yb0 122 .add 121,yc9 123 118 119,ydl 123 122] [yc7 124,ydn 124,yed])))))))⟩
def c_292:AFn:=⟨3,[.tmp 6],yaa [yct] (yaq [ybu 10,ybg 11,yc8 12,ya6 13 f_289 [.t 10,.t 11,.t 12],yef 13,yei 14 9,yej 15 9,yd1 14,yd0 15] [ycd 16,ycq 17 .eql 16] (ycl 17 (ydo [(4,17)] [⟨some 18,none,.mov (.t 0)⟩,⟨some 19,none,.nilchk (.t 18)⟩,⟨some 20,none,.faddr 0 (.t 19)⟩,⟨some 21,none,.faddr 0 (.t 20)⟩,⟨some 22,none,.load false 1 (.t 21)⟩,⟨some 23,none,.mov (.t 1)⟩,⟨some 24,none,.mov (.t 0)⟩,⟨some 25,none,.nilchk (.t 24)⟩,⟨some 26,none,.faddr 0 (.t 25)⟩,⟨some 27,none,.faddr 0 (.t 26)⟩,⟨some 28,none,.load false 1 (.t 27)⟩,⟨some 29,none,.mov (.t 1)⟩,⟨some 30,none,.iaddr 1 none (.t 28) (.t 29)⟩,⟨some 31,none,.load false 1 (.t 30)⟩,⟨some 32,none,.mov (.t 7)⟩,⟨some 33,none,.mov (.t 7)⟩,⟨some 34,none,.bin .add (.t 33) (.c (.int .i64 1))⟩,⟨some 35,none,.tcall f_352 [.t 31,.t 32,.t 34]⟩,⟨some 36,none,.iaddr 1 none (.t 22) (.t 23)⟩,⟨none,none,.store 1 (.t 36) (.t 35)⟩] none (yfb (ybu 37) (ybg 38) (ya6 39 f_288 [.t 37,.t 38])))) (yck (ycd 40) (ydn 40)))⟩
def c_293:AFn:=⟨3,[.tmp 6],ydx (ycx 5 2) yct (yds 0 [ybu 9,xO 10 (ye7 (.t 9) yd5),xM 11 10,yay 12 11 0,ye9 13 11 12,ya3 14 11 14 13,ycb 15 11 14,yev 16 11 15,xW 17 11 16,yd0 17] 8 [xI 6 1] (yba [ybu 19,ybg 20,ya6 21 f_349 [.t 19,.t 20],ybo 22 21,xM 18 22] 18 [xI 6 8]) (yca [ybu 23,ybh 24 23,xF 25 4 24,ych 26 25,ybg 27,ycj 28 5,ydw 29 f_131 26 27 28,yd1 29] (yae [yc0 30,ycq 31 .eql 30] (ycl 31 (xD [ybu 32,ybh 33 32,ybf 34 33,yc4 35 34,xL 36 35,ybg 37,ycj 38 5,yb2 39 f_290 38,xX 40 2 36 37,yes 40 39])) (yck (yc0 41) (ydn 41)))))⟩
def c_294:AFn:=⟨1,[.cell 2 true 5],ydi [yce 1,yap 2 [yaz,.Xu 2 [],yaz,yaz,.Xu 1 []]] [ybf 3 1,xL 4 3,yez 5,yc1 6 5,yb2 7 f_351 6,xO 8 (.build [.int .i64 0,.Xu 2 [],.int .i64 0,.int .i64 0,.Xu 1 []] [(0,1,(.t 4)),(1,4,(.t 7))]),xS 5 2 8] .ret⟩
def c_299:AFn:=⟨1,[.tmp 2],ybt [ybq 2] [ybu 3,yee 4 .geq 3 (yd4 97),ycv 4,ya7 6 5 0,ycs 7 5 .leq 6 (yd4 122),xV 8 5 7,ycd 9,yay 10 9 0,ybn 11 9 .geq 10 (yd4 65),yay 12 9 11,ya7 13 12 0,ycs 14 12 .leq 13 (yd4 90),yac 15 9 (yek 12 (.t 14) (.c yat)),xW 16 9 15,xM 2 16]⟩
def c_300_l0:Xv:=ybb [yb6 6,ybu 7,xO 8 (.slen (.t 7)),xB 9 .lss 6 8,yc7 10,ya7 11 10 1,ya7 12 10 0,ya7 13 10 5,yaj 14 10 (.idxs (.t 12) (.t 13)),yaj 15 10 (yen 11 [.t 14]),xV 16 10 15] 16 0 (.block 1 (yfb (yb6 17) (yb0 18 .add 17) (ycv 18)))
def c_300_k1:Xv:=yec 19 19
def c_300:AFn:=⟨2,[.tmp 4],ycn [ycf] [ydc] (yai 0 (.loop c_300_l0) c_300_k1)⟩
def c_301:AFn:=⟨1,[.tmp 2],ybt [ybq 2] [ybu 3,yb2 4 f_299 3,ycv 4,yay 6 5 0,yde 7 5 f_302 [.t 6],xW 8 5 7,ycd 9,yay 10 9 0,ybn 11 9 .eql 10 (yd4 95),xW 12 9 11,xM 2 12]⟩
def c_302:AFn:=⟨1,[.tmp 2],ybt [ybq 2] [ybu 3,yee 4 .geq 3 (yd4 48),ycv 4,ya7 6 5 0,ycs 7 5 .leq 6 (yd4 57),xV 8 5 7,ycd 2]⟩
def c_313:AFn:=⟨2,[.cell 4 true 2],yaa [ye0 4 (.str [])] (ydr [ye0 5 (.str [])] [ybg 6,ycq 7 .lss 6,yc0 8,yay 9 8 1,yay 10 8 0,ybw 11 8 10,ycm 12 8 .geq 9 11,xW 13 8 12] 13 [ycj 14 5,yes 4 14] [ybu 15,ybg 16,xX 17 2 15 16,ycj 18 17,yes 4 18])⟩
def c_314:AFn:=⟨2,[.tmp 4],ydr [yc2,xC 4 (.Xu 2 [])] [ybg 5,xK 6 .eql 5 (-1)] 6 [yc4 7 2,xL 8 7,ycd 4] [yer 9,xL 10 9,ybg 11,ybk 12 f_357 10 11,xO 13 (.fld false 1 1 (.t 12)),ycz 13]⟩
def c_315:AFn:=⟨2,[.tmp 4],ydr [ydp 4 0] [ybg 5,xO 6 (.bslice .imm 1 (List.replicate 1 [.int .i64 0]) [(0,(.t 5))]),yb2 7 f_189 6,ybo 8 7] 8 [ydp 4 0] [ybg 9,yb2 10 f_133 9,ybg 11,yb2 12 f_133 11,ybu 13,xO 14 (.minmax true [.t 13,.c (.int .i64 0)]),ybg 15,xO 16 (.minmax false [.t 14,.t 15]),xB 17 .shr 12 16,xB 18 .andNot 10 17,ycz 18]⟩
def c_316_l0:Xv:=yex [yc7 27,yer 28,xL 29 28,xN 30 29,xB 31 .lss 27 30] 31 1 2 (ybx [(0,12),(2,12),(6,12),(7,12)] [⟨some 35,none,.load true 2 (.t 3)⟩,⟨some 36,none,.faddr 1 (.t 2)⟩,⟨some 37,none,.load false 1 (.t 36)⟩,⟨some 38,none,.mov (.t 9)⟩,⟨some 39,none,.iaddr 2 none (.t 37) (.t 38)⟩,⟨some 40,none,.faddr 1 (.t 39)⟩,⟨some 41,none,.load false 1 (.t 40)⟩,⟨some 42,none,.pcall f_360 [.t 35,.t 41]⟩,⟨some 34,none,.mov (.t 42)⟩,⟨some 43,none,.ext 0 (.t 34)⟩,⟨some 44,none,.ext 1 (.t 34)⟩,⟨some 45,none,.ext 2 (.t 34)⟩,⟨some 10,none,.alloc [.Xu 1 [],.int .i64 0]⟩,⟨none,none,.store 2 (.t 10) (.t 43)⟩,⟨some 11,none,.mov (.t 44)⟩,⟨some 12,none,.mov (.t 45)⟩] (some [10])) (ydx (ycj 46 10) (yes 3 46) (xR [ycd 47,xM 48 11,xO 49 (.bslice .imm 1 (List.replicate 1 [.int .u32 0]) [(0,(.t 48))]),ycr 50 1 4 47 49,yd0 50])) [yc7 32,yb0 33 .add 32,yef 33]
def c_316_k1:Xv:=yad [ycj 51 3,ycd 52,yes 4 51,ycv 52,yct]
def c_316:AFn:=⟨2,[.cell 4 true 2,.tmp 5,.tmp 6],ycn [yc2,ycx 3 1,ye0 4 (.Xu 1 []),xC 5 (.Xu 1 []),yct] [ycj 13 2,yb2 14 f_198 13,yd1 14] (yds 0 [yc0 16,ycq 17 .neq 16,xM 15 17] 15 [ycj 18 3,yc0 19,yes 4 18,xC 5 (.Xu 1 []),ydn 19] (yca [ycj 21 2,yb2 22 f_358 21,ycj 23 3,yb2 24 f_359 23,xB 25 .gtr 22 24,xM 20 25] (yak 20 [ycj 26 3,yes 4 26,xC 5 (.Xu 1 []),xI 6 3])) (ybd [ycp 8 1] [ya0 9] 1 c_316_l0 c_316_k1))⟩
def c_317:AFn:=⟨1,[.tmp 2],ybt [ybq 2] [ybu 3,yb0 4 .geq 3,ycv 4,ya7 6 5 0,ycs 7 5 .leq 6 (yag 32),xV 8 5 7,ycd 2]⟩
def c_327_l0:Xv:=yex [yb6 12,ybg 13,xN 14 13,xB 15 .lss 12 14] 15 0 1 (xD [ybg 18,yb6 19,yc9 20 18 19,xL 21 20,ybf 22 2,xL 23 22,yb6 24,xX 25 2 23 24,ybf 26 25,xL 27 26,xB 28 .xor 21 27,ybf 29 2,xL 30 29,yb6 31,xX 32 2 30 31,ybl 33 32,xL 34 33,xB 35 .and 28 34,yee 36 .neq 35 (ybz 0)]) (yak 36 [yeh]) [yb6 16,yb0 17 .add 16,ycv 17]
def c_327_k1:Xv:=yfa (yeo 4)
def c_327:AFn:=⟨2,[.tmp 4],ye8 [yc2,yeh] [ybf 6 2,xL 7 6,xN 8 7,ybg 9,xN 10 9,xB 11 .neq 8 10] 11 yeh (yb5 [ydc] 0 c_327_l0 c_327_k1)⟩
def c_328:AFn:=⟨4,[.tmp 8],ydi [yce 4,xJ 6 2,xJ 7 3,ybq 8] [ych 11 4,ybg 12,ybl 13 6,yc1 14 13,ydw 15 f_362 11 12 14,ych 16 4,ybg 17,ybl 18 7,yc1 19 18,ydw 20 f_362 16 17 19,yef 15,xM 10 20] (yds 0 [ybl 22 6,ybl 23 22,xL 24 23,ybl 25 7,ybl 26 25,xL 27 26,xB 28 .neq 24 27,xM 21 28] 21 [ybl 29 6,ybl 30 29,xL 31 30,ybl 32 7,ybl 33 32,xL 34 33,xB 35 .gtr 31 34,yd0 35] (yba [yc7 37,xM 38 10,xB 39 .neq 37 38,xM 36 39] 36 [yc7 40,xM 41 10,xB 42 .gtr 40 41,yd0 42]) (yad [ybf 43 6,xL 44 43,ybf 45 7,xL 46 45,xB 47 .lss 44 46,yd0 47]))⟩
def c_329:AFn:=⟨3,[.cell 6 true 4],yax [yel,yb3 6 (.Xu 1 []) (.Xu 1 []) (.Xu 1 []) (.Xu 1 [])] (xQ [yc1 8 3,ya6 9 f_191 [.t 8],yb3 7 (.Xu 1 []) (.Xu 1 []) (.Xu 1 []) (.Xu 1 []),yc5 7 9] [7]) (yaq [ybf 10 7,xL 11 10,ybg 12,yc8 13,yc9 14 11 12,ydl 14 13] [ybg 15,ybl 16 7,xL 17 16,xN 18 17,xB 19 .lss 15 18] (ycl 19 (ybx [(1,9)] [⟨some 20,none,.faddr 1 (.t 7)⟩,⟨some 21,none,.load false 1 (.t 20)⟩,⟨some 22,none,.mov (.t 1)⟩,⟨some 23,none,.faddr 1 (.t 7)⟩,⟨some 24,none,.load false 1 (.t 23)⟩,⟨some 25,none,.mov (.t 1)⟩,⟨some 26,none,.iaddr 1 none (.t 24) (.t 25)⟩,⟨some 27,none,.load false 1 (.t 26)⟩,⟨some 28,none,.len (.t 27)⟩,⟨some 29,none,.mkslice .row 1 4 [.int .u32 0] (.t 28) (.t 28)⟩,⟨some 30,none,.iaddr 1 none (.t 21) (.t 22)⟩,⟨none,none,.store 1 (.t 30) (.t 29)⟩] none)) (yck (yc1 31 7) (yfd 31)))⟩
def c_330:AFn:=⟨4,[.tmp 8],ybt [yce 4,ybq 8] [yc8 9,ycq 10 .geq 9,xM 11 10,ya7 12 11 2,ybs 13 11 3 4,ydb 14 11 13,yeg 15 11 14,yd2 16 11 .lss 12 15,xV 17 11 16,xM 18 17,ya7 19 18 2,ya7 20 18 1,yeg 21 18 20,yd2 22 18 .lss 19 21,xV 23 18 22,xM 24 23,ya7 25 24 3,yaj 26 24 (yd3 .i64 25),ybs 27 24 3 4,ydb 28 24 27,ya7 29 24 2,yeu 30 24 3 28 29,ybs 31 24 2 30,ydb 32 24 31,yd2 33 24 .lss 26 32,xV 34 24 33,xM 35 34,ya7 36 35 3,yaj 37 35 (yd3 .i64 36),ya7 38 35 1,ya7 39 35 2,yeu 40 35 1 38 39,ydb 41 35 40,yeg 42 35 41,yd2 43 35 .lss 37 42,xV 44 35 43,yd0 44]⟩
def c_336:AFn:=⟨2,[.tmp 4],ye8 [ydp 4 0] [ybg 5,yb2 6 f_285 5,ybo 7 6] 7 (ydp 4 0) (ybt [ybu 8,xO 9 (.minmax true [.t 8,.c (.int .i64 0)]),ybg 10,xO 11 (.minmax false [.t 9,.t 10]),xM 0 11] [ybg 12,yb2 13 f_286 12,ybg 14,ybu 15,xB 16 .sub 14 15,yb2 17 f_286 16,xB 18 .sub 13 17,xO 19 (yd3 .u32 18),ycz 19])⟩
def c_337_l0:Xv:=ydj [xB 11 .lss 10 9] 11 0 1 [xX 12 2 8 10,ycj 13 12,yd8 7 (.str []) (.Xu 2 []),yes 7 13] [7] (xR [yb6 14,ybg 15,ycj 16 7,xO 17 (yen 15 [.t 16]),xO 18 (.bslice .imm 2 (List.replicate 1 [.str [],.Xu 2 []]) [(0,(.t 17))]),ycr 19 2 40 14 18,ycv 19]) [yb0 20 .add 10,xM 10 20]
def c_337_k1:Xv:=yec 21 21
def c_337:AFn:=⟨2,[.tmp 4],yew [xC 4 (.Xu 2 [])] [ycp 5 2] [ybu 8,xN 9 8,ya0 10] c_337_l0 c_337_k1⟩
def c_338:AFn:=⟨1,[.cell 2 true 2],ydx (ycx 1 0) (yd8 2 (.str []) (.Xu 2 [])) (ybt [yez 3,xL 4 3,yb2 5 f_339 4,yez 6,ydl 6 5] [ycj 7 1,yes 2 7])⟩
def c_341_l0:Xv:=ydj [xB 11 .lss 10 9] 11 0 1 [xX 12 3 8 10,xA 13 3 12,yap 7 [.str [],.Xu 2 [],.Xu 7 []],xS 3 7 13] [7] (xR [yb6 14,ybg 15,xA 16 3 7,xO 17 (yen 15 [.t 16]),xO 18 (.bslice .imm 3 (List.replicate 1 [.str [],.Xu 2 [],.Xu 7 []]) [(0,(.t 17))]),ycr 19 3 64 14 18,ycv 19]) [yb0 20 .add 10,xM 10 20]
def c_341_k1:Xv:=yec 21 21
def c_341:AFn:=⟨2,[.tmp 4],yew [xC 4 (.Xu 3 [])] [ycp 5 3] [ybu 8,xN 9 8,ya0 10] c_341_l0 c_341_k1⟩
def c_342:AFn:=⟨1,[.cell 2 true 3],ydi [ycx 1 0,yap 2 [.str [],.Xu 2 [],.Xu 7 []]] [yez 3,xL 4 3,yb2 5 f_339 4,yc4 6 1,xL 7 6,ybj 8 f_364 7 (.c (.func (.func f_365) [] [])),yez 9,ydl 9 5,yc4 10 1,ydl 10 8] (yck (xA 11 3 1) (xS 3 2 11))⟩
def c_343_l0:Xv:=ydj [xB 11 .lss 10 9] 11 0 1 [xX 12 6 8 10,xA 13 6 12,yap 7 [.str [],.Xu 3 [],.Xu 1 [],yaz,.Xu 1 [],yaz],xS 6 7 13] [7] (xR [yb6 14,ybg 15,xA 16 6 7,xO 17 (yen 15 [.t 16]),xO 18 (.bslice .imm 6 (List.replicate 1 [.str [],.Xu 3 [],.Xu 1 [],.int .i64 0,.Xu 1 [],.int .i64 0]) [(0,(.t 17))]),ycr 19 6 104 14 18,ycv 19]) [yb0 20 .add 10,xM 10 20]
def c_343_k1:Xv:=yec 21 21
def c_343:AFn:=⟨2,[.tmp 4],yew [xC 4 (.Xu 6 [])] [ycp 5 6] [ybu 8,xN 9 8,ya0 10] c_343_l0 c_343_k1⟩
def c_344:AFn:=⟨1,[.cell 2 true 6],ydi [ycx 1 0,yap 2 [.str [],.Xu 3 [],.Xu 1 [],yaz,.Xu 1 [],yaz]] [yez 3,xL 4 3,yb2 5 f_366 4,yc4 6 1,xL 7 6,yb2 8 f_113 7,yd9 9 1,ybl 10 9,xL 11 10,yb2 12 f_115 11,yez 13,ydl 13 5,yc4 14 1,ydl 14 8,yd9 15 1,ybl 16 15,ydl 16 12] (yck (xA 17 6 1) (xS 6 2 17))⟩
def c_345_l0:Xv:=ydj [xB 11 .lss 10 9] 11 0 1 [xX 12 7 8 10,xA 13 7 12,yap 7 [.str [],.Xu 1 [],yat,yaz,yaz,.Xu 3 [],yaz],xS 7 7 13] [7] (xR [yb6 14,ybg 15,xA 16 7 7,xO 17 (yen 15 [.t 16]),xO 18 (.bslice .imm 7 (List.replicate 1 [.str [],.Xu 1 [],.bool false,.int .i64 0,.int .i64 0,.Xu 3 [],.int .i64 0]) [(0,(.t 17))]),ycr 19 7 96 14 18,ycv 19]) [yb0 20 .add 10,xM 10 20]
def c_345_k1:Xv:=yec 21 21
def c_345:AFn:=⟨2,[.tmp 4],yew [xC 4 (.Xu 7 [])] [ycp 5 7] [ybu 8,xN 9 8,ya0 10] c_345_l0 c_345_k1⟩
def c_346:AFn:=⟨1,[.cell 2 true 7],ydi [ycx 1 0,yap 2 [.str [],.Xu 1 [],yat,yaz,yaz,.Xu 3 [],yaz]] [yez 3,xL 4 3,yb2 5 f_113 4,yet 6 1,xL 7 6,yb2 8 f_367 7,yez 9,ydl 9 5,yet 10 1,ydl 10 8] (yck (xA 11 7 1) (xS 7 2 11))⟩
def c_347_l0:Xv:=ydj [xB 11 .lss 10 9] 11 0 1 [xX 12 5 8 10,xA 13 5 12,yap 7 [yaz,yaz,.Xu 3 [],.Xu 5 [],.Xu 5 []],xS 5 7 13] [7] (xR [yb6 14,ybg 15,xA 16 5 7,xO 17 (yen 15 [.t 16]),xO 18 (.bslice .imm 5 (List.replicate 1 [.int .i64 0,.int .i64 0,.Xu 3 [],.Xu 5 [],.Xu 5 []]) [(0,(.t 17))]),ycr 19 5 88 14 18,ycv 19]) [yb0 20 .add 10,xM 10 20]
def c_347_k1:Xv:=yec 21 21
def c_347:AFn:=⟨2,[.tmp 4],yew [xC 4 (.Xu 5 [])] [ycp 5 5] [ybu 8,xN 9 8,ya0 10] c_347_l0 c_347_k1⟩
def c_348:AFn:=⟨1,[.cell 2 true 5],ydi [ycx 1 0,yap 2 [yaz,yaz,.Xu 3 [],.Xu 5 [],.Xu 5 []]] [yc4 3 1,xL 4 3,yb2 5 f_368 4,yd9 6 1,xL 7 6,ybj 8 f_347 7 (.c (.func (.func f_348) [] [])),xF 9 4 1,xL 10 9,ybj 11 f_347 10 (.c (.func (.func f_348) [] [])),yc4 12 1,ydl 12 5,yd9 13 1,ydl 13 8,xF 14 4 1,ydl 14 11] (yck (xA 15 5 1) (xS 5 2 15))⟩
def c_349:AFn:=⟨2,[.tmp 4],ybt [yeh] [ybg 5,ycq 6 .geq 5,ycu 7,ya7 8 7 1,ya7 9 7 0,yaj 10 7 (yaw 9),ybs 11 7 0 10,ybs 12 7 0 11,ydb 13 7 12,yeg 14 7 13,yd2 15 7 .lss 8 14,xV 16 7 15,ycz 16]⟩
def c_350:AFn:=⟨2,[.tmp 3],ybt [ycx 2 0,ybq 3] [yer 4,yc1 5 4,yc1 6 1,ybk 7 f_130 5 6,yc0 3]⟩
def c_351:AFn:=⟨1,[.cell 2 true 4],ydi [yce 1,yff 2 (.Xu 2 []) yaz (.Xu 1 [])] [ybf 3 1,xL 4 3,yb2 5 f_114 4,yez 6,xL 7 6,yc4 8 1,ycj 9 8,yb2 10 f_290 9,xO 11 (.build [.Xu 2 [],.int .i64 0,.int .i64 0,.Xu 1 []] [(0,1,(.t 5)),(1,1,(.t 7)),(2,2,(.t 10))]),yc5 2 11] .ret⟩
def c_352:AFn:=⟨3,[.tmp 6],yaa [xC 6 (.Xu 5 [])] (ya5 [ybu 8,ybg 9,yc8 10,ybu 11,xN 12 11,xO 13 (.slcH 5 (.t 8) (some (.t 9)) (some (.t 10)) (some (.t 12)))] [ybg 14,yc8 15,xB 16 .eql 14 15] 16 [ybu 17,ydn 17] (ydi [ybu 18,xN 19 18,yd1 19] [ybu 20,ybg 21,xO 22 (.slc 5 (.t 20) none (some (.t 21)) none),ybu 23,yc8 24,xO 25 (.slc 5 (.t 23) (some (.t 24)) none none),ycr 26 5 72 22 25,xM 0 26] (ybt [ybu 27,ybu 28,xN 29 28,yc0 30,xO 31 (.slcH 5 (.t 27) (some (.t 29)) (some (.t 30)) none),⟨none,none,.clear [.int .i64 0,.Xu 2 [],.int .i64 0,.int .i64 0,.Xu 1 []] (.t 31)⟩] [ybu 32,ydn 32])))⟩
def c_357:AFn:=⟨2,[.cell 4 true 2],yaa [yd8 4 (.str []) (.Xu 2 [])] (ydr [yd8 5 (.str []) (.Xu 2 [])] [ybg 6,ycq 7 .lss 6,yc0 8,yay 9 8 1,yay 10 8 0,ybw 11 8 10,ycm 12 8 .geq 9 11,xW 13 8 12] 13 [ycj 14 5,yes 4 14] [ybu 15,ybg 16,xX 17 2 15 16,ycj 18 17,yes 4 18])⟩
def c_359:AFn:=⟨1,[.tmp 2],ybt [yce 1,ya0 2] [ybf 3 1,xL 4 3,xN 5 4,xO 6 (.bin .mul (ydf 8) (.t 5)),yez 7,xL 8 7,xB 9 .sub 6 8,yc7 2]⟩
def c_360_l0:Xv:=ydz [ycd 21,ybg 22,xB 23 .lss 21 22] 23 1 2 (ycn [ybf 26 2,xL 27 26,yer 28,xL 29 28,xK 30 .quo 29 8,yc9 31 27 30,xL 32 31,xO 33 (yd3 .u32 32),yef 33] [yc0 34,xO 35 (.bin .mul (.c (ybz 2)) (.t 34)),yc7 36,yer 37,xL 38 37,xK 39 .rem 38 8,xO 40 (.bin .sub (ydf 7) (.t 39)),xB 41 .shr 36 40,yee 42 .rem 41 (ybz 2),xB 43 .add 35 42,yd1 43] (xR [yer 44,xL 45 44,yb0 46 .add 45,yer 47,ydl 47 46])) (ycd 24) 25 .add 24 (yd0 25)
def c_360_k1:Xv:=yad [ycj 48 2,yc0 49,yes 4 48,ycv 49,yct]
def c_360:AFn:=⟨2,[.cell 4 true 2,.tmp 5,.tmp 6],yaa [ycx 2 0,ye0 4 (.Xu 1 []),ydp 5 0,yct] (yds 0 [ybg 11,yb2 12 f_317 11,ybo 13 12,xM 10 13] 10 [ycj 14 2,yes 4 14,ydp 5 0,xI 6 10] (yba [ybg 16,ycj 17 2,yb2 18 f_359 17,xB 19 .gtr 16 18,xM 15 19] 15 [ycj 20 2,yes 4 20,ydp 5 0,xI 6 3]) (ybd [ydp 7 0] [ya0 8] 1 c_360_l0 c_360_k1))⟩
def c_362_l0:Xv:=ydz [yc0 17,yet 18 3,xL 19 18,ybg 20,xX 21 6 19 20,ybl 22 21,xL 23 22,xN 24 23,xB 25 .lss 17 24] 25 0 1 (yaa [yet 28 3,xL 29 28,ybg 30,xX 31 6 29 30,ybl 32 31,xL 33 32,yc0 34,xX 35 3 33 34,yc4 36 35,xL 37 36,xK 38 .eql 37 2] (ycl 38 (yb9 [yc0 39,ybf 40 5,xL 41 40,xN 42 41,xB 43 .geq 39 42] 43 [yct] (yad [ybf 44 5,xL 45 44,yc0 46,xX 47 2 45 46,ybl 48 47,xL 49 48,yb2 50 f_372 49,ydn 50])))) (yc0 26) 27 .add 26 (yd1 27)
def c_362_k1:Xv:=yfa yct
def c_362:AFn:=⟨3,[.tmp 6],ye8 [yel,xJ 5 2,yct] [ybg 8,ycq 9 .lss 8,yc7 10,yay 11 10 1,ya3 12 10 5 3,ycb 13 10 12,ybw 14 10 13,ycm 15 10 .geq 11 14,xW 16 10 15] 16 yct (yb5 [yed] 0 c_362_l0 c_362_k1)⟩
def c_364_l0:Xv:=ydj [xB 11 .lss 10 9] 11 0 1 [xX 12 7 8 10,xA 13 7 12,yap 7 [yaz,yaz,yaz,yaz,yaz,.Xu 3 [],.Xu 3 []],xS 7 7 13] [7] (xR [yb6 14,ybg 15,xA 16 7 7,xO 17 (yen 15 [.t 16]),xO 18 (.bslice .imm 7 (List.replicate 1 [.int .i64 0,.int .i64 0,.int .i64 0,.int .i64 0,.int .i64 0,.Xu 3 [],.Xu 3 []]) [(0,(.t 17))]),ycr 19 7 88 14 18,ycv 19]) [yb0 20 .add 10,xM 10 20]
def c_364_k1:Xv:=yec 21 21
def c_364:AFn:=⟨2,[.tmp 4],yew [xC 4 (.Xu 7 [])] [ycp 5 7] [ybu 8,xN 9 8,ya0 10] c_364_l0 c_364_k1⟩
def c_365:AFn:=⟨1,[.cell 2 true 7],ydi [ycx 1 0,yap 2 [yaz,yaz,yaz,yaz,yaz,.Xu 3 [],.Xu 3 []]] [yet 3 1,xL 4 3,yb2 5 f_368 4,xF 6 6 1,xL 7 6,yb2 8 f_368 7,yet 9 1,ydl 9 5,xF 10 6 1,ydl 10 8] (yck (xA 11 7 1) (xS 7 2 11))⟩
def c_372_l0:Xv:=ydz [ycv 4,xK 6 .lss 5 32] 6 0 1 (yaa [yef 3,ybu 10,yee 11 .rem 10 (ybz 2),xO 12 (yd3 .i64 11),xB 13 .add 9 12,xM 3 13] (yfb (ybu 14) (yee 15 .quo 14 (ybz 2)) (xM 0 15))) (yd1 4) 8 .add 7 (ycd 4)
def c_372_k1:Xv:=yck (xM 16 3) (xM 2 16)
def c_372:AFn:=⟨1,[.tmp 2],yew [ya0 2] [ya0 3] [ycf] c_372_l0 c_372_k1⟩
def tabL:List (Nat×AFn):=[(f_5,c_5),
  (f_7,c_7),
  (f_9,c_9),
  (f_10,c_10),
  (f_14,c_14),
  (f_15,c_15),
  (f_16,c_16),
  (f_17,c_17),
  (f_18,c_18),
  (f_19,c_19),
  (f_20,c_20),
  (f_22,c_22),
  (f_28,c_28),
  (f_29,c_29),
  (f_33,c_33),
  (f_35,c_35),
  (f_36,c_36),
  (f_37,c_37),
  (f_38,c_38),
  (f_40,c_40),
  (f_41,c_41),
  (f_42,c_42),
  (f_43,c_43),
  (f_45,c_45),
  (f_64,c_64),
  (f_65,c_65),
  (f_66,c_66),
  (f_67,c_67),
  (f_68,c_68),
  (f_69,c_69),
  (f_70,c_70),
  (f_81,c_81),
  (f_82,c_82),
  (f_83,c_83),
  (f_84,c_84),
  (f_85,c_85),
  (f_89,c_89),
  (f_90,c_90),
  (f_91,c_91),
  (f_92,c_92),
  (f_93,c_93),
  (f_116,c_116),
  (f_127,c_127),
  (f_128,c_128),
  (f_129,c_129),
  (f_130,c_130),
  (f_131,c_131),
  (f_132,c_132),
  (f_133,c_133),
  (f_134,c_134),
  (f_135,c_135),
  (f_136,c_136),
  (f_138,c_138),
  (f_146,c_146),
  (f_147,c_147),
  (f_148,c_148),
  (f_149,c_149),
  (f_150,c_150),
  (f_151,c_151),
  (f_152,c_152),
  (f_154,c_154),
  (f_160,c_160),
  (f_179,c_179),
  (f_183,c_183),
  (f_184,c_184),
  (f_185,c_185),
  (f_186,c_186),
  (f_187,c_187),
  (f_188,c_188),
  (f_189,c_189),
  (f_190,c_190),
  (f_191,c_191),
  (f_192,c_192),
  (f_193,c_193),
  (f_194,c_194),
  (f_195,c_195),
  (f_197,c_197),
  (f_199,c_199),
  (f_200,c_200),
  (f_201,c_201),
  (f_204,c_204),
  (f_205,c_205),
  (f_206,c_206),
  (f_211,c_211),
  (f_214,c_214),
  (f_215,c_215),
  (f_216,c_216),
  (f_217,c_217),
  (f_218,c_218),
  (f_219,c_219),
  (f_220,c_220),
  (f_221,c_221),
  (f_222,c_222),
  (f_223,c_223),
  (f_225,c_225),
  (f_226,c_226),
  (f_228,c_228),
  (f_235,c_235),
  (f_236,c_236),
  (f_245,c_245),
  (f_246,c_246),
  (f_247,c_247),
  (f_248,c_248),
  (f_249,c_249),
  (f_251,c_251),
  (f_252,c_252),
  (f_253,c_253),
  (f_254,c_254),
  (f_257,c_257),
  (f_260,c_260),
  (f_264,c_264),
  (f_266,c_266),
  (f_267,c_267),
  (f_268,c_268),
  (f_269,c_269),
  (f_270,c_270),
  (f_271,c_271),
  (f_272,c_272),
  (f_275,c_275),
  (f_276,c_276),
  (f_282,c_282),
  (f_283,c_283),
  (f_284,c_284),
  (f_285,c_285),
  (f_286,c_286),
  (f_287,c_287),
  (f_288,c_288),
  (f_289,c_289),
  (f_290,c_290),
  (f_291,c_291),
  (f_292,c_292),
  (f_293,c_293),
  (f_294,c_294),
  (f_299,c_299),
  (f_300,c_300),
  (f_301,c_301),
  (f_302,c_302),
  (f_313,c_313),
  (f_314,c_314),
  (f_315,c_315),
  (f_316,c_316),
  (f_317,c_317),
  (f_327,c_327),
  (f_328,c_328),
  (f_329,c_329),
  (f_330,c_330),
  (f_336,c_336),
  (f_337,c_337),
  (f_338,c_338),
  (f_341,c_341),
  (f_342,c_342),
  (f_343,c_343),
  (f_344,c_344),
  (f_345,c_345),
  (f_346,c_346),
  (f_347,c_347),
  (f_348,c_348),
  (f_349,c_349),
  (f_350,c_350),
  (f_351,c_351),
  (f_352,c_352),
  (f_357,c_357),
  (f_359,c_359),
  (f_360,c_360),
  (f_362,c_362),
  (f_364,c_364),
  (f_365,c_365),
  (f_372,c_372)]
def tabD:List (Nat×ADFn):=[(f_80,c_80),
  (f_153,c_153)]
def tabC:List CloneD:=[⟨f_44,4,32,.app⟩,⟨f_46,3,24,.app⟩,⟨f_47,1,1,.app⟩,⟨f_113,1,8,.row⟩,⟨f_114,2,8,.app⟩,⟨f_115,1,4,.app⟩,⟨f_339,2,24,.app⟩,⟨f_340,3,32,.app⟩,⟨f_366,3,24,.app⟩,⟨f_367,3,16,.app⟩,⟨f_368,3,24,.app⟩]
def nilL:List (Nat×Nat):=[(f_30,3),(f_54,3),(f_58,3),(f_60,4),(f_65,6),(f_69,3),(f_72,3),(f_86,3),(f_120,5),(f_136,15),(f_138,14),(f_153,9),(f_164,5),(f_168,5),(f_171,5),(f_174,5),(f_177,5),(f_183,5),(f_190,10),(f_203,16),(f_214,5),(f_230,3),(f_251,3),(f_254,4),(f_257,8),(f_258,12),(f_265,8),(f_280,3),(f_295,13),(f_297,11),(f_316,8),(f_337,5),(f_341,5),(f_343,5),(f_345,5),(f_347,5),(f_364,5)]
def thr:List Nat:=[f_9,f_12,f_14,f_15,f_16,f_17,f_18,f_22,f_28,f_29,f_30,f_31,f_32,f_37,f_41,f_42,f_43,f_45,f_64,f_66,f_152,f_153,f_154,f_221,f_222,f_223,f_225,f_226,f_240,f_288,f_289,f_291,f_292,f_293,f_349,f_350,f_352]
def thrAt:List (Nat×Nat):=[(f_51,f_94),(f_51,f_95),(f_51,f_98),(f_95,f_98),(f_52,f_94),(f_22,f_44),(f_22,f_46),(f_93,f_36),(f_100,f_157),(f_135,f_191),(f_329,f_191),(f_226,f_113),(f_34,f_72),(f_252,f_191)]
def thrV:List Nat:=[f_240]
def rowAt:List (Nat×Nat):=[(f_270,27),(f_270,29),(f_22,60),(f_51,31),(f_98,10),(f_52,59),(f_36,8),(f_157,14),(f_191,26),(f_191,34),(f_291,112),(f_296,48),(f_298,41),(f_113,7),(f_191,9),(f_191,28)]
def thrVAt:List (Nat×Nat):=[(f_29,122),(f_29,148),(f_29,170),(f_29,191)]
def rowF:List Nat:=[f_226,f_28,f_37]
def rowFB:List Nat:=[f_28,f_37]
def appAt:List (Nat×Nat):=[(f_226,70)]
def immAt:List (Nat×Nat):=[(f_250,26),(f_58,27)]
def slcHL:List Nat:=[f_352]
def browAt:List (Nat×Nat):=[(f_270,28),(f_22,59),(f_191,27),(f_226,39)]
def boxiAt:List (Nat×Nat):=[(f_36,1),(f_157,1),(f_191,1),(f_9,3),(f_14,3),(f_221,2),(f_152,2),(f_152,3)]
def takeAt:List (Nat×Nat):=[(f_296,65)]
def boxiL:List (Nat×List Nat):=[(3,[3]),(4,[3]),(5,[3]),(6,[3,5]),(7,[3]),(10,[2,3]),(11,[2]),(13,[3]),(20,[2]),(21,[3,4]),(23,[3]),(25,[1]),(27,[2,3]),(33,[1]),(35,[2,3]),(38,[3,4,5]),(39,[1]),(40,[2,3]),(49,[2]),(51,[6,7]),(52,[7]),(54,[1]),(57,[4]),(58,[1]),(65,[1]),(67,[2,3]),(68,[2,3]),(69,[1]),(70,[2,3]),(77,[1]),(81,[5,9]),(82,[2]),(83,[3,4,5]),(84,[3,5]),(85,[4,5]),(86,[1]),(87,[2,3]),(88,[1]),(89,[4]),(90,[3,5]),(91,[2]),(92,[3,4]),(93,[3]),(96,[2,3]),(97,[2,3]),(99,[3,4]),(100,[3]),(105,[2]),(106,[2]),(108,[2]),(109,[2]),(110,[2]),(116,[2,3]),(118,[2]),(122,[1]),(123,[1]),(124,[1]),(125,[1]),(126,[1]),(127,[3,5]),(129,[2]),(131,[3,5]),(134,[2]),(135,[4,5,6]),(136,[2,3]),(137,[5,6]),(138,[4,5,7]),(139,[1]),(140,[1]),(141,[1]),(142,[1]),(143,[1]),(144,[1]),(145,[1]),(146,[3,5]),(147,[3]),(148,[3]),(149,[2,3]),(151,[1]),(155,[2,3]),(156,[3,4]),(160,[2,3]),(165,[1]),(166,[1]),(169,[1]),(172,[1]),(173,[1]),(175,[1]),(176,[2]),(178,[1]),(179,[2]),(180,[1]),(181,[1]),(182,[1]),(183,[2]),(184,[3]),(185,[2]),(186,[3]),(187,[2,3]),(190,[2]),(192,[2,3]),(193,[2,3]),(194,[2]),(196,[1]),(197,[2,3]),(198,[1]),(200,[3,5]),(201,[1]),(202,[3]),(203,[7,8]),(204,[4,5,7]),(205,[4,5]),(209,[1]),(210,[2]),(211,[2]),(212,[1]),(213,[1]),(214,[2]),(215,[3]),(216,[2]),(218,[2]),(227,[3,4,5]),(230,[1]),(232,[1]),(233,[1]),(234,[2,3]),(235,[2,3]),(236,[2,3]),(237,[2]),(241,[5]),(242,[3,4]),(243,[1]),(245,[2]),(246,[2,3]),(249,[2]),(250,[1]),(252,[4,5]),(253,[2,3]),(254,[1]),(255,[2,3]),(256,[2]),(257,[3]),(258,[5]),(260,[2,3]),(263,[2]),(264,[4]),(265,[3,5]),(266,[2]),(267,[3,4]),(268,[3,4]),(269,[4]),(270,[5]),(274,[3,4,5]),(275,[2,3]),(276,[2,3]),(277,[2]),(281,[3]),(282,[2,3]),(287,[1]),(290,[1]),(294,[1]),(295,[4,5,7]),(296,[5,6,9]),(297,[4,5]),(298,[4,5,7]),(305,[2]),(306,[2,3]),(307,[3]),(308,[3]),(309,[3,5]),(310,[3]),(311,[2]),(314,[2]),(316,[2]),(318,[2,3]),(319,[2]),(327,[2]),(328,[4,6,7]),(329,[3]),(330,[4]),(331,[2,3]),(332,[4]),(333,[2]),(334,[3]),(351,[1]),(353,[4]),(356,[3]),(358,[1]),(359,[1]),(362,[3,5]),(363,[1]),(370,[2,3]),(371,[2,3]),(374,[3])]
def keepL:List (Nat×List (Nat×List Nat)):=[(3,[(4,[9])]),(4,[(9,[10])]),(5,[(8,[13]),(19,[18]),(20,[20]),(26,[25])]),(8,[(5,[5]),(6,[7]),(7,[9])]),(9,[(6,[9]),(9,[11])]),(12,[(4,[12]),(5,[14,16])]),(14,[(6,[10])]),(20,[(4,[6]),(5,[7])]),(21,[(3,[10]),(8,[14,15]),(10,[17]),(11,[18,19]),(12,[20,21]),(15,[22]),(18,[24])]),(26,[(7,[3]),(8,[4])]),(29,[(9,[10,11]),(17,[12]),(18,[13]),(23,[16])]),(30,[(6,[5])]),(33,[(14,[7]),(20,[9]),(23,[11]),(30,[13])]),(35,[(1,[5])]),(37,[(4,[5])]),(38,[(1,[8])]),(41,[(7,[9])]),(42,[(3,[7])]),(50,[(4,[8]),(5,[9,10]),(6,[11])]),(51,[(8,[13]),(15,[15]),(20,[18])]),(52,[(5,[10])]),(53,[(1,[8])]),(57,[(1,[7]),(2,[10]),(3,[13]),(4,[15])]),(60,[(2,[2])]),(64,[(1,[11])]),(67,[(3,[7])]),(69,[(4,[5])]),(73,[(2,[2])]),(74,[(2,[2]),(3,[3])]),(81,[(6,[13]),(15,[15])]),(83,[(3,[8])]),(93,[(3,[8])]),(99,[(1,[10])]),(100,[(3,[8])]),(120,[(4,[7])]),(123,[(4,[4])]),(124,[(5,[4]),(12,[6])]),(125,[(4,[4])]),(127,[(9,[12])]),(134,[(1,[6])]),(135,[(1,[9])]),(136,[(15,[11])]),(138,[(1,[10,11]),(2,[12])]),(156,[(10,[12])]),(160,[(3,[7])]),(164,[(4,[7])]),(166,[(9,[4])]),(168,[(4,[7])]),(171,[(4,[7])]),(174,[(4,[7])]),(176,[(3,[6]),(7,[7]),(10,[9])]),(177,[(4,[7])]),(179,[(3,[6])]),(180,[(8,[7])]),(183,[(6,[7])]),(185,[(6,[7])]),(198,[(11,[5])]),(200,[(10,[11])]),(203,[(1,[11]),(20,[19])]),(204,[(1,[10])]),(205,[(4,[12]),(9,[15])]),(210,[(3,[6])]),(211,[(3,[6])]),(226,[(8,[8]),(15,[10])]),(227,[(5,[9]),(8,[11]),(11,[13])]),(230,[(4,[5])]),(233,[(7,[4])]),(234,[(1,[5])]),(235,[(4,[9])]),(237,[(1,[6]),(16,[10])]),(239,[(6,[5])]),(240,[(3,[6])]),(252,[(5,[13])]),(277,[(1,[6])]),(281,[(1,[7])]),(288,[(3,[5])]),(316,[(10,[10])]),(329,[(1,[7])]),(333,[(1,[6]),(6,[9])]),(337,[(4,[7])]),(341,[(4,[7])]),(343,[(4,[7])]),(345,[(4,[7])]),(347,[(4,[7])]),(364,[(4,[7])]),(370,[(8,[8])])]
def qaha:List (Nat×List Nat):=[(122,[1,2,3,4,5]),(123,[5,6,7]),(124,[1,6,7,8,13]),(125,[5,6,13,14,21,22]),(126,[2,4,6]),(132,[2]),(161,[1])]
def ann:Ann:=
  { pure:=fun fn f _=> !(qb2 f thr)&& !(thrAt.any fun p=>p.1 == fn&&p.2 == f)
    purev:=fun fn d=> !(qb2 fn thrV)&& !(match d with | some t=>thrVAt.any (fun q=>q.1 == fn&&q.2 == t) | none=>false),bmode:=fun fn d=>if qb2 fn rowFB || (match d with | some t=>browAt.any (fun q=>q.1 == fn&&q.2 == t) | none=>false) then .row else .imm,smode:=fun fn d=>match d with | some t=>if immAt.any (fun q=>q.1 == fn&&q.2 == t) then .imm else .row | none=> .row,amode:=fun fn d=>match d with | some t=>if rowAt.any (fun q=>q.1 == fn&&q.2 == t) || (qb2 fn rowF&& !(appAt.any fun q=>q.1 == fn&&q.2 == t)) then .row else .app | none=> .app
    nilapp:=fun fn d=>match d with | some t=>nilL.any (fun q=>q.1 == fn&&q.2 == t) | none=>false
    slch:=fun fn d=>(qb2 fn slcHL&&(match d with | some t=>t == 13 || t == 31 | none=>false)) || (match d with | some t=>takeAt.any (fun q=>q.1 == fn&&q.2 == t) | none=>false)
    boxi:=fun fn d=>match d with | some t=>boxiAt.any (fun q=>q.1 == fn&&q.2 == t) || (match look fn boxiL with | some l=>qb2 t l | none=>false) | none=>false
    keep:=fun fn id=>(look fn keepL).bind (look id)
    split:=fun fn id=>match look fn qaha with | some l=>qb2 id l | none=>false }
def ktabL:List Nat:=[176,234,307,233,305,306,181,241,238,311,239,243,242,240,182,308,356,374,370,369,371,373,34,71,73,117,118,79,76,77,72,78,119,75,74,120,166,229,230,24,27,8,32,31,30,180,309,237,310,175,126,123,122,124,125,169,165,163,174,168,164,171,177,172,167,161,178,162,170,324,326,320,259,321,322,323,325,358,198,256,250,255,262,202,331,137,263,261,258,203,318,319,361,209,58,210,273,332,274,265,212,333,334,277,196,213,278,279,280,335,363,281,88,143,207,145,208,140,141,142,144,139,25,26,59,110,61,63,111,62,112,60,173,232,304,244,231,355,312,303,224]
def qpy (b:FuncId->Option AFun) (P:Program) (A:Ann) (l:List Nat) (f:FuncId):Option AFun:=match b f with
  | some x=>some x
  | none=>if qb2 f l then (cFn P A f).map .code else none
def Φ:FuncId->Option AFun:=qpy (qp4 tabL tabD tabC) Go.Proofs.Tryz.prog ann ktabL
end
end Go.Av
