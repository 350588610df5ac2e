/-
  The compact form of the program's functions, printed by a program.
-/
import Derived.Test.YtcehjengeaafpaaGreatAvD
import Derived.Test.YtcehjengeaafpaaGreatRows
set_option linter.all false
namespace Go.Av
noncomputable section
abbrev xM (d s:Nat):Xv:=⟨some d,none,.mov (.t s)⟩
abbrev xI (d:Nat) (n:Int):Xv:=⟨some d,none,.mov (.c (.int .i64 n))⟩
abbrev xC (d:Nat) (v:AV):Xv:=⟨some d,none,.mov (.c v)⟩
abbrev xF (d o s:Nat):Xv:=⟨some d,none,.faddr o (.t s)⟩
abbrev xL (d s:Nat):Xv:=⟨some d,none,.load false 1 (.t s)⟩
abbrev xA (d n s:Nat):Xv:=⟨some d,none,.load true n (.t s)⟩
abbrev xX (d z a i:Nat):Xv:=⟨some d,none,.iaddr z none (.t a) (.t i)⟩
abbrev xS (n p v:Nat):Xv:=⟨none,none,.store n (.t p) (.t v)⟩
abbrev xN (d s:Nat):Xv:=⟨some d,none,.len (.t s)⟩
abbrev xE (d i s:Nat):Xv:=⟨some d,none,.ext i (.t s)⟩
abbrev xB (d:Nat) (p:BinOp) (a b:Nat):Xv:=⟨some d,none,.bin p (.t a) (.t b)⟩
abbrev xK (d:Nat) (p:BinOp) (a:Nat) (n:Int):Xv:=⟨some d,none,.bin p (.t a) (.c (.int .i64 n))⟩
abbrev xW (d a b:Nat):Xv:=⟨some d,none,.pick (.t a) (.c (.bool true)) (.t b)⟩
abbrev xV (d a b:Nat):Xv:=⟨some d,none,.pick (.t a) (.t b) (.c (.bool false))⟩
abbrev xJ (d s:Nat):Xv:=⟨some d,none,.boxi (.t s)⟩
abbrev xO (d:Nat) (p:AOp):Xv:=⟨some d,none,p⟩
abbrev xG (d g:Nat) (b:Bool) (p:AOp):Xv:=⟨some d,some (g,b),p⟩
abbrev xR (l:List Xv):Xu:= .region false [] l none
abbrev xD (l:List Xv):Xu:= .region true [] l none
abbrev xQ (l:List Xv) (k:List Nat):Xu:= .region false [] l (some k)
abbrev dG (a:List Xv) (b:Xu):Xu:= .seq (xR a) b
abbrev a7 (a:Int):AV:= .int .i64 a
abbrev iR (a b:Nat) (c:List AX):Xv:=xO a (.pcall b c)
abbrev WK (a:Nat) (b c:Xu):Xu:= .cond (.t a) b c
abbrev fC (a:Int):AX:= .c (a7 a)
abbrev nM (a:List Xv) (b c:Xu):Xu:= .seq (dG a b) c
abbrev iY (a b:Nat) (c:AOp):Xv:=xG a b false c
abbrev D0 (a:List Xv):Xu:=dG a .ret
abbrev zV (a:Nat) (b:Xu):Xu:= .block a (.loop b)
abbrev yW (a:Nat) (b c:Xu):Xu:= .seq (.block a b) c
abbrev T8 (a:Nat) (b:Xu):Xu:=WK a b .skip
abbrev yal (a:Nat) (b:Xu) (c:Nat):Xu:=WK a b (.exit c)
abbrev T9 (a:Bool) (b c:Nat):AOp:= .load a b (.t c)
abbrev wJ (a:Nat) (b:List Xv):Xu:=T8 a (D0 b)
abbrev WL (a:Nat) (b:Bool):Xv:=xC a (.bool b)
abbrev zW (a b:Nat):Xu:=yal a .skip b
abbrev DQ (a b:Nat):AOp:= .faddr a (.t b)
abbrev DR (a:Nat):Xv:=WL a false
abbrev K8 (a:Nat) (b:List AV):Xv:=xO a (.alloc b)
abbrev DS (a b:Nat):AOp:=T9 false a b
def nilL:List (Nat×Nat):=[(18,10),(19,8),(45,6),(91,15),(93,14),(99,3),(140,5),(151,10),(162,16),(170,10),(177,7),(195,3),(197,5),(206,5),(210,5),(213,5),(216,5),(219,5),(245,3),(248,4),(250,8),(251,12),(258,8),(272,3),(311,3),(333,8),(348,9),(171,9),(171,13),(171,30)]
def thr:List Nat:=[104,105,107,176,266,267,269,288,289,290,291,292,294,296,298,299,318,348,364,383]
def thrAt:List (Nat×Nat):=[(90,152),(346,152),(178,282),(283,282),(170,264),(246,152),(103,171),(385,171),(103,173),(173,276),(385,276),(356,387)]
def thrV:List Nat:=[318,176,428,429,183,179]
def rowAt:List (Nat×Nat):=[(262,27),(262,29),(152,26),(152,34),(96,7),(152,9),(152,28),(171,32)]
def thrVAt:List (Nat×Nat):=[]
def rowF:List Nat:=[270,271,364]
def rowFB:List Nat:=[270,271,364]
def appAt:List (Nat×Nat):=[]
def immAt:List (Nat×Nat):=[(244,26)]
def slcHL:List Nat:=[]
def browAt:List (Nat×Nat):=[(262,28),(152,27),(171,31)]
def boxiAt:List (Nat×Nat):=[]
def takeAt:List (Nat×Nat):=[]
def boxiL:List (Nat×List Nat):=[(4,[2]),(11,[2,3]),(13,[3,4,5]),(14,[3,4,5]),(15,[2,3]),(18,[3,4]),(19,[3]),(21,[1]),(22,[2,3]),(37,[3,4,5]),(38,[3,5]),(39,[4,5]),(45,[1]),(46,[2,3]),(47,[3,4,5]),(48,[1]),(49,[1]),(50,[1]),(51,[1]),(52,[1]),(53,[1]),(54,[1]),(55,[4]),(56,[3,5]),(57,[2]),(74,[3,5]),(89,[2]),(90,[4,5,6]),(91,[2,3]),(92,[5,6]),(93,[4,5,7]),(98,[1]),(100,[5,9]),(101,[2]),(102,[2]),(103,[4,5,6]),(110,[1]),(112,[1]),(113,[2]),(114,[2]),(115,[1]),(116,[1]),(117,[1]),(118,[3,5]),(119,[3]),(120,[3]),(121,[2,3]),(123,[1]),(130,[1]),(131,[1]),(132,[1]),(133,[1]),(134,[1]),(139,[2]),(140,[2]),(141,[3]),(142,[2]),(143,[3]),(144,[2,3]),(151,[2]),(153,[2,3]),(154,[2,3]),(155,[2]),(157,[2,3]),(159,[3,5]),(160,[1]),(161,[3]),(162,[7,8]),(163,[4,5,7]),(164,[4,5]),(166,[2]),(167,[3,5]),(170,[2]),(172,[2,3]),(177,[3,5]),(179,[4,5,6]),(180,[5,6]),(182,[2,3]),(183,[2,3]),(186,[2]),(188,[3,4,5]),(189,[2]),(190,[2,3]),(191,[2,3]),(192,[2]),(196,[3]),(197,[2]),(198,[3]),(199,[2]),(200,[2]),(207,[1]),(208,[1]),(211,[1]),(214,[1]),(215,[1]),(217,[1]),(218,[2]),(220,[1]),(221,[1]),(222,[1]),(223,[1]),(236,[1]),(238,[2,3]),(239,[2,3]),(240,[2]),(243,[2]),(244,[1]),(246,[4,5]),(247,[2,3]),(248,[1]),(249,[2,3]),(250,[3]),(251,[5]),(253,[2,3]),(256,[2]),(257,[4]),(258,[3,5]),(259,[3,4]),(260,[3,4]),(261,[4]),(262,[5]),(265,[2]),(268,[2,3]),(274,[2]),(278,[1]),(279,[2,3]),(280,[2]),(281,[2]),(283,[5]),(284,[5]),(285,[4,6,7]),(293,[3]),(295,[2,3]),(300,[2,3]),(301,[4]),(302,[2,3]),(303,[2]),(304,[3]),(311,[1]),(313,[1]),(314,[2,3]),(315,[2]),(319,[5]),(320,[3,4]),(321,[1]),(333,[2]),(335,[2,3]),(336,[2]),(344,[2]),(345,[4,6,7]),(346,[3]),(347,[4]),(351,[3,5]),(353,[3,4]),(354,[3,4]),(355,[4]),(356,[5]),(357,[3]),(359,[3]),(360,[2,3]),(361,[4,5]),(362,[2,3]),(365,[1]),(369,[2]),(370,[2,3]),(371,[3]),(372,[3,5]),(373,[3]),(374,[2]),(376,[1]),(377,[1]),(380,[3,5]),(382,[1]),(385,[5,6]),(386,[3]),(388,[2,3]),(389,[2,3]),(398,[2,3]),(399,[3]),(407,[3])]
def keepL:List (Nat×List (Nat×List Nat)):=[(4,[(3,[6]),(4,[8])]),(12,[(1,[1,2]),(2,[3,4]),(3,[5,6]),(4,[8])]),(13,[(1,[9])]),(14,[(1,[8])]),(18,[(6,[12]),(9,[14])]),(19,[(5,[10,11])]),(35,[(6,[3]),(7,[4]),(8,[5]),(9,[6])]),(37,[(3,[8])]),(45,[(8,[8]),(9,[9]),(16,[11])]),(46,[(1,[5])]),(47,[(1,[9]),(4,[11])]),(74,[(9,[12])]),(89,[(1,[6])]),(90,[(1,[9])]),(91,[(15,[11])]),(93,[(1,[10,11]),(2,[12])]),(100,[(6,[13]),(15,[15])]),(102,[(1,[6])]),(103,[(1,[9])]),(105,[(2,[6])]),(110,[(11,[5])]),(113,[(3,[6])]),(114,[(3,[6])]),(131,[(4,[4])]),(132,[(5,[4]),(12,[6])]),(133,[(4,[4])]),(139,[(3,[6])]),(140,[(6,[7])]),(142,[(6,[7])]),(159,[(10,[11])]),(162,[(1,[11]),(20,[19])]),(163,[(1,[10])]),(164,[(4,[12]),(9,[15])]),(176,[(3,[5])]),(178,[(3,[10]),(4,[11])]),(179,[(5,[13]),(10,[15])]),(183,[(3,[5])]),(192,[(1,[6])]),(196,[(1,[7])]),(206,[(4,[7])]),(208,[(9,[4])]),(210,[(4,[7])]),(213,[(4,[7])]),(216,[(4,[7])]),(218,[(3,[6]),(7,[7]),(10,[9])]),(219,[(4,[7])]),(221,[(8,[7])]),(238,[(4,[9])]),(246,[(5,[13])]),(264,[(1,[3])]),(265,[(6,[9])]),(268,[(5,[7])]),(281,[(5,[6])]),(282,[(3,[7])]),(283,[(3,[7])]),(294,[(1,[3]),(9,[4]),(10,[5]),(12,[6]),(13,[7]),(14,[8])]),(295,[(6,[8])]),(298,[(14,[13])]),(303,[(1,[6]),(6,[9])]),(311,[(4,[5])]),(313,[(7,[4])]),(314,[(1,[5])]),(315,[(1,[6]),(16,[10])]),(317,[(6,[5])]),(318,[(3,[6])]),(333,[(10,[10])]),(346,[(1,[7])]),(348,[(12,[11])]),(351,[(5,[8])]),(385,[(1,[11])]),(388,[(8,[8])])]
def Tg:List (Nat×List Nat):=[(130,[1,2,3,4,5]),(131,[5,6,7]),(132,[1,6,7,8,13]),(133,[5,6,13,14,21,22]),(134,[2,4,6]),(168,[2]),(203,[1])]
def ann:Ann:=
  { pure:=fun fn f _=> !(oC f thr)&& !(thrAt.any fun p=>p.1 == fn&&p.2 == f)
    purev:=fun fn d=> !(oC fn thrV)&& !(match d with | some t=>thrVAt.any (fun q=>q.1 == fn&&q.2 == t) | none=>false),bmode:=fun fn d=>if oC fn rowFB || (match d with | some t=>browAt.any (fun q=>q.1 == fn&&q.2 == t) | none=>false) then .row else .imm,smode:=fun fn d=>match d with | some t=>if immAt.any (fun q=>q.1 == fn&&q.2 == t) then .imm else .row | none=> .row,amode:=fun fn d=>match d with | some t=>if rowAt.any (fun q=>q.1 == fn&&q.2 == t) || (oC fn rowF&& !(appAt.any fun q=>q.1 == fn&&q.2 == t)) then .row else .app | none=> .app
    nilapp:=fun fn d=>match d with | some t=>nilL.any (fun q=>q.1 == fn&&q.2 == t) | none=>false
    slch:=fun fn d=>(oC fn slcHL&&(match d with | some t=>t == 13 || t == 31 | none=>false)) || (match d with | some t=>takeAt.any (fun q=>q.1 == fn&&q.2 == t) | none=>false)
    boxi:=fun fn d=>match d with | some t=>boxiAt.any (fun q=>q.1 == fn&&q.2 == t) || (match look fn boxiL with | some l=>oC t l | none=>false) | none=>false
    keep:=fun fn id=>(look fn keepL).bind (look id)
    split:=fun fn id=>match look fn Tg with | some l=>oC id l | none=>false }
def T7:Nat->Nat->Xu->Xu
  | 0,_,c=>c
  | k+1,p,c=>if p<=1 then c else match c with
    | .seq a b=>T7 k (p / 2) (if p % 2=0 then a else b)
    | .cond _ a b=>T7 k (p / 2) (if p % 2=0 then a else b)
    | .block _ a=>T7 k (p / 2) a
    | .loop a=>T7 k (p / 2) a
    | c=>c
def zput:Nat->Nat->Xu->Xu->Xu
  | 0,_,n,c=>n
  | k+1,p,n,c=>if p<=1 then n else match c with
    | .seq a b=>if p % 2=0 then .seq (zput k (p / 2) n a) b else .seq a (zput k (p / 2) n b)
    | .cond x a b=>if p % 2=0 then .cond x (zput k (p / 2) n a) b else .cond x a (zput k (p / 2) n b)
    | .block i a=> .block i (zput k (p / 2) n a)
    | .loop a=> .loop (zput k (p / 2) n a)
    | c=>c
def zfn (f:AFn) (l:List (Nat×Xu)):AFn:=⟨f.nparams,f.results,l.foldl (fun b q=>zput 99 q.1 q.2 b) f.body⟩
abbrev zK (n:Nat) {c:AFn} (_:cFn Go.Proofs.Tryz.prog ann n=some c:=by conv=>lhs;reduce;simp only [Int.ofNat_eq_natCast,Int.cast_ofNat_Int,Int.reduceNegSucc]):AFn:=c
abbrev zR (f:AFn) (l:List (Nat×Xu)) {c:AFn} (_:zfn f l=c:=by conv=>lhs;reduce;simp only [Int.ofNat_eq_natCast,Int.cast_ofNat_Int,Int.reduceNegSucc]):AFn:=c
abbrev zP (f:AFn) (p:Nat) (l:List (Nat×Xu)) {c:Xu} (_:T7 99 p (zfn f l).body=c:=by conv=>lhs;reduce;simp only [Int.ofNat_eq_natCast,Int.cast_ofNat_Int,Int.reduceNegSucc]):Xu:=c
end
end Go.Av
