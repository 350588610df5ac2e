/-
  The compact form of the program's functions, printed by a program.
-/
import Derived.Test.YtcehjengeaafpaaGreatAvD
import Derived.Test.YtcehjengeaafpaaGreatRows
set_option linter.all false
namespace Go.Av
noncomputable section
abbrev xM (d s:Nat):Xv:=⟨some d,none,.mov (.t s)⟩
abbrev xI (d:Nat) (n:Int):Xv:=⟨some d,none,.mov (.c (.int .i64 n))⟩
abbrev xC (d:Nat) (v:AV):Xv:=⟨some d,none,.mov (.c v)⟩
abbrev xF (d o s:Nat):Xv:=⟨some d,none,.faddr o (.t s)⟩
abbrev xL (d s:Nat):Xv:=⟨some d,none,.load false 1 (.t s)⟩
abbrev xA (d n s:Nat):Xv:=⟨some d,none,.load true n (.t s)⟩
abbrev xX (d z a i:Nat):Xv:=⟨some d,none,.iaddr z none (.t a) (.t i)⟩
abbrev xS (n p v:Nat):Xv:=⟨none,none,.store n (.t p) (.t v)⟩
abbrev xN (d s:Nat):Xv:=⟨some d,none,.len (.t s)⟩
abbrev xE (d i s:Nat):Xv:=⟨some d,none,.ext i (.t s)⟩
abbrev xB (d:Nat) (p:BinOp) (a b:Nat):Xv:=⟨some d,none,.bin p (.t a) (.t b)⟩
abbrev xK (d:Nat) (p:BinOp) (a:Nat) (n:Int):Xv:=⟨some d,none,.bin p (.t a) (.c (.int .i64 n))⟩
abbrev xW (d a b:Nat):Xv:=⟨some d,none,.pick (.t a) (.c (.bool true)) (.t b)⟩
abbrev xV (d a b:Nat):Xv:=⟨some d,none,.pick (.t a) (.t b) (.c (.bool false))⟩
abbrev xJ (d s:Nat):Xv:=⟨some d,none,.boxi (.t s)⟩
abbrev xO (d:Nat) (p:AOp):Xv:=⟨some d,none,p⟩
abbrev xG (d g:Nat) (b:Bool) (p:AOp):Xv:=⟨some d,some (g,b),p⟩
abbrev xR (l:List Xv):Xu:= .region false [] l none
abbrev xD (l:List Xv):Xu:= .region true [] l none
abbrev xQ (l:List Xv) (k:List Nat):Xu:= .region false [] l (some k)
abbrev mO (a:List Xv) (b:Xu):Xu:= .seq (xR a) b
abbrev AF (a:Nat) (b c:Xu):Xu:= .cond (.t a) b c
abbrev oV (a:List Xv):Xu:=mO a .ret
abbrev qX (a:List Xv) (b c:Xu):Xu:= .seq (mO a b) c
abbrev p9 (a b:Nat) (c:AOp):Xv:=xG a b false c
abbrev C8:AV:= .bool false
abbrev tD (a:Nat) (b:Xu):Xu:=AF a b .skip
def nilL:List (Nat×Nat):=[(18,10),(45,6),(62,3),(85,4),(99,3),(128,5),(140,5),(170,10),(177,7),(195,3),(197,5),(206,5),(210,5),(213,5),(216,5),(219,5),(224,5),(228,5),(230,5),(232,5),(234,5),(251,12),(272,3),(311,3),(323,5),(348,9),(171,9),(171,13),(171,30)]
def thr:List Nat:=[26,27,30,71,73,76,82,104,105,107,136,176,266,267,269,288,289,290,291,292,294,296,298,299,318,348,364,383]
def thrAt:List (Nat×Nat):=[(178,282),(283,282),(82,96),(25,62),(170,264),(103,171),(385,171),(103,173),(173,276),(385,276),(356,387)]
def thrV:List Nat:=[318,176,428,429,183,179]
def rowAt:List (Nat×Nat):=[(27,112),(96,7),(171,32)]
def thrVAt:List (Nat×Nat):=[]
def rowF:List Nat:=[82,72,270,271,364]
def rowFB:List Nat:=[270,271,364]
def appAt:List (Nat×Nat):=[(72,32),(82,70)]
def immAt:List (Nat×Nat):=[]
def slcHL:List Nat:=[]
def browAt:List (Nat×Nat):=[(82,39),(171,31)]
def boxiAt:List (Nat×Nat):=[(71,2),(26,1),(72,1)]
def takeAt:List (Nat×Nat):=[]
def zAt:List (Nat×Nat):=[(10,72),(9,79)]
def boxiL:List (Nat×List Nat):=[(9,[2]),(10,[1]),(13,[3,4,5]),(18,[3,4]),(21,[1]),(22,[2,3]),(29,[5]),(31,[8,9]),(32,[2]),(34,[1]),(45,[1]),(46,[2,3]),(47,[3,4,5]),(48,[1]),(49,[1]),(50,[1]),(51,[1]),(52,[1]),(53,[1]),(54,[1]),(55,[4]),(56,[3,5]),(57,[2]),(59,[2,3]),(67,[1]),(74,[3,5]),(78,[1]),(79,[3]),(81,[1]),(98,[1]),(100,[5,9]),(101,[2]),(102,[2]),(103,[4,5,6]),(110,[1]),(112,[1]),(113,[2]),(114,[2]),(115,[1]),(116,[1]),(117,[1]),(118,[3,5]),(119,[3]),(120,[3]),(121,[2,3]),(123,[1]),(126,[2]),(130,[1]),(131,[1]),(132,[1]),(133,[1]),(134,[1]),(135,[1]),(137,[1]),(138,[1]),(139,[2]),(140,[2]),(141,[3]),(142,[2]),(143,[3]),(144,[2,3]),(146,[1]),(148,[2]),(153,[2,3]),(161,[3]),(166,[2]),(167,[3,5]),(170,[2]),(172,[2,3]),(177,[3,5]),(179,[4,5,6]),(180,[5,6]),(182,[2,3]),(183,[2,3]),(186,[2]),(188,[3,4,5]),(189,[2]),(190,[2,3]),(191,[2,3]),(192,[2]),(196,[3]),(197,[2]),(198,[3]),(199,[2]),(200,[2]),(207,[1]),(208,[1]),(211,[1]),(214,[1]),(215,[1]),(217,[1]),(218,[2]),(220,[1]),(221,[1]),(222,[1]),(223,[1]),(236,[1]),(238,[2,3]),(239,[2,3]),(240,[2]),(251,[5]),(265,[2]),(268,[2,3]),(274,[2]),(278,[1]),(279,[2,3]),(280,[2]),(281,[2]),(283,[5]),(284,[5]),(285,[4,6,7]),(293,[3]),(295,[2,3]),(300,[2,3]),(301,[4]),(302,[2,3]),(303,[2]),(304,[3]),(311,[1]),(313,[1]),(314,[2,3]),(315,[2]),(319,[5]),(320,[3,4]),(321,[1]),(335,[2,3]),(336,[2]),(351,[3,5]),(353,[3,4]),(354,[3,4]),(355,[4]),(356,[5]),(357,[3]),(359,[3]),(360,[2,3]),(361,[4,5]),(362,[2,3]),(365,[1]),(369,[2]),(370,[2,3]),(371,[3]),(372,[3,5]),(373,[3]),(374,[2]),(382,[1]),(385,[5,6]),(386,[3]),(388,[2,3]),(389,[2,3]),(398,[2,3]),(399,[3]),(407,[3])]
def keepL:List (Nat×List (Nat×List Nat)):=[(9,[(3,[5]),(10,[13,14])]),(10,[(1,[3]),(2,[4]),(8,[11,12])]),(13,[(1,[9])]),(18,[(6,[12]),(9,[14])]),(24,[(1,[1,2])]),(26,[(1,[4])]),(33,[(7,[3]),(8,[4])]),(45,[(8,[8]),(9,[9]),(16,[11])]),(46,[(1,[5])]),(47,[(1,[9]),(4,[11])]),(58,[(1,[6])]),(63,[(2,[2])]),(64,[(2,[2]),(3,[3])]),(72,[(4,[5])]),(74,[(9,[12])]),(82,[(8,[8]),(15,[10])]),(85,[(2,[2])]),(100,[(6,[13]),(15,[15])]),(102,[(1,[6])]),(103,[(1,[9])]),(105,[(2,[6])]),(110,[(11,[5])]),(113,[(3,[6])]),(114,[(3,[6])]),(128,[(4,[7])]),(131,[(4,[4])]),(132,[(5,[4]),(12,[6])]),(133,[(4,[4])]),(136,[(3,[5])]),(137,[(4,[5])]),(139,[(3,[6])]),(140,[(6,[7])]),(142,[(6,[7])]),(176,[(3,[5])]),(178,[(3,[10]),(4,[11])]),(179,[(5,[13]),(10,[15])]),(183,[(3,[5])]),(192,[(1,[6])]),(196,[(1,[7])]),(206,[(4,[7])]),(208,[(9,[4])]),(210,[(4,[7])]),(213,[(4,[7])]),(216,[(4,[7])]),(218,[(3,[6]),(7,[7]),(10,[9])]),(219,[(4,[7])]),(221,[(8,[7])]),(224,[(4,[7])]),(228,[(4,[7])]),(230,[(4,[7])]),(232,[(4,[7])]),(234,[(4,[7])]),(238,[(4,[9])]),(264,[(1,[3])]),(265,[(6,[9])]),(268,[(5,[7])]),(281,[(5,[6])]),(282,[(3,[7])]),(283,[(3,[7])]),(294,[(1,[3]),(9,[4]),(10,[5]),(12,[6]),(13,[7]),(14,[8])]),(295,[(6,[8])]),(298,[(14,[13])]),(303,[(1,[6]),(6,[9])]),(311,[(4,[5])]),(313,[(7,[4])]),(314,[(1,[5])]),(315,[(1,[6]),(16,[10])]),(317,[(6,[5])]),(318,[(3,[6])]),(323,[(4,[7])]),(348,[(12,[11])]),(351,[(5,[8])]),(385,[(1,[11])]),(388,[(8,[8])])]
def Y0:List (Nat×List Nat):=[(130,[1,2,3,4,5]),(131,[5,6,7]),(132,[1,6,7,8,13]),(133,[5,6,13,14,21,22]),(134,[2,4,6]),(168,[2]),(203,[1])]
def zAtB (fn:Nat) (d:Option Nat):Bool:=match d with | some t=>zAt.any (fun q=>q.1 == fn&&q.2 == t) | none=>false
def ann:Ann:=
  { pure:=fun fn f d=>zAtB fn d || (!(iU f thr)&& !(thrAt.any fun p=>p.1 == fn&&p.2 == f))
    purev:=fun fn d=> !(iU fn thrV)&& !(match d with | some t=>thrVAt.any (fun q=>q.1 == fn&&q.2 == t) | none=>false),bmode:=fun fn d=>if iU fn rowFB || (match d with | some t=>browAt.any (fun q=>q.1 == fn&&q.2 == t) | none=>false) then .row else .imm,smode:=fun fn d=>match d with | some t=>if immAt.any (fun q=>q.1 == fn&&q.2 == t) then .imm else .row | none=> .row,amode:=fun fn d=>match d with | some t=>if rowAt.any (fun q=>q.1 == fn&&q.2 == t) || (iU fn rowF&& !(appAt.any fun q=>q.1 == fn&&q.2 == t)) then .row else .app | none=> .app
    nilapp:=fun fn d=>match d with | some t=>nilL.any (fun q=>q.1 == fn&&q.2 == t) | none=>false
    slch:=fun fn d=>zAtB fn d || (iU fn slcHL&&(match d with | some t=>t == 13 || t == 31 | none=>false)) || (match d with | some t=>takeAt.any (fun q=>q.1 == fn&&q.2 == t) | none=>false)
    boxi:=fun fn d=>zAtB fn d || match d with | some t=>boxiAt.any (fun q=>q.1 == fn&&q.2 == t) || (match look fn boxiL with | some l=>iU t l | none=>false) | none=>false
    keep:=fun fn id=>(look fn keepL).bind (look id)
    split:=fun fn id=>match look fn Y0 with | some l=>iU id l | none=>false }
def GY:Nat->Nat->Xu->Xu
  | 0,_,c=>c
  | k+1,p,c=>if p<=1 then c else match c with
    | .seq a b=>GY k (p / 2) (if p % 2=0 then a else b)
    | .cond _ a b=>GY k (p / 2) (if p % 2=0 then a else b)
    | .block _ a=>GY k (p / 2) a
    | .loop a=>GY k (p / 2) a
    | c=>c
def zput:Nat->Nat->Xu->Xu->Xu
  | 0,_,n,c=>n
  | k+1,p,n,c=>if p<=1 then n else match c with
    | .seq a b=>if p % 2=0 then .seq (zput k (p / 2) n a) b else .seq a (zput k (p / 2) n b)
    | .cond x a b=>if p % 2=0 then .cond x (zput k (p / 2) n a) b else .cond x a (zput k (p / 2) n b)
    | .block i a=> .block i (zput k (p / 2) n a)
    | .loop a=> .loop (zput k (p / 2) n a)
    | c=>c
def zfn (f:AFn) (l:List (Nat×Xu)):AFn:=⟨f.nparams,f.results,l.foldl (fun b q=>zput 99 q.1 q.2 b) f.body⟩
abbrev zK (n:Nat) {c:AFn} (_:cFn Go.Proofs.Tryz.prog ann n=some c:=by conv=>lhs;reduce;simp only [Int.ofNat_eq_natCast,HB,Int.reduceNegSucc]):AFn:=c
abbrev zR (f:AFn) (l:List (Nat×Xu)) {c:AFn} (_:zfn f l=c:=by conv=>lhs;reduce;simp only [Int.ofNat_eq_natCast,HB,Int.reduceNegSucc]):AFn:=c
abbrev zP (f:AFn) (p:Nat) (l:List (Nat×Xu)) {c:Xu} (_:GY 99 p (zfn f l).body=c:=by conv=>lhs;reduce;simp only [Int.ofNat_eq_natCast,HB,Int.reduceNegSucc]):Xu:=c
end
end Go.Av
