/-
 Topologies: ports, links, hosts, on both sides.
-/
import Derived.Test.YtknmfocedphgmaaGreatFunsAR
set_option linter.unusedVariables false
set_option linter.unusedSimpArgs false
set_option linter.constructorNameAsVariable false
namespace Go.Av
set_option maxRecDepth 4000
def exB (ports:List Int) (a:PortID):Bool:=decide (0<=a.switch)&&(decide (a.switch<ports.length)&&(decide (0<=a.port)&&(match ports[a.switch.toNat]? with | some n=>decide (a.port<n) | none=>false)))
theorem qgs (ports:List Int) (x y:List (List AV)) (s p:Int):qac Φ f_70 [.agg [.slice 1 (ports.map cI),.slice 5 x,.slice 2 y],.agg [.int .i64 s,.int .i64 p]]=some (.val (.bool (exB ports ⟨s,p⟩))):=by
 rw [qad (fn:=c_70) rfl rfl];simp [c_70];refine qhk (fun h1=>?_) (fun h1=>?_)<;>simp [exB,h1];refine qhk (fun h2=>?_) (fun h2=>?_)<;>simp [h2];refine qhk (fun h3=>?_) (fun h3=>?_)<;>simp [h3];simp at h1 h2;obtain ⟨k,rfl⟩:=QAc h1;have h2':k<ports.length:=by omega
 simp [h2',cI]
def qcy (s p:Int) (l:Link):Bool:=(decide (l.a.switch=s)&&decide (l.a.port=p)) || (decide (l.b.switch=s)&&decide (l.b.port=p))
def qh6 (a b:PortID):Bool:=decide (a.switch=b.switch)&&decide (a.port=b.port)
def ixF {α:Type} (q:α->Bool) (l:List α) (i:Nat):Int:=match (l.drop i).findIdx? q with | some j=>((i+j:Nat):Int) | none=>0
theorem qn8 {α:Type} {q:α->Bool} {l:List α} {i:Nat} (hi:i<l.length) (h:q l[i]=true):ixF q l i=i:=by
 unfold ixF;rw [Qi hi,List.findIdx?_cons,QAa h];simp
theorem ql8 {α:Type} {q:α->Bool} {l:List α} {i:Nat} (hi:i<l.length) (h:q l[i]=false):ixF q l i=ixF q l (i+1):=by
 unfold ixF;rw [Qi hi,List.findIdx?_cons,QA (by rw [h];simp)];cases (l.drop (i+1)).findIdx? q with
 | none=>rfl
 | some j=>simp;omega
theorem qs8 {α:Type} {q:α->Bool} {l:List α}:ixF q l l.length=0:=by simp [ixF]
theorem qkx (x y:List (List AV)) (links:List Link) (s p:Int) (hl:links.length<2^40):qac Φ f_160 [.agg [.slice 1 x,.slice 5 (links.map Link.c),.slice 2 y],.agg [.int .i64 s,.int .i64 p]]=
  some (.val (.tup [.int .i64 (ixF (qcy s p) links 0),.bool (qa8 links (qcy s p) 0)])):=by
 rw [qad (fn:=c_160) rfl rfl];simp [c_160];refine (qay links.length (fun _=>[]) 0 (fun i e=>look 3 e=some (.iptr 2 [[.int .i64 s,.int .i64 p]] 0 0)/\look 9 e=some (.slice 5 (links.map Link.c))/\look 10 e=some (.int .i64 links.length)/\look 11 e=some (.int .i64 i))
  (fun i=>some (.val (.tup [.int .i64 (ixF (qcy s p) links i),.bool (qa8 links (qcy s p) i)]))) ?_ ?_ 0 _ _ (Qc _) (Qc _) ?_).trans (by simp)
 ·rintro i e n L hi hL _ ⟨h3,h9,h10,h11⟩ ih;have hw:=qao i (by omega);cases q:qcy s p links[i] with
  | true=>
   rw [qn8 hi q,qk1 hi q];by_cases q1:links[i].a.switch=s/\links[i].a.port=p
   ·simp [c_160_l0,Link.c,h3,h9,h10,h11,hi,hL,q1]
   ·have q2:links[i].b.switch=s/\links[i].b.port=p:=by
     simp [qcy,Bool.and_eq_true] at q;rcases q with q | q
     ·exact absurd q q1
     ·exact q
    have q1':(decide (links[i].a.switch=s)&&decide (links[i].a.port=p))=false:=by simpa using q1
    simp [c_160_l0,Link.c,h3,h9,h10,h11,hi,hL,q1',q2]
  | false=>
   rw [ql8 hi q,qhh hi q];simp only [qcy,QBh] at q;simp [c_160_l0,Link.c,h3,h9,h10,h11,hi,hL,q.1,q.2,hw];exact (ih _ _ (Qc _) ⟨by simp [h3],by simp [h9],by simp [h10],by simp⟩).trans (by simp)
 ·rintro e n L hL _ ⟨h3,h9,h10,h11⟩;rw [qs8,qii];simp [c_160_l0,c_160_k1,h3,h9,h10,h11,hL]
 ·simp
def atP (s p:Int) (h:PortID):Bool:=decide (h.switch=s)&&decide (h.port=p)
theorem qdl (x y:List (List AV)) (hosts:List PortID) (s p:Int) (hl:hosts.length<2^40):qac Φ f_67 [.agg [.slice 1 x,.slice 5 y,.slice 2 (hosts.map PortID.c)],.agg [.int .i64 s,.int .i64 p]]=
  some (.val (.tup [.int .i64 (ixF (atP s p) hosts 0),.bool (qa8 hosts (atP s p) 0)])):=by
 rw [qad (fn:=c_67) rfl rfl];simp [c_67];refine (qay hosts.length (fun _=>[]) 0 (fun i e=>look 3 e=some (.iptr 2 [[.int .i64 s,.int .i64 p]] 0 0)/\look 9 e=some (.slice 2 (hosts.map PortID.c))/\look 10 e=some (.int .i64 hosts.length)/\look 11 e=some (.int .i64 i))
  (fun i=>some (.val (.tup [.int .i64 (ixF (atP s p) hosts i),.bool (qa8 hosts (atP s p) i)]))) ?_ ?_ 0 _ _ (Qc _) (Qc _) ?_).trans (by simp)
 ·rintro i e n L hi hL _ ⟨h3,h9,h10,h11⟩ ih;have hw:=qao i (by omega);cases q:atP s p hosts[i] with
  | true=>
   rw [qn8 hi q,qk1 hi q];simp only [atP] at q;simp [c_67_l0,PortID.c,h3,h9,h10,h11,hi,hL,q]
  | false=>
   rw [ql8 hi q,qhh hi q];simp only [atP] at q;simp [c_67_l0,PortID.c,h3,h9,h10,h11,hi,hL,q,hw];exact (ih _ _ (Qc _) ⟨by simp [h3],by simp [h9],by simp [h10],by simp⟩).trans (by simp)
 ·rintro e n L hL _ ⟨h3,h9,h10,h11⟩;rw [qs8,qii];simp [c_67_l0,c_67_k1,h3,h9,h10,h11,hL]
 ·simp
def qc0 (l:List Link) (i:Nat):List PortID:=(l.take i).flatMap fun x=>[x.a,x.b]
def qav (l:List Link) (h:List PortID):List PortID:=qc0 l l.length++h
theorem qib {l:List Link} {i:Nat} (hi:i<l.length):qc0 l (i+1)=qc0 l i++[l[i].a,l[i].b]:=by
 unfold qc0;rw [Qh hi,List.flatMap_append];simp
theorem qe0 {l:List Link}:∀{i:Nat},i<=l.length->(qc0 l i).length=2*i
 | 0,_=>by simp [qc0]
 | i+1,h=>by
  rw [qib (by omega),QAs,qe0 (by omega)];simp;omega
theorem qql (l:List Link) (h:List PortID):(qav l h).length=2*l.length+h.length:=by
 unfold qav;rw [QAs,qe0 (Qb _)]
theorem al2 (l:List PortID):qa9 2 (l.map PortID.c)=true:=qa4 2 PortID.c l fun x=>by simp
theorem qmm (x:List (List AV)) (links:List Link) (hosts:List PortID) (hl:links.length<=32) (hh:hosts.length<=16):qac Φ f_69 [.agg [.slice 1 x,.slice 5 (links.map Link.c),.slice 2 (hosts.map PortID.c)]]=
  some (.val (.slice 2 ((qav links hosts).map PortID.c))):=by
 rw [qad (fn:=c_69) rfl rfl];simp [c_69];refine (qay links.length (fun i=>[(0,AO.tok 2 (qc0 links i).length)]) 1 (fun i e=>look 1 e=some (.iptr 3 [[.slice 1 x,.slice 5 (links.map Link.c),.slice 2 (hosts.map PortID.c)]] 0 0)/\look 3 e=some (.app 2 ((qc0 links i).map PortID.c) 0)/\look 7 e=some (.slice 5 (links.map Link.c))/\look 8 e=some (.int .i64 links.length)/\look 9 e=some (.int .i64 i))
  (fun i=>some (.val (.slice 2 ((qav links hosts).map PortID.c)))) ?_ ?_ 0 _ _ (Qc _) (Qb _) ?_).trans (by simp)
 ·rintro i e n L hi hL hn ⟨h1,h3,h7,h8,h9⟩ ih;have hw:=qao i (by omega);have hn0:¬(0=n):=by omega
  have hn1:¬(n=0):=by omega
  have hle:=qe0 (l:=links) (i:=i) (by omega);have hb:((qc0 links i).length+2)*16<=70368744177664:=by omega
  have hlen:(qc0 links i).length+2=(qc0 links (i+1)).length:=by rw [qib hi];simp
  simp [c_69_l0,Link.c,h1,h3,h7,h8,h9,hi,hL,hw,hn0,hn1,hb];rw [hlen];exact ih _ _ (by omega) ⟨by simp [h1],by simp [qib hi,PortID.c],by simp [h7],by simp [h8],by simp⟩
 ·rintro e n L hL hn ⟨h1,h3,h7,h8,h9⟩;have hle:=qe0 (l:=links) (i:=links.length) (by omega);have hb:((qc0 links links.length).length+hosts.length)*16<=70368744177664:=by omega
  simp [c_69_l0,c_69_k1,h1,h3,h7,h8,h9,hL,hb,qav,al2]
 ·simp [qc0]
def qpx (U:List PortID) (i:Nat):Bool:=(U.take i).any (qh6 (U.getD i default))
def badN (n:Int):Bool:=decide (n<1) || decide (16<n)
def chkD (links:List Link):Int:=if links.any (fun l=>decide (l.a.switch=l.b.switch)) then 2 else 0
def chkC (links:List Link) (hosts:List PortID):Int:=if (List.range (qav links hosts).length).any (qpx (qav links hosts)) then 7 else chkD links
def chkB (ports:List Int) (links:List Link) (hosts:List PortID):Int:=if (qav links hosts).any (fun a=> !exB ports a) then 9 else chkC links hosts
def chkA (ports:List Int) (links:List Link) (hosts:List PortID):Int:=if ports.any badN then 9 else chkB ports links hosts
def qbo (ports:List Int) (links:List Link) (hosts:List PortID):Int:=
 if ports=[] then 8 else if 16<ports.length then 12 else if 32<links.length then 12 else if 16<hosts.length then 12 else chkA ports links hosts
def HN (h:AH):Prop:=∃n,h=⟨[],n⟩
theorem HN.mk {n:Nat}:HN ⟨[],n⟩:=⟨n,rfl⟩
theorem qgx (ports:List Int) (links:List Link) (hosts:List PortID):qac Φ f_33 [.agg [.slice 1 (ports.map cI),.slice 5 (links.map Link.c),.slice 2 (hosts.map PortID.c)]]=
  some (.val (.int .i64 (qbo ports links hosts))):=by
 rw [qad (fn:=c_33) rfl rfl];simp [c_33];unfold qbo;by_cases q1:ports=[]
 ·simp [q1]
 by_cases q2:16<ports.length
 ·simp [q1,q2]
 by_cases q3:32<links.length
 ·simp [q1,q2,q3]
 by_cases q4:16<hosts.length
 ·simp [q1,q2,q3,q4]
 have f1:ports.length<=16:=by omega
 have f2:links.length<=32:=by omega
 have f3:hosts.length<=16:=by omega
 have fU:=qql links hosts;simp [q1,q2,q3,q4];refine (qhm ports badN (some (.val (.int .i64 9))) (some (.val (.int .i64 (chkB ports links hosts))))
  (fun i e h=>look 1 e=some (.iptr 3 [[.slice 1 (ports.map cI),.slice 5 (links.map Link.c),.slice 2 (hosts.map PortID.c)]] 0 0)/\look 35 e=some (.slice 1 (ports.map cI))/\look 36 e=some (.int .i64 ports.length)/\look 37 e=some (.int .i64 i)/\HN h) ?_ ?_ ?_ _ _ ?_).trans (by unfold chkA;split<;>rfl)
 ·rintro i e _ L hi hL ⟨h1,h35,h36,h37,n,rfl⟩ hb;cases c1:decide (ports[i]<1) with
  | true=>simp [c_33_l0,cI,h1,h35,h36,h37,hi,hL,c1]
  | false=>
   have c2:decide (16<ports[i])=true:=by simpa only [badN,c1,QBc] using hb
   simp [c_33_l0,cI,h1,h35,h36,h37,hi,hL,c1,c2]
 ·rintro i e _ L X hi hL ⟨h1,h35,h36,h37,n,rfl⟩ hb ih;simp only [badN,QBh] at hb;have hw:=qao i (by omega);simp [c_33_l0,cI,h1,h35,h36,h37,hi,hL,hb.1,hb.2,hw];exact ih _ _ ⟨by simp [h1],by simp [h35],by simp [h36],by simp,HN.mk⟩
 ·rintro e _ L hL ⟨h1,h35,h36,h37,n,rfl⟩;simp [c_33_l0,c_33_k9,h1,h35,h36,h37,hL,qmm _ _ _ f2 f3];refine (qhm (qav links hosts) (fun a=> !exB ports a) (some (.val (.int .i64 9))) (some (.val (.int .i64 (chkC links hosts))))
   (fun i e h=>look 1 e=some (.iptr 3 [[.slice 1 (ports.map cI),.slice 5 (links.map Link.c),.slice 2 (hosts.map PortID.c)]] 0 0)/\look 5 e=some (.slice 2 ((qav links hosts).map PortID.c))/\look 50 e=some (.slice 2 ((qav links hosts).map PortID.c))/\look 51 e=some (.int .i64 (qav links hosts).length)/\look 52 e=some (.int .i64 i)/\HN h) ?_ ?_ ?_ _ _ ?_).trans (by unfold chkB;split<;>rfl)
  ·rintro i e _ L hi hL ⟨h1,h5,h50,h51,h52,n,rfl⟩ hb;have hb':exB ports ⟨(qav links hosts)[i].switch,(qav links hosts)[i].port⟩=false:=by simpa using hb
   simp [c_33_l1,PortID.c,h1,h5,h50,h51,h52,hi,hL,qgs,hb']
  ·rintro i e _ L X hi hL ⟨h1,h5,h50,h51,h52,n,rfl⟩ hb ih;have hb':exB ports ⟨(qav links hosts)[i].switch,(qav links hosts)[i].port⟩=true:=by simpa using hb
   have hw:=qao i (by omega);simp [c_33_l1,PortID.c,h1,h5,h50,h51,h52,hi,hL,qgs,hb',hw];exact ih _ _ ⟨by simp [h1],by simp [h5],by simp [h50],by simp [h51],by simp,HN.mk⟩
  ·rintro e _ L hL ⟨h1,h5,h50,h51,h52,n,rfl⟩;simp [c_33_l1,c_33_k8,h1,h5,h50,h51,h52,hL];refine (qhm (List.range (qav links hosts).length) (qpx (qav links hosts)) (some (.val (.int .i64 7))) (some (.val (.int .i64 (chkD links))))
    (fun i e h=>look 1 e=some (.iptr 3 [[.slice 1 (ports.map cI),.slice 5 (links.map Link.c),.slice 2 (hosts.map PortID.c)]] 0 0)/\look 5 e=some (.slice 2 ((qav links hosts).map PortID.c))/\look 61 e=some (.slice 2 ((qav links hosts).map PortID.c))/\look 62 e=some (.int .i64 (qav links hosts).length)/\look 63 e=some (.int .i64 i)/\HN h) ?_ ?_ ?_ _ _ ?_).trans (by unfold chkC;split<;>rfl)
   ·rintro i e _ L hi hL ⟨h1,h5,h61,h62,h63,n,rfl⟩ hb;rw [QCr] at hi;simp only [List.getElem_range] at hb;have hi':i<=(qav links hosts).length:=by omega
    have hd:((qav links hosts).take i).any (qh6 (qav links hosts)[i])=true:=by
     unfold qpx at hb
     rwa [show (qav links hosts).getD i default=(qav links hosts)[i] by simp [QBt,hi]] at hb
    simp [c_33_l4,PortID.c,h1,h5,h61,h62,h63,hi,hL,hi'];refine qzh ((qav links hosts).take i) (qh6 (qav links hosts)[i]) hd (some (Rt.val (.int .i64 7)))
     (fun k e h=>look 9 e=some (.iptr 2 [[.int .i64 (qav links hosts)[i].switch,.int .i64 (qav links hosts)[i].port]] 0 0)/\look 70 e=some (.slice 2 (((qav links hosts).map PortID.c).take i))/\look 71 e=some (.int .i64 i)/\look 72 e=some (.int .i64 k)/\HN h) ?_ ?_ _ _ ?_
    ·rintro k e _ L' hk hL' ⟨h9,h70,h71,h72,n2,rfl⟩ hb;simp only [QAv] at hk;have hk1:k<i:=by omega
     have hk2:k<(qav links hosts).length:=by omega
     have hm:min i (qav links hosts).length=i:=by omega
     simp only [QCs,qh6,Bool.and_eq_true] at hb;simp [c_33_l2,PortID.c,h9,h70,h71,h72,hk1,hk2,hL',hb,hm]
    ·rintro k e _ L' hk hL' ⟨h9,h70,h71,h72,n2,rfl⟩ hb ih;simp only [QAv] at hk;have hk1:k<i:=by omega
     have hk2:k<(qav links hosts).length:=by omega
     have hm:min i (qav links hosts).length=i:=by omega
     have hw:=qao k (by omega);simp only [QCs,qh6] at hb;simp [c_33_l2,PortID.c,h9,h70,h71,h72,hk1,hk2,hL',hb,hm,hw];exact ih _ _ ⟨by simp [h9],by simp [h70],by simp [h71],by simp,HN.mk⟩
    ·simp;exact HN.mk
   ·rintro i e _ L X hi hL ⟨h1,h5,h61,h62,h63,n,rfl⟩ hb ihX;rw [QCr] at hi;simp only [List.getElem_range] at hb;have hi':i<=(qav links hosts).length:=by omega
    have hwi:=qao i (by omega);have hd:((qav links hosts).take i).any (qh6 (qav links hosts)[i])=false:=by
     unfold qpx at hb
     rwa [show (qav links hosts).getD i default=(qav links hosts)[i] by simp [QBt,hi]] at hb
    simp [c_33_l4,PortID.c,h1,h5,h61,h62,h63,hi,hL,hi'];refine qw3 ((qav links hosts).take i) (qh6 (qav links hosts)[i]) hd X
     (fun k e h=>look 1 e=some (.iptr 3 [[.slice 1 (ports.map cI),.slice 5 (links.map Link.c),.slice 2 (hosts.map PortID.c)]] 0 0)/\look 5 e=some (.slice 2 ((qav links hosts).map PortID.c))/\look 61 e=some (.slice 2 ((qav links hosts).map PortID.c))/\look 62 e=some (.int .i64 (qav links hosts).length)/\look 63 e=some (.int .i64 i)/\
      look 9 e=some (.iptr 2 [[.int .i64 (qav links hosts)[i].switch,.int .i64 (qav links hosts)[i].port]] 0 0)/\look 70 e=some (.slice 2 (((qav links hosts).map PortID.c).take i))/\look 71 e=some (.int .i64 i)/\look 72 e=some (.int .i64 k)/\HN h) ?_ ?_ _ _ ?_
    ·rintro k e _ L' hk hL' ⟨h1,h5,h61,h62,h63,h9,h70,h71,h72,n2,rfl⟩ hb ih;simp only [QAv] at hk;have hk1:k<i:=by omega
     have hk2:k<(qav links hosts).length:=by omega
     have hm:min i (qav links hosts).length=i:=by omega
     have hw:=qao k (by omega);simp only [QCs,qh6] at hb;simp [c_33_l2,PortID.c,h9,h70,h71,h72,hk1,hk2,hL',hb,hm,hw];exact ih _ _ ⟨by simp [h1],by simp [h5],by simp [h61],by simp [h62],by simp [h63],by simp [h9],by simp [h70],by simp [h71],by simp,HN.mk⟩
    ·rintro e _ L' hL' ⟨h1,h5,h61,h62,h63,h9,h70,h71,h72,n2,rfl⟩;have hm:min i (qav links hosts).length=i:=by omega
     simp [hm] at h72;simp [c_33_l2,c_33_k3,PortID.c,h9,h63,h70,h71,h72,hL',hwi];exact ihX _ _ ⟨by simp [h1],by simp [h5],by simp [h61],by simp [h62],by simp,HN.mk⟩
    ·simp [h1,h5,h61,h62,h63];exact HN.mk
   ·rintro e _ L hL ⟨h1,h5,h61,h62,h63,n,rfl⟩;simp only [QCr] at h63;simp [c_33_l4,c_33_k7,h1,h61,h62,h63,hL];refine (qhm links (fun l=>decide (l.a.switch=l.b.switch)) (some (.val (.int .i64 2))) (some (.val (.int .i64 0)))
     (fun i e h=>look 82 e=some (.slice 5 (links.map Link.c))/\look 83 e=some (.int .i64 links.length)/\look 84 e=some (.int .i64 i)/\HN h) ?_ ?_ ?_ _ _ ?_).trans (by unfold chkD;split<;>rfl)
    ·rintro i e _ L hi hL ⟨h82,h83,h84,n,rfl⟩ hb;simp [c_33_l5,Link.c,h82,h83,h84,hi,hL,hb]
    ·rintro i e _ L X hi hL ⟨h82,h83,h84,n,rfl⟩ hb ih;have hw:=qao i (by omega);simp [c_33_l5,Link.c,h82,h83,h84,hi,hL,hb,hw];exact ih _ _ ⟨by simp [h82],by simp [h83],by simp,HN.mk⟩
    ·rintro e _ L hL ⟨h82,h83,h84,n,rfl⟩;simp [c_33_l5,c_33_k6,h82,h83,h84,hL]
    ·simp;exact HN.mk
   ·simp [h1,h5];exact HN.mk
  ·simp [h1];exact HN.mk
 ·simp;exact HN.mk
@[simp] theorem frzB_no {Φ:FuncId->Option AFun} {β:Type} {fin:Option (Ex×St)->Option β} {t:Nat} {ks:List Nat} {K:List Fr} {e:Env} {H:AH} {id z i off:Nat} {o:Option (List (List AV))}:frzB Φ fin t ks K e H id z i off true o=go Φ fin (.f ks::K) .normal ⟨e,H⟩:=by
 cases o<;>simp [frzB]
theorem ql9 {α:Type} {q:α->Bool} {l:List α} (h:qa8 l q 0=true):∃k,∃hk:k<l.length,ixF q l 0=(k:Int)/\q l[k]=true:=by
 have key:∀i,i<=l.length->qa8 l q (l.length - i)=true->∃k,∃hk:k<l.length,ixF q l (l.length - i)=(k:Int)/\q l[k]=true:=by
  intro i
  induction i with
  | zero=>intro _ h;rw [Nat.sub_zero,qii] at h;cases h
  | succ i ih=>
   intro hi h;have hlt:l.length - (i+1)<l.length:=by omega
   cases hq:q l[l.length - (i+1)] with
   | true=>exact ⟨_,hlt,qn8 hlt hq,hq⟩
   | false=>
    rw [qhh hlt hq,show l.length - (i+1)+1=l.length - i by omega] at h;rw [ql8 hlt hq,show l.length - (i+1)+1=l.length - i by omega];exact ih (by omega) h
 have:=key l.length (Qb _) (by rwa [Nat.sub_self])
 rwa [Nat.sub_self] at this
def p00:PortID:=⟨0,0⟩
def qji (l:Link) (p:PortID):PortID×Int:=if l.down then (p00,20) else if l.a.switch=p.switch/\l.a.port=p.port then (l.b,0) else (l.a,0)
def qcx (ports:List Int) (links:List Link) (hosts:List PortID) (p:PortID):PortID×Int:=
 if qbo ports links hosts≠0 then (p00,qbo ports links hosts) else if qa8 links (qcy p.switch p.port) 0 then qji (links.getD (ixF (qcy p.switch p.port) links 0).toNat default) p else (p00,8)
theorem qnu (x:List (List AV)) (links:List Link) (hosts:List PortID) (s p:Int) (hl:links.length<2^40) (hh:hosts.length<2^40):∃k i:Int,qac Φ f_116 [.agg [.slice 1 x,.slice 5 (links.map Link.c),.slice 2 (hosts.map PortID.c)],.agg [.int .i64 s,.int .i64 p]]=some (.val (.tup [.int .i64 k,.int .i64 i]))/\
  (qa8 links (qcy s p) 0=true->k=1/\i=ixF (qcy s p) links 0)/\(qa8 links (qcy s p) 0=false->k≠1):=by
 rw [qad (fn:=c_116) rfl rfl];have h1:=qkx x (hosts.map PortID.c) links s p hl;have h2:=qdl x (links.map Link.c) hosts s p hh;cases a:qa8 links (qcy s p) 0 with
 | true=>
  rw [a] at h1;exact ⟨1,_,by simp [c_116,h1],fun _=>⟨rfl,rfl⟩,by simp⟩
 | false=>
  rw [a] at h1;cases b:qa8 hosts (atP s p) 0 with
  | true=>
   rw [b] at h2;exact ⟨2,_,by simp [c_116,h1,h2];rfl,by simp,by simp⟩
  | false=>
   rw [b] at h2;exact ⟨0,0,by simp [c_116,h1,h2],by simp,by simp⟩
theorem qhq (ports:List Int) (links:List Link) (hosts:List PortID) (s p:Int) (hl:links.length<2^40) (hh:hosts.length<2^40):qac Φ f_68 [.agg [.slice 1 (ports.map cI),.slice 5 (links.map Link.c),.slice 2 (hosts.map PortID.c)],.agg [.int .i64 s,.int .i64 p]]=
  some (.val (.tup [.agg (PortID.c (qcx ports links hosts ⟨s,p⟩).1),.int .i64 (qcx ports links hosts ⟨s,p⟩).2])):=by
 rw [qad (fn:=c_68) rfl rfl];have h0:=qgx ports links hosts;obtain ⟨k,i,h1,h2,h3⟩:=qnu (ports.map cI) links hosts s p hl hh;by_cases z:qbo ports links hosts=0
 rotate_left
 ·simp [c_68,h0,z,qcx,PortID.c,p00]
 rw [z] at h0;cases a:qa8 links (qcy s p) 0 with
 | false=>
  have h3:=h3 a;simp [c_68,h0,h1,h3,qcx,z,a,PortID.c,p00]
 | true=>
  obtain ⟨rfl,rfl⟩:=h2 a;obtain ⟨j,hj,h4,h5⟩:=ql9 a;rw [h4] at h1;have e:qcx ports links hosts ⟨s,p⟩=qji links[j] ⟨s,p⟩:=by simp [qcx,z,a,h4,hj]
  rw [e];cases d:links[j].down with
  | true=>simp [c_68,h0,h1,hj,Link.c,d,qji,PortID.c,p00]
  | false=>
   by_cases q:links[j].a.switch=s/\links[j].a.port=p
   ·simp [c_68,h0,h1,hj,Link.c,d,qji,PortID.c,q]
   ·have q':(decide (links[j].a.switch=s)&&decide (links[j].a.port=p))=false:=by simpa using q
    simp [c_68,h0,h1,hj,Link.c,d,qji,PortID.c,q,q']
theorem al5 (l:List Link):qa9 5 (l.map Link.c)=true:=qa4 5 Link.c l fun x=>by simp
theorem al1 (l:List Int):qa9 1 (l.map cI)=true:=qa4 1 cI l fun x=>by simp
theorem mapOi {α:Type} {f:α->Option α}:∀{l:List α},(∀x∈l,f x=some x)->mapO f l=some l
 | [],_=>rfl
 | a::l,h=>by
  have h1:=h a (by simp);have h2:=mapOi (f:=f) (l:=l) fun x hx=>h x (by simp [hx])
  simp only [mapO,h1,h2]
theorem snpL {α:Type} {g:α->List AV} {n:Nat} {H:AH} (h:∀x,mapO (snap n H) (g x)=some (g x)) (l:List α):mapO (mapO (snap n H)) (l.map g)=some (l.map g):=by
 refine mapOi fun x hx=>?_
 obtain ⟨y,_,rfl⟩:=QAt.1 hx;exact h y
theorem snpLk {n:Nat} {H:AH} (l:List Link):mapO (mapO (snap (n+1) H)) (l.map Link.c)=some (l.map Link.c):=snpL (fun x=>by simp [Link.c]) l
theorem qol {α β:Type} (f:α->β) (l:List α):(l.map f).take l.length=l.map f:=Qo (by simp)
section
variable (ports:List Int) (links:List Link) (hosts:List PortID) (h1:ports.length<=1000) (h2:links.length<=1000) (h3:hosts.length<=1000)
include h1 h2 h3
theorem qfw:
  qac Φ f_36 [.agg [.slice 1 (ports.map cI),.slice 5 (links.map Link.c),.slice 2 (hosts.map PortID.c)]]=some (.val (.agg [.slice 1 (ports.map cI),.slice 5 (links.map Link.c),.slice 2 (hosts.map PortID.c)])):=by
 rw [qad (fn:=c_36) rfl rfl];have b1:ports.length*8<=70368744177664:=by omega
 have b2:links.length*40<=70368744177664:=by omega
 have b3:hosts.length*16<=70368744177664:=by omega
 by_cases z:links=[]
 ·subst z;simp [c_36,al1,al2,b1,b3]
 ·simp [c_36,al1,al2,al5,z,b1,b2,b3,qol,snpLk]
theorem qjz (hz:links≠[]) (xs:List (List AV)):qai Φ f_36 [.agg [.slice 1 (ports.map cI),.slice 5 (links.map Link.c),.slice 2 (hosts.map PortID.c)]] ⟨[(0,.row 3 xs)],1⟩=some (.val (.agg [.app 1 (ports.map cI) 7,.row 10 5 0 links.length,.app 2 (hosts.map PortID.c) 13]),
  ⟨[(0,.row 3 xs),(1,.row 3 [[.app 1 (ports.map cI) 7,.row 10 5 0 links.length,.app 2 (hosts.map PortID.c) 13]]),(7,.tok 1 ports.length),(10,.row 5 (links.map Link.c)),(13,.tok 2 hosts.length)],14⟩):=by
 rw [qat (fn:=c_36) rfl rfl];have b1:ports.length*8<=70368744177664:=by omega
 have b2:links.length*40<=70368744177664:=by omega
 have b3:hosts.length*16<=70368744177664:=by omega
 simp [c_36,al1,al2,al5,hz,b1,b2,b3]
end
def setD (l:List Link) (k:Nat) (d:Bool):List Link:=match l[k]? with | some x=>l.set k { x with down:=d } | none=>l
theorem qag5 {l:List Link} {k:Nat} (hk:k<l.length) (d:Bool):(l.map Link.c).set k (List.take 4 (Link.c l[k])++ .bool d::List.drop 5 (Link.c l[k]))=(setD l k d).map Link.c:=by
 simp [setD,hk,QBx,Link.c]
theorem qadz (l:List Link) (k:Nat) (d:Bool):((setD l k d).map Link.c).take l.length=(setD l k d).map Link.c:=Qo (by unfold setD;split<;>simp)
theorem qmg (l:List Link) (k:Nat) (d:Bool):(setD l k d).length=l.length:=by
 unfold setD;split<;>simp
section
variable (ports:List Int) (links:List Link) (hosts:List PortID) (k:Int) (d:Bool)
def slV:List AV×Int:=if k<0\/(links.length:Int)<=k then ([.slice 1 [],.slice 5 [],.slice 2 []],8) else ([.slice 1 (ports.map cI),.slice 5 ((setD links k.toNat d).map Link.c),.slice 2 (hosts.map PortID.c)],0)
theorem qoi (h:k<0\/(links.length:Int)<=k):slV ports links hosts k d=([.slice 1 [],.slice 5 [],.slice 2 []],8):=QAa h
theorem qxv {n:Nat} (h:n<links.length):slV ports links hosts n d=([.slice 1 (ports.map cI),.slice 5 ((setD links n d).map Link.c),.slice 2 (hosts.map PortID.c)],0):=by
 unfold slV;rw [QA (by omega)];rfl
variable (h1:ports.length<=1000) (h2:links.length<=1000) (h3:hosts.length<=1000)
include h1 h2 h3
theorem qj0:qac Φ f_93 [.agg [.slice 1 (ports.map cI),.slice 5 (links.map Link.c),.slice 2 (hosts.map PortID.c)],.int .i64 k,.bool d]=some (.val (.tup [.agg (slV ports links hosts k d).1,.int .i64 (slV ports links hosts k d).2])):=by
 rw [qad (fn:=c_93) rfl rfl];by_cases z1:k<0
 ·rw [qoi _ _ _ _ _ (.inl z1)];simp [c_93,z1]
 obtain ⟨n,rfl⟩:=QAc (show 0<=k by omega);by_cases z2:links.length<=n
 ·have z2':(links.length:Int)<=n:=by omega
  rw [qoi _ _ _ _ _ (.inr z2')];simp [c_93,z2]
 have hn:n<links.length:=by omega
 have hz:links≠[]:=by rintro rfl;simp at hn
 have hc:=qjz ports links hosts h1 h2 h3 hz;rw [qxv _ _ _ _ hn];simp [c_93,z2,hc,hn,qol,snpLk,qag5 hn,qadz,qmg]
end
@[ext] structure Pk where
 pos:PortID
 data:List Int
 hops:List Hop
 done:Bool
 kind:Int
 index:Int
 deriving Inhabited
@[ext] structure NetV where
 ports:List Int
 links:List Link
 hosts:List PortID
 cs:List Xf
 pk:List Pk
 log:List Event
 deriving Inhabited
structure Act where
 dd:Int
 a:Int
 b:Int
 data:List Int
 upd:UpdateStep
 deriving Inhabited
def Act.c (x:Act):List AV:=[.int .i64 x.dd,.int .i64 x.a,.int .i64 x.b,.slice 1 (x.data.map c8),.int .i64 x.upd.switch,.slice 9 (x.upd.ops.map Xc.c)]
def NetV.ev (V:NetV) (x:Event):NetV:={ V with log:=V.log++[x] }
def Pk.fin (x:Pk) (k i:Int):Pk:={ x with done:=true,kind:=k,index:=i }
def qc1 (V:NetV) (host:Int) (data:List Int):NetV×Int×Int:=
 if host<0\/(V.hosts.length:Int)<=host then (V,0,8)
 else if 512<data.length then (V,0,4)
 else if 4096<=V.pk.length then (V,0,12)
 else (NetV.ev { V with pk:=V.pk++[(⟨V.hosts.getD host.toNat default,data,[],false,0,0⟩:Pk)] } ⟨1,V.pk.length,host,0⟩,V.pk.length,0)
def hop1 (x:Pk) (out:Int):List Hop:=x.hops++[⟨x.pos.switch,x.pos.port,out⟩]
def mvD (x:Pk) (i:Nat):Pk×List Event:=(Pk.fin { x with hops:=hop1 x (-1) } 2 x.pos.switch,[⟨2,i,x.pos.switch,-1⟩])
def mvP (V:NetV) (x:Pk) (i:Nat) (r:Rslt):Pk×List Event:=
 if qa8 V.hosts (atP x.pos.switch r.port) 0 then (Pk.fin { x with hops:=hop1 x r.port,data:=r.data } 1 (ixF (atP x.pos.switch r.port) V.hosts 0),[⟨2,i,x.pos.switch,r.port⟩,⟨3,i,ixF (atP x.pos.switch r.port) V.hosts 0,0⟩])
 else if (qcx V.ports V.links V.hosts ⟨x.pos.switch,r.port⟩).2=0 then ({ x with hops:=hop1 x r.port,data:=r.data,pos:=(qcx V.ports V.links V.hosts ⟨x.pos.switch,r.port⟩).1 },[⟨2,i,x.pos.switch,r.port⟩])
 else (Pk.fin { x with hops:=hop1 x r.port,data:=r.data } 3 x.pos.switch,[⟨2,i,x.pos.switch,r.port⟩,⟨4,i,x.pos.switch,r.port⟩])
def mv (V:NetV) (x:Pk) (i:Nat) (r:Rslt):Pk×List Event:=if r.drop then mvD x i else mvP V x i r
def qfr (V:NetV) (i:Nat) (r:Rslt) (c:Xf):NetV:=
  { V with cs:=V.cs.set (V.pk.getD i default).pos.switch.toNat c,pk:=V.pk.set i (mv V (V.pk.getD i default) i r).1,log:=V.log++(mv V (V.pk.getD i default) i r).2 }
def ev0:Event:=⟨0,0,0,0⟩
def qlf (V:NetV) (i:Nat) (r:Rslt):Event:=(mv V (V.pk.getD i default) i r).2.getLastD ev0
def chkV (V:NetV) (id:Int):Int:=if id<0\/(V.pk.length:Int)<=id then 8 else if (V.pk.getD id.toNat default).done then 25 else 0
def stpV (P:Xf->Int->List Int->Rslt×Xf) (V:NetV) (id:Int):NetV×Event×Int:=
 if chkV V id≠0 then (V,ev0,chkV V id)
 else
  let x:=V.pk.getD id.toNat default
  let q:=P (V.cs.getD x.pos.switch.toNat default) x.pos.port x.data
  (qfr V id.toNat q.1 q.2,qlf V id.toNat q.1,0)
def qe2 (V:NetV) (k:Int) (d:Bool):NetV×Int:=
 if k<0\/(V.links.length:Int)<=k then (V,8) else (NetV.ev { V with links:=setD V.links k.toNat d } ⟨6,k,if d then 1 else 0,0⟩,0)
def Pk.c (x:Pk):List AV:=[.int .i64 x.pos.switch,.int .i64 x.pos.port,.slice 1 (x.data.map c8),.slice 3 (x.hops.map Hop.c),.bool x.done,.int .i64 x.kind,.int .i64 x.index,.slice 3 ((if x.done then x.hops else []).map Hop.c),.slice 2 []]
def NetV.r (V:NetV):List AV:=[.slice 1 (V.ports.map cI),.slice 5 (V.links.map Link.c),.slice 2 (V.hosts.map PortID.c),.slice 4 (V.cs.map Xf.c),.slice 9 (V.pk.map Pk.c),.slice 4 (V.log.map Event.c)]
theorem NetV.re (V:NetV):V.r=[.slice 1 (V.ports.map cI),.slice 5 (V.links.map Link.c),.slice 2 (V.hosts.map PortID.c),.slice 4 (V.cs.map Xf.c),.slice 9 (V.pk.map Pk.c),.slice 4 (V.log.map Event.c)]:=rfl
theorem Pk.ce (x:Pk):x.c=[.int .i64 x.pos.switch,.int .i64 x.pos.port,.slice 1 (x.data.map c8),.slice 3 (x.hops.map Hop.c),.bool x.done,.int .i64 x.kind,.int .i64 x.index,.slice 3 ((if x.done then x.hops else []).map Hop.c),.slice 2 []]:=rfl
structure NetS (V:NetV):Prop where
 p:V.ports.length<=1000
 l:V.links.length<=1000
 h:V.hosts.length<=1000
 c:V.cs.length<=1000
 k:V.pk.length<=1000
 g:V.log.length<=10000
 hp:∀x∈V.pk,x.hops.length<=1000
theorem al4 (l:List Event):qa9 4 (l.map Event.c)=true:=qa4 4 Event.c l fun x=>by simp
theorem alH (l:List Hop):qa9 3 (l.map Hop.c)=true:=qa4 3 Hop.c l fun x=>by simp
set_option maxRecDepth 8000
theorem Rslt.ce (x:Rslt):x.c=[.bool x.drop,.int .i64 x.port,.slice 1 (x.data.map c8),.slice 3 (x.hits.map Hit.c)]:=rfl
theorem Event.ce (x:Event):x.c=[.int .i64 x.kind,.int .i64 x.a,.int .i64 x.b,.int .i64 x.cc]:=rfl
theorem Xf.e4 (x:Xf):Xf.c x=[.slice 1 (x.rows.map (cS 5 Rw.c)),.slice 1 (x.Xr.map cI),.slice 2 (x.Xq.map Xb.c),.slice 1 (x.Xm.map (cS 1 c32))]:=by simp [Xf.c]
theorem qx1 {α:Type} {g:α->List AV} {n:Nat} {H:AH} (h:∀x,mapO (snap n H) (g x)=some (g x)):∀{l:List α} {i:Nat},i<l.length->∀y:List AV,mapO (mapO (snap n H)) ((l.map g).set i y)=(mapO (snap n H) y).map fun z=>(l.map g).set i z
 | [],_,hi,_=>by simp at hi
 | a::l,0,_,y=>by
  have h2:=snpL h l;simp only [QBp,List.set_cons_zero,mapO,h2];cases mapO (snap n H) y<;>rfl
 | a::l,i+1,hi,y=>by
  have h1:=h a;have h2:=qx1 h (l:=l) (i:=i) (by simpa using hi) y;simp only [QBp,List.set_cons_succ,mapO,h1,h2];cases mapO (snap n H) y<;>rfl
theorem snpCf {n:Nat} {H:AH} (x:Xf):mapO (snap (n+1) H) x.c=some x.c:=by simp [Xf.c]
theorem qc2 {α β:Type} (g:α->β) (l:List α) (i:Nat) (y:β):((l.map g).set i y).take l.length=(l.map g).set i y:=Qo (by simp)
section
variable (V:NetV) (i:Nat) (hi:i<V.pk.length) (x:Pk) (hx:V.pk[i]=x) (k:Nat) (hs:x.pos.switch=k) (hk:k<V.cs.length) (r:Rslt) (c:Xf) (s:NetS V) (hd:x.done=false)
include hi hx hs hk s hd
end
theorem qab (t:Nat) (a b:List (Nat×AO)):look t (a++b)=(look t a).or (look t b):=qdw t a b
theorem qaa (j t:Nat) (y:AO):∀O:List (Nat×AO),look j (setl t y O)=if j=t then (look t O).map (fun _=>y) else look j O
 | []=>by simp
 | (u,w)::r=>by
  have ih:=qaa j t y r;by_cases hu:u=t
  ·subst hu;by_cases hj:j=u
   ·subst hj;simp
   ·have:¬u=j:=fun h=>hj h.symm
    simp [hj,this]
  ·by_cases hj:j=t
   ·subst hj;simp [hu];simpa using ih
   ·by_cases hv:u=j
    ·subst hv;simp [hu]
    ·simp [hu,hv,hj];simpa [hj] using ih
theorem qak {j t:Nat} (h:j≠t):∀O:List (Nat×AO),look j (qaw t O)=look j O
 | []=>by simp
 | (u,w)::r=>by
  have ih:=qak h r;by_cases hu:u=t
  ·subst hu;have:¬u=j:=fun e=>h e.symm
   simp [this]
  ·by_cases hv:u=j
   ·subst hv;simp [hu]
   ·simp [hu,hv,ih]
theorem qdd {j t:Nat}:∀O:List (Nat×AO),look j O=none->look j (qaw t O)=none
 | [],_=>by simp
 | (u,w)::r,h=>by
  by_cases hv:u=j
  ·subst hv;simp at h
  ·simp [hv] at h;have ih:=qdd (t:=t) r h;by_cases hu:u=t
   ·subst hu;simpa using h
   ·simp [hu,hv,ih]
theorem qaf {j:Nat}:∀{O:List (Nat×AO)},look j O≠some .res->look j (qau O)=look j O
 | [],_=>by simp
 | (u,w)::r,h=>by
  by_cases hv:u=j
  ·subst hv;simp at h;cases w<;>simp at h ⊢
  ·simp [hv] at h;have ih:=qaf h;cases w<;>simp [hv,ih]
section
variable (z t i o n:Nat) (es:List (List AV))
@[simp] theorem qakp:lenOf (.slice z es)=some es.length:=rfl
@[simp] theorem qakn:lenOf (.Xu z es)=some es.length:=rfl
@[simp] theorem qakm:lenOf (.app z es t)=some es.length:=rfl
@[simp] theorem qako:lenOf (.row t z o n)=some n:=rfl
@[simp] theorem qai3 (cs:List AV):AV.cells (.agg cs)=some cs:=rfl
@[simp] theorem qai4 (k:IntKind) (x:Int):AV.cells (.int k x)=some [.int k x]:=rfl
@[simp] theorem qah4 (b:Bool):AV.cells (.bool b)=some [.bool b]:=rfl
@[simp] theorem qai7 (b:List UInt8):AV.cells (.str b)=some [.str b]:=rfl
@[simp] theorem qae4:AV.cells .nilptr=some [.nilptr]:=rfl
@[simp] theorem qae3:AV.cells .nilmap=some [.nilmap]:=rfl
@[simp] theorem qaj8:AV.cells (.slice z es)=some [.slice z es]:=rfl
@[simp] theorem qaj6:AV.cells (.Xu z es)=some [.Xu z es]:=rfl
@[simp] theorem qaj5:AV.cells (.app z es t)=some [.app z es t]:=rfl
@[simp] theorem qaj7:AV.cells (.row t z o n)=some [.row t z o n]:=rfl
@[simp] theorem qai6:AV.cells (.ptr t z o n)=some [.ptr t z o n]:=rfl
@[simp] theorem qah6:AV.cells (.iptr z es o n)=some [.iptr z es o n]:=rfl
@[simp] theorem qai5:AV.cells (.map t)=some [.map t]:=rfl
@[simp] theorem qah5 (f:Fn) (a b:List AV):AV.cells (.func f a b)=some [.func f a b]:=rfl
end
theorem Tail_append_iff {a b:List (Nat×AO)} {n:Nat}:Tail (a++b) n↔Tail a n/\Tail b n:=by
 constructor
 ·intro h;refine ⟨fun j hj=>?_,fun j hj=>?_⟩
  ·have:=h j hj;rw [qab] at this;cases hl:look j a with
   | none=>rfl
   | some x=>rw [hl] at this;cases this
  ·have:=h j hj;rw [qab] at this;cases hl:look j a with
   | none=>rw [hl] at this;simpa using this
   | some x=>rw [hl] at this;cases this
 ·rintro ⟨h1,h2⟩ j hj;rw [qab,h1 j hj,h2 j hj];rfl
theorem Tail_cons_iff {u n:Nat} {x:AO} {r:List (Nat×AO)}:Tail ((u,x)::r) n↔u<n/\Tail r n:=by
 constructor
 ·intro h;have hu:u<n:=by
   refine Decidable.byContradiction fun hc=>?_
   have:=h u (by omega);simp at this
  refine ⟨hu,fun j hj=>?_⟩;have:=h j hj;have hne:¬u=j:=by omega
  simpa [hne] using this
 ·rintro ⟨h1,h2⟩ j hj;have hne:¬u=j:=by omega
  simp [hne,h2 j hj]
theorem qbu {n:Nat}:Tail [] n↔True:=⟨fun _=>trivial,fun _=>Tail.nil n⟩
theorem qaj {t n:Nat} {y:AO} {O:List (Nat×AO)} (h:Tail O n):Tail (setl t y O) n:=by
 intro j hj;rw [qaa];split
 ·rename_i e;rw [<- e,h j hj];rfl
 ·exact h j hj
theorem qc7 {t n:Nat} {O:List (Nat×AO)} (h:Tail O n):Tail (qaw t O) n:=fun j hj=>qdd _ (h j hj)
theorem qdm {n:Nat} {O:List (Nat×AO)} (h:Tail O n):Tail (qau O) n:=by
 intro j hj;rw [qaf (by rw [h j hj];simp),h j hj]
theorem Tail.lt {O:List (Nat×AO)} {n j:Nat} {x:AO} (h:Tail O n) (hl:look j O=some x):j<n:=by
 refine Decidable.byContradiction fun hc=>?_
 rw [h j (by omega)] at hl;cases hl
def Kp (X:Nat->Prop) (N:Nat) (O O':List (Nat×AO)):Prop:=∀j,j<N->¬X j->look j O'=look j O
theorem Kp.refl {X:Nat->Prop} {N:Nat} {O:List (Nat×AO)}:Kp X N O O:=fun _ _ _=>rfl
theorem Kp.trans {X:Nat->Prop} {N N':Nat} {O O' O'':List (Nat×AO)} (h:Kp X N O O') (h2:Kp X N' O' O'') (hn:N<=N'):Kp X N O O'':=
 fun j hj hx=>(h2 j (by omega) hx).trans (h j hj hx)
theorem Kp.mono {X Y:Nat->Prop} {N:Nat} {O O':List (Nat×AO)} (h:Kp X N O O') (hx:∀j,j<N->X j->Y j):Kp Y N O O':=
 fun j hj hy=>h j hj fun hc=>hy (hx j hj hc)
section
variable {Φ:FuncId->Option AFun} {β:Type} {fin:Option (Ex×St)->Option β}
theorem quv {σ:Type} (m:σ->Nat) (Inv:σ->Env->AH->Prop) (R:σ->Option β->Prop) {b:Xv} {K:List Go.Av.Fr}
  (step:∀x e h L,(∀j s,go Φ fin L (.exit j) s=go Φ fin K (.exit j) s)->Inv x e h->(∀y e' h',m y<m x->Inv y e' h'->R y (go Φ fin L .normal ⟨e',h'⟩))->R x (go Φ fin (.c b::L) .normal ⟨e,h⟩)):
  ∀x e h,Inv x e h->R x (go Φ fin (.c (.loop b)::K) .normal ⟨e,h⟩):=by
 have key:∀n x e h,m x<=n->Inv x e h->R x (go Φ fin (.c (.loop b)::K) .normal ⟨e,h⟩):=by
  intro n
  induction n with
  | zero=>
   intro x e h hn hi;rw [qa3];exact step x e h _ (fun j s=>by simp) hi fun y e' h' hlt=>by omega
  | succ n ih=>
   intro x e h hn hi;rw [qa3];exact step x e h _ (fun j s=>by simp) hi fun y e' h' hlt hy=>ih y e' h' (by omega) hy
 intro x e h hi;exact key (m x) x e h (Qb _) hi
theorem qbk (N:Nat) (Inv:Nat->Env->AH->Prop) (Q:Option β->Prop) {b:Xv} {K:List Go.Av.Fr}
  (step:∀i e h L,i<N->(∀j s,go Φ fin L (.exit j) s=go Φ fin K (.exit j) s)->Inv i e h->(∀e' h',Inv (i+1) e' h'->Q (go Φ fin L .normal ⟨e',h'⟩))->Q (go Φ fin (.c b::L) .normal ⟨e,h⟩))
  (last:∀e h L,(∀j s,go Φ fin L (.exit j) s=go Φ fin K (.exit j) s)->Inv N e h->Q (go Φ fin (.c b::L) .normal ⟨e,h⟩)):
  ∀i e h,i<=N->Inv i e h->Q (go Φ fin (.c (.loop b)::K) .normal ⟨e,h⟩):=by
 intro i e h hi hinv;refine quv (σ:={ i:Nat // i<=N }) (fun x=>N - x.1) (fun x=>Inv x.1) (fun _=>Q) ?_ ⟨i,hi⟩ e h hinv;intro ⟨i,hi⟩ e h L hL hinv ih;rcases Nat.lt_or_eq_of_le hi with hlt | heq
 ·exact step i e h L hlt hL hinv fun e' h' hi'=>ih ⟨i+1,hlt⟩ e' h' (by simp;omega) hi'
 ·subst heq;exact last e h L hL hinv
end
def vid:AV->Option Nat
 | .row id _ _ _=>some id
 | _=>none
inductive Mu (O:List (Nat×AO)) (z:Nat):AV->List (List AV)->Prop
 | nilF:Mu O z (.Xu z []) []
 | nilA (t:Nat):Mu O z (.app z [] t) []
 | row (id:Nat) (es es0:List (List AV)) (n:Nat) (hn:n=es.length) (hl:look id O=some (.row z es0)) (hle:es.length<=es0.length) (ht:es0.take es.length=es):Mu O z (.row id z 0 n) es
theorem Mu.len {O:List (Nat×AO)} {z:Nat} {v:AV} {es:List (List AV)} (h:Mu O z v es):lenOf v=some es.length:=by
 cases h with
 | nilF=>rfl
 | nilA=>rfl
 | row id _ es0 n hn=>subst hn;rfl
theorem Mu.fr {O O':List (Nat×AO)} {z:Nat} {v:AV} {es:List (List AV)} (h:Mu O z v es) (hf:∀j,vid v=some j->look j O'=look j O):Mu O' z v es:=by
 cases h with
 | nilF=>exact .nilF
 | nilA=>exact .nilA _
 | row id _ es0 n hn hl hle ht=>exact .row id es es0 n hn (by rw [hf id rfl,hl]) hle ht
theorem Mu.nonempty {O:List (Nat×AO)} {z:Nat} {v:AV} {es:List (List AV)} (h:Mu O z v es) (hp:0<es.length):∃id es0,v= .row id z 0 es.length/\look id O=some (.row z es0)/\es.length<=es0.length/\es0.take es.length=es:=by
 cases h with
 | nilF=>simp at hp
 | nilA=>simp at hp
 | row id _ es0 n hn hl hle ht=>subst hn;exact ⟨id,es0,rfl,hl,hle,ht⟩
theorem Mu.snp {O:List (Nat×AO)} {z N n:Nat} {v:AV} {es:List (List AV)} (h:Mu O z v es):snap (n+1) ⟨O,N⟩ v=(mapO (mapO (snap n ⟨O,N⟩)) es).map (.slice z):=by
 cases h with
 | nilF=>simp
 | nilA=>simp
 | row id _ es0 k hn hl hle ht=>
  subst hn;simp [hl,hle,ht]
inductive Re (O:List (Nat×AO)) (z:Nat):AV->List (List AV)->Prop
 | sl (es:List (List AV)):Re O z (.slice z es) es
 | fs (es:List (List AV)):Re O z (.Xu z es) es
 | ap (es:List (List AV)) (t:Nat):Re O z (.app z es t) es
 | row (id:Nat) (es es0:List (List AV)) (n:Nat) (hn:n=es.length) (hl:look id O=some (.row z es0)) (hle:es.length<=es0.length) (ht:es0.take es.length=es):Re O z (.row id z 0 n) es
theorem Mu.re {O:List (Nat×AO)} {z:Nat} {v:AV} {es:List (List AV)} (h:Mu O z v es):Re O z v es:=by
 cases h with
 | nilF=>exact .fs []
 | nilA=>exact .ap [] _
 | row id _ es0 n hn hl hle ht=>exact .row id es es0 n hn hl hle ht
theorem Re.fr {O O':List (Nat×AO)} {z:Nat} {v:AV} {es:List (List AV)} (h:Re O z v es) (hf:∀j,vid v=some j->look j O'=look j O):Re O' z v es:=by
 cases h with
 | sl=>exact .sl es
 | fs=>exact .fs es
 | ap=>exact .ap es _
 | row id _ es0 n hn hl hle ht=>exact .row id es es0 n hn (by rw [hf id rfl,hl]) hle ht
theorem Re.len {O:List (Nat×AO)} {z:Nat} {v:AV} {es:List (List AV)} (h:Re O z v es):lenOf v=some es.length:=by
 cases h with
 | sl=>rfl
 | fs=>rfl
 | ap=>rfl
 | row id _ es0 n hn=>subst hn;rfl
theorem Re.snp {O:List (Nat×AO)} {z N n:Nat} {v:AV} {es:List (List AV)} (h:Re O z v es) (he:mapO (mapO (snap n ⟨O,N⟩)) es=some es):snap (n+1) ⟨O,N⟩ v=some (.slice z es):=by
 cases h with
 | sl=>simp
 | fs=>simp
 | ap=>simp
 | row id _ es0 k hn hl hle ht=>
  subst hn;simp [hl,hle,ht,he]
theorem Re.cells {O:List (Nat×AO)} {z:Nat} {v:AV} {es:List (List AV)} (h:Re O z v es):v.cells=some [v]:=by
 cases h<;>rfl
theorem Mu.cells {O:List (Nat×AO)} {z:Nat} {v:AV} {es:List (List AV)} (h:Mu O z v es):v.cells=some [v]:=h.re.cells
def letC (c:Int):Bool:=(decide (97<=c)&&decide (c<=122)) || (decide (65<=c)&&decide (c<=90))
def digI (c:Int):Bool:=decide (48<=c)&&decide (c<=57)
def idC (c:Int):Bool:=letC c || (digI c || decide (c=95))
theorem qlw (c:Int):qac Φ f_299 [.int .u8 c]=some (.val (.bool (letC c))):=by
 rw [qad (fn:=c_299) rfl rfl];by_cases h1:97<=c<;>by_cases h2:c<=122<;>by_cases h3:65<=c<;>simp [c_299,letC,h1,h2,h3]
theorem qus (c:Int):qac Φ f_302 [.int .u8 c]=some (.val (.bool (digI c))):=by
 rw [qad (fn:=c_302) rfl rfl];by_cases h1:48<=c<;>simp [c_302,digI,h1]
theorem qafv (c:Int):qac Φ f_301 [.int .u8 c]=some (.val (.bool (idC c))):=by
 rw [qad (fn:=c_301) rfl rfl];have h1:=qlw c;have h2:=qus c;cases q1:letC c<;>cases q2:digI c<;>rw [q1] at h1<;>rw [q2] at h2<;>simp [c_301,idC,h1,h2,q1,q2]
theorem qwi (s:List UInt8) (hs:s.length<2^40):qac Φ f_300 [.str s,.func (.func f_301) [] []]=some (.val (.int .i64 (s.takeWhile fun b=>idC b.toNat).length)):=by
 rw [qad (fn:=c_300) rfl rfl];simp [c_300];refine (qby s.length (fun i e=>look 0 e=some (.str s)/\look 1 e=some (.func (.func f_301) [] [])/\look 5 e=some (.int .i64 i))
  (fun i=>some (Rt.val (.int .i64 (i+((s.drop i).takeWhile fun b=>idC b.toNat).length:Nat)))) ?_ ?_ 0 _ (Qc _) ?_).trans (by simp)
 ·rintro i e L hi hL ⟨h0,h1,h5⟩ ih;have hw:=qao i (by omega);have hc:=qafv (s[i].toNat:Int);rw [Qi hi];cases q:idC (s[i].toNat:Int) with
  | true=>
   rw [q] at hc;rw [show List.takeWhile (fun b:UInt8=>idC b.toNat) (s[i]::s.drop (i+1))=s[i]::List.takeWhile (fun b:UInt8=>idC b.toNat) (s.drop (i+1)) from List.takeWhile_cons_of_pos q];simp [c_300_l0,h0,h1,h5,hi,hc,hw];refine (ih _ ⟨by simp [h0],by simp [h1],by simp⟩).trans ?_;simp;omega
  | false=>
   rw [q] at hc;rw [show List.takeWhile (fun b:UInt8=>idC b.toNat) (s[i]::s.drop (i+1))=[] from List.takeWhile_cons_of_neg (by simp [q])];simp [c_300_l0,c_300_k1,h0,h1,h5,hi,hL,hc]
 ·rintro e L hL ⟨h0,h1,h5⟩;simp [c_300_l0,c_300_k1,h0,h5,hL]
 ·simp
def idS (s:List UInt8):Bool:=match s with
 | []=>false
 | c::_=>decide (s.length<=16)&&(letC c.toNat&&s.all fun b=>idC b.toNat)
theorem qjx (p:UInt8->Bool):∀s:List UInt8,((s.takeWhile p).length=s.length)↔s.all p=true
 | []=>by simp
 | c::r=>by
  have:=qjx p r;cases q:p c<;>simp [q];simpa using this
theorem qs7 {s:List UInt8} (h:0<s.length):idS s=(decide (s.length<=16)&&(letC s[0].toNat&&s.all fun b=>idC b.toNat)):=by
 cases s with
 | nil=>simp at h
 | cons c r=>rfl
theorem qut (s:List UInt8) (hs:s.length<2^40):qac Φ f_228 [.str s]=some (.val (.bool (idS s))):=by
 rw [qad (fn:=c_228) rfl rfl];by_cases h0:s.length=0
 ·have:s=[]:=Qg h0;subst this;simp [c_228,idS]
 have hp:0<s.length:=by omega
 rw [qs7 hp];by_cases h16:16<s.length
 ·simp [c_228,h0,h16,Qf.2 h16]
 have hl:=qlw (s[0].toNat:Int);cases q:letC (s[0].toNat:Int) with
 | false=>
  rw [q] at hl;simp [c_228,h0,hp,h16,hl]
 | true=>
  rw [q] at hl;have he:=qwi s hs;have ht:=qjx (fun b=>idC b.toNat) s;have e:(decide ((s.takeWhile fun b=>idC b.toNat).length=s.length))=(s.all fun b=>idC b.toNat):=by
   cases h:(s.all fun b=>idC b.toNat) with
   | true=>exact decide_eq_true (ht.2 h)
   | false=>exact decide_eq_false (fun h2=>by have:=ht.1 h2;rw [h] at this;cases this)
  simp [c_228,h0,hp,h16,Nat.le_of_not_lt h16,hl,he,e]
theorem Fld.e (x:Fld):Fld.c x=[.str x.name,.int .i64 x.width]:=by simp [Fld.c]
theorem Xe.e (x:Xe):Xe.c x=[.int .i64 x.op,.int .i64 x.n,.int .i64 x.w]:=by simp [Xe.c]
theorem Xl.e (x:Xl):Xl.c x=[.int .i64 x.field.header,.int .i64 x.field.field,.int .i64 x.kind]:=by simp [Xl.c]
theorem Xb.e (x:Xb):Xb.c x=[.int .i64 x.action,.slice 1 (x.args.map c32)]:=by simp [Xb.c]
theorem Xk.e (x:Xk):Xk.c x=[.int .u32 x.value,.int .u32 x.mask,.int .i64 x.next]:=by simp [Xk.c]
theorem Action.e (x:Action):Action.c x=[.str x.name,.slice 2 (x.params.map Fld.c),.slice 7 (x.body.map Xg.c)]:=by simp [Action.c]
theorem Xj.e (x:Xj):Xj.c x=[.str x.name,.slice 2 (x.fields.map Fld.c)]:=by simp [Xj.c]
theorem Xh.e (x:Xh):Xh.c x=[.str x.name,.int .i64 x.width,.int .i64 x.size]:=by simp [Xh.c]
theorem Xg.e (x:Xg):Xg.c x=[.int .i64 x.kind,.int .i64 x.dst.header,.int .i64 x.dst.field,.int .i64 x.register,.int .i64 x.header,.slice 3 (x.index.map Xe.c),.slice 3 (x.value.map Xe.c)]:=by simp [Xg.c]
theorem Tbl.e (x:Tbl):Tbl.c x=[.str x.name,.slice 3 (x.keys.map Xl.c),.slice 1 (x.actions.map cI),.int .i64 x.dflt.action,.slice 1 (x.dflt.args.map c32),.int .i64 x.size]:=by simp [Tbl.c]
theorem Xd.e (x:Xd):Xd.c x=[.str x.name,.slice 1 (x.extract.map cI),.bool x.select,.int .i64 x.on.header,.int .i64 x.on.field,.slice 3 (x.cases.map Xk.c),.int .i64 x.dflt]:=by simp [Xd.c]
theorem Xa.e (k t:Int) (c:List Xe) (a b:List Xa):Xa.c (.mk k t c a b)=[.int .i64 k,.int .i64 t,.slice 3 (c.map Xe.c),.slice 5 (a.map Xa.c),.slice 5 (b.map Xa.c)]:=by simp [Xa.c,Xa.cs_eq]
theorem Prg.e (x:Prg):Prg.c x=[.str x.name,.slice 2 (x.Xp.map Xj.c),.slice 2 (x.Xo.map Fld.c),.slice 3 (x.Xm.map Xh.c),.slice 3 (x.actions.map Action.c),.slice 6 (x.Xn.map Tbl.c),.slice 7 (x.states.map Xd.c),.slice 5 (x.control.map Xa.c),.slice 1 (x.Xs.map cI)]:=by simp [Prg.c]
def feF {α:Type} (f:Nat->Option α):Nat->Nat->Option α
 | 0,_=>none
 | n+1,i=>match f i with
  | some x=>some x
  | none=>feF f n (i+1)
def fe {α:Type} (f:Nat->Option α) (N i:Nat):Option α:=feF f (N - i) i
theorem qbj {α:Type} {f:Nat->Option α} {N i:Nat} {x:α} (hi:i<N) (h:f i=some x):fe f N i=some x:=by
 unfold fe;rw [show N - i=(N - (i+1))+1 by omega];simp [feF,h]
theorem qbf {α:Type} {f:Nat->Option α} {N i:Nat} (hi:i<N) (h:f i=none):fe f N i=fe f N (i+1):=by
 unfold fe;rw [show N - i=(N - (i+1))+1 by omega];simp [feF,h]
theorem qb7 {α:Type} {f:Nat->Option α} {N:Nat}:fe f N N=none:=by simp [fe,feF]
def er (e:Int):Option Int:=if e=0 then none else some e
def errO:Option Int->Int
 | none=>0
 | some e=>e
@[simp] theorem qaja:errO none=0:=by simp [errO]
@[simp] theorem qajb (e:Int):errO (some e)=e:=by simp [errO]
def at? {α:Type} (l:List α) (i:Int):Option α:=if i<0 then none else l[i.toNat]?
@[simp] theorem qim {α:Type} (l:List α) (i:Nat):at? l (i:Int)=l[i]? :=by
 unfold at?;rw [QA (by omega)];simp
theorem qc5 {α:Type} {l:List α} {i:Int} (h:i<0):at? l i=none:=by simp [at?,h]
theorem qc4 {α:Type} {l:List α} {i:Int} (h:(l.length:Int)<=i):at? l i=none:=by
 unfold at?;split
 ·rfl
 ·simp;omega
def wBad (w:Int):Bool:=decide (w<1) || decide (32<w)
def dupN {α:Type} (nm:α->List UInt8) (l:List α) (i:Nat) (x:α):Bool:=(l.take i).any fun y=>decide (nm y=nm x)
def fldE (l:List Fld) (i:Nat) (f:Fld):Int:=if idS f.name=false then 6 else if wBad f.width then 10 else if dupN Fld.name l i f then 7 else 0
def fldsE (l:List Fld):Option Int:=fe (fun i=>(l[i]?).bind fun f=>er (fldE l i f)) l.length 0
def wSum (l:List Fld):Int:=(l.map (·.width)).sum
def hdrE (h:Xj):Int:=if idS h.name=false then 6 else if h.fields.length=0 then 8 else if 12<h.fields.length then 12 else
 match fldsE h.fields with
 | some e=>e
 | none=>if (wSum h.fields) % 8=0 then 0 else 10
def regE (r:Xh):Int:=if idS r.name=false then 6 else if wBad r.width then 10 else if r.size<1\/64<r.size then 9 else 0
def decl (p:Prg) (h f:Int):Option Int:=(if h= -1 then some p.Xo else (at? p.Xp h).map (·.fields)).bind fun l=>(at? l f).map (·.width)
def wid (p:Prg) (h f:Int):Int:=match decl p h f with
 | some w=>if wBad w then 0 else w
 | none=>0
def ari (op:Int):Int:=if 1<=op/\op<=4 then 0 else if 5<=op/\op<=8 then 1 else if 9<=op/\op<=16 then 2 else if op=17 then 3 else -1
def wide (w:Int):Int×Int:=if wBad w then (0,10) else (w,0)
def prim (p:Prg) (ps:List Fld) (x:Xe):Int×Int:=
 if x.op=1 then (if wBad x.w then (0,10) else if x.n<0\/2^x.w.toNat - 1<x.n then (0,9) else (x.w,0))
 else if x.op=2 then (match decl p x.n x.w with | some w=>wide w | none=>(0,8))
 else if x.op=3 then (match at? ps x.n with | some f=>wide f.width | none=>(0,8))
 else if (at? p.Xp x.n).isSome then (1,0) else (0,8)
def comb (x:Xe) (a b c:Int):Int×Int:=
 if x.op=6\/x.op=7 then (if x.n<0\/31<x.n then (0,9) else (a,0))
 else if x.op=8 then (if x.n<0 then (0,9) else if wBad x.w\/a - x.w<x.n then (0,10) else (x.w,0))
 else if x.op=14 then wide (a+b)
 else if x.op=17 then (if a≠1\/b≠c then (0,10) else (b,0))
 else if ari x.op=2/\a≠b then (0,10)
 else if x.op=15\/x.op=16 then (1,0) else (a,0)
def chk (p:Prg) (ps:List Fld) (l:List Xe):Nat->Nat->Except Int (Int×Nat)
 | 0,_=> .error 3
 | n+1,i=>match l[i]? with
  | none=> .error 3
  | some x=>
   if ari x.op<0 then .error 11
   else if ari x.op=0 then (if (prim p ps x).2=0 then .ok ((prim p ps x).1,i+1) else .error (prim p ps x).2)
   else match chk p ps l n (i+1) with
    | .error e=> .error e
    | .ok (a,i1)=>
     if ari x.op=1 then (if (comb x a 0 0).2=0 then .ok ((comb x a 0 0).1,i1) else .error (comb x a 0 0).2)
     else match chk p ps l n i1 with
      | .error e=> .error e
      | .ok (b,i2)=>
       if ari x.op=2 then (if (comb x a b 0).2=0 then .ok ((comb x a b 0).1,i2) else .error (comb x a b 0).2)
       else match chk p ps l n i2 with
        | .error e=> .error e
        | .ok (c,i3)=>if (comb x a b c).2=0 then .ok ((comb x a b c).1,i3) else .error (comb x a b c).2
def exE (p:Prg) (ps:List Fld) (l:List Xe):Int×Int:=
 if 24<l.length then (0,12) else match chk p ps l (l.length+1) 0 with
 | .error e=>(0,e)
 | .ok (w,i)=>if i<l.length then (0,4) else (w,0)
def valE (p:Prg) (ps:List Fld) (l:List Xe) (w:Int):Int:=if (exE p ps l).2=0 then (if (exE p ps l).1=w then 0 else 10) else (exE p ps l).2
def stmE (p:Prg) (ps:List Fld) (s:Xg):Int:=
 if s.kind=1 then (match decl p s.dst.header s.dst.field with
  | none=>8
  | some w=>valE p ps s.value w)
 else if s.kind=2\/s.kind=3 then (if (at? p.Xp s.header).isSome then 0 else 8)
 else if s.kind=4 then (match at? p.Xm s.register,decl p s.dst.header s.dst.field with
  | some r,some w=>if (exE p ps s.index).2=0 then (if w=r.width then 0 else 10) else (exE p ps s.index).2
  | _,_=>8)
 else if s.kind=5 then (match at? p.Xm s.register with
  | some r=>if (exE p ps s.index).2=0 then valE p ps s.value r.width else (exE p ps s.index).2
  | none=>8)
 else 11
def actD (a:Action):Int:=if idS a.name=false then 6 else if 4<a.params.length\/12<a.body.length then 12 else errO (fldsE a.params)
def bodyE (p:Prg) (a:Action):Option (Int×Int):=fe (fun k=>(a.body[k]?).bind fun s=>if stmE p a.params s=0 then none else some ((k:Int),stmE p a.params s)) a.body.length 0
def actE (p:Prg) (i:Int):Int×Int:=match at? p.actions i with
 | none=>(-1,8)
 | some a=>if actD a≠0 then (-1,actD a) else (bodyE p a).getD (0,0)
def fits (v w:Int):Bool:= !wBad w&&decide (v<2^w.toNat)
def qcf (p:Prg) (c:Xb):Int:=match at? p.actions c.action with
 | none=>8
 | some a=>if c.args.length≠a.params.length then 2 else errO (fe (fun i=>match c.args[i]?,a.params[i]? with
  | some v,some f=>if fits v f.width then none else some 9
  | _,_=>none) c.args.length 0)
def keyE (p:Prg) (x:Tbl):Option (Int×Int):=fe (fun i=>(x.keys[i]?).bind fun k=>
 if wid p k.field.header k.field.field=0 then some ((i:Int),8) else if k.kind=1\/k.kind=2\/k.kind=3 then none else some ((i:Int),11)) x.keys.length 0
def kWid (p:Prg) (x:Tbl):List Int:=x.keys.map fun k=>wid p k.field.header k.field.field
def qd7 (p:Prg) (x:Tbl):Int×Int:=match keyE p x with
 | some e=>e
 | none=>if 1<x.keys.countP (fun k=>decide (k.kind=2)) then (-2,7) else if 64<(kWid p x).sum then (-2,10) else (0,0)
def qh7 (p:Prg) (x:Tbl):Int:=match fe (fun i=>(x.actions[i]?).bind fun a=>if a<0\/(p.actions.length:Int)<=a then some (8:Int) else if (x.actions.take i).contains a then some 7 else none) x.actions.length 0 with
 | some e=>e
 | none=>if x.actions.contains x.dflt.action then qcf p x.dflt else 8
def tblE (p:Prg) (t:Int):Int×Int:=match at? p.Xn t with
 | none=>(-1,8)
 | some x=>if idS x.name=false then (-1,6) else if 6<x.keys.length\/16<x.actions.length then (-1,12) else if x.size<1\/256<x.size then (-1,9)
  else if (qd7 p x).2≠0 then qd7 p x else if qh7 p x≠0 then (-3,qh7 p x) else (0,0)
def leads (p:Prg) (s:Nat) (n:Int):Bool:=decide (n= -1) || decide (n= -2) || (decide ((s:Int)<n)&&decide (n<p.states.length))
def caseE (p:Prg) (s:Nat) (x:Xd) (c:Xk):Int:=
 if fits c.value (wid p x.on.header x.on.field)=false\/fits c.mask (wid p x.on.header x.on.field)=false then 9
 else if c.value.toNat&&& c.mask.toNat≠c.value.toNat then 5
 else if leads p s c.next then 0 else 14
def stE (p:Prg) (s:Nat) (x:Xd):Int×Int:=
 if 4<x.extract.length\/8<x.cases.length then (-1,12)
 else if x.extract.any (fun h=>decide (h<0) || decide ((p.Xp.length:Int)<=h)) then (-1,8)
 else if x.select=true/\wid p x.on.header x.on.field=0 then (-1,8)
 else if x.select=false/\0<x.cases.length then (-1,11)
 else match fe (fun i=>(x.cases[i]?).bind fun c=>if caseE p s x c=0 then none else some ((i:Int),caseE p s x c)) x.cases.length 0 with
  | some e=>e
  | none=>if leads p s x.dflt then (0,0) else (-1,14)
def parE (p:Prg):Int×Int×Int:=
 if p.states.length=0 then (-1,-1,8) else if 12<p.states.length then (-1,-1,12)
 else (fe (fun s=>(p.states[s]?).bind fun x=>if idS x.name=false then some ((s:Int),(-1:Int),(6:Int)) else if dupN Xd.name p.states s x then some ((s:Int),-1,7)
  else if (stE p s x).2=0 then none else some ((s:Int),(stE p s x).1,(stE p s x).2)) p.states.length 0).getD (0,0,0)
def depE (p:Prg):Int×Int:=if 8<p.Xs.length then (-1,12) else
 (fe (fun i=>(p.Xs[i]?).bind fun h=>if h<0\/(p.Xp.length:Int)<=h then some ((i:Int),(8:Int)) else if (p.Xs.take i).contains h then some ((i:Int),7) else none) p.Xs.length 0).getD (0,0)
def Xa.kind:Xa->Int | .mk k _ _ _ _=>k
def Xa.table:Xa->Int | .mk _ t _ _ _=>t
def Xa.cond:Xa->List Xe | .mk _ _ c _ _=>c
def Xa.thn:Xa->List Xa | .mk _ _ _ a _=>a
def Xa.els:Xa->List Xa | .mk _ _ _ _ b=>b
mutual
def pre1:Xa->List Xa
 | .mk k t c a b=> .mk k t c a b::(pre a++pre b)
def pre:List Xa->List Xa
 | []=>[]
 | x::r=>pre1 x++pre r
end
mutual
def qp0:Xa->Nat
 | .mk _ _ _ a b=>max (nest a) (nest b)
def nest:List Xa->Nat
 | []=>0
 | x::r=>max (1+qp0 x) (nest r)
end
def appl (x:Xa):Bool:=decide (x.kind=1) || decide (x.kind=3)
def nodeE (p:Prg) (l:List Xa) (x:Xa):Int:=
 if x.kind=2 then (if (exE p [] x.cond).2=0 then (if (exE p [] x.cond).1=1 then 0 else 10) else (exE p [] x.cond).2)
 else if x.kind=1\/x.kind=3 then (if x.table<0\/(p.Xn.length:Int)<=x.table then 8
  else if l.any (fun y=>appl y&&decide (y.table=x.table)) then 7
  else if x.kind=1/\0<x.thn.length+x.els.length then 5 else 0)
 else 11
def ctlE (p:Prg):Int×Int:=if 24<(pre p.control).length then (-1,12) else if 6<nest p.control then (-1,14)
 else (fe (fun i=>((pre p.control)[i]?).bind fun x=>if nodeE p ((pre p.control).take i) x=0 then none else some ((i:Int),nodeE p ((pre p.control).take i) x)) (pre p.control).length 0).getD (0,0)
abbrev Dg:=Int×Int×Int×Int
def limD (p:Prg):Option Dg:=if idS p.name=false then some (6,0,0,0) else if 8<p.Xp.length then some (12,0,1,0) else if 4<p.Xm.length then some (12,0,3,0)
 else if 16<p.actions.length then some (12,0,4,0) else if 12<p.Xn.length then some (12,0,5,0) else none
def hdrD1 (p:Prg) (i:Nat) (h:Xj):Int:=if hdrE h≠0 then hdrE h else if h.name=[109,101,116,97] then 6 else if dupN Xj.name p.Xp i h then 7 else 0
def hdrD (p:Prg):Option Dg:=fe (fun i=>(p.Xp[i]?).bind fun h=>if hdrD1 p i h=0 then none else some (hdrD1 p i h,1,(i:Int),0)) p.Xp.length 0
def metaW (i:Nat):Fld:=if i=0 then ⟨[105,110],8⟩ else if i=1 then ⟨[111,117,116],8⟩ else ⟨[100,114,111,112],1⟩
def metD (p:Prg):Option Dg:=if 12<p.Xo.length then some (12,2,0,0)
 else match fe (fun i=>(p.Xo[i]?).bind fun f=>if fldE p.Xo i f=0 then none else some (fldE p.Xo i f,(2:Int),(i:Int),(0:Int))) p.Xo.length 0 with
  | some d=>some d
  | none=>fe (fun i=>if p.Xo[i]? =some (metaW i) then none else some (5,2,(i:Int),0)) 3 0
def regD1 (p:Prg) (i:Nat) (r:Xh):Int:=if regE r≠0 then regE r else if dupN Xh.name p.Xm i r then 7 else 0
def regD (p:Prg):Option Dg:=fe (fun i=>(p.Xm[i]?).bind fun r=>if regD1 p i r=0 then none else some (regD1 p i r,3,(i:Int),0)) p.Xm.length 0
def qps (p:Prg):Option Dg:=fe (fun i=>(p.actions[i]?).bind fun a=>if (actE p i).2≠0 then some ((actE p i).2,(4:Int),(i:Int),(actE p i).1) else if dupN Action.name p.actions i a then some (7,4,(i:Int),0) else none) p.actions.length 0
def tblD (p:Prg):Option Dg:=fe (fun i=>(p.Xn[i]?).bind fun a=>if (tblE p i).2≠0 then some ((tblE p i).2,(5:Int),(i:Int),(tblE p i).1) else if dupN Tbl.name p.Xn i a then some (7,5,(i:Int),0) else none) p.Xn.length 0
def floD (p:Prg):Option Dg:=if (parE p).2.2≠0 then some ((parE p).2.2,6,(parE p).1,(parE p).2.1) else if (ctlE p).2≠0 then some ((ctlE p).2,7,(ctlE p).1,0)
 else if (depE p).2≠0 then some ((depE p).2,8,(depE p).1,0) else none
def prgD (p:Prg):Dg:=((((((limD p).or (hdrD p)).or (metD p)).or (regD p)).or (qps p)).or (tblD p)).or (floD p)|>.getD (0,0,0,0)
def qbt (w:Int):Int:=if wBad w then 0 else 2^w.toNat - 1
theorem wBad_false {w:Int}:wBad w=false↔1<=w/\w<=32:=by
 simp [wBad]
theorem wr1:IntKind.wrap .i64 1=1:=by decide
theorem qh8 (w:Int):qac Φ f_189 [.slice 1 [[.int .i64 w]]]=some (.val (.bool (!wBad w))):=by
 rw [qad (fn:=c_189) rfl rfl];by_cases h1:w<1
 ·simp [c_189];rw [qa3];simp [c_189_l0,h1,wBad]
 by_cases h2:32<w
 ·simp [c_189];rw [qa3];simp [c_189_l0,h1,h2,wBad]
 simp [c_189];rw [qa3];simp [c_189_l0,h1,h2,wr1];rw [qa3];simp [c_189_k1,h1,h2,wBad]
theorem qzj:∀k:Nat,k<33->1<=k->ishr .u32 4294967295 (IntKind.wrap .i64 (32 - (k:Int)))=2^k - 1/\0<=IntKind.wrap .i64 (32 - (k:Int)):=by decide
theorem qha (w:Int):qac Φ f_133 [.int .i64 w]=some (.val (.int .u32 (qbt w))):=by
 rw [qad (fn:=c_133) rfl rfl];have hv:=qh8 w;cases h:wBad w with
 | true=>
  rw [h] at hv;simp [c_133,hv,qbt,h]
 | false=>
  rw [h] at hv;obtain ⟨h1,h2⟩:=wBad_false.1 h;obtain ⟨k,rfl⟩:∃k:Nat,w=k:=⟨w.toNat,by omega⟩;obtain ⟨e1,e2⟩:=qzj k (by omega) (by omega);simp [c_133,hv,qbt,h,e2];exact e1
theorem qn5 (v w:Int):qac Φ f_247 [.int .u32 v,.int .i64 w]=some (.val (.bool (fits v w))):=by
 rw [qad (fn:=c_247) rfl rfl];have hv:=qh8 w;have hm:=qha w;cases h:wBad w with
 | true=>
  rw [h] at hv;simp [c_247,hv,fits,h]
 | false=>
  rw [h] at hv;have e:(v<=qbt w)↔v<2^w.toNat:=by
   simp only [qbt,h];simp;omega
  simp [c_247,hv,hm,fits,h,e]
@[simp] theorem qahe {α β:Type} (f:α->β) (l:List α):(l.map f).take l.length=l.map f:=by
 rw [Qo];simp
def Any (h:AH):Prop:=Tail h.objs h.next
theorem Any.app {T:List (Nat×AO)} {n:Nat} {o:AO} (h:Any ⟨T,n⟩):Any ⟨T++[(n,o)],n+1⟩:=Tail.app h o
theorem Any.mk {T:List (Nat×AO)} {n:Nat} (h:Tail T n):Any ⟨T,n⟩:=h
theorem fe_all {α:Type} {f:Nat->Option α} {N:Nat}:fe f N 0=none↔∀i,i<N->f i=none:=by
 have key:∀n i,feF f n i=none↔∀k,i<=k->k<i+n->f k=none:=by
  intro n
  induction n with
  | zero=>intro i;simp [feF];omega
  | succ n ih=>
   intro i;simp only [feF];cases h:f i with
   | some x=>simp;exact ⟨i,Qb _,by omega,by simp [h]⟩
   | none=>
    simp only [ih];constructor
    ·intro hh k h1 h2;rcases QCc h1 with rfl | h3
     ·exact h
     ·exact hh k (by omega) (by omega)
    ·intro hh k h1 h2;exact hh k (by omega) (by omega)
 unfold fe;rw [key];simp
theorem wSum_eq (l:List Fld):wSum l=(l.map (·.width)).sum:=rfl
def tF:Nat:=249
def failV (c p i s:Int):AV:= .iface tF (.agg [.int .i64 c,.int .i64 p,.int .i64 i,.int .i64 s])
theorem qaka (c p i s:Int):AV.iface 249 (.agg [.int .i64 c,.int .i64 p,.int .i64 i,.int .i64 s])=failV c p i s:=rfl
def ix {α:Type} (p:α->Bool) (l:List α) (i:Nat):Int:=(fe (fun k=>(l[k]?).bind fun a=>if p a then some (k:Int) else none) l.length i).getD (-1)
theorem qnb {α:Type} {p:α->Bool} {l:List α} {i:Nat} (hi:i<l.length) (h:p l[i]=true):ix p l i=i:=by
 unfold ix;rw [qbj (x:=(i:Int)) hi (by simp [hi,h])];rfl
theorem qle {α:Type} {p:α->Bool} {l:List α} {i:Nat} (hi:i<l.length) (h:p l[i]=false):ix p l i=ix p l (i+1):=by
 unfold ix;rw [qbf hi (by simp [hi,h])]
theorem qna {α:Type} {p:α->Bool} {l:List α}:ix p l l.length= -1:=by
 unfold ix;rw [qb7];rfl
theorem qs9 {α:Type} {p:α->Bool} {l:List α}:∀n i,n+i=l.length->decide (0<=ix p l i)=qa8 l p i
 | 0,i,h=>by
  have:i=l.length:=by omega
  subst this;rw [qna,qii];rfl
 | n+1,i,h=>by
  have hi:i<l.length:=by omega
  cases q:p l[i] with
  | true=>rw [qnb hi q,qk1 hi q];simp
  | false=>rw [qle hi q,qhh hi q];exact qs9 n (i+1) (by omega)
theorem qm9 {α:Type} {p:α->Bool} {l:List α}:decide (0<=ix p l 0)=l.any p:=by
 rw [qs9 l.length 0 (by omega),qp6]
structure PrgS (p:Prg):Prop where
 n:p.name.length<2^40
 h:p.Xp.length<2^40
 hn:∀h∈p.Xp,h.name.length<2^40
 hf:∀h∈p.Xp,∀f∈h.fields,f.name.length<2^40
 hl:∀h∈p.Xp,h.fields.length<2^40
 m:p.Xo.length<2^40
 mn:∀f∈p.Xo,f.name.length<2^40
 r:p.Xm.length<2^40
 rn:∀r∈p.Xm,r.name.length<2^40
 a:p.actions.length<2^40
 an:∀a∈p.actions,a.name.length<2^40
 ap:∀a∈p.actions,a.params.length<2^40
 apn:∀a∈p.actions,∀f∈a.params,f.name.length<2^40
 ab:∀a∈p.actions,a.body.length<2^40
 ai:∀a∈p.actions,∀s∈a.body,s.index.length<2^40
 av:∀a∈p.actions,∀s∈a.body,s.value.length<2^40
 t:p.Xn.length<2^40
 tn:∀t∈p.Xn,t.name.length<2^40
 tk:∀t∈p.Xn,t.keys.length<2^40
 ta:∀t∈p.Xn,t.actions.length<2^40
 tg:∀t∈p.Xn,t.dflt.args.length<2^40
 s:p.states.length<2^40
 sn:∀s∈p.states,s.name.length<2^40
 se:∀s∈p.states,s.extract.length<2^40
 sc:∀s∈p.states,s.cases.length<2^40
 sv:∀s∈p.states,∀c∈s.cases,ok32 qba c.value/\ok32 qba c.mask
 c:p.control.length<2^40
 co:∀x∈p.control,Xa.Ok qba x
 d:p.Xs.length<2^40
theorem qfy {p:Prg} (o:p.Ok qba):PrgS p:=by
 obtain ⟨o0,o1,o2,o3,o4,o5,o6,o7,o8⟩:=o;have e:=qdf;simp only [qdt,okL,Xj.Ok,Fld.Ok,Xh.Ok,Action.Ok,Xg.Ok,Tbl.Ok,Xb.Ok,Xd.Ok,Xk.Ok] at o0 o1 o2 o3 o4 o5 o6 o7 o8;refine ⟨by omega,by omega,?_,?_,?_,by omega,?_,by omega,?_,by omega,?_,?_,?_,?_,?_,?_,by omega,?_,?_,?_,?_,by omega,?_,?_,?_,?_,by omega,o7.2,by omega⟩
 ·intro h hh;have:=(o1.2 h hh).1;omega
 ·intro h hh f hf;have:=((o1.2 h hh).2.2 f hf).1;omega
 ·intro h hh;have:=(o1.2 h hh).2.1;omega
 ·intro f hf;have:=(o2.2 f hf).1;omega
 ·intro r hr;have:=(o3.2 r hr).1;omega
 ·intro a ha;have:=(o4.2 a ha).1;omega
 ·intro a ha;have:=(o4.2 a ha).2.1.1;omega
 ·intro a ha f hf;have:=((o4.2 a ha).2.1.2 f hf).1;omega
 ·intro a ha;have:=(o4.2 a ha).2.2.1;omega
 ·intro a ha s hs;have:=((o4.2 a ha).2.2.2 s hs).2.2.2.2.1.1;omega
 ·intro a ha s hs;have:=((o4.2 a ha).2.2.2 s hs).2.2.2.2.2.1;omega
 ·intro t ht;have:=(o5.2 t ht).1;omega
 ·intro t ht;have:=(o5.2 t ht).2.1.1;omega
 ·intro t ht;have:=(o5.2 t ht).2.2.1.1;omega
 ·intro t ht;have:=(o5.2 t ht).2.2.2.1.2.1;omega
 ·intro s hs;have:=(o6.2 s hs).1;omega
 ·intro s hs;have:=(o6.2 s hs).2.1.1;omega
 ·intro s hs;have:=(o6.2 s hs).2.2.2.1.1;omega
 ·intro s hs c hc;have:=(o6.2 s hs).2.2.2.1.2 c hc;exact ⟨this.1,this.2.1⟩
theorem FieldRef.e (x:FieldRef):FieldRef.c x=[.int .i64 x.header,.int .i64 x.field]:=by simp [FieldRef.c]
def qhs (ar:List Int) (ps:List Fld) (i:Nat):Option Int:=match ar[i]?,ps[i]? with
  | some v,some f=>if fits v f.width then none else some 9
  | _,_=>none
theorem ql5 (p:Prg) (f:PrgS p) (c:Xb) (hc:c.args.length<2^40):qac Φ f_187 [.agg (Prg.c p),.agg (Xb.c c)]=some (.val (.int .i64 (qcf p c))):=by
 rw [qad (fn:=c_187) rfl rfl];by_cases i0:c.action<0
 ·simp [c_187,Prg.e,Xb.e,i0,qcf,qc5 i0]
 by_cases i1:(p.actions.length:Int)<=c.action
 ·simp [c_187,Prg.e,Xb.e,i0,i1,qcf,qc4 i1]
 obtain ⟨k,hk0⟩:∃k:Nat,c.action=k:=⟨c.action.toNat,by omega⟩;have hk:k<p.actions.length:=by omega
 by_cases z:c.args.length=p.actions[k].params.length
 rotate_left
 ·simp [c_187,Prg.e,Xb.e,Action.e,hk0,hk,Qf.2 hk,qcf,z]
 have hE:qcf p c=errO (fe (qhs c.args p.actions[k].params) c.args.length 0):=by simp [qcf,hk0,hk,z]<;>rfl
 rw [hE];simp [c_187,Prg.e,Xb.e,Action.e,hk0,hk,Qf.2 hk,z];rw [<- z];refine qby c.args.length (fun i e=>look 5 e=some (.slice 2 (p.actions[k].params.map Fld.c))/\look 33 e=some (.slice 1 (c.args.map c32))/\look 34 e=some (.int .i64 c.args.length)/\look 35 e=some (.int .i64 i))
  (fun i=>some (Rt.val (.int .i64 (errO (fe (qhs c.args p.actions[k].params) c.args.length i))))) ?_ ?_ 0 _ (Qc _) ?_
 ·rintro i e L hi hL ⟨h5,h33,h34,h35⟩ ih;have hw:=qao i (by omega);have hi2:i<p.actions[k].params.length:=by omega
  have hf:=qn5 c.args[i] p.actions[k].params[i].width;cases y:fits c.args[i] p.actions[k].params[i].width with
  | true=>
   rw [y] at hf;rw [qbf hi (by simp [qhs,hi,hi2,y])];simp [c_187_l0,Fld.e,c32,h5,h33,h34,h35,hi,hi2,hf,hw];exact ih _ ⟨by simp [h5],by simp [h33],by simp [h34],by simp⟩
  | false=>
   rw [y] at hf;rw [qbj (x:=9) hi (by simp [qhs,hi,hi2,y])];simp [c_187_l0,Fld.e,c32,h5,h33,h34,h35,hi,hi2,hf]
 ·rintro e L hL ⟨h5,h33,h34,h35⟩;rw [qb7];simp [c_187_l0,c_187_k1,h34,h35,hL]
 ·simp [z]
@[simp] theorem qaib (O:List (Nat×AO)) (n id:Nat):qiq ⟨O,n⟩ (.map id)=match look id O with
  | some (.map es)=>some es
  | _=>none:=by simp only [qiq,AH.get]<;>rfl
@[simp] theorem kdOk_i (k:IntKind) (x:Int):kdOk .i (.int k x)=true:=by simp [kdOk]
def setM (l:List Int):List (AV×AV):=l.map fun a=>(.int .i64 a,.bool true)
theorem qkw (k:Int):∀l:List Int,qb9 .i (.int .i64 k) (setM l)=some (if l.contains k then some (.bool true) else none)
 | []=>by simp [setM,qb9]
 | a::l=>by
  have ih:=qkw k l;unfold setM at ih ⊢;by_cases h:k=a
  ·subst h;simp [qb9]
  ·simp [qb9,h,ih]
theorem qrm (k:Int):∀l:List Int,l.contains k=false->putA .i (.int .i64 k) (.bool true) (setM l)=some (setM (l++[k]))
 | [],_=>by simp [setM,putA]
 | a::l,h=>by
  simp only [List.contains_cons,QBh,beq_eq_false_iff_ne,ne_eq] at h;have ih:=qrm k l h.2;unfold setM at ih ⊢;simp [putA,h.1,ih]
theorem qyk (l:List Fld) (i:Int):qac Φ f_313 [.slice 2 (l.map Fld.c),.int .i64 i]=some (.val (.agg (match at? l i with | some f=>Fld.c f | none=>[.str [],.int .i64 0]))):=by
 rw [qad (fn:=c_313) rfl rfl];by_cases i0:i<0
 ·simp [c_313,i0,qc5 i0]
 by_cases i1:(l.length:Int)<=i
 ·simp [c_313,i0,i1,qc4 i1]
 obtain ⟨k,rfl⟩:∃k:Nat,i=k:=⟨i.toNat,by omega⟩;have hk:k<l.length:=by omega
 simp [c_313,hk,Qf.2 hk,Fld.e]
theorem qyl (l:List Xj) (i:Int):qac Φ f_357 [.slice 2 (l.map Xj.c),.int .i64 i]=some (.val (.agg (match at? l i with | some f=>Xj.c f | none=>[.str [],.slice 2 []]))):=by
 rw [qad (fn:=c_357) rfl rfl];by_cases i0:i<0
 ·simp [c_357,i0,qc5 i0]
 by_cases i1:(l.length:Int)<=i
 ·simp [c_357,i0,i1,qc4 i1]
 obtain ⟨k,rfl⟩:∃k:Nat,i=k:=⟨i.toNat,by omega⟩;have hk:k<l.length:=by omega
 simp [c_357,hk,Qf.2 hk,Xj.e]
def qhv (p:Prg) (h:Int):List Fld:=((if h= -1 then some p.Xo else (at? p.Xp h).map (·.fields))).getD []
theorem qwj (p:Prg) (h:Int):qac Φ f_314 [.agg (Prg.c p),.int .i64 h]=some (.val (.slice 2 ((qhv p h).map Fld.c))):=by
 rw [qad (fn:=c_314) rfl rfl];by_cases hm:h= -1
 ·simp [c_314,Prg.e,hm,qhv]
 have ha:=qyl p.Xp h;cases q:at? p.Xp h with
 | none=>
  rw [q] at ha;simp [c_314,Prg.e,hm,qhv,ha,q]
 | some x=>
  rw [q] at ha;simp only [Xj.e] at ha;simp [c_314,Prg.e,hm,qhv,ha,q]
theorem qv9 (p:Prg) (h i:Int):decl p h i=(at? (qhv p h) i).map (·.width):=by
 unfold decl qhv;cases (if h= -1 then some p.Xo else (at? p.Xp h).map (·.fields)) with
 | some l=>rfl
 | none=>
  have:at? ([]:List Fld) i=none:=by unfold at?;split<;>simp
  simp [this]
theorem qx9 (p:Prg) (h i:Int):qac Φ f_246 [.agg (Prg.c p),.agg [.int .i64 h,.int .i64 i]]=some (.val (.int .i64 (wid p h i))):=by
 rw [qad (fn:=c_246) rfl rfl];have hf:=qwj p h;have ha:=qyk (qhv p h) i;have hd:=qv9 p h i;simp only [Prg.e] at hf;cases q:at? (qhv p h) i with
 | none=>
  rw [q] at ha hd;have hm:=qha 0;rw [show qbt 0=0 from rfl] at hm;simp [c_246,Prg.e,hf,ha,hm,wid,hd]
 | some f=>
  rw [q] at ha hd;simp only [Fld.e] at ha;have hm:=qha f.width;cases w:wBad f.width with
  | true=>
   rw [show qbt f.width=0 by simp [qbt,w]] at hm;simp [c_246,Prg.e,hf,ha,hm,wid,hd,w]
  | false=>
   have:¬qbt f.width=0:=by
    obtain ⟨w1,w2⟩:=wBad_false.1 w;have:(2:Int)^1<=2^f.width.toNat:=by
     have:=Nat.pow_le_pow_right (n:=2) (by omega) (show 1<=f.width.toNat by omega)
     exact_mod_cast this
    simp only [qbt,w];simp;omega
   simp [c_246,Prg.e,hf,ha,hm,wid,hd,w,this]
theorem qya (p:Prg) (h i:Int):0<=wid p h i/\wid p h i<=32:=by
 unfold wid;split
 ·rename_i w _;cases q:wBad w with
  | true=>simp
  | false=>have:=wBad_false.1 q;simp;omega
 ·simp
def keyG (p:Prg) (x:Tbl) (i:Nat):Option (Int×Int):=(x.keys[i]?).bind fun k=>
 if wid p k.field.header k.field.field=0 then some ((i:Int),8) else if k.kind=1\/k.kind=2\/k.kind=3 then none else some ((i:Int),11)
def qd8 (p:Prg) (x:Tbl):Int×Int:=if 1<x.keys.countP (fun k=>decide (k.kind=2)) then (-2,7) else if 64<(kWid p x).sum then (-2,10) else (0,0)
theorem qgz (p:Prg) (x:Tbl):∀i,i<=x.keys.length->0<=((kWid p x).take i).sum/\((kWid p x).take i).sum<=32*i:=by
 intro i
 induction i with
 | zero=>intro _;simp
 | succ i ih=>
  intro hi;have:=ih (by omega);have hl:i<(kWid p x).length:=by simp [kWid];omega
  rw [Qh hl,List.sum_append,List.sum_singleton];have hr:=qya p x.keys[i].field.header x.keys[i].field.field;have he:(kWid p x)[i]=wid p x.keys[i].field.header x.keys[i].field.field:=by simp [kWid]
  rw [he];omega
theorem qzd (p:Prg) (x:Tbl) (hl:x.keys.length<2^40):qac Φ f_235 [.agg (Prg.c p),.agg (Tbl.c x)]=some (.val (.tup [.int .i64 (qd7 p x).1,.int .i64 (qd7 p x).2])):=by
 rw [qad (fn:=c_235) rfl rfl];have hE:qd7 p x=(fe (keyG p x) x.keys.length 0).getD (qd8 p x):=by
  unfold qd7 keyE;show (match fe (keyG p x) x.keys.length 0 with | some e=>e | none=>qd8 p x)=_;cases fe (keyG p x) x.keys.length 0<;>rfl
 rw [hE];simp [c_235,Prg.e,Tbl.e];refine qay x.keys.length (fun _=>[]) 0 (fun i e=>look 2 e=some (.iptr 9 [Prg.c p] 0 0)/\look 6 e=some (.int .i64 ((x.keys.take i).countP fun k=>decide (k.kind=2):Nat))/\look 7 e=some (.int .i64 ((kWid p x).take i).sum)/\look 12 e=some (.slice 3 (x.keys.map Xl.c))/\look 13 e=some (.int .i64 x.keys.length)/\look 14 e=some (.int .i64 i))
  (fun i=>some (Rt.val (.tup [.int .i64 ((fe (keyG p x) x.keys.length i).getD (qd8 p x)).1,.int .i64 ((fe (keyG p x) x.keys.length i).getD (qd8 p x)).2]))) ?_ ?_ 0 _ 0 (Qc _) (Qb _) ?_
 ·rintro i e n L hi hL _ ⟨h2,h6,h7,h12,h13,h14⟩ ih;have hw:=qao i (by omega);have hv:=qx9 p x.keys[i].field.header x.keys[i].field.field;simp only [Prg.e] at hv;rw [Prg.e] at h2;by_cases z:wid p x.keys[i].field.header x.keys[i].field.field=0
  ·rw [z] at hv;rw [qbj (x:=((i:Int),8)) hi (by simp [keyG,hi,z])];simp [c_235_l0,Xl.e,h2,h12,h13,h14,hi,hv]
  have hs:=qgz p x (i+1) (by omega);have hs0:=qgz p x i (by omega);have he:((kWid p x).take (i+1)).sum=((kWid p x).take i).sum+wid p x.keys[i].field.header x.keys[i].field.field:=by
   have hl:i<(kWid p x).length:=by simp [kWid];omega
   rw [Qh hl,List.sum_append,List.sum_singleton];congr 1;simp [kWid]
  have hw7:IntKind.wrap .i64 (((kWid p x).take i).sum+wid p x.keys[i].field.header x.keys[i].field.field)=((kWid p x).take (i+1)).sum:=by rw [<- he];exact qbr (by omega) (by omega)
  have hc:(x.keys.take (i+1)).countP (fun k=>decide (k.kind=2))=(x.keys.take i).countP (fun k=>decide (k.kind=2))+if x.keys[i].kind=2 then 1 else 0:=by
   rw [Qh hi,List.countP_append];congr 1;simp [List.countP_cons]
  have hcl:(x.keys.take i).countP (fun k=>decide (k.kind=2))<=i:=by
   have:=List.countP_le_length (l:=x.keys.take i) (p:=fun k=>decide (k.kind=2));simp at this;omega
  have hw6:IntKind.wrap .i64 (((x.keys.take i).countP (fun k=>decide (k.kind=2)):Nat)+1:Int)=(((x.keys.take i).countP (fun k=>decide (k.kind=2))+1:Nat):Int):=qbr (by omega) (by omega);by_cases k2:x.keys[i].kind=2
  ·rw [qbf hi (by simp [keyG,hi,z,k2])];rw [QAa k2] at hc;simp [c_235_l0,Xl.e,h2,h6,h7,h12,h13,h14,hi,hv,z,k2,hw7,hw6,hw];exact ih _ _ (Qc _) ⟨by simp [h2,Prg.e],by simp [hc],by simp,by simp [h12],by simp [h13],by simp⟩
  rw [QA k2] at hc;by_cases k1:x.keys[i].kind=1
  ·rw [qbf hi (by simp [keyG,hi,z,k1])];simp [c_235_l0,Xl.e,h2,h7,h12,h13,h14,hi,hv,z,k1,hw7,hw];exact ih _ _ (Qc _) ⟨by simp [h2,Prg.e],by simp [hc,h6],by simp,by simp [h12],by simp [h13],by simp⟩
  by_cases k3:x.keys[i].kind=3
  ·rw [qbf hi (by simp [keyG,hi,z,k3])];simp [c_235_l0,Xl.e,h2,h7,h12,h13,h14,hi,hv,z,k3,hw7,hw];exact ih _ _ (Qc _) ⟨by simp [h2,Prg.e],by simp [hc,h6],by simp,by simp [h12],by simp [h13],by simp⟩
  ·rw [qbj (x:=((i:Int),11)) hi (by simp [keyG,hi,z,k1,k2,k3])];simp [c_235_l0,Xl.e,h2,h12,h13,h14,hi,hv,z,k1,k2,k3]
 ·rintro e n L hL _ ⟨h2,h6,h7,h12,h13,h14⟩;rw [qb7];have ht:(kWid p x).take x.keys.length=kWid p x:=by rw [Qo];simp [kWid]
  rw [ht] at h7;rw [QAf] at h6;by_cases y1:1<x.keys.countP (fun k=>decide (k.kind=2))
  ·simp [c_235_l0,c_235_k1,h6,h13,h14,hL,qd8,y1]
  by_cases y2:64<(kWid p x).sum
  ·simp [c_235_l0,c_235_k1,h6,h7,h13,h14,hL,qd8,y1,y2]
  ·simp [c_235_l0,c_235_k1,h6,h7,h13,h14,hL,qd8,y1,y2]
 ·simp [Prg.e]
def qeq (p:Prg) (x:Tbl) (i:Nat):Option Int:=(x.actions[i]?).bind fun a=>if a<0\/(p.actions.length:Int)<=a then some (8:Int) else if (x.actions.take i).contains a then some 7 else none
def qe3 (p:Prg) (x:Tbl):Int:=if x.actions.contains x.dflt.action then qcf p x.dflt else 8
theorem qrr (p:Prg) (x:Tbl):qh7 p x=(fe (qeq p x) x.actions.length 0).getD (qe3 p x):=by
 unfold qh7;show (match fe (qeq p x) x.actions.length 0 with | some e=>e | none=>qe3 p x)=_;cases fe (qeq p x) x.actions.length 0<;>rfl
theorem qaax (p:Prg) (f:PrgS p) (x:Tbl) (hl:x.actions.length<2^40) (hg:x.dflt.args.length<2^40):qac Φ f_236 [.agg (Prg.c p),.agg (Tbl.c x)]=some (.val (.int .i64 (qh7 p x))):=by
 rw [qad (fn:=c_236) rfl rfl,qrr];simp [c_236,Prg.e,Tbl.e];refine qe7 x.actions.length (fun i e H=>look 2 e=some (.iptr 9 [Prg.c p] 0 0)/\look 3 e=some (.iptr 6 [Tbl.c x] 0 0)/\look 5 e=some (.map 0)/\look 10 e=some (.slice 1 (x.actions.map cI))/\look 11 e=some (.int .i64 x.actions.length)/\look 12 e=some (.int .i64 i)/\
   H=⟨[(0,.map (setM (x.actions.take i)))],1⟩)
  (fun i=>some (Rt.val (.int .i64 ((fe (qeq p x) x.actions.length i).getD (qe3 p x))))) ?_ ?_ 0 _ _ (Qc _) ?_
 ·rintro i e _ L hi hL ⟨h2,h3,h5,h10,h11,h12,rfl⟩ ih;have hw:=qao i (by omega);rw [Prg.e] at h2;by_cases z0:x.actions[i]<0
  ·rw [qbj (x:=8) hi (by simp [qeq,hi,z0])];simp [c_236_l0,cI,h10,h11,h12,hi,z0]
  by_cases z1:(p.actions.length:Int)<=x.actions[i]
  ·rw [qbj (x:=8) hi (by simp [qeq,hi,z0,z1])];simp [c_236_l0,cI,h2,h10,h11,h12,hi,z0,z1]
  have hfnd:=qkw x.actions[i] (x.actions.take i);cases q:(x.actions.take i).contains x.actions[i] with
  | true=>
   rw [q] at hfnd;rw [qbj (x:=7) hi (by simp only [qeq,Qa hi,QAl];rw [QA (by omega),q];rfl)];simp [c_236_l0,cI,h2,h5,h10,h11,h12,hi,z0,z1,hfnd]
  | false=>
   rw [q] at hfnd;have hput:=qrm x.actions[i] (x.actions.take i) q;rw [<- Qh hi] at hput;rw [qbf hi (by simp only [qeq,Qa hi,QAl];rw [QA (by omega),q];rfl)];simp [c_236_l0,cI,h2,h5,h10,h11,h12,hi,z0,z1,hfnd,hput,hw];exact ih _ _ ⟨by simp [h2,Prg.e],by simp [h3],by simp [h5],by simp [h10],by simp [h11],by simp,rfl⟩
 ·rintro e _ L hL ⟨h2,h3,h5,h10,h11,h12,rfl⟩;rw [qb7,QAf];have hfnd:=qkw x.dflt.action x.actions;have hc:=ql5 p f x.dflt hg;simp only [Prg.e,Xb.e] at hc;rw [Prg.e] at h2;rw [Tbl.e] at h3;cases q:x.actions.contains x.dflt.action with
  | true=>
   rw [q] at hfnd;rw [show qe3 p x=qcf p x.dflt by simp only [qe3,q];rfl];simp [c_236_l0,c_236_k1,h2,h3,h5,h11,h12,hL,hfnd,hc]
  | false=>
   rw [q] at hfnd;rw [show qe3 p x=8 by simp only [qe3,q];rfl];simp [c_236_l0,c_236_k1,h3,h5,h11,h12,hL,hfnd]
 ·simp [Prg.e,Tbl.e,setM]
theorem qtq (p:Prg) (f:PrgS p) (t:Int):qac Φ f_179 [.agg (Prg.c p),.int .i64 t]=some (.val (.tup [.int .i64 (tblE p t).1,.int .i64 (tblE p t).2])):=by
 rw [qad (fn:=c_179) rfl rfl];by_cases i0:t<0
 ·simp [c_179,Prg.e,i0,tblE,qc5 i0]
 by_cases i1:(p.Xn.length:Int)<=t
 ·simp [c_179,Prg.e,i0,i1,tblE,qc4 i1]
 obtain ⟨k,rfl⟩:∃k:Nat,t=k:=⟨t.toNat,by omega⟩;have hk:k<p.Xn.length:=by omega
 have hm:=Qd hk;have n1:=qut p.Xn[k].name (f.tn _ hm);have h1:=qzd p p.Xn[k] (f.tk _ hm);have h2:=qaax p f p.Xn[k] (f.ta _ hm) (f.tg _ hm);simp only [Prg.e,Tbl.e] at h1 h2;cases q1:idS p.Xn[k].name with
 | false=>rw [q1] at n1;simp [c_179,Prg.e,Tbl.e,hk,Qf.2 hk,n1,tblE,q1]
 | true=>
 rw [q1] at n1;by_cases z0:6<p.Xn[k].keys.length
 ·simp [c_179,Prg.e,Tbl.e,hk,Qf.2 hk,n1,tblE,q1,z0]
 by_cases z1:16<p.Xn[k].actions.length
 ·simp [c_179,Prg.e,Tbl.e,hk,Qf.2 hk,n1,tblE,q1,z0,z1]
 by_cases z2:p.Xn[k].size<1
 ·simp [c_179,Prg.e,Tbl.e,hk,Qf.2 hk,n1,tblE,q1,z0,z1,z2]
 by_cases z3:256<p.Xn[k].size
 ·simp [c_179,Prg.e,Tbl.e,hk,Qf.2 hk,n1,tblE,q1,z0,z1,z2,z3]
 by_cases y1:(qd7 p p.Xn[k]).2=0
 rotate_left
 ·simp [c_179,Prg.e,Tbl.e,hk,Qf.2 hk,n1,tblE,q1,z0,z1,z2,z3,h1,y1]
 rw [y1] at h1;by_cases y2:qh7 p p.Xn[k]=0
 ·rw [y2] at h2;simp [c_179,Prg.e,Tbl.e,hk,Qf.2 hk,n1,tblE,q1,z0,z1,z2,z3,h1,y1,h2,y2]
 ·simp [c_179,Prg.e,Tbl.e,hk,Qf.2 hk,n1,tblE,q1,z0,z1,z2,z3,h1,y1,h2,y2]
theorem qvx (x y:BitVec 32):x&&& ~~~y=0#32↔x&&& y=x:=by
 constructor
 ·intro h;apply BitVec.eq_of_getLsbD_eq;intro i hi;have:=congrArg (·.getLsbD i) h;simp [hi] at this ⊢;exact this
 ·intro h;apply BitVec.eq_of_getLsbD_eq;intro i hi;have:=congrArg (·.getLsbD i) h;simp [hi] at this ⊢;exact this
theorem qrv {n:Int} (h1:0<=n) (h2:n<4294967296):IntKind.wrap .u32 n=n:=by
 have e1:(2:Int)^32=4294967296:=rfl;simp only [IntKind.wrap,IntKind.bits,IntKind.signed,Bool.false_and,e1];rw [QA (by simp)];omega
theorem qlg {v:Int} (h:ok32 0 v):BitVec.ofInt 32 v=BitVec.ofNat 32 v.toNat:=by
 obtain ⟨h1,h2⟩:=h;apply BitVec.eq_of_toNat_eq;simp;omega
theorem qqu {v m:Int} (hv:ok32 0 v) (hm:ok32 0 m):qg9 .u32 v m=0↔v.toNat&&& m.toNat=v.toNat:=by
 have hv2:=hv.2;have hm2:=hm.2;unfold qg9;show IntKind.wrap .u32 ((BitVec.ofInt 32 v&&& ~~~BitVec.ofInt 32 m).toNat:Int)=0↔_;have hlt:=(BitVec.ofInt 32 v&&& ~~~BitVec.ofInt 32 m).isLt;rw [qrv (by omega) (by omega)];rw [show (((BitVec.ofInt 32 v&&& ~~~BitVec.ofInt 32 m).toNat:Int)=0)↔(BitVec.ofInt 32 v&&& ~~~BitVec.ofInt 32 m)=0#32 by
  rw [<- BitVec.toNat_inj];simp only [QCd];omega]
 rw [qvx,qlg hv,qlg hm,<- BitVec.toNat_inj,BitVec.toNat_and,QCd,QCd,QBv (by omega),QBv (by omega)]
theorem qwu {v m:Int} (hv:ok32 0 v) (hm:ok32 0 m):iand .u32 v m=v↔v.toNat&&& m.toNat=v.toNat:=by
 have hv1:=hv.1;have hv2:=hv.2;have hm2:=hm.2;unfold iand;show IntKind.wrap .u32 ((BitVec.ofInt 32 v&&& BitVec.ofInt 32 m).toNat:Int)=v↔_;have hlt:=(BitVec.ofInt 32 v&&& BitVec.ofInt 32 m).isLt;rw [qrv (by omega) (by omega),qlg hv,qlg hm,BitVec.toNat_and,QCd,QCd,QBv (by omega),QBv (by omega)];omega
theorem qj7 {α β:Type} [BEq β] [LawfulBEq β] [DecidableEq β] (f:α->β) (a:β):∀l:List α,(l.map f).contains a=l.any fun y=>decide (f y=a)
 | []=>by simp
 | x::l=>by
  have ih:=qj7 f a l;simp only [QBp,List.contains_cons,QBb,ih];congr 1;by_cases h:a=f x
  ·subst h;simp
  ·have h2:¬f x=a:=fun e=>h e.symm
   simp [h,h2]
@[simp] theorem Xa.kind_mk (k t:Int) (c:List Xe) (a b:List Xa):(Xa.mk k t c a b).kind=k:=by simp [Xa.kind]
@[simp] theorem Xa.table_mk (k t:Int) (c:List Xe) (a b:List Xa):(Xa.mk k t c a b).table=t:=by simp [Xa.table]
@[simp] theorem Xa.cond_mk (k t:Int) (c:List Xe) (a b:List Xa):(Xa.mk k t c a b).cond=c:=by simp [Xa.cond]
@[simp] theorem Xa.thn_mk (k t:Int) (c:List Xe) (a b:List Xa):(Xa.mk k t c a b).thn=a:=by simp [Xa.thn]
@[simp] theorem Xa.els_mk (k t:Int) (c:List Xe) (a b:List Xa):(Xa.mk k t c a b).els=b:=by simp [Xa.els]
theorem qtf (x:Xa):∃k t c a b,x= .mk k t c a b:=by
 cases x with
 | mk k t c a b=>exact ⟨k,t,c,a,b,rfl⟩
theorem qzg {Φ:FuncId->Option AFun} {β:Type} {fin:Option (Ex×St)->Option β} (N:Nat) (Inv:Nat->Env->AH->Prop) (Q:Option β->Prop) {b:Xv} {K:List Fr}
  (step:∀i e h L,i<N->(∀j s,go Φ fin L (.exit j) s=go Φ fin K (.exit j) s)->Inv i e h->(∀e' h',Inv (i+1) e' h'->Q (go Φ fin L .normal ⟨e',h'⟩))->Q (go Φ fin (.c b::L) .normal ⟨e,h⟩))
  (last:∀e h L,(∀j s,go Φ fin L (.exit j) s=go Φ fin K (.exit j) s)->Inv N e h->Q (go Φ fin (.c b::L) .normal ⟨e,h⟩)):
  ∀i e h,i<=N->Inv i e h->Q (go Φ fin (.c (.loop b)::K) .normal ⟨e,h⟩):=by
 have key:∀n i e h,N - i<=n->i<=N->Inv i e h->Q (go Φ fin (.c (.loop b)::K) .normal ⟨e,h⟩):=by
  intro n
  induction n with
  | zero=>
   intro i e h hn hi hv;have:i=N:=by omega
   subst this;rw [qa3];exact last e h _ (fun j s=>by simp) hv
  | succ n ih=>
   intro i e h hn hi hv;rcases Qv i N with hlt | hge
   ·rw [qa3];exact step i e h _ hlt (fun j s=>by simp) hv fun e' h' hv'=>ih (i+1) e' h' (by omega) (by omega) hv'
   ·have:i=N:=by omega
    subst this;rw [qa3];exact last e h _ (fun j s=>by simp) hv
 intro i e h hi hv;exact key (N - i) i e h (Qb _) hi hv
structure Wk where
 e:Int
 n:Int
 us:List Int
theorem qeb {Φ:FuncId->Option AFun} (c:Xv) (s:St):qbd Φ c s=go Φ (fun o=>o) [.c c] .normal s:=by
 rw [go_c];cases qbd Φ c s with
 | none=>rfl
 | some p=>rfl
def dgC (d:Dg):List AV:=[.int .i64 d.1,.int .i64 d.2.1,.int .i64 d.2.2.1,.int .i64 d.2.2.2]
theorem qoe (c:Int):qac Φ f_271 [.int .u8 c]=some (.val (.bool (letC c))):=by
 rw [qad (fn:=c_271) rfl rfl];by_cases h1:97<=c<;>by_cases h2:c<=122<;>by_cases h3:65<=c<;>simp [c_271,letC,h1,h2,h3]
theorem qtk (c:Int):qac Φ f_272 [.int .u8 c]=some (.val (.bool (digI c))):=by
 rw [qad (fn:=c_272) rfl rfl];by_cases h1:48<=c<;>simp [c_272,digI,h1]
theorem qxj (s:List UInt8) (hs:s.length<2^40):qac Φ f_206 [.str s]=some (.val (.bool (idS s))):=by
 rw [qad (fn:=c_206) rfl rfl];by_cases h0:s.length=0
 ·have:s=[]:=Qg h0;subst this;simp [c_206,idS]
 have hp:0<s.length:=by omega
 have hne:¬s=[]:=by intro h;subst h;simp at h0
 rw [qs7 hp];by_cases h16:16<s.length
 ·simp [c_206,hne,h16,Qf.2 h16]
 have hl:=qoe (s[0].toNat:Int);cases q:letC (s[0].toNat:Int) with
 | false=>
  rw [q] at hl;simp [c_206,hne,hp,h16,hl]
 | true=>
  rw [q] at hl;generalize hX:(decide (s.length<=16)&&(true&&s.all fun b=>idC b.toNat))=X;simp [c_206,hne,hp,h16,hl];refine (qhm s (fun b=> !idC b.toNat) (some (Rt.val (.bool false))) (some (Rt.val (.bool true)))
   (fun i e H=>look 0 e=some (.str s)/\look 3 e=some (.int .i64 i)/\H=⟨[],0⟩) ?_ ?_ ?_ _ _ ?_).trans ?_
  ·rintro i e _ L hi hL ⟨h0,h3,rfl⟩ hb;have g1:=qoe (s[i].toNat:Int);have g2:=qtk (s[i].toNat:Int);cases z1:letC (s[i].toNat:Int) with
   | true=>simp [idC,z1] at hb
   | false=>
    cases z2:digI (s[i].toNat:Int) with
    | true=>simp [idC,z1,z2] at hb
    | false=>
     rw [z1] at g1;rw [z2] at g2;simp only [idC,z1,z2,QBc,QAx,decide_eq_false_iff_not] at hb;simp [c_206_l0,h0,h3,hi,g1,g2,hb]
  ·rintro i e _ L X hi hL ⟨h0,h3,rfl⟩ hb ih;have hw:=qao i (by omega);have g1:=qoe (s[i].toNat:Int);have g2:=qtk (s[i].toNat:Int);cases z1:letC (s[i].toNat:Int) with
   | true=>
    rw [z1] at g1;simp [c_206_l0,h0,h3,hi,g1,hw];exact ih _ _ ⟨by simp [h0],by simp,rfl⟩
   | false=>
    rw [z1] at g1;cases z2:digI (s[i].toNat:Int) with
    | true=>
     rw [z2] at g2;simp [c_206_l0,h0,h3,hi,g1,g2,hw];exact ih _ _ ⟨by simp [h0],by simp,rfl⟩
    | false=>
     rw [z2] at g2;simp only [idC,z1,z2,QBc,Bool.not_eq_false',decide_eq_true_eq] at hb;rw [hb] at g1 g2;simp [c_206_l0,h0,h3,hi,g1,g2,hb,hw];exact ih _ _ ⟨by simp [h0],by simp,rfl⟩
  ·rintro e _ L hL ⟨h0,h3,rfl⟩;simp [c_206_l0,c_206_k1,h0,h3,hL]
  ·simp
  ·rw [<- hX];have:(s.any fun b=> !idC b.toNat)= !(s.all fun b=>idC b.toNat):=by
    rw [List.not_all_eq_any_not]
   rw [this];have h16':decide (s.length<=16)=true:=by simpa using h16
   rw [h16'];cases s.all fun b=>idC b.toNat<;>rfl
theorem qfk {n:Int} (h1:0<=n) (h2:n<18446744073709551616):IntKind.wrap .u64 n=n:=by
 have e1:(2:Int)^64=18446744073709551616:=rfl;simp only [IntKind.wrap,IntKind.bits,IntKind.signed,Bool.false_and,e1];rw [QA (by simp)];omega
theorem qli {i:Nat} (h:i<63):IntKind.wrap .u64 (2*2^i)=2^(i+1):=by
 have h1:(2:Int)^(i+1)=2*2^i:=by rw [Int.pow_succ];omega
 have h2:(2:Int)^i<=2^62:=by
  have:=Nat.pow_le_pow_right (n:=2) (by omega) (show i<=62 by omega)
  exact_mod_cast this
 have h0:(0:Int)<2^i:=by
  have:=Nat.pow_pos (a:=2) (n:=i) (by omega)
  exact_mod_cast this
 have h3:(2:Int)^62=4611686018427387904:=rfl;rw [h1];exact qfk (by omega) (by omega)
theorem qh5 (w:Int):qac Φ f_285 [.int .i64 w]=some (.val (.bool (!wBad w))):=by
 rw [qad (fn:=c_285) rfl rfl];by_cases h1:w<1
 ·simp [c_285,wBad,h1,Int.not_le.2 h1]
 ·by_cases h2:32<w
  ·simp [c_285,wBad,h1,Int.not_lt.1 h1,h2,Int.not_le.2 h2]
  ·simp [c_285,wBad,h1,Int.not_lt.1 h1,h2,Int.not_lt.1 h2]
theorem qjj (n:Nat) (hn:n<63):qac Φ f_286 [.int .i64 n]=some (.val (.int .u64 (2^n))):=by
 rw [qad (fn:=c_286) rfl rfl];simp [c_286];refine (qby n (fun i e=>look 0 e=some (.int .i64 n)/\look 3 e=some (.int .u64 (2^i))/\look 4 e=some (.int .i64 i)) (fun i=>some (Rt.val (.int .u64 (2^n)))) ?_ ?_ 0 _ (Qc _) ?_).trans (by simp)
 ·rintro i e L hi hL ⟨h0,h3,h4⟩ ih;have hw:=qao i (by omega);have hp:=qli (i:=i) (by omega);simp [c_286_l0,h0,h3,h4,hi,hw,hp];exact ih _ ⟨by simp [h0],by simp,by simp⟩
 ·rintro e L hL ⟨h0,h3,h4⟩;simp [c_286_l0,c_286_k1,h0,h3,h4,hL]
 ·simp
theorem qjl (v w:Int) (hv:ok32 0 v):qac Φ f_220 [.int .u32 v,.int .i64 w]=some (.val (.bool (fits v w))):=by
 rw [qad (fn:=c_220) rfl rfl];have h1:=qh5 w;have hv1:=hv.1;have hv2:=hv.2;have hc:IntKind.wrap .u64 v=v:=qfk (by omega) (by omega);cases q:wBad w with
 | true=>
  rw [q] at h1;simp [c_220,h1,fits,q]
 | false=>
  rw [q] at h1;obtain ⟨w1,w2⟩:=wBad_false.1 q;obtain ⟨k,rfl⟩:∃k:Nat,w=k:=⟨w.toNat,by omega⟩;have h2:=qjj k (by omega);simp [c_220,h1,h2,hc,fits,q]
theorem qjk (v:Int) (hv:ok32 0 v) (k:Nat) (hk:k<=32):qac Φ f_150 [.int .u32 v,.int .i64 k]=some (.val (.bool (decide (v<2^k)))):=by
 rw [qad (fn:=c_150) rfl rfl];have hv1:=hv.1;have hv2:=hv.2;have hc:IntKind.wrap .u64 v=v:=qfk (by omega) (by omega);generalize hX:decide (v<2^k)=X;simp [c_150];refine (qby k (fun i e=>look 0 e=some (.int .u32 v)/\look 1 e=some (.int .i64 k)/\look 5 e=some (.int .u64 (2^i))/\look 6 e=some (.int .i64 i)) (fun i=>some (Rt.val (.bool X))) ?_ ?_ 0 _ (Qc _) ?_).trans (by simp)
 ·rintro i e L hi hL ⟨h0,h1,h5,h6⟩ ih;have hw:=qao i (by omega);have hp:=qli (i:=i) (by omega);simp [c_150_l0,h1,h5,h6,hi,hw,hp];exact ih _ ⟨by simp [h0],by simp [h1],by simp,by simp⟩
 ·rintro e L hL ⟨h0,h1,h5,h6⟩;simp [c_150_l0,c_150_k1,h0,h1,h5,h6,hL,hc,<- hX]
 ·simp
theorem qkp (p:Prg) (h i:Int):qac Φ f_192 [.agg (Prg.c p),.agg [.int .i64 h,.int .i64 i]]=some (.val (.int .i64 (wid p h i))):=by
 rw [qad (fn:=c_192) rfl rfl];have tail:∀(l:List Fld),(∀j:Int,decl p h j=(at? l j).map (·.width))->(i<0/\wid p h i=0)\/(¬i<0/\(l.length:Int)<=i/\wid p h i=0)\/∃k:Nat,∃hk:k<l.length,i=k/\((l[k].width<1/\wid p h i=0)\/(¬l[k].width<1/\32<l[k].width/\wid p h i=0)\/(¬l[k].width<1/\¬32<l[k].width/\wid p h i=l[k].width)):=by
  intro l hd;by_cases i0:i<0
  ·exact .inl ⟨i0,by simp [wid,hd,qc5 i0]⟩
  by_cases i1:(l.length:Int)<=i
  ·exact .inr (.inl ⟨i0,i1,by simp [wid,hd,qc4 i1]⟩)
  obtain ⟨k,hk⟩:∃k:Nat,i=k:=⟨i.toNat,by omega⟩;refine .inr (.inr ⟨k,by omega,hk,?_⟩);have hk2:k<l.length:=by omega
  have e:wid p h i=if wBad l[k].width then 0 else l[k].width:=by simp [wid,hd,hk,hk2]
  by_cases w1:l[k].width<1
  ·exact .inl ⟨w1,by rw [e];simp [wBad,w1]⟩
  by_cases w2:32<l[k].width
  ·exact .inr (.inl ⟨w1,w2,by rw [e];simp [wBad,w2]⟩)
  ·exact .inr (.inr ⟨w1,w2,by rw [e];simp [wBad,w1,w2]⟩)
 by_cases h0:0<=h
 ·have hm:¬h= -1:=by omega
  have hm2:¬h< -1:=by omega
  by_cases h1:(p.Xp.length:Int)<=h
  ·rw [show wid p h i=0 by simp [wid,decl,hm,qc4 h1]];simp [c_192,Prg.e,h0,h1]
  obtain ⟨m,rfl⟩:∃k:Nat,h=k:=⟨h.toNat,by omega⟩;have hk:m<p.Xp.length:=by omega
  rcases tail p.Xp[m].fields (by intro j;simp [decl,hm,hk]) with ⟨i0,e⟩ | ⟨i0,i1,e⟩ | ⟨k,hk2,rfl,⟨w1,e⟩ | ⟨w1,w2,e⟩ | ⟨w1,w2,e⟩⟩
  ·rw [e];simp [c_192,Prg.e,Xj.e,hk,Qf.2 hk,hm2,i0]
  ·rw [e];simp [c_192,Prg.e,Xj.e,hk,Qf.2 hk,hm2,i0,i1]
  ·rw [e];simp [c_192,Prg.e,Xj.e,Fld.e,hk,Qf.2 hk,hm2,hk2,Qf.2 hk2,w1]
  ·rw [e];simp [c_192,Prg.e,Xj.e,Fld.e,hk,Qf.2 hk,hm2,hk2,Qf.2 hk2,w1,w2]
  ·rw [e];simp [c_192,Prg.e,Xj.e,Fld.e,hk,Qf.2 hk,hm2,hk2,Qf.2 hk2,w1,w2]
 by_cases hm:h= -1
 ·subst hm;rcases tail p.Xo (by intro j;simp [decl]) with ⟨i0,e⟩ | ⟨i0,i1,e⟩ | ⟨k,hk2,rfl,⟨w1,e⟩ | ⟨w1,w2,e⟩ | ⟨w1,w2,e⟩⟩
  ·rw [e];simp [c_192,Prg.e,i0]
  ·rw [e];simp [c_192,Prg.e,i0,i1]
  ·rw [e];simp [c_192,Prg.e,Fld.e,hk2,Qf.2 hk2,w1]
  ·rw [e];simp [c_192,Prg.e,Fld.e,hk2,Qf.2 hk2,w1,w2]
  ·rw [e];simp [c_192,Prg.e,Fld.e,hk2,Qf.2 hk2,w1,w2]
 ·have hm2:h< -1:=by omega
  rw [show wid p h i=0 by simp [wid,decl,hm,qc5 (show h<0 by omega)]];simp [c_192,Prg.e,h0,hm2]
theorem qo8 (p:Prg) (h i:Int):qac Φ f_282 [.agg (Prg.c p),.agg [.int .i64 h,.int .i64 i]]=some (.val (.int .i64 (wid p h i))):=by
 rw [qad (fn:=c_282) rfl rfl];have tail:∀(l:List Fld),(∀j:Int,decl p h j=(at? l j).map (·.width))->(i<0/\wid p h i=0)\/(¬i<0/\(l.length:Int)<=i/\wid p h i=0)\/∃k:Nat,∃hk:k<l.length,i=k/\((l[k].width<1/\wid p h i=0)\/(¬l[k].width<1/\32<l[k].width/\wid p h i=0)\/(¬l[k].width<1/\¬32<l[k].width/\wid p h i=l[k].width)):=by
  intro l hd;by_cases i0:i<0
  ·exact .inl ⟨i0,by simp [wid,hd,qc5 i0]⟩
  by_cases i1:(l.length:Int)<=i
  ·exact .inr (.inl ⟨i0,i1,by simp [wid,hd,qc4 i1]⟩)
  obtain ⟨k,hk⟩:∃k:Nat,i=k:=⟨i.toNat,by omega⟩;refine .inr (.inr ⟨k,by omega,hk,?_⟩);have hk2:k<l.length:=by omega
  have e:wid p h i=if wBad l[k].width then 0 else l[k].width:=by simp [wid,hd,hk,hk2]
  by_cases w1:l[k].width<1
  ·exact .inl ⟨w1,by rw [e];simp [wBad,w1]⟩
  by_cases w2:32<l[k].width
  ·exact .inr (.inl ⟨w1,w2,by rw [e];simp [wBad,w2]⟩)
  ·exact .inr (.inr ⟨w1,w2,by rw [e];simp [wBad,w1,w2]⟩)
 by_cases h0:0<=h
 ·have hm:¬h= -1:=by omega
  have hm2:¬h< -1:=by omega
  by_cases h1:(p.Xp.length:Int)<=h
  ·rw [show wid p h i=0 by simp [wid,decl,hm,qc4 h1]];simp [c_282,Prg.e,h0,h1]
  obtain ⟨m,rfl⟩:∃k:Nat,h=k:=⟨h.toNat,by omega⟩;have hk:m<p.Xp.length:=by omega
  rcases tail p.Xp[m].fields (by intro j;simp [decl,hm,hk]) with ⟨i0,e⟩ | ⟨i0,i1,e⟩ | ⟨k,hk2,rfl,⟨w1,e⟩ | ⟨w1,w2,e⟩ | ⟨w1,w2,e⟩⟩
  ·rw [e];simp [c_282,Prg.e,Xj.e,hk,Qf.2 hk,hm2,i0]
  ·rw [e];simp [c_282,Prg.e,Xj.e,hk,Qf.2 hk,hm2,i0,i1]
  ·rw [e];simp [c_282,Prg.e,Xj.e,Fld.e,hk,Qf.2 hk,hm2,hk2,Qf.2 hk2,w1]
  ·rw [e];simp [c_282,Prg.e,Xj.e,Fld.e,hk,Qf.2 hk,hm2,hk2,Qf.2 hk2,w1,w2]
  ·rw [e];simp [c_282,Prg.e,Xj.e,Fld.e,hk,Qf.2 hk,hm2,hk2,Qf.2 hk2,w1,w2]
 by_cases hm:h= -1
 ·subst hm;rcases tail p.Xo (by intro j;simp [decl]) with ⟨i0,e⟩ | ⟨i0,i1,e⟩ | ⟨k,hk2,rfl,⟨w1,e⟩ | ⟨w1,w2,e⟩ | ⟨w1,w2,e⟩⟩
  ·rw [e];simp [c_282,Prg.e,i0]
  ·rw [e];simp [c_282,Prg.e,i0,i1]
  ·rw [e];simp [c_282,Prg.e,Fld.e,hk2,Qf.2 hk2,w1]
  ·rw [e];simp [c_282,Prg.e,Fld.e,hk2,Qf.2 hk2,w1,w2]
  ·rw [e];simp [c_282,Prg.e,Fld.e,hk2,Qf.2 hk2,w1,w2]
 ·have hm2:h< -1:=by omega
  rw [show wid p h i=0 by simp [wid,decl,hm,qc5 (show h<0 by omega)]];simp [c_282,Prg.e,h0,hm2]
def fxO {α:Type} (q:α->Bool) (l:List α) (j:Nat):Option Int:=fe (fun k=>(l[k]?).bind fun f=>if q f then some (k:Int) else none) l.length j
theorem qs5 {α:Type} {q:α->Bool} {l:List α} {i:Nat} (hi:i<l.length) (h:q l[i]=true):fxO q l i=some (i:Int):=by
 unfold fxO;rw [qbj (x:=(i:Int)) hi (by simp [hi,h])]
theorem qy5 {α:Type} {q:α->Bool} {l:List α} {i:Nat} (hi:i<l.length) (h:q l[i]=false):fxO q l i=fxO q l (i+1):=by
 unfold fxO;rw [qbf hi (by simp [hi,h])]
theorem qwo {α:Type} {q:α->Bool} {l:List α} {i:Nat} (hi:i<l.length) (h:q l[i]=true):∀n j,n+j=i->∃k:Nat,fxO q l j=some (k:Int)/\(decide ((k:Int)<i)=qa8 (l.take i) q j)
 | 0,j,e=>by
  have:j=i:=by omega
  subst this;refine ⟨j,qs5 hi h,?_⟩;have:=qii (l:=l.take j) (p:=q);rw [show (l.take j).length=j by simp;omega] at this;rw [this];simp
 | n+1,j,e=>by
  have hj:j<l.length:=by omega
  have hj2:j<(l.take i).length:=by simp;omega
  have e1:(l.take i)[j]=l[j]:=by simp
  cases z:q l[j] with
  | true=>
   refine ⟨j,qs5 hj z,?_⟩;rw [qk1 hj2 (by rw [e1];exact z)];simp;omega
  | false=>
   obtain ⟨k,k1,k2⟩:=qwo hi h n (j+1) (by omega);refine ⟨k,by rw [qy5 hj z];exact k1,?_⟩;rw [qhh hj2 (by rw [e1];exact z)];exact k2
theorem qz9 (w:Int):qac Φ f_284 [.int .i64 w]=some (.val (.int .u32 (qbt w))):=by
 rw [qad (fn:=c_284) rfl rfl];have h1:=qh5 w;cases q:wBad w with
 | true=>
  rw [q] at h1;simp [c_284,h1,qbt,q]
 | false=>
  rw [q] at h1;obtain ⟨w1,w2⟩:=wBad_false.1 q;obtain ⟨k,rfl⟩:∃k:Nat,w=k:=⟨w.toNat,by omega⟩;have h2:=qjj k (by omega);have hb:(2:Int)^k<=2^32:=by
   have:=Nat.pow_le_pow_right (n:=2) (by omega) (show k<=32 by omega)
   exact_mod_cast this
  have h0:(0:Int)<2^k:=by
   have:=Nat.pow_pos (a:=2) (n:=k) (by omega)
   exact_mod_cast this
  have c1:IntKind.wrap .u64 ((2:Int)^k - 1)=2^k - 1:=qfk (by omega) (by omega);have c2:IntKind.wrap .u32 ((2:Int)^k - 1)=2^k - 1:=qrv (by omega) (by omega);simp [c_284,h1,h2,c1,c2,qbt,q]
theorem qh4 (p:Prg) (f:PrgS p) (c:Xb) (hc:c.args.length<2^40) (hv:∀v∈c.args,ok32 0 v):qac Φ f_149 [.agg (Prg.c p),.agg (Xb.c c)]=some (.val (.int .i64 (qcf p c))):=by
 rw [qad (fn:=c_149) rfl rfl];by_cases i0:c.action<0
 ·simp [c_149,Prg.e,Xb.e,i0,qcf,qc5 i0]
 by_cases i1:(p.actions.length:Int)<=c.action
 ·simp [c_149,Prg.e,Xb.e,i0,i1,qcf,qc4 i1]
 obtain ⟨k,hk0⟩:∃k:Nat,c.action=k:=⟨c.action.toNat,by omega⟩;have hk:k<p.actions.length:=by omega
 by_cases z:c.args.length=p.actions[k].params.length
 rotate_left
 ·simp [c_149,Prg.e,Xb.e,Action.e,hk0,hk,Qf.2 hk,qcf,z]
 have hE:qcf p c=errO (fe (qhs c.args p.actions[k].params) c.args.length 0):=by simp [qcf,hk0,hk,z]<;>rfl
 rw [hE];simp [c_149,Prg.e,Xb.e,Action.e,hk0,hk,Qf.2 hk,z];rw [<- z];refine qby c.args.length (fun i e=>look 3 e=some (.iptr 2 [Xb.c c] 0 0)/\look 5 e=some (.slice 2 (p.actions[k].params.map Fld.c))/\look 6 e=some (.int .i64 i))
  (fun i=>some (Rt.val (.int .i64 (errO (fe (qhs c.args p.actions[k].params) c.args.length i))))) ?_ ?_ 0 _ (Qc _) ?_
 ·rintro i e L hi hL ⟨h3,h5,h6⟩ ih;have hw:=qao i (by omega);have hi2:i<p.actions[k].params.length:=by omega
  have hf:=qjl c.args[i] p.actions[k].params[i].width (hv _ (Qd hi));rw [Xb.e] at h3;cases y:fits c.args[i] p.actions[k].params[i].width with
  | true=>
   rw [y] at hf;rw [qbf hi (by simp [qhs,hi,hi2,y])];simp [c_149_l0,Fld.e,c32,h3,h5,h6,hi,hi2,hf,hw];exact ih _ ⟨by simp [h3,Xb.e],by simp [h5],by simp⟩
  | false=>
   rw [y] at hf;rw [qbj (x:=9) hi (by simp [qhs,hi,hi2,y])];simp [c_149_l0,Fld.e,c32,h3,h5,h6,hi,hi2,hf]
 ·rintro e L hL ⟨h3,h5,h6⟩;rw [qb7];simp [c_149_l0,c_149_k1,h5,h6,hL,<- z]
 ·simp [Xb.e,hk0]
theorem qkt (l:List Int) (x:Int) (hl:l.length<2^40):qac Φ f_219 [.slice 1 (l.map cI),.int .i64 x]=some (.val (.int .i64 (ix (fun s=>decide (s=x)) l 0))):=by
 rw [qad (fn:=c_219) rfl rfl];simp [c_219];refine (qby l.length (fun i e=>look 0 e=some (.slice 1 (l.map cI))/\look 1 e=some (.int .i64 x)/\look 5 e=some (.int .i64 i))
  (fun i=>some (.val (.int .i64 (ix (fun s=>decide (s=x)) l i)))) ?_ ?_ 0 _ (Qc _) ?_).trans (by simp)
 ·rintro i e L hi hL ⟨h0,h1,h5⟩ ih;have hw:=qao i (by omega);by_cases z:l[i]=x
  ·rw [qnb hi (by simpa using z)];simp [c_219_l0,cI,h0,h1,h5,hi,z]
  ·rw [qle hi (by simpa using z)];simp [c_219_l0,cI,h0,h1,h5,hi,z,hw];exact ih _ ⟨by simp [h0],by simp [h1],by simp⟩
 ·rintro e L hL ⟨h0,h1,h5⟩;rw [qna];simp [c_219_l0,c_219_k1,h0,h5,hL]
 ·simp
theorem qxo (p:Prg) (x:Tbl) (hl:x.keys.length<2^40):qac Φ f_275 [.agg (Prg.c p),.agg (Tbl.c x)]=some (.val (.tup [.int .i64 (qd7 p x).1,.int .i64 (qd7 p x).2])):=by
 rw [qad (fn:=c_275) rfl rfl];have hE:qd7 p x=(fe (keyG p x) x.keys.length 0).getD (qd8 p x):=by
  unfold qd7 keyE;show (match fe (keyG p x) x.keys.length 0 with | some e=>e | none=>qd8 p x)=_;cases fe (keyG p x) x.keys.length 0<;>rfl
 rw [hE];simp [c_275,Prg.e,Tbl.e];refine qby x.keys.length (fun i e=>look 2 e=some (.iptr 9 [Prg.c p] 0 0)/\look 3 e=some (.iptr 6 [Tbl.c x] 0 0)/\look 7 e=some (.int .i64 ((x.keys.take i).countP fun k=>decide (k.kind=2):Nat))/\look 6 e=some (.int .i64 ((kWid p x).take i).sum)/\look 8 e=some (.int .i64 i))
  (fun i=>some (Rt.val (.tup [.int .i64 ((fe (keyG p x) x.keys.length i).getD (qd8 p x)).1,.int .i64 ((fe (keyG p x) x.keys.length i).getD (qd8 p x)).2]))) ?_ ?_ 0 _ (Qc _) ?_
 ·rintro i e L hi hL ⟨h2,h3,h7,h6,h8⟩ ih;have hw:=qao i (by omega);have hv:=qo8 p x.keys[i].field.header x.keys[i].field.field;simp only [Prg.e] at hv;rw [Prg.e] at h2;rw [Tbl.e] at h3;by_cases z:wid p x.keys[i].field.header x.keys[i].field.field=0
  ·rw [z] at hv;rw [qbj (x:=((i:Int),8)) hi (by simp [keyG,hi,z])];simp [c_275_l0,Xl.e,h2,h3,h8,hi,hv]
  have hs:=qgz p x (i+1) (by omega);have hs0:=qgz p x i (by omega);have he:((kWid p x).take (i+1)).sum=((kWid p x).take i).sum+wid p x.keys[i].field.header x.keys[i].field.field:=by
   have hl:i<(kWid p x).length:=by simp [kWid];omega
   rw [Qh hl,List.sum_append,List.sum_singleton];congr 1;simp [kWid]
  have hw7:IntKind.wrap .i64 (((kWid p x).take i).sum+wid p x.keys[i].field.header x.keys[i].field.field)=((kWid p x).take (i+1)).sum:=by rw [<- he];exact qbr (by omega) (by omega)
  have hc:(x.keys.take (i+1)).countP (fun k=>decide (k.kind=2))=(x.keys.take i).countP (fun k=>decide (k.kind=2))+if x.keys[i].kind=2 then 1 else 0:=by
   rw [Qh hi,List.countP_append];congr 1;simp [List.countP_cons]
  have hcl:(x.keys.take i).countP (fun k=>decide (k.kind=2))<=i:=by
   have:=List.countP_le_length (l:=x.keys.take i) (p:=fun k=>decide (k.kind=2));simp at this;omega
  have hw6:IntKind.wrap .i64 (((x.keys.take i).countP (fun k=>decide (k.kind=2)):Nat)+1:Int)=(((x.keys.take i).countP (fun k=>decide (k.kind=2))+1:Nat):Int):=qbr (by omega) (by omega);by_cases k2:x.keys[i].kind=2
  ·rw [qbf hi (by simp [keyG,hi,z,k2])];rw [QAa k2] at hc;simp [c_275_l0,Xl.e,h2,h3,h6,h7,h8,hi,hv,z,k2,hw7,hw6,hw];exact ih _ ⟨by simp [h2,Prg.e],by simp [h3,Tbl.e],by simp [hc],by simp,by simp⟩
  rw [QA k2] at hc;by_cases k1:x.keys[i].kind=1
  ·rw [qbf hi (by simp [keyG,hi,z,k1])];simp [c_275_l0,Xl.e,h2,h3,h6,h8,hi,hv,z,k1,hw7,hw];exact ih _ ⟨by simp [h2,Prg.e],by simp [h3,Tbl.e],by simp [hc,h7],by simp,by simp⟩
  by_cases k3:x.keys[i].kind=3
  ·rw [qbf hi (by simp [keyG,hi,z,k3])];simp [c_275_l0,Xl.e,h2,h3,h6,h8,hi,hv,z,k3,hw7,hw];exact ih _ ⟨by simp [h2,Prg.e],by simp [h3,Tbl.e],by simp [hc,h7],by simp,by simp⟩
  ·rw [qbj (x:=((i:Int),11)) hi (by simp [keyG,hi,z,k1,k2,k3])];simp [c_275_l0,Xl.e,h2,h3,h8,hi,hv,z,k1,k2,k3]
 ·rintro e L hL ⟨h2,h3,h7,h6,h8⟩;rw [qb7];have ht:(kWid p x).take x.keys.length=kWid p x:=by rw [Qo];simp [kWid]
  rw [ht] at h6;rw [QAf] at h7;rw [Tbl.e] at h3;by_cases y1:1<x.keys.countP (fun k=>decide (k.kind=2))
  ·simp [c_275_l0,c_275_k1,h3,h7,h8,hL,qd8,y1]
  by_cases y2:64<(kWid p x).sum
  ·simp [c_275_l0,c_275_k1,h3,h6,h7,h8,hL,qd8,y1,y2]
  ·simp [c_275_l0,c_275_k1,h3,h6,h7,h8,hL,qd8,y1,y2]
 ·simp [Prg.e,Tbl.e]
theorem qlq (x:Int) (l:List Int):l.contains x=l.any fun s=>decide (s=x):=by
 have:=qj7 (fun y:Int=>y) x l;rw [List.map_id'] at this;exact this
theorem qxt (p:Prg) (f:PrgS p) (x:Tbl) (hl:x.actions.length<2^40) (hg:x.dflt.args.length<2^40) (hv:∀v∈x.dflt.args,ok32 0 v):qac Φ f_276 [.agg (Prg.c p),.agg (Tbl.c x)]=some (.val (.int .i64 (qh7 p x))):=by
 rw [qad (fn:=c_276) rfl rfl,qrr];simp [c_276,Prg.e,Tbl.e];refine qby x.actions.length (fun i e=>look 2 e=some (.iptr 9 [Prg.c p] 0 0)/\look 3 e=some (.iptr 6 [Tbl.c x] 0 0)/\look 5 e=some (.int .i64 i))
  (fun i=>some (Rt.val (.int .i64 ((fe (qeq p x) x.actions.length i).getD (qe3 p x))))) ?_ ?_ 0 _ (Qc _) ?_
 ·rintro i e L hi hL ⟨h2,h3,h5⟩ ih;have hw:=qao i (by omega);rw [Prg.e] at h2;rw [Tbl.e] at h3;by_cases z0:x.actions[i]<0
  ·rw [qbj (x:=8) hi (by simp [qeq,hi,z0])];simp [c_276_l0,cI,h3,h5,hi,z0]
  by_cases z1:(p.actions.length:Int)<=x.actions[i]
  ·rw [qbj (x:=8) hi (by simp [qeq,hi,z0,z1])];simp [c_276_l0,cI,h2,h3,h5,hi,z0,z1]
  have hx:=qkt x.actions x.actions[i] hl;obtain ⟨at',k1,k2⟩:=qwo (q:=fun s:Int=>decide (s=x.actions[i])) hi (by simp) i 0 (by omega);rw [show ix (fun s=>decide (s=x.actions[i])) x.actions 0=(fxO (fun s:Int=>decide (s=x.actions[i])) x.actions 0).getD (-1) from rfl,k1] at hx;rw [qp6,<- qlq] at k2;simp only [QAn] at hx;cases q:(x.actions.take i).contains x.actions[i] with
  | true=>
   rw [q] at k2;have k3:at'<i:=by simpa using k2
   rw [qbj (x:=7) hi (by simp only [qeq,Qa hi,QAl];rw [QA (by omega),q];rfl)];simp [c_276_l0,cI,h2,h3,h5,hi,z0,z1,hx,k3]
  | false=>
   rw [q] at k2;have k3:¬at'<i:=by simpa using k2
   rw [qbf hi (by simp only [qeq,Qa hi,QAl];rw [QA (by omega),q];rfl)];simp [c_276_l0,cI,h2,h3,h5,hi,z0,z1,hx,k3,hw];exact ih _ ⟨by simp [h2,Prg.e],by simp [h3,Tbl.e],by simp⟩
 ·rintro e L hL ⟨h2,h3,h5⟩;rw [qb7];have hx:=qkt x.actions x.dflt.action hl;have hc:=qh4 p f x.dflt hg hv;have ha:=qm9 (p:=fun s=>decide (s=x.dflt.action)) (l:=x.actions);rw [<- qlq] at ha;simp only [Prg.e,Xb.e] at hc;rw [Prg.e] at h2;rw [Tbl.e] at h3;cases q:x.actions.contains x.dflt.action with
  | true=>
   rw [q] at ha;have ha2:¬ix (fun s=>decide (s=x.dflt.action)) x.actions 0<0:=by simpa using ha
   rw [show qe3 p x=qcf p x.dflt by simp only [qe3,q];rfl];simp [c_276_l0,c_276_k1,h2,h3,h5,hL,hx,ha2,hc]
  | false=>
   rw [q] at ha;have ha2:ix (fun s=>decide (s=x.dflt.action)) x.actions 0<0:=by simpa using ha
   rw [show qe3 p x=8 by simp only [qe3,q];rfl];simp [c_276_l0,c_276_k1,h3,h5,hL,hx,ha2]
 ·simp [Prg.e,Tbl.e]
theorem qri (p:Prg) (f:PrgS p) (hv:∀t∈p.Xn,∀v∈t.dflt.args,ok32 0 v) (t:Int):qac Φ f_211 [.agg (Prg.c p),.int .i64 t]=some (.val (.tup [.int .i64 (tblE p t).1,.int .i64 (tblE p t).2])):=by
 rw [qad (fn:=c_211) rfl rfl];by_cases i0:t<0
 ·simp [c_211,Prg.e,i0,tblE,qc5 i0]
 by_cases i1:(p.Xn.length:Int)<=t
 ·simp [c_211,Prg.e,i0,i1,tblE,qc4 i1]
 obtain ⟨k,rfl⟩:∃k:Nat,t=k:=⟨t.toNat,by omega⟩;have hk:k<p.Xn.length:=by omega
 have hm:=Qd hk;have n1:=qxj p.Xn[k].name (f.tn _ hm);have h1:=qxo p p.Xn[k] (f.tk _ hm);have h2:=qxt p f p.Xn[k] (f.ta _ hm) (f.tg _ hm) (hv _ hm);simp only [Prg.e,Tbl.e] at h1 h2;cases q1:idS p.Xn[k].name with
 | false=>rw [q1] at n1;simp [c_211,Prg.e,Tbl.e,hk,Qf.2 hk,n1,tblE,q1]
 | true=>
 rw [q1] at n1;by_cases z0:6<p.Xn[k].keys.length
 ·simp [c_211,Prg.e,Tbl.e,hk,Qf.2 hk,n1,tblE,q1,z0]
 by_cases z1:16<p.Xn[k].actions.length
 ·simp [c_211,Prg.e,Tbl.e,hk,Qf.2 hk,n1,tblE,q1,z0,z1]
 by_cases z2:p.Xn[k].size<1
 ·simp [c_211,Prg.e,Tbl.e,hk,Qf.2 hk,n1,tblE,q1,z0,z1,z2]
 by_cases z3:256<p.Xn[k].size
 ·simp [c_211,Prg.e,Tbl.e,hk,Qf.2 hk,n1,tblE,q1,z0,z1,z2,z3]
 by_cases y1:(qd7 p p.Xn[k]).2=0
 rotate_left
 ·simp [c_211,Prg.e,Tbl.e,hk,Qf.2 hk,n1,tblE,q1,z0,z1,z2,z3,h1,y1]
 rw [y1] at h1;by_cases y2:qh7 p p.Xn[k]=0
 ·rw [y2] at h2;simp [c_211,Prg.e,Tbl.e,hk,Qf.2 hk,n1,tblE,q1,z0,z1,z2,z3,h1,y1,h2,y2]
 ·simp [c_211,Prg.e,Tbl.e,hk,Qf.2 hk,n1,tblE,q1,z0,z1,z2,z3,h1,y1,h2,y2]
theorem qf3 {α:Type} {f:Nat->Option α} {N:Nat} {x:α}:∀{i},fe f N i=some x->∃k,k<N/\f k=some x:=by
 have key:∀n i,feF f n i=some x->∃k,k<i+n/\f k=some x:=by
  intro n
  induction n with
  | zero=>intro i h;simp [feF] at h
  | succ n ih=>
   intro i h;simp only [feF] at h;cases q:f i with
   | some y=>rw [q] at h;cases h;exact ⟨i,by omega,q⟩
   | none=>
    rw [q] at h;obtain ⟨k,h1,h2⟩:=ih _ h;exact ⟨k,by omega,h2⟩
 intro i h;unfold fe at h;obtain ⟨k,h1,h2⟩:=key _ _ h;by_cases hi:i<=N
 ·exact ⟨k,by omega,h2⟩
 ·rw [show N - i=0 by omega] at h;simp [feF] at h
theorem qoa {Φ:FuncId->Option AFun} {β:Type} {fin:Option (Ex×St)->Option β} {h:AH} (N:Nat) (Inv:Nat->Env->Prop) (Q:Option β->Prop) {b:Xv} {K:List Fr}
  (step:∀i e L,i<N->(∀j s,go Φ fin L (.exit j) s=go Φ fin K (.exit j) s)->Inv i e->(∀e',Inv (i+1) e'->Q (go Φ fin L .normal ⟨e',h⟩))->Q (go Φ fin (.c b::L) .normal ⟨e,h⟩))
  (last:∀e L,(∀j s,go Φ fin L (.exit j) s=go Φ fin K (.exit j) s)->Inv N e->Q (go Φ fin (.c b::L) .normal ⟨e,h⟩)):
  ∀i e,i<=N->Inv i e->Q (go Φ fin (.c (.loop b)::K) .normal ⟨e,h⟩):=by
 intro i e hi hv;refine qzg N (fun i e H=>H=h/\Inv i e) Q ?_ ?_ i e h hi ⟨rfl,hv⟩
 ·rintro i e _ L hi hL ⟨rfl,hv⟩ ih;exact step i e L hi hL hv fun e' hv'=>ih e' _ ⟨rfl,hv'⟩
 ·rintro e _ L hL ⟨rfl,hv⟩;exact last e L hL hv
def qee {α:Type} [DecidableEq α] (l m:List α) (i:Nat):Bool:=decide (l.drop i=m.drop i)
theorem qmw {α:Type} [DecidableEq α] {l m:List α} {i:Nat} (h1:i<l.length) (h2:i<m.length) (h:l[i]=m[i]):qee l m i=qee l m (i+1):=by
 unfold qee;rw [decide_eq_decide,qls h1 h2];simp [h]
theorem qlu {α:Type} [DecidableEq α] {l m:List α} {i:Nat} (h1:i<l.length) (h2:i<m.length) (h:l[i]≠m[i]):qee l m i=false:=by
 unfold qee;rw [decide_eq_false_iff_not,qls h1 h2];simp [h]
theorem qmv {α:Type} [DecidableEq α] {l m:List α} (h:l.length=m.length):qee l m l.length=true:=by
 simp [qee,h]
theorem qtv (k1 k2:List Xi) (p1 p2:Int) (r1 r2:List AV) (hb:k1.length<2^40):
   qac Φ f_217 [.agg (.slice 2 (k1.map Xi.c):: .int .i64 p1::r1),.agg (.slice 2 (k2.map Xi.c):: .int .i64 p2::r2)]=some (.val (.bool (decide (k1=k2/\p1=p2)))):=by
  rw [qad (fn:=c_217) rfl rfl];by_cases q1:k1.length=k2.length
  rotate_left
  · have:k1≠k2:=fun h=>q1 (by rw [h])
    simp [c_217,q1,this]
  by_cases q2:p1=p2
  rotate_left
  · simp [c_217,q1,q2]
  subst q2;simp [c_217,q1];refine (qby k1.length (fun i e=>look 2 e=some (AV.ptr 0 (r1.length+1+1) 0 0)/\look 3 e=some (AV.ptr 1 (r2.length+1+1) 0 0)/\look 5 e=some (.int .i64 i))
    (fun i=>some (Rt.val (AV.bool (qee k1 k2 i)))) ?_ ?_ 0 _ (Qc _) ?_).trans (by simp [qee])
  · rintro i e L hi hL ⟨h2,h3,h5⟩ ih
    have hi2:i<k2.length:=by omega
    have hw:=qao i (by omega);by_cases c:k1[i]=k2[i]
    · rw [qmw hi hi2 c]
      simp [c_217_l0,Xi.c,hi,hi2,h2,h3,h5,hw,c];exact ih _ ⟨by simp [h2],by simp [h3],by simp⟩
    · rw [qlu hi hi2 c]
      have c':(decide (k1[i].value=k2[i].value)&&decide (k1[i].mask=k2[i].mask))=false:=by
        simp [Xi.ext_iff] at c ⊢;exact c
      simp [c_217_l0,Xi.c,hi,hi2,h2,h3,h5,c']
  · rintro e L hL ⟨h2,h3,h5⟩
    rw [qmv q1];simp [c_217_l0,c_217_k1, *]
  · simp
theorem qr8 (k1 k2:List Xi) (p1 p2:Int) (r1 r2:List AV) (hb:k1.length<2^40):
   qac Φ f_130 [.agg (.slice 2 (k1.map Xi.c):: .int .i64 p1::r1),.agg (.slice 2 (k2.map Xi.c):: .int .i64 p2::r2)]=some (.val (.bool (decide (k1=k2/\p1=p2)))):=by
  rw [qad (fn:=c_130) rfl rfl];by_cases q2:p1=p2
  rotate_left
  · simp [c_130,q2]
  by_cases q1:k1.length=k2.length
  rotate_left
  · have:k1≠k2:=fun h=>q1 (by rw [h])
    simp [c_130,q1,this,q2]
  subst q2;simp [c_130,q1];refine (qe7 k1.length (fun i e h=>look 2 e=some (AV.ptr 0 (r1.length+1+1) 0 0)/\look 3 e=some (AV.ptr 1 (r2.length+1+1) 0 0)/\look 22 e=some (.slice 2 (k1.map Xi.c))/\look 23 e=some (.int .i64 k2.length)/\look 24 e=some (.int .i64 i)/\
      HP [(0,AO.row (r1.length+1+1) [.slice 2 (k1.map Xi.c):: .int .i64 p1::r1]),(1,AO.row (r2.length+1+1) [.slice 2 (k2.map Xi.c):: .int .i64 p1::r2])] 2 h)
    (fun i=>some (Rt.val (AV.bool (qee k1 k2 i)))) ?_ ?_ 0 _ _ (Qc _) ?_).trans (by simp [qee])
  · rintro i e _ L hi hL ⟨h2,h3,h22,h23,h24,T,n,hT,rfl⟩ ih
    have hi2:i<k2.length:=by omega
    have hw:=qao i (by omega);have hT':=hT (n+2) (Qb _);by_cases c:k1[i]=k2[i]
    · rw [qmw hi hi2 c]
      simp [c_130_l0,Xi.c,hi,hi2,h3,h22,h23,h24,hw,c,hT'];exact ih _ _ ⟨by simp [h2],by simp [h3],by simp [h22],by simp [h23],by simp,HP.next hT⟩
    · rw [qlu hi hi2 c]
      have c':(decide (k1[i].value=k2[i].value)&&decide (k1[i].mask=k2[i].mask))=false:=by
        simp [Xi.ext_iff] at c ⊢;exact c
      simp [c_130_l0,Xi.c,hi,hi2,h3,h22,h23,h24,c',hT']
  · rintro e _ L hL ⟨h2,h3,h22,h23,h24,T,n,hT,rfl⟩
    rw [qmv q1];simp [c_130_l0,c_130_k1, *]
  · simp
    exact HP.mk
def Entry.sm (x:Entry):Prop:=x.keys.length<2^40/\x.call.args.length<2^40
theorem Rw.ce (x:Rw):Rw.c x=[.int .i64 x.id,.slice 2 (x.entry.keys.map Xi.c),.int .i64 x.entry.Xt,.int .i64 x.entry.call.action,.slice 1 (x.entry.call.args.map c32)]:=by simp [Rw.c]
theorem cSe {α:Type} (z:Nat) (f:α->List AV) (l:List α):cS z f l=[.slice z (l.map f)]:=by simp [cS]
theorem Xb.ce (x:Xb):Xb.c x=[.int .i64 x.action,.slice 1 (x.args.map c32)]:=by simp [Xb.c]
theorem Entry.ce (x:Entry):Entry.c x=[.slice 2 (x.keys.map Xi.c),.int .i64 x.Xt,.int .i64 x.call.action,.slice 1 (x.call.args.map c32)]:=by simp [Entry.c]
theorem Xf.ce (x:Xf):Xf.c x=[.slice 1 (x.rows.map (cS 5 Rw.c)),.slice 1 (x.Xr.map cI),.slice 2 (x.Xq.map Xb.c),.slice 1 (x.Xm.map (cS 1 c32))]:=by simp [Xf.c]
theorem cIe (x:Int):cI x=[.int .i64 x]:=by simp [cI]
theorem c32e (x:Int):c32 x=[.int .u32 x]:=by simp [c32]
structure CfgS (a:Xf):Prop where
 rl:a.rows.length<2^40
 rs:∀l∈a.rows,l.length<2^40/\∀r∈l,r.entry.sm
 nl:a.Xr.length<2^40
 dl:a.Xq.length<2^40
 ds:∀d∈a.Xq,d.args.length<2^40
 gl:a.Xm.length<2^40
 gs:∀l∈a.Xm,l.length<2^40
theorem Action.ce (x:Action):Action.c x=[.str x.name,.slice 2 (x.params.map Fld.c),.slice 7 (x.body.map Xg.c)]:=by simp [Action.c]
theorem Xj.ce (x:Xj):Xj.c x=[.str x.name,.slice 2 (x.fields.map Fld.c)]:=by simp [Xj.c]
theorem Xh.ce (x:Xh):Xh.c x=[.str x.name,.int .i64 x.width,.int .i64 x.size]:=by simp [Xh.c]
theorem Xg.ce (x:Xg):Xg.c x=[.int .i64 x.kind,.int .i64 x.dst.header,.int .i64 x.dst.field,.int .i64 x.register,.int .i64 x.header,.slice 3 (x.index.map Xe.c),.slice 3 (x.value.map Xe.c)]:=by simp [Xg.c]
theorem Tbl.ce (x:Tbl):Tbl.c x=[.str x.name,.slice 3 (x.keys.map Xl.c),.slice 1 (x.actions.map cI),.int .i64 x.dflt.action,.slice 1 (x.dflt.args.map c32),.int .i64 x.size]:=by simp [Tbl.c]
theorem Xd.ce (x:Xd):Xd.c x=[.str x.name,.slice 1 (x.extract.map cI),.bool x.select,.int .i64 x.on.header,.int .i64 x.on.field,.slice 3 (x.cases.map Xk.c),.int .i64 x.dflt]:=by simp [Xd.c]
theorem Xa.ce (k t:Int) (c:List Xe) (a b:List Xa):Xa.c (.mk k t c a b)=[.int .i64 k,.int .i64 t,.slice 3 (c.map Xe.c),.slice 5 (a.map Xa.c),.slice 5 (b.map Xa.c)]:=by simp [Xa.c,Xa.cs_eq]
theorem Prg.ce (x:Prg):Prg.c x=[.str x.name,.slice 2 (x.Xp.map Xj.c),.slice 2 (x.Xo.map Fld.c),.slice 3 (x.Xm.map Xh.c),.slice 3 (x.actions.map Action.c),.slice 6 (x.Xn.map Tbl.c),.slice 7 (x.states.map Xd.c),.slice 5 (x.control.map Xa.c),.slice 1 (x.Xs.map cI)]:=by simp [Prg.c]
def hp0 (p:Prg):AH:=⟨[(0,.row 9 [[.str p.name,.slice 2 (p.Xp.map Xj.c),.slice 2 (p.Xo.map Fld.c),.slice 3 (p.Xm.map Xh.c),.slice 3 (p.actions.map Action.c),.slice 6 (p.Xn.map Tbl.c),.slice 7 (p.states.map Xd.c),.slice 5 (p.control.map Xa.c),.slice 1 (p.Xs.map cI)]])],1⟩
structure PrgB (p:Prg):Prop where
 h:p.Xp.length<2^40
 r:p.Xm.length<2^40
 a:p.actions.length<2^40
 b:∀x∈p.actions,x.body.length<2^40
 t:p.Xn.length<2^40
 s:p.states.length<2^40
 c:p.control.length<2^40
 co:∀x∈p.control,Xa.Ok qba x
def hp1 (p:Prg) (c:Xf):AH:=⟨[(0,.row 9 [[.str p.name,.slice 2 (p.Xp.map Xj.c),.slice 2 (p.Xo.map Fld.c),.slice 3 (p.Xm.map Xh.c),.slice 3 (p.actions.map Action.c),.slice 6 (p.Xn.map Tbl.c),.slice 7 (p.states.map Xd.c),.slice 5 (p.control.map Xa.c),.slice 1 (p.Xs.map cI)]]),(1,.row 4 [[.slice 1 (c.rows.map (cS 5 Rw.c)),.slice 1 (c.Xr.map cI),.slice 2 (c.Xq.map Xb.c),.slice 1 (c.Xm.map (cS 1 c32))]])],2⟩
def tOk (p:Prg) (t:Int):Bool:=decide ((tblE p t).2=0)
theorem keyV {p:Prg} {x:Tbl} (h:keyE p x=none):∀k∈x.keys,k.kind=1\/k.kind=2\/k.kind=3:=by
 intro k hk;obtain ⟨i,hi,rfl⟩:=QCn hk;have:=(fe_all.1 h) i hi;simp [hi] at this;split at this
 ·cases this
 ·split at this
  ·assumption
  ·cases this
structure TOk (p:Prg) (k:Nat) (hk:k<p.Xn.length):Prop where
 keys:p.Xn[k].keys.length<=6
 acts:p.Xn[k].actions.length<=16
 kinds:∀x∈p.Xn[k].keys,x.kind=1\/x.kind=2\/x.kind=3
 size:1<=p.Xn[k].size/\p.Xn[k].size<=256
theorem qgr {p:Prg} {t:Int} (h:tOk p t=true):∃(k:Nat) (hk:k<p.Xn.length),t=k/\TOk p k hk:=by
 simp only [tOk,decide_eq_true_eq] at h;by_cases i0:t<0
 ·simp [tblE,qc5 i0] at h
 by_cases i1:(p.Xn.length:Int)<=t
 ·simp [tblE,qc4 i1] at h
 obtain ⟨k,rfl⟩:∃k:Nat,t=k:=⟨t.toNat,by omega⟩;have hk:k<p.Xn.length:=by omega
 refine ⟨k,hk,rfl,?_⟩;unfold tblE at h;rw [qim,Qa hk] at h;dsimp only at h;by_cases z0:idS p.Xn[k].name=false
 ·rw [QAa z0] at h;cases h
 rw [QA z0] at h;by_cases z1:6<p.Xn[k].keys.length\/16<p.Xn[k].actions.length
 ·rw [QAa z1] at h;cases h
 rw [QA z1] at h;by_cases z2:p.Xn[k].size<1\/256<p.Xn[k].size
 ·rw [QAa z2] at h;cases h
 rw [QA z2] at h;by_cases z3:(qd7 p p.Xn[k]).2≠0
 ·rw [QAa z3] at h;exact absurd h z3
 refine ⟨by omega,by omega,?_,by omega⟩;unfold qd7 at z3;cases q:keyE p p.Xn[k] with
 | none=>exact keyV q
 | some e=>
  exfalso;rw [q] at z3;dsimp only at z3;obtain ⟨i,hi,hx⟩:=qf3 q;simp only [Qt] at hx;obtain ⟨y,_,hy⟩:=hx;split at hy
  ·cases hy;exact z3 (by simp)
  ·split at hy
   ·cases hy
   ·cases hy;exact z3 (by simp)
theorem qky (p:Prg) (f:PrgS p) (t:Int):qac Φ f_245 [.agg (Prg.c p),.int .i64 t]=some (.val (.bool (tOk p t))):=by
 rw [qad (fn:=c_245) rfl rfl];have h:=qtq p f t;simp only [Prg.e] at h;simp [c_245,Prg.e,h,tOk]
theorem qjn (p:Prg) (f:PrgS p) (hv:∀t∈p.Xn,∀v∈t.dflt.args,ok32 0 v) (t:Int):qac Φ f_218 [.agg (Prg.c p),.int .i64 t]=some (.val (.bool (tOk p t))):=by
 rw [qad (fn:=c_218) rfl rfl];have h:=qri p f hv t;simp only [Prg.e] at h;simp [c_218,Prg.e,h,tOk]
def kMax:List Xl->Int->Int
 | [],a=>a
 | k::r,a=>kMax r (max a k.kind)
def qfu (p:Prg) (t:Int):Int:=if tOk p t then (match at? p.Xn t with
 | some x=>kMax x.keys 1
 | none=>0) else 0
theorem qwy:∀(l:List Xl) (a:Int),a=3->(∀x∈l,x.kind=1\/x.kind=2\/x.kind=3)->kMax l a=3
 | [],a,h,_=>h
 | k::r,a,h,hk=>by
  subst h;have:=hk k (by simp);simp only [kMax];exact qwy r _ (by omega) fun x hx=>hk x (by simp [hx])
theorem qaa0 (p:Prg) (f:PrgS p) (t:Int):qac Φ f_185 [.agg (Prg.c p),.int .i64 t]=some (.val (.int .i64 (qfu p t))):=by
 rw [qad (fn:=c_185) rfl rfl];have h:=qky p f t;simp only [Prg.e] at h;cases q:tOk p t with
 | false=>
  rw [q] at h;simp [c_185,Prg.e,h,qfu,q]
 | true=>
 rw [q] at h;obtain ⟨k,hk,rfl,o⟩:=qgr q;have hK:qfu p (k:Int)=kMax p.Xn[k].keys 1:=by simp [qfu,q,hk]
 rw [hK];have hb:=o.keys;simp [c_185,Prg.e,h,hk,Tbl.e];refine qay p.Xn[k].keys.length (fun _=>[]) 0 (fun i e=>look 17 e=some (.slice 3 (p.Xn[k].keys.map Xl.c))/\look 18 e=some (.int .i64 p.Xn[k].keys.length)/\look 19 e=some (.int .i64 i)/\∃a:Int,look 5 e=some (.int .i64 a)/\(a=1\/a=2)/\kMax (p.Xn[k].keys.drop i) a=kMax p.Xn[k].keys 1)
  (fun _=>some (Rt.val (.int .i64 (kMax p.Xn[k].keys 1)))) ?_ ?_ 0 _ 0 (Qc _) (Qb _) ?_
 ·rintro i e n L hi hL _ ⟨h17,h18,h19,a,h5,ha,hm⟩ ih;have hw:=qao i (by omega);rw [Qi hi] at hm;simp only [kMax] at hm;have hkk:=o.kinds _ (Qd hi);by_cases k3:p.Xn[k].keys[i].kind=3
  ·have:kMax p.Xn[k].keys 1=3:=by
    rw [<- hm];exact qwy _ _ (by omega) fun x hx=>o.kinds x (QAq hx)
   rw [this];simp [c_185_l0,Xl.e,h17,h18,h19,hi,k3]
  by_cases k2:p.Xn[k].keys[i].kind=2
  ·simp [c_185_l0,Xl.e,h17,h18,h19,hi,k2,hw];exact ih _ _ (Qc _) ⟨by simp [h17],by simp [h18],by simp,2,by simp,.inr rfl,by rw [<- hm];congr 1;omega⟩
  ·simp [c_185_l0,Xl.e,h17,h18,h19,hi,k3,k2,hw];exact ih _ _ (Qc _) ⟨by simp [h17],by simp [h18],by simp,a,by simp [h5],ha,by rw [<- hm];congr 1;omega⟩
 ·rintro e n L hL _ ⟨h17,h18,h19,a,h5,ha,hm⟩;rw [QBd] at hm;simp only [kMax] at hm;rw [<- hm];simp [c_185_l0,c_185_k1,h5,h18,h19,hL]
 ·simp
theorem qz8 (p:Prg) (f:PrgS p) (hv:∀t∈p.Xn,∀v∈t.dflt.args,ok32 0 v) (t:Int):qac Φ f_216 [.agg (Prg.c p),.int .i64 t]=some (.val (.int .i64 (qfu p t))):=by
 rw [qad (fn:=c_216) rfl rfl];have h:=qjn p f hv t;simp only [Prg.e] at h;cases q:tOk p t with
 | false=>
  rw [q] at h;simp [c_216,Prg.e,h,qfu,q]
 | true=>
 rw [q] at h;obtain ⟨k,hk,rfl,o⟩:=qgr q;have hK:qfu p (k:Int)=kMax p.Xn[k].keys 1:=by simp [qfu,q,hk]
 rw [hK];have hb:=o.keys;simp [c_216,Prg.e,h];refine qay p.Xn[k].keys.length (fun _=>[]) 0 (fun i e=>look 2 e=some (.iptr 9 [Prg.c p] 0 0)/\look 1 e=some (.int .i64 k)/\look 6 e=some (.int .i64 i)/\∃a:Int,look 5 e=some (.int .i64 a)/\kMax (p.Xn[k].keys.drop i) a=kMax p.Xn[k].keys 1)
  (fun _=>some (Rt.val (.int .i64 (kMax p.Xn[k].keys 1)))) ?_ ?_ 0 _ 0 (Qc _) (Qb _) ?_
 ·rintro i e n L hi hL _ ⟨h2,h1,h6,a,h5,hm⟩ ih;have hw:=qao i (by omega);rw [Qi hi] at hm;simp only [kMax] at hm;rw [Prg.e] at h2;simp [c_216_l0,Xl.e,Tbl.e,h1,h2,h5,h6,hk,hi,hw];exact ih _ _ (Qc _) ⟨by simp [h2,Prg.e],by simp [h1],by simp,max a p.Xn[k].keys[i].kind,by simp;split<;>omega,hm⟩
 ·rintro e n L hL _ ⟨h2,h1,h6,a,h5,hm⟩;rw [QBd] at hm;simp only [kMax] at hm;rw [Prg.e] at h2;rw [<- hm];simp [c_216_l0,c_216_k1,Tbl.e,h1,h2,h5,h6,hk,hL]
 ·simp [Prg.e]
end Go.Av
