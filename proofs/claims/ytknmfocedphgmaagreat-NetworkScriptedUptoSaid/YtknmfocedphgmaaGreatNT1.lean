/-
 Topologies: ports, links, hosts, on both sides.
-/
import Derived.Test.YtknmfocedphgmaaGreatFunsAR
set_option linter.unusedVariables false
set_option linter.unusedSimpArgs false
set_option linter.constructorNameAsVariable false
namespace Go.Av
set_option maxRecDepth 4000
def exB (ports:List Int) (a:PortID):Bool:=decide (0<=a.switch)&&(decide (a.switch<ports.length)&&(decide (0<=a.port)&&(match ports[a.switch.toNat]? with | some n=>decide (a.port<n) | none=>false)))
theorem qgi (ports:List Int) (x y:List (List AV)) (s p:Int):qac Φ f_70 [.agg [.slice 1 (ports.map cI),.slice 5 x,.slice 2 y],.agg [.int .i64 s,.int .i64 p]]=some (.val (.bool (exB ports ⟨s,p⟩))):=by
 rw [qaa (fn:=c_70) rfl rfl];simp [c_70];refine qdi (fun h1=>?_) (fun h1=>?_)<;>simp [exB,h1];refine qdi (fun h2=>?_) (fun h2=>?_)<;>simp [h2];refine qdi (fun h3=>?_) (fun h3=>?_)<;>simp [h3];simp at h1 h2;obtain ⟨k,rfl⟩:=QAe h1;have h2':k<ports.length:=by omega
 simp [h2',cI]
theorem qjq (ports:List Int) (x y:List (List AV)) (s p:Int):qac Φ f_87 [.agg [.slice 1 (ports.map cI),.slice 5 x,.slice 2 y],.agg [.int .i64 s,.int .i64 p]]=some (.val (.bool (exB ports ⟨s,p⟩))):=by
 rw [qaa (fn:=c_87) rfl rfl];simp [c_87];refine qdi (fun h1=>?_) (fun h1=>?_)<;>simp [exB,h1];refine qdi (fun h2=>?_) (fun h2=>?_)<;>simp [h2];refine qdi (fun h3=>?_) (fun h3=>?_)<;>simp [h3];simp at h1 h2;obtain ⟨k,rfl⟩:=QAe h1;have h2':k<ports.length:=by omega
 simp [h2',cI]
def qb6 (s p:Int) (l:Link):Bool:=(decide (l.a.switch=s)&&decide (l.a.port=p)) || (decide (l.b.switch=s)&&decide (l.b.port=p))
def qds (a b:PortID):Bool:=decide (a.switch=b.switch)&&decide (a.port=b.port)
def ixF {α:Type} (q:α->Bool) (l:List α) (i:Nat):Int:=match (l.drop i).findIdx? q with | some j=>((i+j:Nat):Int) | none=>0
theorem qin {α:Type} {q:α->Bool} {l:List α} {i:Nat} (hi:i<l.length) (h:q l[i]=true):ixF q l i=i:=by
 unfold ixF;rw [Qi hi,List.findIdx?_cons,QAb h];simp
theorem qhi {α:Type} {q:α->Bool} {l:List α} {i:Nat} (hi:i<l.length) (h:q l[i]=false):ixF q l i=ixF q l (i+1):=by
 unfold ixF;rw [Qi hi,List.findIdx?_cons,QA (by rw [h];simp)];cases (l.drop (i+1)).findIdx? q with
 | none=>rfl
 | some j=>simp;omega
theorem qk0 {α:Type} {q:α->Bool} {l:List α}:ixF q l l.length=0:=by simp [ixF]
theorem qkn (x y:List (List AV)) (links:List Link) (s p:Int) (hl:links.length<2^40):qac Φ f_160 [.agg [.slice 1 x,.slice 5 (links.map Link.c),.slice 2 y],.agg [.int .i64 s,.int .i64 p]]=
  some (.val (.tup [.int .i64 (ixF (qb6 s p) links 0),.bool (qaq links (qb6 s p) 0)])):=by
 rw [qaa (fn:=c_160) rfl rfl];simp [c_160];refine (qar links.length (fun _=>[]) 0 (fun i e=>look 3 e=some (.iptr 2 [[.int .i64 s,.int .i64 p]] 0 0)/\look 9 e=some (.slice 5 (links.map Link.c))/\look 10 e=some (.int .i64 links.length)/\look 11 e=some (.int .i64 i))
  (fun i=>some (.val (.tup [.int .i64 (ixF (qb6 s p) links i),.bool (qaq links (qb6 s p) i)]))) ?_ ?_ 0 _ _ (Qc _) (Qc _) ?_).trans (by simp)
 ·rintro i e n L hi hL _ ⟨h3,h9,h10,h11⟩ ih;have hw:=qal i (by omega);cases q:qb6 s p links[i] with
  | true=>
   rw [qin hi q,qg1 hi q];by_cases q1:links[i].a.switch=s/\links[i].a.port=p
   ·simp [c_160_l0,Link.c,h3,h9,h10,h11,hi,hL,q1]
   ·have q2:links[i].b.switch=s/\links[i].b.port=p:=by
     simp [qb6,QAa] at q;rcases q with q | q
     ·exact absurd q q1
     ·exact q
    have q1':(decide (links[i].a.switch=s)&&decide (links[i].a.port=p))=false:=by simpa using q1
    simp [c_160_l0,Link.c,h3,h9,h10,h11,hi,hL,q1',q2]
  | false=>
   rw [qhi hi q,qen hi q];simp only [qb6,QAt] at q;simp [c_160_l0,Link.c,h3,h9,h10,h11,hi,hL,q.1,q.2,hw];exact (ih _ _ (Qc _) ⟨by simp [h3],by simp [h9],by simp [h10],by simp⟩).trans (by simp)
 ·rintro e n L hL _ ⟨h3,h9,h10,h11⟩;rw [qk0,qfj];simp [c_160_l0,c_160_k1,h3,h9,h10,h11,hL]
 ·simp
theorem qmx (x y:List (List AV)) (links:List Link) (s p:Int) (hl:links.length<2^40):qac Φ f_155 [.agg [.slice 1 x,.slice 5 (links.map Link.c),.slice 2 y],.agg [.int .i64 s,.int .i64 p]]=
  some (.val (.tup [.int .i64 (ixF (qb6 s p) links 0),.bool (qaq links (qb6 s p) 0)])):=by
 rw [qaa (fn:=c_155) rfl rfl];simp [c_155];refine (qar links.length (fun _=>[]) 0 (fun i e=>look 2 e=some (.iptr 3 [[.slice 1 x,.slice 5 (links.map Link.c),.slice 2 y]] 0 0)/\look 3 e=some (.iptr 2 [[.int .i64 s,.int .i64 p]] 0 0)/\look 6 e=some (.int .i64 i))
  (fun i=>some (.val (.tup [.int .i64 (ixF (qb6 s p) links i),.bool (qaq links (qb6 s p) i)]))) ?_ ?_ 0 _ _ (Qc _) (Qc _) ?_).trans (by simp)
 ·rintro i e n L hi hL _ ⟨h2,h3,h6⟩ ih;have hw:=qal i (by omega);cases q:qb6 s p links[i] with
  | true=>
   rw [qin hi q,qg1 hi q];by_cases q1:links[i].a.switch=s/\links[i].a.port=p
   ·simp [c_155_l0,Link.c,h2,h3,h6,hi,hL,q1]
   ·have q2:links[i].b.switch=s/\links[i].b.port=p:=by
     simp [qb6,QAa] at q;rcases q with q | q
     ·exact absurd q q1
     ·exact q
    have q1':(decide (links[i].a.switch=s)&&decide (links[i].a.port=p))=false:=by simpa using q1
    simp [c_155_l0,Link.c,h2,h3,h6,hi,hL,q1',q2]
  | false=>
   rw [qhi hi q,qen hi q];simp only [qb6,QAt] at q;simp [c_155_l0,Link.c,h2,h3,h6,hi,hL,q.1,q.2,hw];exact (ih _ _ (Qc _) ⟨by simp [h2],by simp [h3],by simp⟩).trans (by simp)
 ·rintro e n L hL _ ⟨h2,h3,h6⟩;rw [qk0,qfj];simp [c_155_l0,c_155_k1,h2,h3,h6,hL]
 ·simp
def atP (s p:Int) (h:PortID):Bool:=decide (h.switch=s)&&decide (h.port=p)
theorem qdb (x y:List (List AV)) (hosts:List PortID) (s p:Int) (hl:hosts.length<2^40):qac Φ f_67 [.agg [.slice 1 x,.slice 5 y,.slice 2 (hosts.map PortID.c)],.agg [.int .i64 s,.int .i64 p]]=
  some (.val (.tup [.int .i64 (ixF (atP s p) hosts 0),.bool (qaq hosts (atP s p) 0)])):=by
 rw [qaa (fn:=c_67) rfl rfl];simp [c_67];refine (qar hosts.length (fun _=>[]) 0 (fun i e=>look 3 e=some (.iptr 2 [[.int .i64 s,.int .i64 p]] 0 0)/\look 9 e=some (.slice 2 (hosts.map PortID.c))/\look 10 e=some (.int .i64 hosts.length)/\look 11 e=some (.int .i64 i))
  (fun i=>some (.val (.tup [.int .i64 (ixF (atP s p) hosts i),.bool (qaq hosts (atP s p) i)]))) ?_ ?_ 0 _ _ (Qc _) (Qc _) ?_).trans (by simp)
 ·rintro i e n L hi hL _ ⟨h3,h9,h10,h11⟩ ih;have hw:=qal i (by omega);cases q:atP s p hosts[i] with
  | true=>
   rw [qin hi q,qg1 hi q];simp only [atP] at q;simp [c_67_l0,PortID.c,h3,h9,h10,h11,hi,hL,q]
  | false=>
   rw [qhi hi q,qen hi q];simp only [atP] at q;simp [c_67_l0,PortID.c,h3,h9,h10,h11,hi,hL,q,hw];exact (ih _ _ (Qc _) ⟨by simp [h3],by simp [h9],by simp [h10],by simp⟩).trans (by simp)
 ·rintro e n L hL _ ⟨h3,h9,h10,h11⟩;rw [qk0,qfj];simp [c_67_l0,c_67_k1,h3,h9,h10,h11,hL]
 ·simp
theorem qfe (x y:List (List AV)) (hosts:List PortID) (s p:Int) (hl:hosts.length<2^40):qac Φ f_96 [.agg [.slice 1 x,.slice 5 y,.slice 2 (hosts.map PortID.c)],.agg [.int .i64 s,.int .i64 p]]=
  some (.val (.tup [.int .i64 (ixF (atP s p) hosts 0),.bool (qaq hosts (atP s p) 0)])):=by
 rw [qaa (fn:=c_96) rfl rfl];simp [c_96];refine (qar hosts.length (fun _=>[]) 0 (fun i e=>look 2 e=some (.iptr 3 [[.slice 1 x,.slice 5 y,.slice 2 (hosts.map PortID.c)]] 0 0)/\look 3 e=some (.iptr 2 [[.int .i64 s,.int .i64 p]] 0 0)/\look 6 e=some (.int .i64 i))
  (fun i=>some (.val (.tup [.int .i64 (ixF (atP s p) hosts i),.bool (qaq hosts (atP s p) i)]))) ?_ ?_ 0 _ _ (Qc _) (Qc _) ?_).trans (by simp)
 ·rintro i e n L hi hL _ ⟨h2,h3,h6⟩ ih;have hw:=qal i (by omega);cases q:atP s p hosts[i] with
  | true=>
   rw [qin hi q,qg1 hi q];simp only [atP] at q;simp [c_96_l0,PortID.c,h2,h3,h6,hi,hL,q]
  | false=>
   rw [qhi hi q,qen hi q];simp only [atP] at q;simp [c_96_l0,PortID.c,h2,h3,h6,hi,hL,q,hw];exact (ih _ _ (Qc _) ⟨by simp [h2],by simp [h3],by simp⟩).trans (by simp)
 ·rintro e n L hL _ ⟨h2,h3,h6⟩;rw [qk0,qfj];simp [c_96_l0,c_96_k1,h2,h3,h6,hL]
 ·simp
def qbt (l:List Link) (i:Nat):List PortID:=(l.take i).flatMap fun x=>[x.a,x.b]
def qaj (l:List Link) (h:List PortID):List PortID:=qbt l l.length++h
theorem qed {l:List Link} {i:Nat} (hi:i<l.length):qbt l (i+1)=qbt l i++[l[i].a,l[i].b]:=by
 unfold qbt;rw [Qh hi,List.flatMap_append];simp
theorem qc3 {l:List Link}:∀{i:Nat},i<=l.length->(qbt l i).length=2*i
 | 0,_=>by simp [qbt]
 | i+1,h=>by
  rw [qed (by omega),QAp,qc3 (by omega)];simp;omega
theorem qj3 (l:List Link) (h:List PortID):(qaj l h).length=2*l.length+h.length:=by
 unfold qaj;rw [QAp,qc3 (Qb _)]
theorem al2 (l:List PortID):qa7 2 (l.map PortID.c)=true:=qce 2 PortID.c l fun x=>by simp
theorem ql7 (x:List (List AV)) (links:List Link) (hosts:List PortID) (hl:links.length<=32) (hh:hosts.length<=16):qac Φ f_69 [.agg [.slice 1 x,.slice 5 (links.map Link.c),.slice 2 (hosts.map PortID.c)]]=
  some (.val (.slice 2 ((qaj links hosts).map PortID.c))):=by
 rw [qaa (fn:=c_69) rfl rfl];simp [c_69];refine (qar links.length (fun i=>[(0,AO.tok 2 (qbt links i).length)]) 1 (fun i e=>look 1 e=some (.iptr 3 [[.slice 1 x,.slice 5 (links.map Link.c),.slice 2 (hosts.map PortID.c)]] 0 0)/\look 3 e=some (.app 2 ((qbt links i).map PortID.c) 0)/\look 7 e=some (.slice 5 (links.map Link.c))/\look 8 e=some (.int .i64 links.length)/\look 9 e=some (.int .i64 i))
  (fun i=>some (.val (.slice 2 ((qaj links hosts).map PortID.c)))) ?_ ?_ 0 _ _ (Qc _) (Qb _) ?_).trans (by simp)
 ·rintro i e n L hi hL hn ⟨h1,h3,h7,h8,h9⟩ ih;have hw:=qal i (by omega);have hn0:¬(0=n):=by omega
  have hn1:¬(n=0):=by omega
  have hle:=qc3 (l:=links) (i:=i) (by omega);have hb:((qbt links i).length+2)*16<=70368744177664:=by omega
  have hlen:(qbt links i).length+2=(qbt links (i+1)).length:=by rw [qed hi];simp
  simp [c_69_l0,Link.c,h1,h3,h7,h8,h9,hi,hL,hw,hn0,hn1,hb];rw [hlen];exact ih _ _ (by omega) ⟨by simp [h1],by simp [qed hi,PortID.c],by simp [h7],by simp [h8],by simp⟩
 ·rintro e n L hL hn ⟨h1,h3,h7,h8,h9⟩;have hle:=qc3 (l:=links) (i:=links.length) (by omega);have hb:((qbt links links.length).length+hosts.length)*16<=70368744177664:=by omega
  simp [c_69_l0,c_69_k1,h1,h3,h7,h8,h9,hL,hb,qaj,al2]
 ·simp [qbt]
theorem qow (x:List (List AV)) (links:List Link) (hosts:List PortID) (hl:links.length<=32) (hh:hosts.length<=16):qac Φ f_86 [.agg [.slice 1 x,.slice 5 (links.map Link.c),.slice 2 (hosts.map PortID.c)]]=
  some (.val (.slice 2 ((qaj links hosts).map PortID.c))):=by
 rw [qaa (fn:=c_86) rfl rfl];simp [c_86];refine (qar links.length (fun i=>[(0,AO.tok 2 (qbt links i).length)]) 1 (fun i e=>look 1 e=some (.iptr 3 [[.slice 1 x,.slice 5 (links.map Link.c),.slice 2 (hosts.map PortID.c)]] 0 0)/\look 3 e=some (.app 2 ((qbt links i).map PortID.c) 0)/\look 4 e=some (.int .i64 i))
  (fun i=>some (.val (.slice 2 ((qaj links hosts).map PortID.c)))) ?_ ?_ 0 _ _ (Qc _) (Qb _) ?_).trans (by simp)
 ·rintro i e n L hi hL hn ⟨h1,h3,h4⟩ ih;have hw:=qal i (by omega);have hn0:¬(0=n):=by omega
  have hn1:¬(n=0):=by omega
  have hle:=qc3 (l:=links) (i:=i) (by omega);have hb:((qbt links i).length+2)*16<=70368744177664:=by omega
  have hlen:(qbt links i).length+2=(qbt links (i+1)).length:=by rw [qed hi];simp
  simp [c_86_l0,Link.c,h1,h3,h4,hi,hL,hw,hn0,hn1,hb];rw [hlen];exact ih _ _ (by omega) ⟨by simp [h1],by simp [qed hi,PortID.c],by simp⟩
 ·rintro e n L hL hn ⟨h1,h3,h4⟩;have hle:=qc3 (l:=links) (i:=links.length) (by omega);have hb:((qbt links links.length).length+hosts.length)*16<=70368744177664:=by omega
  simp [c_86_l0,c_86_k1,h1,h3,h4,hL,hb,qaj,al2]
 ·simp [qbt]
def qix (U:List PortID) (i:Nat):Bool:=(U.take i).any (qds (U.getD i default))
def badN (n:Int):Bool:=decide (n<1) || decide (16<n)
def chkD (links:List Link):Int:=if links.any (fun l=>decide (l.a.switch=l.b.switch)) then 2 else 0
def chkC (links:List Link) (hosts:List PortID):Int:=if (List.range (qaj links hosts).length).any (qix (qaj links hosts)) then 7 else chkD links
def chkB (ports:List Int) (links:List Link) (hosts:List PortID):Int:=if (qaj links hosts).any (fun a=> !exB ports a) then 9 else chkC links hosts
def chkA (ports:List Int) (links:List Link) (hosts:List PortID):Int:=if ports.any badN then 9 else chkB ports links hosts
def qa2 (ports:List Int) (links:List Link) (hosts:List PortID):Int:=
 if ports=[] then 8 else if 16<ports.length then 12 else if 32<links.length then 12 else if 16<hosts.length then 12 else chkA ports links hosts
def HN (h:AH):Prop:=∃n,h=⟨[],n⟩
theorem HN.mk {n:Nat}:HN ⟨[],n⟩:=⟨n,rfl⟩
theorem qgp (ports:List Int) (links:List Link) (hosts:List PortID):qac Φ f_33 [.agg [.slice 1 (ports.map cI),.slice 5 (links.map Link.c),.slice 2 (hosts.map PortID.c)]]=
  some (.val (.int .i64 (qa2 ports links hosts))):=by
 rw [qaa (fn:=c_33) rfl rfl];simp [c_33];unfold qa2;by_cases q1:ports=[]
 ·simp [q1]
 by_cases q2:16<ports.length
 ·simp [q1,q2]
 by_cases q3:32<links.length
 ·simp [q1,q2,q3]
 by_cases q4:16<hosts.length
 ·simp [q1,q2,q3,q4]
 have f1:ports.length<=16:=by omega
 have f2:links.length<=32:=by omega
 have f3:hosts.length<=16:=by omega
 have fU:=qj3 links hosts;simp [q1,q2,q3,q4];refine (qdq ports badN (some (.val (.int .i64 9))) (some (.val (.int .i64 (chkB ports links hosts))))
  (fun i e h=>look 1 e=some (.iptr 3 [[.slice 1 (ports.map cI),.slice 5 (links.map Link.c),.slice 2 (hosts.map PortID.c)]] 0 0)/\look 35 e=some (.slice 1 (ports.map cI))/\look 36 e=some (.int .i64 ports.length)/\look 37 e=some (.int .i64 i)/\HN h) ?_ ?_ ?_ _ _ ?_).trans (by unfold chkA;split<;>rfl)
 ·rintro i e _ L hi hL ⟨h1,h35,h36,h37,n,rfl⟩ hb;cases c1:decide (ports[i]<1) with
  | true=>simp [c_33_l0,cI,h1,h35,h36,h37,hi,hL,c1]
  | false=>
   have c2:decide (16<ports[i])=true:=by simpa only [badN,c1,QAw] using hb
   simp [c_33_l0,cI,h1,h35,h36,h37,hi,hL,c1,c2]
 ·rintro i e _ L X hi hL ⟨h1,h35,h36,h37,n,rfl⟩ hb ih;simp only [badN,QAt] at hb;have hw:=qal i (by omega);simp [c_33_l0,cI,h1,h35,h36,h37,hi,hL,hb.1,hb.2,hw];exact ih _ _ ⟨by simp [h1],by simp [h35],by simp [h36],by simp,HN.mk⟩
 ·rintro e _ L hL ⟨h1,h35,h36,h37,n,rfl⟩;simp [c_33_l0,c_33_k9,h1,h35,h36,h37,hL,ql7 _ _ _ f2 f3];refine (qdq (qaj links hosts) (fun a=> !exB ports a) (some (.val (.int .i64 9))) (some (.val (.int .i64 (chkC links hosts))))
   (fun i e h=>look 1 e=some (.iptr 3 [[.slice 1 (ports.map cI),.slice 5 (links.map Link.c),.slice 2 (hosts.map PortID.c)]] 0 0)/\look 5 e=some (.slice 2 ((qaj links hosts).map PortID.c))/\look 50 e=some (.slice 2 ((qaj links hosts).map PortID.c))/\look 51 e=some (.int .i64 (qaj links hosts).length)/\look 52 e=some (.int .i64 i)/\HN h) ?_ ?_ ?_ _ _ ?_).trans (by unfold chkB;split<;>rfl)
  ·rintro i e _ L hi hL ⟨h1,h5,h50,h51,h52,n,rfl⟩ hb;have hb':exB ports ⟨(qaj links hosts)[i].switch,(qaj links hosts)[i].port⟩=false:=by simpa using hb
   simp [c_33_l1,PortID.c,h1,h5,h50,h51,h52,hi,hL,qgi,hb']
  ·rintro i e _ L X hi hL ⟨h1,h5,h50,h51,h52,n,rfl⟩ hb ih;have hb':exB ports ⟨(qaj links hosts)[i].switch,(qaj links hosts)[i].port⟩=true:=by simpa using hb
   have hw:=qal i (by omega);simp [c_33_l1,PortID.c,h1,h5,h50,h51,h52,hi,hL,qgi,hb',hw];exact ih _ _ ⟨by simp [h1],by simp [h5],by simp [h50],by simp [h51],by simp,HN.mk⟩
  ·rintro e _ L hL ⟨h1,h5,h50,h51,h52,n,rfl⟩;simp [c_33_l1,c_33_k8,h1,h5,h50,h51,h52,hL];refine (qdq (List.range (qaj links hosts).length) (qix (qaj links hosts)) (some (.val (.int .i64 7))) (some (.val (.int .i64 (chkD links))))
    (fun i e h=>look 1 e=some (.iptr 3 [[.slice 1 (ports.map cI),.slice 5 (links.map Link.c),.slice 2 (hosts.map PortID.c)]] 0 0)/\look 5 e=some (.slice 2 ((qaj links hosts).map PortID.c))/\look 61 e=some (.slice 2 ((qaj links hosts).map PortID.c))/\look 62 e=some (.int .i64 (qaj links hosts).length)/\look 63 e=some (.int .i64 i)/\HN h) ?_ ?_ ?_ _ _ ?_).trans (by unfold chkC;split<;>rfl)
   ·rintro i e _ L hi hL ⟨h1,h5,h61,h62,h63,n,rfl⟩ hb;rw [QAy] at hi;simp only [QCd] at hb;have hi':i<=(qaj links hosts).length:=by omega
    have hd:((qaj links hosts).take i).any (qds (qaj links hosts)[i])=true:=by
     unfold qix at hb
     rwa [show (qaj links hosts).getD i default=(qaj links hosts)[i] by simp [QBk,hi]] at hb
    simp [c_33_l4,PortID.c,h1,h5,h61,h62,h63,hi,hL,hi'];refine qqb ((qaj links hosts).take i) (qds (qaj links hosts)[i]) hd (some (Rt.val (.int .i64 7)))
     (fun k e h=>look 9 e=some (.iptr 2 [[.int .i64 (qaj links hosts)[i].switch,.int .i64 (qaj links hosts)[i].port]] 0 0)/\look 70 e=some (.slice 2 (((qaj links hosts).map PortID.c).take i))/\look 71 e=some (.int .i64 i)/\look 72 e=some (.int .i64 k)/\HN h) ?_ ?_ _ _ ?_
    ·rintro k e _ L' hk hL' ⟨h9,h70,h71,h72,n2,rfl⟩ hb;simp only [QAq] at hk;have hk1:k<i:=by omega
     have hk2:k<(qaj links hosts).length:=by omega
     have hm:min i (qaj links hosts).length=i:=by omega
     simp only [QBi,qds,QAa] at hb;simp [c_33_l2,PortID.c,h9,h70,h71,h72,hk1,hk2,hL',hb,hm]
    ·rintro k e _ L' hk hL' ⟨h9,h70,h71,h72,n2,rfl⟩ hb ih;simp only [QAq] at hk;have hk1:k<i:=by omega
     have hk2:k<(qaj links hosts).length:=by omega
     have hm:min i (qaj links hosts).length=i:=by omega
     have hw:=qal k (by omega);simp only [QBi,qds] at hb;simp [c_33_l2,PortID.c,h9,h70,h71,h72,hk1,hk2,hL',hb,hm,hw];exact ih _ _ ⟨by simp [h9],by simp [h70],by simp [h71],by simp,HN.mk⟩
    ·simp;exact HN.mk
   ·rintro i e _ L X hi hL ⟨h1,h5,h61,h62,h63,n,rfl⟩ hb ihX;rw [QAy] at hi;simp only [QCd] at hb;have hi':i<=(qaj links hosts).length:=by omega
    have hwi:=qal i (by omega);have hd:((qaj links hosts).take i).any (qds (qaj links hosts)[i])=false:=by
     unfold qix at hb
     rwa [show (qaj links hosts).getD i default=(qaj links hosts)[i] by simp [QBk,hi]] at hb
    simp [c_33_l4,PortID.c,h1,h5,h61,h62,h63,hi,hL,hi'];refine qoc ((qaj links hosts).take i) (qds (qaj links hosts)[i]) hd X
     (fun k e h=>look 1 e=some (.iptr 3 [[.slice 1 (ports.map cI),.slice 5 (links.map Link.c),.slice 2 (hosts.map PortID.c)]] 0 0)/\look 5 e=some (.slice 2 ((qaj links hosts).map PortID.c))/\look 61 e=some (.slice 2 ((qaj links hosts).map PortID.c))/\look 62 e=some (.int .i64 (qaj links hosts).length)/\look 63 e=some (.int .i64 i)/\
      look 9 e=some (.iptr 2 [[.int .i64 (qaj links hosts)[i].switch,.int .i64 (qaj links hosts)[i].port]] 0 0)/\look 70 e=some (.slice 2 (((qaj links hosts).map PortID.c).take i))/\look 71 e=some (.int .i64 i)/\look 72 e=some (.int .i64 k)/\HN h) ?_ ?_ _ _ ?_
    ·rintro k e _ L' hk hL' ⟨h1,h5,h61,h62,h63,h9,h70,h71,h72,n2,rfl⟩ hb ih;simp only [QAq] at hk;have hk1:k<i:=by omega
     have hk2:k<(qaj links hosts).length:=by omega
     have hm:min i (qaj links hosts).length=i:=by omega
     have hw:=qal k (by omega);simp only [QBi,qds] at hb;simp [c_33_l2,PortID.c,h9,h70,h71,h72,hk1,hk2,hL',hb,hm,hw];exact ih _ _ ⟨by simp [h1],by simp [h5],by simp [h61],by simp [h62],by simp [h63],by simp [h9],by simp [h70],by simp [h71],by simp,HN.mk⟩
    ·rintro e _ L' hL' ⟨h1,h5,h61,h62,h63,h9,h70,h71,h72,n2,rfl⟩;have hm:min i (qaj links hosts).length=i:=by omega
     simp [hm] at h72;simp [c_33_l2,c_33_k3,PortID.c,h9,h63,h70,h71,h72,hL',hwi];exact ihX _ _ ⟨by simp [h1],by simp [h5],by simp [h61],by simp [h62],by simp,HN.mk⟩
    ·simp [h1,h5,h61,h62,h63];exact HN.mk
   ·rintro e _ L hL ⟨h1,h5,h61,h62,h63,n,rfl⟩;simp only [QAy] at h63;simp [c_33_l4,c_33_k7,h1,h61,h62,h63,hL];refine (qdq links (fun l=>decide (l.a.switch=l.b.switch)) (some (.val (.int .i64 2))) (some (.val (.int .i64 0)))
     (fun i e h=>look 82 e=some (.slice 5 (links.map Link.c))/\look 83 e=some (.int .i64 links.length)/\look 84 e=some (.int .i64 i)/\HN h) ?_ ?_ ?_ _ _ ?_).trans (by unfold chkD;split<;>rfl)
    ·rintro i e _ L hi hL ⟨h82,h83,h84,n,rfl⟩ hb;simp [c_33_l5,Link.c,h82,h83,h84,hi,hL,hb]
    ·rintro i e _ L X hi hL ⟨h82,h83,h84,n,rfl⟩ hb ih;have hw:=qal i (by omega);simp [c_33_l5,Link.c,h82,h83,h84,hi,hL,hb,hw];exact ih _ _ ⟨by simp [h82],by simp [h83],by simp,HN.mk⟩
    ·rintro e _ L hL ⟨h82,h83,h84,n,rfl⟩;simp [c_33_l5,c_33_k6,h82,h83,h84,hL]
    ·simp;exact HN.mk
   ·simp [h1,h5];exact HN.mk
  ·simp [h1];exact HN.mk
 ·simp;exact HN.mk
theorem qfs (ports:List Int) (links:List Link) (hosts:List PortID):qac Φ f_39 [.agg [.slice 1 (ports.map cI),.slice 5 (links.map Link.c),.slice 2 (hosts.map PortID.c)]]=
  some (.val (.int .i64 (qa2 ports links hosts))):=by
 rw [qaa (fn:=c_39) rfl rfl];simp [c_39];unfold qa2;by_cases q1:ports=[]
 ·simp [q1]
 by_cases q2:16<ports.length
 ·simp [q1,q2]
 by_cases q3:32<links.length
 ·simp [q1,q2,q3]
 by_cases q4:16<hosts.length
 ·simp [q1,q2,q3,q4]
 have f1:ports.length<=16:=by omega
 have f2:links.length<=32:=by omega
 have f3:hosts.length<=16:=by omega
 have fU:=qj3 links hosts;simp [q1,q2,q3,q4];refine (qdq ports badN (some (.val (.int .i64 9))) (some (.val (.int .i64 (chkB ports links hosts))))
  (fun i e h=>look 1 e=some (.iptr 3 [[.slice 1 (ports.map cI),.slice 5 (links.map Link.c),.slice 2 (hosts.map PortID.c)]] 0 0)/\look 3 e=some (.int .i64 i)/\
   HN h) ?_ ?_ ?_ _ _ ?_).trans (by unfold chkA;split<;>rfl)
 ·rintro i e _ L hi hL ⟨h1,h3,n,rfl⟩ hb;cases c1:decide (ports[i]<1) with
  | true=>simp [c_39_l0,cI,h1,h3,hi,hL,c1]
  | false=>
   have c2:decide (16<ports[i])=true:=by simpa only [badN,c1,QAw] using hb
   simp [c_39_l0,cI,h1,h3,hi,hL,c1,c2]
 ·rintro i e _ L X hi hL ⟨h1,h3,n,rfl⟩ hb ih;simp only [badN,QAt] at hb;have hw:=qal i (by omega);simp [c_39_l0,cI,h1,h3,hi,hL,hb.1,hb.2,hw];exact ih _ _ ⟨by simp [h1],by simp,HN.mk⟩
 ·rintro e _ L hL ⟨h1,h3,n,rfl⟩;simp [c_39_l0,c_39_k9,h1,h3,hL,qow _ _ _ f2 f3];refine (qdq (qaj links hosts) (fun a=> !exB ports a) (some (.val (.int .i64 9))) (some (.val (.int .i64 (chkC links hosts))))
   (fun i e h=>look 1 e=some (.iptr 3 [[.slice 1 (ports.map cI),.slice 5 (links.map Link.c),.slice 2 (hosts.map PortID.c)]] 0 0)/\look 4 e=some (.slice 2 ((qaj links hosts).map PortID.c))/\look 5 e=some (.int .i64 i)/\
    HN h) ?_ ?_ ?_ _ _ ?_).trans (by unfold chkB;split<;>rfl)
  ·rintro i e _ L hi hL ⟨h1,h4,h5,n,rfl⟩ hb;have hb':exB ports ⟨(qaj links hosts)[i].switch,(qaj links hosts)[i].port⟩=false:=by simpa using hb
   simp [c_39_l1,PortID.c,h1,h4,h5,hi,hL,qjq,hb']
  ·rintro i e _ L X hi hL ⟨h1,h4,h5,n,rfl⟩ hb ih;have hb':exB ports ⟨(qaj links hosts)[i].switch,(qaj links hosts)[i].port⟩=true:=by simpa using hb
   have hw:=qal i (by omega);simp [c_39_l1,PortID.c,h1,h4,h5,hi,hL,qjq,hb',hw];exact ih _ _ ⟨by simp [h1],by simp [h4],by simp,HN.mk⟩
  ·rintro e _ L hL ⟨h1,h4,h5,n,rfl⟩;simp [c_39_l1,c_39_k8,h1,h4,h5,hL];refine (qdq (List.range (qaj links hosts).length) (qix (qaj links hosts)) (some (.val (.int .i64 7))) (some (.val (.int .i64 (chkD links))))
    (fun i e h=>look 1 e=some (.iptr 3 [[.slice 1 (ports.map cI),.slice 5 (links.map Link.c),.slice 2 (hosts.map PortID.c)]] 0 0)/\look 4 e=some (.slice 2 ((qaj links hosts).map PortID.c))/\look 6 e=some (.int .i64 i)/\
     HN h) ?_ ?_ ?_ _ _ ?_).trans (by unfold chkC;split<;>rfl)
   ·rintro i e _ L hi hL ⟨h1,h4,h6,n,rfl⟩ hb;rw [QAy] at hi;simp only [QCd] at hb;have hd:((qaj links hosts).take i).any (qds (qaj links hosts)[i])=true:=by
     unfold qix at hb
     rwa [show (qaj links hosts).getD i default=(qaj links hosts)[i] by simp [QBk,hi]] at hb
    simp [c_39_l4,PortID.c,h1,h4,h6,hi,hL];refine qqb ((qaj links hosts).take i) (qds (qaj links hosts)[i]) hd (some (Rt.val (.int .i64 7)))
     (fun k e h=>look 4 e=some (.slice 2 ((qaj links hosts).map PortID.c))/\look 6 e=some (.int .i64 i)/\look 7 e=some (.int .i64 k)) ?_ ?_ _ _ ?_
    ·rintro k e h L' hk hL' ⟨h4,h6,h7⟩ hb;simp only [QAq] at hk;have hk1:k<i:=by omega
     have hk2:k<(qaj links hosts).length:=by omega
     simp only [QBi,qds,QAa] at hb;simp [c_39_l2,PortID.c,h4,h6,h7,hk1,hk2,hi,hL',hb]
    ·rintro k e h L' hk hL' ⟨h4,h6,h7⟩ hb ih;simp only [QAq] at hk;have hk1:k<i:=by omega
     have hk2:k<(qaj links hosts).length:=by omega
     have hw:=qal k (by omega);simp only [QBi,qds] at hb;simp [c_39_l2,PortID.c,h4,h6,h7,hk1,hk2,hi,hL',hb,hw];exact ih _ _ ⟨by simp [h4],by simp [h6],by simp⟩
    ·simp [h4,h6]
   ·rintro i e _ L X hi hL ⟨h1,h4,h6,n,rfl⟩ hb ihX;rw [QAy] at hi;simp only [QCd] at hb;have hwi:=qal i (by omega);have hd:((qaj links hosts).take i).any (qds (qaj links hosts)[i])=false:=by
     unfold qix at hb
     rwa [show (qaj links hosts).getD i default=(qaj links hosts)[i] by simp [QBk,hi]] at hb
    simp [c_39_l4,PortID.c,h1,h4,h6,hi,hL];refine qoc ((qaj links hosts).take i) (qds (qaj links hosts)[i]) hd X
     (fun k e h=>look 1 e=some (.iptr 3 [[.slice 1 (ports.map cI),.slice 5 (links.map Link.c),.slice 2 (hosts.map PortID.c)]] 0 0)/\look 4 e=some (.slice 2 ((qaj links hosts).map PortID.c))/\look 6 e=some (.int .i64 i)/\look 7 e=some (.int .i64 k)/\
      HN h) ?_ ?_ _ _ ?_
    ·rintro k e _ L' hk hL' ⟨h1,h4,h6,h7,n,rfl⟩ hb ih;simp only [QAq] at hk;have hk1:k<i:=by omega
     have hk2:k<(qaj links hosts).length:=by omega
     have hw:=qal k (by omega);simp only [QBi,qds] at hb;simp [c_39_l2,PortID.c,h4,h6,h7,hk1,hk2,hi,hL',hb,hw];exact ih _ _ ⟨by simp [h1],by simp [h4],by simp [h6],by simp,HN.mk⟩
    ·rintro e _ L' hL' ⟨h1,h4,h6,h7,n,rfl⟩;have hm:min i (qaj links hosts).length=i:=by omega
     simp [hm] at h7;simp [c_39_l2,c_39_k3,PortID.c,h4,h6,h7,hL',hwi];exact ihX _ _ ⟨by simp [h1],by simp [h4],by simp,HN.mk⟩
    ·simp [h1,h4,h6];exact HN.mk
   ·rintro e _ L hL ⟨h1,h4,h6,n,rfl⟩;simp only [QAy] at h6;simp [c_39_l4,c_39_k7,h1,h4,h6,hL];refine (qdq links (fun l=>decide (l.a.switch=l.b.switch)) (some (.val (.int .i64 2))) (some (.val (.int .i64 0)))
     (fun i e h=>look 1 e=some (.iptr 3 [[.slice 1 (ports.map cI),.slice 5 (links.map Link.c),.slice 2 (hosts.map PortID.c)]] 0 0)/\look 8 e=some (.int .i64 i)/\
      HN h) ?_ ?_ ?_ _ _ ?_).trans (by unfold chkD;split<;>rfl)
    ·rintro i e _ L hi hL ⟨h1,h8,n,rfl⟩ hb;simp [c_39_l5,Link.c,h1,h8,hi,hL,hb]
    ·rintro i e _ L X hi hL ⟨h1,h8,n,rfl⟩ hb ih;have hw:=qal i (by omega);simp [c_39_l5,Link.c,h1,h8,hi,hL,hb,hw];exact ih _ _ ⟨by simp [h1],by simp,HN.mk⟩
    ·rintro e _ L hL ⟨h1,h8,n,rfl⟩;simp [c_39_l5,c_39_k6,h1,h8,hL]
    ·simp [h1];exact HN.mk
   ·simp [h1,h4];exact HN.mk
  ·simp [h1];exact HN.mk
 ·simp;exact HN.mk
@[simp] theorem frzB_no {Φ:FuncId->Option AFun} {β:Type} {fin:Option (Ex×St)->Option β} {t:Nat} {ks:List Nat} {K:List Fr} {e:Env} {H:AH} {id z i off:Nat} {o:Option (List (List AV))}:frzB Φ fin t ks K e H id z i off true o=go Φ fin (.f ks::K) .normal ⟨e,H⟩:=by
 cases o<;>simp [frzB]
theorem qlt {α:Type} {q:α->Bool} {l:List α} (h:qaq l q 0=true):∃k,∃hk:k<l.length,ixF q l 0=(k:Int)/\q l[k]=true:=by
 have key:∀i,i<=l.length->qaq l q (l.length - i)=true->∃k,∃hk:k<l.length,ixF q l (l.length - i)=(k:Int)/\q l[k]=true:=by
  intro i
  induction i with
  | zero=>intro _ h;rw [Nat.sub_zero,qfj] at h;cases h
  | succ i ih=>
   intro hi h;have hlt:l.length - (i+1)<l.length:=by omega
   cases hq:q l[l.length - (i+1)] with
   | true=>exact ⟨_,hlt,qin hlt hq,hq⟩
   | false=>
    rw [qen hlt hq,show l.length - (i+1)+1=l.length - i by omega] at h;rw [qhi hlt hq,show l.length - (i+1)+1=l.length - i by omega];exact ih (by omega) h
 have:=key l.length (Qb _) (by rwa [Nat.sub_self])
 rwa [Nat.sub_self] at this
def p00:PortID:=⟨0,0⟩
def qf4 (l:Link) (p:PortID):PortID×Int:=if l.down then (p00,20) else if l.a.switch=p.switch/\l.a.port=p.port then (l.b,0) else (l.a,0)
def qbx (ports:List Int) (links:List Link) (hosts:List PortID) (p:PortID):PortID×Int:=
 if qa2 ports links hosts≠0 then (p00,qa2 ports links hosts) else if qaq links (qb6 p.switch p.port) 0 then qf4 (links.getD (ixF (qb6 p.switch p.port) links 0).toNat default) p else (p00,8)
theorem qm9 (x:List (List AV)) (links:List Link) (hosts:List PortID) (s p:Int) (hl:links.length<2^40) (hh:hosts.length<2^40):∃k i:Int,qac Φ f_116 [.agg [.slice 1 x,.slice 5 (links.map Link.c),.slice 2 (hosts.map PortID.c)],.agg [.int .i64 s,.int .i64 p]]=some (.val (.tup [.int .i64 k,.int .i64 i]))/\
  (qaq links (qb6 s p) 0=true->k=1/\i=ixF (qb6 s p) links 0)/\(qaq links (qb6 s p) 0=false->k≠1):=by
 rw [qaa (fn:=c_116) rfl rfl];have h1:=qkn x (hosts.map PortID.c) links s p hl;have h2:=qdb x (links.map Link.c) hosts s p hh;cases a:qaq links (qb6 s p) 0 with
 | true=>
  rw [a] at h1;exact ⟨1,_,by simp [c_116,h1],fun _=>⟨rfl,rfl⟩,by simp⟩
 | false=>
  rw [a] at h1;cases b:qaq hosts (atP s p) 0 with
  | true=>
   rw [b] at h2;exact ⟨2,_,by simp [c_116,h1,h2];rfl,by simp,by simp⟩
  | false=>
   rw [b] at h2;exact ⟨0,0,by simp [c_116,h1,h2],by simp,by simp⟩
theorem qhn (ports:List Int) (links:List Link) (hosts:List PortID) (s p:Int) (hl:links.length<2^40) (hh:hosts.length<2^40):qac Φ f_68 [.agg [.slice 1 (ports.map cI),.slice 5 (links.map Link.c),.slice 2 (hosts.map PortID.c)],.agg [.int .i64 s,.int .i64 p]]=
  some (.val (.tup [.agg (PortID.c (qbx ports links hosts ⟨s,p⟩).1),.int .i64 (qbx ports links hosts ⟨s,p⟩).2])):=by
 rw [qaa (fn:=c_68) rfl rfl];have h0:=qgp ports links hosts;obtain ⟨k,i,h1,h2,h3⟩:=qm9 (ports.map cI) links hosts s p hl hh;by_cases z:qa2 ports links hosts=0
 rotate_left
 ·simp [c_68,h0,z,qbx,PortID.c,p00]
 rw [z] at h0;cases a:qaq links (qb6 s p) 0 with
 | false=>
  have h3:=h3 a;simp [c_68,h0,h1,h3,qbx,z,a,PortID.c,p00]
 | true=>
  obtain ⟨rfl,rfl⟩:=h2 a;obtain ⟨j,hj,h4,h5⟩:=qlt a;rw [h4] at h1;have e:qbx ports links hosts ⟨s,p⟩=qf4 links[j] ⟨s,p⟩:=by simp [qbx,z,a,h4,hj]
  rw [e];cases d:links[j].down with
  | true=>simp [c_68,h0,h1,hj,Link.c,d,qf4,PortID.c,p00]
  | false=>
   by_cases q:links[j].a.switch=s/\links[j].a.port=p
   ·simp [c_68,h0,h1,hj,Link.c,d,qf4,PortID.c,q]
   ·have q':(decide (links[j].a.switch=s)&&decide (links[j].a.port=p))=false:=by simpa using q
    simp [c_68,h0,h1,hj,Link.c,d,qf4,PortID.c,q,q']
theorem qjp (ports:List Int) (links:List Link) (hosts:List PortID) (s p:Int) (hl:links.length<2^40):qac Φ f_97 [.agg [.slice 1 (ports.map cI),.slice 5 (links.map Link.c),.slice 2 (hosts.map PortID.c)],.agg [.int .i64 s,.int .i64 p]]=
  some (.val (.tup [.agg (PortID.c (qbx ports links hosts ⟨s,p⟩).1),.int .i64 (qbx ports links hosts ⟨s,p⟩).2])):=by
 rw [qaa (fn:=c_97) rfl rfl];have h0:=qfs ports links hosts;have h1:=qmx (ports.map cI) (hosts.map PortID.c) links s p hl;by_cases z:qa2 ports links hosts=0
 rotate_left
 ·simp [c_97,h0,h1,z,qbx,PortID.c,p00]
 rw [z] at h0;cases a:qaq links (qb6 s p) 0 with
 | false=>
  rw [a] at h1;simp [c_97,h0,h1,qbx,z,a,PortID.c,p00]
 | true=>
  rw [a] at h1;obtain ⟨j,hj,h4,h5⟩:=qlt a;rw [h4] at h1;have e:qbx ports links hosts ⟨s,p⟩=qf4 links[j] ⟨s,p⟩:=by simp [qbx,z,a,h4,hj]
  rw [e];cases d:links[j].down with
  | true=>simp [c_97,h0,h1,hj,Link.c,d,qf4,PortID.c,p00]
  | false=>
   by_cases q:links[j].a.switch=s/\links[j].a.port=p
   ·simp [c_97,h0,h1,hj,Link.c,d,qf4,PortID.c,q]
   ·have q':(decide (links[j].a.switch=s)&&decide (links[j].a.port=p))=false:=by simpa using q
    simp [c_97,h0,h1,hj,Link.c,d,qf4,PortID.c,q,q']
theorem al5 (l:List Link):qa7 5 (l.map Link.c)=true:=qce 5 Link.c l fun x=>by simp
theorem al1 (l:List Int):qa7 1 (l.map cI)=true:=qce 1 cI l fun x=>by simp
theorem mapOi {α:Type} {f:α->Option α}:∀{l:List α},(∀x∈l,f x=some x)->mapO f l=some l
 | [],_=>rfl
 | a::l,h=>by
  have h1:=h a (by simp);have h2:=mapOi (f:=f) (l:=l) fun x hx=>h x (by simp [hx])
  simp only [mapO,h1,h2]
theorem snpL {α:Type} {g:α->List AV} {n:Nat} {H:AH} (h:∀x,mapO (snap n H) (g x)=some (g x)) (l:List α):mapO (mapO (snap n H)) (l.map g)=some (l.map g):=by
 refine mapOi fun x hx=>?_
 obtain ⟨y,_,rfl⟩:=QAu.1 hx;exact h y
theorem qt5 {n:Nat} {H:AH} (l:List Link):mapO (mapO (snap (n+1) H)) (l.map Link.c)=some (l.map Link.c):=snpL (fun x=>by simp [Link.c]) l
theorem qk8 {α β:Type} (f:α->β) (l:List α):(l.map f).take l.length=l.map f:=Qo (by simp)
section
variable (ports:List Int) (links:List Link) (hosts:List PortID) (h1:ports.length<=1000) (h2:links.length<=1000) (h3:hosts.length<=1000)
include h1 h2 h3
theorem qfh:
  qac Φ f_36 [.agg [.slice 1 (ports.map cI),.slice 5 (links.map Link.c),.slice 2 (hosts.map PortID.c)]]=some (.val (.agg [.slice 1 (ports.map cI),.slice 5 (links.map Link.c),.slice 2 (hosts.map PortID.c)])):=by
 rw [qaa (fn:=c_36) rfl rfl];have b1:ports.length*8<=70368744177664:=by omega
 have b2:links.length*40<=70368744177664:=by omega
 have b3:hosts.length*16<=70368744177664:=by omega
 by_cases z:links=[]
 ·subst z;simp [c_36,al1,al2,b1,b3]
 ·simp [c_36,al1,al2,al5,z,b1,b2,b3,qk8,qt5]
theorem qjw (hz:links≠[]) (xs:List (List AV)):qah Φ f_36 [.agg [.slice 1 (ports.map cI),.slice 5 (links.map Link.c),.slice 2 (hosts.map PortID.c)]] ⟨[(0,.row 3 xs)],1⟩=some (.val (.agg [.app 1 (ports.map cI) 7,.row 10 5 0 links.length,.app 2 (hosts.map PortID.c) 13]),
  ⟨[(0,.row 3 xs),(1,.row 3 [[.app 1 (ports.map cI) 7,.row 10 5 0 links.length,.app 2 (hosts.map PortID.c) 13]]),(7,.tok 1 ports.length),(10,.row 5 (links.map Link.c)),(13,.tok 2 hosts.length)],14⟩):=by
 rw [qaz (fn:=c_36) rfl rfl];have b1:ports.length*8<=70368744177664:=by omega
 have b2:links.length*40<=70368744177664:=by omega
 have b3:hosts.length*16<=70368744177664:=by omega
 simp [c_36,al1,al2,al5,hz,b1,b2,b3]
theorem qlx (hz:links≠[]) (xs:List (List AV)):qah Φ f_157 [.agg [.slice 1 (ports.map cI),.slice 5 (links.map Link.c),.slice 2 (hosts.map PortID.c)]] ⟨[(0,.row 3 xs)],1⟩=some (.val (.agg [.app 1 (ports.map cI) 3,.row 4 5 0 links.length,.app 2 (hosts.map PortID.c) 5]),
  ⟨[(0,.row 3 xs),(1,.row 3 [[.app 1 (ports.map cI) 3,.row 4 5 0 links.length,.app 2 (hosts.map PortID.c) 5]]),(2,.row 3 [[.app 1 (ports.map cI) 3,.row 4 5 0 links.length,.app 2 (hosts.map PortID.c) 5]]),(3,.tok 1 ports.length),(4,.row 5 (links.map Link.c)),(5,.tok 2 hosts.length)],6⟩):=by
 rw [qaz (fn:=c_157) rfl rfl];have b1:ports.length*8<=70368744177664:=by omega
 have b2:links.length*40<=70368744177664:=by omega
 have b3:hosts.length*16<=70368744177664:=by omega
 simp [c_157,al1,al2,al5,hz,b1,b2,b3]
end
def setD (l:List Link) (k:Nat) (d:Bool):List Link:=match l[k]? with | some x=>l.set k { x with down:=d } | none=>l
theorem qvt {l:List Link} {k:Nat} (hk:k<l.length) (d:Bool):(l.map Link.c).set k (List.take 4 (Link.c l[k])++ .bool d::List.drop 5 (Link.c l[k]))=(setD l k d).map Link.c:=by
 simp [setD,hk,QCa,Link.c]
theorem qso (l:List Link) (k:Nat) (d:Bool):((setD l k d).map Link.c).take l.length=(setD l k d).map Link.c:=Qo (by unfold setD;split<;>simp)
theorem qje (l:List Link) (k:Nat) (d:Bool):(setD l k d).length=l.length:=by
 unfold setD;split<;>simp
section
variable (ports:List Int) (links:List Link) (hosts:List PortID) (k:Int) (d:Bool)
def slV:List AV×Int:=if k<0\/(links.length:Int)<=k then ([.slice 1 [],.slice 5 [],.slice 2 []],8) else ([.slice 1 (ports.map cI),.slice 5 ((setD links k.toNat d).map Link.c),.slice 2 (hosts.map PortID.c)],0)
theorem qg7 (h:k<0\/(links.length:Int)<=k):slV ports links hosts k d=([.slice 1 [],.slice 5 [],.slice 2 []],8):=QAb h
theorem qm3 {n:Nat} (h:n<links.length):slV ports links hosts n d=([.slice 1 (ports.map cI),.slice 5 ((setD links n d).map Link.c),.slice 2 (hosts.map PortID.c)],0):=by
 unfold slV;rw [QA (by omega)];rfl
variable (h1:ports.length<=1000) (h2:links.length<=1000) (h3:hosts.length<=1000)
include h1 h2 h3
theorem qjx:qac Φ f_93 [.agg [.slice 1 (ports.map cI),.slice 5 (links.map Link.c),.slice 2 (hosts.map PortID.c)],.int .i64 k,.bool d]=some (.val (.tup [.agg (slV ports links hosts k d).1,.int .i64 (slV ports links hosts k d).2])):=by
 rw [qaa (fn:=c_93) rfl rfl];by_cases z1:k<0
 ·rw [qg7 _ _ _ _ _ (.inl z1)];simp [c_93,z1]
 obtain ⟨n,rfl⟩:=QAe (show 0<=k by omega);by_cases z2:links.length<=n
 ·have z2':(links.length:Int)<=n:=by omega
  rw [qg7 _ _ _ _ _ (.inr z2')];simp [c_93,z2]
 have hn:n<links.length:=by omega
 have hz:links≠[]:=by rintro rfl;simp at hn
 have hc:=qjw ports links hosts h1 h2 h3 hz;rw [qm3 _ _ _ _ hn];simp [c_93,z2,hc,hn,qk8,qt5,qvt hn,qso,qje]
theorem qly:qac Φ f_100 [.agg [.slice 1 (ports.map cI),.slice 5 (links.map Link.c),.slice 2 (hosts.map PortID.c)],.int .i64 k,.bool d]=some (.val (.tup [.agg (slV ports links hosts k d).1,.int .i64 (slV ports links hosts k d).2])):=by
 rw [qaa (fn:=c_100) rfl rfl];by_cases z1:k<0
 ·rw [qg7 _ _ _ _ _ (.inl z1)];simp [c_100,z1]
 obtain ⟨n,rfl⟩:=QAe (show 0<=k by omega);by_cases z2:links.length<=n
 ·have z2':(links.length:Int)<=n:=by omega
  rw [qg7 _ _ _ _ _ (.inr z2')];simp [c_100,z2]
 have hn:n<links.length:=by omega
 have hz:links≠[]:=by rintro rfl;simp at hn
 have hc:=qlx ports links hosts h1 h2 h3 hz;rw [qm3 _ _ _ _ hn];simp [c_100,z2,hc,hn,qk8,qt5,qvt hn,qso,qje]
end
@[ext] structure Pk where
 pos:PortID
 data:List Int
 hops:List Hop
 done:Bool
 kind:Int
 index:Int
 deriving Inhabited
@[ext] structure NetV where
 ports:List Int
 links:List Link
 hosts:List PortID
 cs:List Xf
 pk:List Pk
 log:List Event
 deriving Inhabited
structure Act where
 dd:Int
 a:Int
 b:Int
 data:List Int
 upd:UpdateStep
 deriving Inhabited
def Act.c (x:Act):List AV:=[.int .i64 x.dd,.int .i64 x.a,.int .i64 x.b,.slice 1 (x.data.map c8),.int .i64 x.upd.switch,.slice 9 (x.upd.ops.map Xc.c)]
def NetV.ev (V:NetV) (x:Event):NetV:={ V with log:=V.log++[x] }
def Pk.fin (x:Pk) (k i:Int):Pk:={ x with done:=true,kind:=k,index:=i }
def qd8 (V:NetV) (host:Int) (data:List Int):NetV×Int×Int:=
 if host<0\/(V.hosts.length:Int)<=host then (V,0,8)
 else if 512<data.length then (V,0,4)
 else if 4096<=V.pk.length then (V,0,12)
 else (NetV.ev { V with pk:=V.pk++[(⟨V.hosts.getD host.toNat default,data,[],false,0,0⟩:Pk)] } ⟨1,V.pk.length,host,0⟩,V.pk.length,0)
def hop1 (x:Pk) (out:Int):List Hop:=x.hops++[⟨x.pos.switch,x.pos.port,out⟩]
def mvD (x:Pk) (i:Nat):Pk×List Event:=(Pk.fin { x with hops:=hop1 x (-1) } 2 x.pos.switch,[⟨2,i,x.pos.switch,-1⟩])
def mvP (V:NetV) (x:Pk) (i:Nat) (r:Rslt):Pk×List Event:=
 if qaq V.hosts (atP x.pos.switch r.port) 0 then (Pk.fin { x with hops:=hop1 x r.port,data:=r.data } 1 (ixF (atP x.pos.switch r.port) V.hosts 0),[⟨2,i,x.pos.switch,r.port⟩,⟨3,i,ixF (atP x.pos.switch r.port) V.hosts 0,0⟩])
 else if (qbx V.ports V.links V.hosts ⟨x.pos.switch,r.port⟩).2=0 then ({ x with hops:=hop1 x r.port,data:=r.data,pos:=(qbx V.ports V.links V.hosts ⟨x.pos.switch,r.port⟩).1 },[⟨2,i,x.pos.switch,r.port⟩])
 else (Pk.fin { x with hops:=hop1 x r.port,data:=r.data } 3 x.pos.switch,[⟨2,i,x.pos.switch,r.port⟩,⟨4,i,x.pos.switch,r.port⟩])
def mv (V:NetV) (x:Pk) (i:Nat) (r:Rslt):Pk×List Event:=if r.drop then mvD x i else mvP V x i r
def qda (V:NetV) (i:Nat) (r:Rslt) (c:Xf):NetV:=
  { V with cs:=V.cs.set (V.pk.getD i default).pos.switch.toNat c,pk:=V.pk.set i (mv V (V.pk.getD i default) i r).1,log:=V.log++(mv V (V.pk.getD i default) i r).2 }
def ev0:Event:=⟨0,0,0,0⟩
def qdr (V:NetV) (i:Nat) (r:Rslt):Event:=(mv V (V.pk.getD i default) i r).2.getLastD ev0
def chkV (V:NetV) (id:Int):Int:=if id<0\/(V.pk.length:Int)<=id then 8 else if (V.pk.getD id.toNat default).done then 25 else 0
def stpV (P:Xf->Int->List Int->Rslt×Xf) (V:NetV) (id:Int):NetV×Event×Int:=
 if chkV V id≠0 then (V,ev0,chkV V id)
 else
  let x:=V.pk.getD id.toNat default
  let q:=P (V.cs.getD x.pos.switch.toNat default) x.pos.port x.data
  (qda V id.toNat q.1 q.2,qdr V id.toNat q.1,0)
def qd6 (V:NetV) (k:Int) (d:Bool):NetV×Int:=
 if k<0\/(V.links.length:Int)<=k then (V,8) else (NetV.ev { V with links:=setD V.links k.toNat d } ⟨6,k,if d then 1 else 0,0⟩,0)
def Pk.c (x:Pk):List AV:=[.int .i64 x.pos.switch,.int .i64 x.pos.port,.slice 1 (x.data.map c8),.slice 3 (x.hops.map Hop.c),.bool x.done,.int .i64 x.kind,.int .i64 x.index,.slice 3 ((if x.done then x.hops else []).map Hop.c),.slice 2 []]
def NetV.r (V:NetV):List AV:=[.slice 1 (V.ports.map cI),.slice 5 (V.links.map Link.c),.slice 2 (V.hosts.map PortID.c),.slice 4 (V.cs.map Xf.c),.slice 9 (V.pk.map Pk.c),.slice 4 (V.log.map Event.c)]
theorem NetV.re (V:NetV):V.r=[.slice 1 (V.ports.map cI),.slice 5 (V.links.map Link.c),.slice 2 (V.hosts.map PortID.c),.slice 4 (V.cs.map Xf.c),.slice 9 (V.pk.map Pk.c),.slice 4 (V.log.map Event.c)]:=rfl
theorem Pk.ce (x:Pk):x.c=[.int .i64 x.pos.switch,.int .i64 x.pos.port,.slice 1 (x.data.map c8),.slice 3 (x.hops.map Hop.c),.bool x.done,.int .i64 x.kind,.int .i64 x.index,.slice 3 ((if x.done then x.hops else []).map Hop.c),.slice 2 []]:=rfl
@[simp] theorem Pk.c_len (x:Pk):x.c.length=9:=by simp [Pk.c]
structure NetS (V:NetV):Prop where
 p:V.ports.length<=1000
 l:V.links.length<=1000
 h:V.hosts.length<=1000
 c:V.cs.length<=1000
 k:V.pk.length<=1000
 g:V.log.length<=10000
 hp:∀x∈V.pk,x.hops.length<=1000
theorem al4 (l:List Event):qa7 4 (l.map Event.c)=true:=qce 4 Event.c l fun x=>by simp
theorem al9 (l:List Pk):qa7 9 (l.map Pk.c)=true:=qce 9 Pk.c l fun x=>by simp
theorem alC (l:List Xf):qa7 4 (l.map Xf.c)=true:=qce 4 Xf.c l fun x=>by simp
theorem alH (l:List Hop):qa7 3 (l.map Hop.c)=true:=qce 3 Hop.c l fun x=>by simp
theorem qcs (V:NetV) (id:Int):qac Φ f_49 [.agg V.r,.int .i64 id]=some (.val (.int .i64 (chkV V id))):=by
 rw [qaa (fn:=c_49) rfl rfl];unfold chkV;by_cases z1:id<0
 ·simp [c_49,NetV.re,z1]
 obtain ⟨n,rfl⟩:=QAe (show 0<=id by omega);by_cases z2:V.pk.length<=n
 ·have z2':(V.pk.length:Int)<=n:=by omega
  simp [c_49,NetV.re,z2]
 have hn:n<V.pk.length:=by omega
 cases d:V.pk[n].done<;>simp [c_49,NetV.re,z2,hn,Pk.ce,d]
theorem qiq (V:NetV) (x:Event) (h:V.log.length<=10000):qac Φ f_94 [.agg V.r,.agg (Event.c x)]=some (.val (.agg (V.ev x).r)):=by
 rw [qaa (fn:=c_94) rfl rfl];have b1:V.log.length*32<=70368744177664:=by omega
 have b2:(V.log.length+1)*32<=70368744177664:=by omega
 simp [c_94,NetV.re,Event.c,NetV.ev,b1,b2,al4]
theorem ql2 (V:NetV) (k:Int) (d:Bool) (s:NetS V):qac Φ f_53 [.agg V.r,.int .i64 k,.bool d]=some (.val (.tup [.agg (qd6 V k d).1.r,.int .i64 (qd6 V k d).2])):=by
 rw [qaa (fn:=c_53) rfl rfl];have h1:=qly V.ports V.links V.hosts k d s.p s.l s.h;by_cases z:k<0\/(V.links.length:Int)<=k
 ·rw [qg7 _ _ _ _ _ z] at h1;simp [c_53,NetV.re,h1,qd6,z]
 obtain ⟨n,rfl⟩:=QAe (show 0<=k by omega);rw [qm3 _ _ _ _ (show n<V.links.length by omega)] at h1;have z1:¬V.links.length<=n:=by omega
 have h2:=fun y=>qiq { V with links:=setD V.links n d } y s.g
 simp [NetV.re,NetV.ev,Event.c] at h2;cases d<;>simp [c_53,NetV.re,h1,qd6,z1,h2 ⟨6,n,_,0⟩,NetV.ev,Event.c]
theorem qo1 (V:NetV) (h:Int) (b:List Int) (s:NetS V):qac Φ f_48 [.agg V.r,.int .i64 h,.slice 1 (b.map c8)]=some (.val (.tup [.agg (qd8 V h b).1.r,.int .i64 (qd8 V h b).2.1,.int .i64 (qd8 V h b).2.2])):=by
 rw [qaa (fn:=c_48) rfl rfl];unfold qd8;by_cases z1:h<0
 ·simp [c_48,NetV.re,z1]
 obtain ⟨n,rfl⟩:=QAe (show 0<=h by omega);by_cases z2:V.hosts.length<=n
 ·have z2':(V.hosts.length:Int)<=n:=by omega
  simp [c_48,NetV.re,z2]
 have hn:n<V.hosts.length:=by omega
 by_cases z3:512<b.length
 ·simp [c_48,NetV.re,z2,z3]
 have hk:=s.k;have z4:¬4096<=V.pk.length:=by omega
 have b1:V.pk.length*136<=70368744177664:=by omega
 have b2:(V.pk.length+1)*136<=70368744177664:=by omega
 have h2:=qiq { V with pk:=V.pk++[⟨V.hosts[n],b,[],false,0,0⟩] } ⟨1,V.pk.length,n,0⟩ s.g;simp [NetV.re,NetV.ev,Event.c,Pk.ce] at h2;simp [c_48,NetV.re,z2,z3,z4,hn,b1,b2,al9,PortID.c,NetV.ev,Event.c,Pk.ce,h2]
set_option maxRecDepth 8000
theorem Rslt.ce (x:Rslt):x.c=[.bool x.drop,.int .i64 x.port,.slice 1 (x.data.map c8),.slice 3 (x.hits.map Hit.c)]:=rfl
theorem Event.ce (x:Event):x.c=[.int .i64 x.kind,.int .i64 x.a,.int .i64 x.b,.int .i64 x.cc]:=rfl
theorem qgr (a b:AV) (h:AH):qah Φ f_94 [a,b] h=go Φ (finC c_94.results) [.c c_94.body] .normal ⟨qbb 0 [a,b],h⟩:=qaz (fn:=c_94) rfl rfl
theorem qiv (a b c d e:AV) (h:AH):qah Φ f_95 [a,b,c,d,e] h=go Φ (finC c_95.results) [.c c_95.body] .normal ⟨qbb 0 [a,b,c,d,e],h⟩:=qaz (fn:=c_95) rfl rfl
theorem qhq (a b c:AV) (h:AH):qah Φ f_98 [a,b,c] h=go Φ (finC c_98.results) [.c c_98.body] .normal ⟨qbb 0 [a,b,c],h⟩:=qaz (fn:=c_98) rfl rfl
theorem Xf.e4 (x:Xf):Xf.c x=[.slice 1 (x.rows.map (cS 5 Rw.c)),.slice 1 (x.Xr.map cI),.slice 2 (x.Xq.map Xb.c),.slice 1 (x.Xm.map (cS 1 c32))]:=by simp [Xf.c]
theorem qqy {α:Type} {g:α->List AV} {n:Nat} {H:AH} (h:∀x,mapO (snap n H) (g x)=some (g x)):∀{l:List α} {i:Nat},i<l.length->∀y:List AV,mapO (mapO (snap n H)) ((l.map g).set i y)=(mapO (snap n H) y).map fun z=>(l.map g).set i z
 | [],_,hi,_=>by simp at hi
 | a::l,0,_,y=>by
  have h2:=snpL h l;simp only [QAz,List.set_cons_zero,mapO,h2];cases mapO (snap n H) y<;>rfl
 | a::l,i+1,hi,y=>by
  have h1:=h a;have h2:=qqy h (l:=l) (i:=i) (by simpa using hi) y;simp only [QAz,List.set_cons_succ,mapO,h1,h2];cases mapO (snap n H) y<;>rfl
theorem snpPk {n:Nat} {H:AH} (x:Pk):mapO (snap (n+1) H) x.c=some x.c:=by simp [Pk.c]
theorem snpCf {n:Nat} {H:AH} (x:Xf):mapO (snap (n+1) H) x.c=some x.c:=by simp [Xf.c]
theorem qk7 {n:Nat} {H:AH} {l:List Pk} {i:Nat} (hi:i<l.length) (y:List AV):mapO (mapO (snap (n+1) H)) ((l.map Pk.c).set i y)=(mapO (snap (n+1) H) y).map fun z=>(l.map Pk.c).set i z:=qqy snpPk hi y
theorem qk6 {n:Nat} {H:AH} {l:List Xf} {i:Nat} (hi:i<l.length) (y:List AV):mapO (mapO (snap (n+1) H)) ((l.map Xf.c).set i y)=(mapO (snap (n+1) H) y).map fun z=>(l.map Xf.c).set i z:=qqy snpCf hi y
theorem qkr (a b c d:Int):aoEq (some (.row 4 [[.int .i64 a,.int .i64 b,.int .i64 c,.int .i64 d]])) (some (.row 4 [[.int .i64 a,.int .i64 b,.int .i64 c,.int .i64 d]]))=true:=by simp [aoEq,eqL,avEq,qag]
theorem qph {α β:Type} (g:α->β) (l:List α) (i:Nat) (y:β):((l.map g).set i y).take l.length=(l.map g).set i y:=Qo (by simp)
section
variable (V:NetV) (i:Nat) (hi:i<V.pk.length) (x:Pk) (hx:V.pk[i]=x) (k:Nat) (hs:x.pos.switch=k) (hk:k<V.cs.length) (r:Rslt) (c:Xf) (s:NetS V) (hd:x.done=false)
include hi hx hs hk s hd
theorem qmy (hr:r.drop=true):qac Φ f_51 [.agg V.r,.int .i64 i,.agg (Rslt.c r),.agg (Xf.c c)]=some (.val (.tup [.agg (qda V i r c).r,.agg (Event.c (qdr V i r))])):=by
 rw [qaa (fn:=c_51) rfl rfl];have hg:=s.g;have hkk:=s.k;have hc:=s.c;have hh:=s.hp x (by rw [<- hx];exact Qd hi);have b1:V.log.length*32<=70368744177664:=by omega
 have b2:(V.log.length+1)*32<=70368744177664:=by omega
 have b3:V.cs.length*96<=70368744177664:=by omega
 have b4:x.hops.length*24<=70368744177664:=by omega
 have b5:(x.hops.length+1)*24<=70368744177664:=by omega
 have b6:V.pk.length*136<=70368744177664:=by omega
 have n1:V.cs≠[]:=by intro h;rw [h] at hk;simp at hk
 have n2:V.pk≠[]:=by intro h;simp [h] at hi
 have hgd:V.pk[i]?.getD default=x:=by simp [hi,hx]
 have b2':(V.log.length+1+1)*32<=70368744177664:=QAh (Qj 32 (QAs (QAs hg 1) 1)) (by decide);simp [c_51,NetV.re,hx,hi,hs,hk,hr,hd,Pk.ce,Rslt.ce,Xf.e4,alC,alH,al4,al9,b1,b2,b2',b3,b4,b5,b6,n1,n2,qgr,qiv,qhq,c_94,c_95,c_98,qkr,qph,qk7 hi,qk6 hk];simp [qda,qdr,mv,mvD,mvP,hr,hgd,Pk.fin,QCa,Xf.e4,Pk.ce,hop1,Event.ce,Hop.c,hs,hd]
theorem qmz (hr:r.drop=false) (ha:qaq V.hosts (atP k r.port) 0=true):qac Φ f_51 [.agg V.r,.int .i64 i,.agg (Rslt.c r),.agg (Xf.c c)]=some (.val (.tup [.agg (qda V i r c).r,.agg (Event.c (qdr V i r))])):=by
 rw [qaa (fn:=c_51) rfl rfl];have hg:=s.g;have hkk:=s.k;have hc:=s.c;have hh:=s.hp x (by rw [<- hx];exact Qd hi);have b1:V.log.length*32<=70368744177664:=by omega
 have b2:(V.log.length+1)*32<=70368744177664:=by omega
 have b3:V.cs.length*96<=70368744177664:=by omega
 have b4:x.hops.length*24<=70368744177664:=by omega
 have b5:(x.hops.length+1)*24<=70368744177664:=by omega
 have b6:V.pk.length*136<=70368744177664:=by omega
 have n1:V.cs≠[]:=by intro h;rw [h] at hk;simp at hk
 have n2:V.pk≠[]:=by intro h;simp [h] at hi
 have hgd:V.pk[i]?.getD default=x:=by simp [hi,hx]
 have k1:=qfe (V.ports.map cI) (V.links.map Link.c) V.hosts k r.port (by have:=s.h;omega);rw [ha] at k1;have b2':(V.log.length+1+1)*32<=70368744177664:=QAh (Qj 32 (QAs (QAs hg 1) 1)) (by decide);simp [c_51,NetV.re,hx,hi,hs,hk,hr,hd,Pk.ce,Rslt.ce,Xf.e4,alC,alH,al4,al9,b1,b2,b2',b3,b4,b5,b6,n1,n2,qgr,qiv,qhq,c_94,c_95,c_98,qkr,qph,qk7 hi,qk6 hk,k1];simp [qda,qdr,mv,mvD,mvP,hr,hgd,Pk.fin,QCa,Xf.e4,Pk.ce,hop1,Event.ce,Hop.c,hs,hd,ha]
theorem qm1 (hr:r.drop=false) (ha:qaq V.hosts (atP k r.port) 0=false) (hp:(qbx V.ports V.links V.hosts ⟨k,r.port⟩).2=0):qac Φ f_51 [.agg V.r,.int .i64 i,.agg (Rslt.c r),.agg (Xf.c c)]=some (.val (.tup [.agg (qda V i r c).r,.agg (Event.c (qdr V i r))])):=by
 rw [qaa (fn:=c_51) rfl rfl];have hg:=s.g;have hkk:=s.k;have hc:=s.c;have hh:=s.hp x (by rw [<- hx];exact Qd hi);have b1:V.log.length*32<=70368744177664:=by omega
 have b2:(V.log.length+1)*32<=70368744177664:=by omega
 have b3:V.cs.length*96<=70368744177664:=by omega
 have b4:x.hops.length*24<=70368744177664:=by omega
 have b5:(x.hops.length+1)*24<=70368744177664:=by omega
 have b6:V.pk.length*136<=70368744177664:=by omega
 have n1:V.cs≠[]:=by intro h;rw [h] at hk;simp at hk
 have n2:V.pk≠[]:=by intro h;simp [h] at hi
 have hgd:V.pk[i]?.getD default=x:=by simp [hi,hx]
 have k1:=qfe (V.ports.map cI) (V.links.map Link.c) V.hosts k r.port (by have:=s.h;omega);have k2:=qjp V.ports V.links V.hosts k r.port (by have:=s.l;omega);rw [ha] at k1;rw [hp] at k2;obtain ⟨p,hpp⟩:∃p,(qbx V.ports V.links V.hosts ⟨k,r.port⟩).1=p:=⟨_,rfl⟩;rw [hpp,PortID.c] at k2;have b2':(V.log.length+1+1)*32<=70368744177664:=QAh (Qj 32 (QAs (QAs hg 1) 1)) (by decide);simp [c_51,NetV.re,hx,hi,hs,hk,hr,hd,Pk.ce,Rslt.ce,Xf.e4,alC,alH,al4,al9,b1,b2,b2',b3,b4,b5,b6,n1,n2,qgr,qiv,qhq,c_94,c_95,c_98,qkr,qph,qk7 hi,qk6 hk,k1,k2];simp [qda,qdr,mv,mvD,mvP,hr,hgd,Pk.fin,QCa,Xf.e4,Pk.ce,hop1,Event.ce,Hop.c,hs,hd,ha,hp,hpp]
theorem qm0 (hr:r.drop=false) (ha:qaq V.hosts (atP k r.port) 0=false) (hp:(qbx V.ports V.links V.hosts ⟨k,r.port⟩).2≠0):qac Φ f_51 [.agg V.r,.int .i64 i,.agg (Rslt.c r),.agg (Xf.c c)]=some (.val (.tup [.agg (qda V i r c).r,.agg (Event.c (qdr V i r))])):=by
 rw [qaa (fn:=c_51) rfl rfl];have hg:=s.g;have hkk:=s.k;have hc:=s.c;have hh:=s.hp x (by rw [<- hx];exact Qd hi);have b1:V.log.length*32<=70368744177664:=by omega
 have b2:(V.log.length+1)*32<=70368744177664:=by omega
 have b3:V.cs.length*96<=70368744177664:=by omega
 have b4:x.hops.length*24<=70368744177664:=by omega
 have b5:(x.hops.length+1)*24<=70368744177664:=by omega
 have b6:V.pk.length*136<=70368744177664:=by omega
 have n1:V.cs≠[]:=by intro h;rw [h] at hk;simp at hk
 have n2:V.pk≠[]:=by intro h;simp [h] at hi
 have hgd:V.pk[i]?.getD default=x:=by simp [hi,hx]
 have k1:=qfe (V.ports.map cI) (V.links.map Link.c) V.hosts k r.port (by have:=s.h;omega);have k2:=qjp V.ports V.links V.hosts k r.port (by have:=s.l;omega);rw [ha] at k1;rw [PortID.c] at k2;have b2':(V.log.length+1+1)*32<=70368744177664:=QAh (Qj 32 (QAs (QAs hg 1) 1)) (by decide);simp [c_51,NetV.re,hx,hi,hs,hk,hr,hd,Pk.ce,Rslt.ce,Xf.e4,alC,alH,al4,al9,b1,b2,b2',b3,b4,b5,b6,n1,n2,qgr,qiv,qhq,c_94,c_95,c_98,qkr,qph,qk7 hi,qk6 hk,k1,k2,hp];simp [qda,qdr,mv,mvD,mvP,hr,hgd,Pk.fin,QCa,Xf.e4,Pk.ce,hop1,Event.ce,Hop.c,hs,hd,ha,hp]
theorem qoz:qac Φ f_51 [.agg V.r,.int .i64 i,.agg (Rslt.c r),.agg (Xf.c c)]=some (.val (.tup [.agg (qda V i r c).r,.agg (Event.c (qdr V i r))])):=by
 cases hr:r.drop with
 | true=>exact qmy V i hi x hx k hs hk r c s hd hr
 | false=>
  cases ha:qaq V.hosts (atP k r.port) 0 with
  | true=>exact qmz V i hi x hx k hs hk r c s hd hr ha
  | false=>
   by_cases hp:(qbx V.ports V.links V.hosts ⟨k,r.port⟩).2=0
   ·exact qm1 V i hi x hx k hs hk r c s hd hr ha hp
   ·exact qm0 V i hi x hx k hs hk r c s hd hr ha hp
end
theorem qaf (t:Nat) (a b:List (Nat×AO)):look t (a++b)=(look t a).or (look t b):=qdk t a b
theorem qad (j t:Nat) (y:AO):∀O:List (Nat×AO),look j (setl t y O)=if j=t then (look t O).map (fun _=>y) else look j O
 | []=>by simp
 | (u,w)::r=>by
  have ih:=qad j t y r;by_cases hu:u=t
  ·subst hu;by_cases hj:j=u
   ·subst hj;simp
   ·have:¬u=j:=fun h=>hj h.symm
    simp [hj,this]
  ·by_cases hj:j=t
   ·subst hj;simp [hu];simpa using ih
   ·by_cases hv:u=j
    ·subst hv;simp [hu]
    ·simp [hu,hv,hj];simpa [hj] using ih
theorem qbd {j t:Nat} (h:j≠t):∀O:List (Nat×AO),look j (qay t O)=look j O
 | []=>by simp
 | (u,w)::r=>by
  have ih:=qbd h r;by_cases hu:u=t
  ·subst hu;have:¬u=j:=fun e=>h e.symm
   simp [this]
  ·by_cases hv:u=j
   ·subst hv;simp [hu]
   ·simp [hu,hv,ih]
theorem qgl {j t:Nat}:∀O:List (Nat×AO),look j O=none->look j (qay t O)=none
 | [],_=>by simp
 | (u,w)::r,h=>by
  by_cases hv:u=j
  ·subst hv;simp at h
  ·simp [hv] at h;have ih:=qgl (t:=t) r h;by_cases hu:u=t
   ·subst hu;simpa using h
   ·simp [hu,hv,ih]
theorem qan {j:Nat}:∀{O:List (Nat×AO)},look j O≠some .res->look j (qau O)=look j O
 | [],_=>by simp
 | (u,w)::r,h=>by
  by_cases hv:u=j
  ·subst hv;simp at h;cases w<;>simp at h ⊢
  ·simp [hv] at h;have ih:=qan h;cases w<;>simp [hv,ih]
section
variable (z t i o n:Nat) (es:List (List AV))
@[simp] theorem qafx:lenOf (.slice z es)=some es.length:=rfl
@[simp] theorem qafv:lenOf (.Xu z es)=some es.length:=rfl
@[simp] theorem qafu:lenOf (.app z es t)=some es.length:=rfl
@[simp] theorem qafw:lenOf (.row t z o n)=some n:=rfl
@[simp] theorem qaea (cs:List AV):AV.cells (.agg cs)=some cs:=rfl
@[simp] theorem qaeb (k:IntKind) (x:Int):AV.cells (.int k x)=some [.int k x]:=rfl
@[simp] theorem qade (b:Bool):AV.cells (.bool b)=some [.bool b]:=rfl
@[simp] theorem qaee (b:List UInt8):AV.cells (.str b)=some [.str b]:=rfl
@[simp] theorem qaaz:AV.cells .nilptr=some [.nilptr]:=rfl
@[simp] theorem qaay:AV.cells .nilmap=some [.nilmap]:=rfl
@[simp] theorem qaff:AV.cells (.slice z es)=some [.slice z es]:=rfl
@[simp] theorem qafd:AV.cells (.Xu z es)=some [.Xu z es]:=rfl
@[simp] theorem qafc:AV.cells (.app z es t)=some [.app z es t]:=rfl
@[simp] theorem qafe:AV.cells (.row t z o n)=some [.row t z o n]:=rfl
@[simp] theorem qaed:AV.cells (.ptr t z o n)=some [.ptr t z o n]:=rfl
@[simp] theorem qadg:AV.cells (.iptr z es o n)=some [.iptr z es o n]:=rfl
@[simp] theorem qaec:AV.cells (.map t)=some [.map t]:=rfl
@[simp] theorem qadf (f:Fn) (a b:List AV):AV.cells (.func f a b)=some [.func f a b]:=rfl
end
theorem Tail_append_iff {a b:List (Nat×AO)} {n:Nat}:Tail (a++b) n↔Tail a n/\Tail b n:=by
 constructor
 ·intro h;refine ⟨fun j hj=>?_,fun j hj=>?_⟩
  ·have:=h j hj;rw [qaf] at this;cases hl:look j a with
   | none=>rfl
   | some x=>rw [hl] at this;cases this
  ·have:=h j hj;rw [qaf] at this;cases hl:look j a with
   | none=>rw [hl] at this;simpa using this
   | some x=>rw [hl] at this;cases this
 ·rintro ⟨h1,h2⟩ j hj;rw [qaf,h1 j hj,h2 j hj];rfl
theorem Tail_cons_iff {u n:Nat} {x:AO} {r:List (Nat×AO)}:Tail ((u,x)::r) n↔u<n/\Tail r n:=by
 constructor
 ·intro h;have hu:u<n:=by
   refine Decidable.byContradiction fun hc=>?_
   have:=h u (by omega);simp at this
  refine ⟨hu,fun j hj=>?_⟩;have:=h j hj;have hne:¬u=j:=by omega
  simpa [hne] using this
 ·rintro ⟨h1,h2⟩ j hj;have hne:¬u=j:=by omega
  simp [hne,h2 j hj]
theorem qby {n:Nat}:Tail [] n↔True:=⟨fun _=>trivial,fun _=>Tail.nil n⟩
theorem qa4 {t n:Nat} {y:AO} {O:List (Nat×AO)} (h:Tail O n):Tail (setl t y O) n:=by
 intro j hj;rw [qad];split
 ·rename_i e;rw [<- e,h j hj];rfl
 ·exact h j hj
theorem qh6 {t n:Nat} {O:List (Nat×AO)} (h:Tail O n):Tail (qay t O) n:=fun j hj=>qgl _ (h j hj)
theorem qfy {n:Nat} {O:List (Nat×AO)} (h:Tail O n):Tail (qau O) n:=by
 intro j hj;rw [qan (by rw [h j hj];simp),h j hj]
theorem Tail.lt {O:List (Nat×AO)} {n j:Nat} {x:AO} (h:Tail O n) (hl:look j O=some x):j<n:=by
 refine Decidable.byContradiction fun hc=>?_
 rw [h j (by omega)] at hl;cases hl
def Kp (X:Nat->Prop) (N:Nat) (O O':List (Nat×AO)):Prop:=∀j,j<N->¬X j->look j O'=look j O
theorem Kp.refl {X:Nat->Prop} {N:Nat} {O:List (Nat×AO)}:Kp X N O O:=fun _ _ _=>rfl
theorem Kp.trans {X:Nat->Prop} {N N':Nat} {O O' O'':List (Nat×AO)} (h:Kp X N O O') (h2:Kp X N' O' O'') (hn:N<=N'):Kp X N O O'':=
 fun j hj hx=>(h2 j (by omega) hx).trans (h j hj hx)
theorem Kp.mono {X Y:Nat->Prop} {N:Nat} {O O':List (Nat×AO)} (h:Kp X N O O') (hx:∀j,j<N->X j->Y j):Kp Y N O O':=
 fun j hj hy=>h j hj fun hc=>hy (hx j hj hc)
section
variable {Φ:FuncId->Option AFun} {β:Type} {fin:Option (Ex×St)->Option β}
theorem loopQ {σ:Type} (m:σ->Nat) (Inv:σ->Env->AH->Prop) (R:σ->Option β->Prop) {b:Xv} {K:List Go.Av.Fr}
  (step:∀x e h L,(∀j s,go Φ fin L (.exit j) s=go Φ fin K (.exit j) s)->Inv x e h->(∀y e' h',m y<m x->Inv y e' h'->R y (go Φ fin L .normal ⟨e',h'⟩))->R x (go Φ fin (.c b::L) .normal ⟨e,h⟩)):
  ∀x e h,Inv x e h->R x (go Φ fin (.c (.loop b)::K) .normal ⟨e,h⟩):=by
 have key:∀n x e h,m x<=n->Inv x e h->R x (go Φ fin (.c (.loop b)::K) .normal ⟨e,h⟩):=by
  intro n
  induction n with
  | zero=>
   intro x e h hn hi;rw [qc4];exact step x e h _ (fun j s=>by simp) hi fun y e' h' hlt=>by omega
  | succ n ih=>
   intro x e h hn hi;rw [qc4];exact step x e h _ (fun j s=>by simp) hi fun y e' h' hlt hy=>ih y e' h' (by omega) hy
 intro x e h hi;exact key (m x) x e h (Qb _) hi
theorem qgd (N:Nat) (Inv:Nat->Env->AH->Prop) (Q:Option β->Prop) {b:Xv} {K:List Go.Av.Fr}
  (step:∀i e h L,i<N->(∀j s,go Φ fin L (.exit j) s=go Φ fin K (.exit j) s)->Inv i e h->(∀e' h',Inv (i+1) e' h'->Q (go Φ fin L .normal ⟨e',h'⟩))->Q (go Φ fin (.c b::L) .normal ⟨e,h⟩))
  (last:∀e h L,(∀j s,go Φ fin L (.exit j) s=go Φ fin K (.exit j) s)->Inv N e h->Q (go Φ fin (.c b::L) .normal ⟨e,h⟩)):
  ∀i e h,i<=N->Inv i e h->Q (go Φ fin (.c (.loop b)::K) .normal ⟨e,h⟩):=by
 intro i e h hi hinv;refine loopQ (σ:={ i:Nat // i<=N }) (fun x=>N - x.1) (fun x=>Inv x.1) (fun _=>Q) ?_ ⟨i,hi⟩ e h hinv;intro ⟨i,hi⟩ e h L hL hinv ih;rcases Nat.lt_or_eq_of_le hi with hlt | heq
 ·exact step i e h L hlt hL hinv fun e' h' hi'=>ih ⟨i+1,hlt⟩ e' h' (by simp;omega) hi'
 ·subst heq;exact last e h L hL hinv
end
def vid:AV->Option Nat
 | .row id _ _ _=>some id
 | _=>none
inductive Mu (O:List (Nat×AO)) (z:Nat):AV->List (List AV)->Prop
 | nilF:Mu O z (.Xu z []) []
 | nilA (t:Nat):Mu O z (.app z [] t) []
 | row (id:Nat) (es es0:List (List AV)) (n:Nat) (hn:n=es.length) (hl:look id O=some (.row z es0)) (hle:es.length<=es0.length) (ht:es0.take es.length=es):Mu O z (.row id z 0 n) es
theorem Mu.len {O:List (Nat×AO)} {z:Nat} {v:AV} {es:List (List AV)} (h:Mu O z v es):lenOf v=some es.length:=by
 cases h with
 | nilF=>rfl
 | nilA=>rfl
 | row id _ es0 n hn=>subst hn;rfl
theorem Mu.fr {O O':List (Nat×AO)} {z:Nat} {v:AV} {es:List (List AV)} (h:Mu O z v es) (hf:∀j,vid v=some j->look j O'=look j O):Mu O' z v es:=by
 cases h with
 | nilF=>exact .nilF
 | nilA=>exact .nilA _
 | row id _ es0 n hn hl hle ht=>exact .row id es es0 n hn (by rw [hf id rfl,hl]) hle ht
theorem Mu.nonempty {O:List (Nat×AO)} {z:Nat} {v:AV} {es:List (List AV)} (h:Mu O z v es) (hp:0<es.length):∃id es0,v= .row id z 0 es.length/\look id O=some (.row z es0)/\es.length<=es0.length/\es0.take es.length=es:=by
 cases h with
 | nilF=>simp at hp
 | nilA=>simp at hp
 | row id _ es0 n hn hl hle ht=>subst hn;exact ⟨id,es0,rfl,hl,hle,ht⟩
theorem Mu.snp {O:List (Nat×AO)} {z N n:Nat} {v:AV} {es:List (List AV)} (h:Mu O z v es):snap (n+1) ⟨O,N⟩ v=(mapO (mapO (snap n ⟨O,N⟩)) es).map (.slice z):=by
 cases h with
 | nilF=>simp
 | nilA=>simp
 | row id _ es0 k hn hl hle ht=>
  subst hn;simp [hl,hle,ht]
inductive Re (O:List (Nat×AO)) (z:Nat):AV->List (List AV)->Prop
 | sl (es:List (List AV)):Re O z (.slice z es) es
 | fs (es:List (List AV)):Re O z (.Xu z es) es
 | ap (es:List (List AV)) (t:Nat):Re O z (.app z es t) es
 | row (id:Nat) (es es0:List (List AV)) (n:Nat) (hn:n=es.length) (hl:look id O=some (.row z es0)) (hle:es.length<=es0.length) (ht:es0.take es.length=es):Re O z (.row id z 0 n) es
theorem Mu.re {O:List (Nat×AO)} {z:Nat} {v:AV} {es:List (List AV)} (h:Mu O z v es):Re O z v es:=by
 cases h with
 | nilF=>exact .fs []
 | nilA=>exact .ap [] _
 | row id _ es0 n hn hl hle ht=>exact .row id es es0 n hn hl hle ht
theorem Re.fr {O O':List (Nat×AO)} {z:Nat} {v:AV} {es:List (List AV)} (h:Re O z v es) (hf:∀j,vid v=some j->look j O'=look j O):Re O' z v es:=by
 cases h with
 | sl=>exact .sl es
 | fs=>exact .fs es
 | ap=>exact .ap es _
 | row id _ es0 n hn hl hle ht=>exact .row id es es0 n hn (by rw [hf id rfl,hl]) hle ht
theorem Re.len {O:List (Nat×AO)} {z:Nat} {v:AV} {es:List (List AV)} (h:Re O z v es):lenOf v=some es.length:=by
 cases h with
 | sl=>rfl
 | fs=>rfl
 | ap=>rfl
 | row id _ es0 n hn=>subst hn;rfl
theorem Re.snp {O:List (Nat×AO)} {z N n:Nat} {v:AV} {es:List (List AV)} (h:Re O z v es) (he:mapO (mapO (snap n ⟨O,N⟩)) es=some es):snap (n+1) ⟨O,N⟩ v=some (.slice z es):=by
 cases h with
 | sl=>simp
 | fs=>simp
 | ap=>simp
 | row id _ es0 k hn hl hle ht=>
  subst hn;simp [hl,hle,ht,he]
theorem Re.cells {O:List (Nat×AO)} {z:Nat} {v:AV} {es:List (List AV)} (h:Re O z v es):v.cells=some [v]:=by
 cases h<;>rfl
theorem Mu.cells {O:List (Nat×AO)} {z:Nat} {v:AV} {es:List (List AV)} (h:Mu O z v es):v.cells=some [v]:=h.re.cells
def letC (c:Int):Bool:=(decide (97<=c)&&decide (c<=122)) || (decide (65<=c)&&decide (c<=90))
def digI (c:Int):Bool:=decide (48<=c)&&decide (c<=57)
def idC (c:Int):Bool:=letC c || (digI c || decide (c=95))
theorem qlj (c:Int):qac Φ f_299 [.int .u8 c]=some (.val (.bool (letC c))):=by
 rw [qaa (fn:=c_299) rfl rfl];by_cases h1:97<=c<;>by_cases h2:c<=122<;>by_cases h3:65<=c<;>simp [c_299,letC,h1,h2,h3]
theorem qtl (c:Int):qac Φ f_302 [.int .u8 c]=some (.val (.bool (digI c))):=by
 rw [qaa (fn:=c_302) rfl rfl];by_cases h1:48<=c<;>simp [c_302,digI,h1]
theorem qabi (c:Int):qac Φ f_301 [.int .u8 c]=some (.val (.bool (idC c))):=by
 rw [qaa (fn:=c_301) rfl rfl];have h1:=qlj c;have h2:=qtl c;cases q1:letC c<;>cases q2:digI c<;>rw [q1] at h1<;>rw [q2] at h2<;>simp [c_301,idC,h1,h2,q1,q2]
theorem qux (s:List UInt8) (hs:s.length<2^40):qac Φ f_300 [.str s,.func (.func f_301) [] []]=some (.val (.int .i64 (s.takeWhile fun b=>idC b.toNat).length)):=by
 rw [qaa (fn:=c_300) rfl rfl];simp [c_300];refine (qbh s.length (fun i e=>look 0 e=some (.str s)/\look 1 e=some (.func (.func f_301) [] [])/\look 5 e=some (.int .i64 i))
  (fun i=>some (Rt.val (.int .i64 (i+((s.drop i).takeWhile fun b=>idC b.toNat).length:Nat)))) ?_ ?_ 0 _ (Qc _) ?_).trans (by simp)
 ·rintro i e L hi hL ⟨h0,h1,h5⟩ ih;have hw:=qal i (by omega);have hc:=qabi (s[i].toNat:Int);rw [Qi hi];cases q:idC (s[i].toNat:Int) with
  | true=>
   rw [q] at hc;rw [show List.takeWhile (fun b:UInt8=>idC b.toNat) (s[i]::s.drop (i+1))=s[i]::List.takeWhile (fun b:UInt8=>idC b.toNat) (s.drop (i+1)) from List.takeWhile_cons_of_pos q];simp [c_300_l0,h0,h1,h5,hi,hc,hw];refine (ih _ ⟨by simp [h0],by simp [h1],by simp⟩).trans ?_;simp;omega
  | false=>
   rw [q] at hc;rw [show List.takeWhile (fun b:UInt8=>idC b.toNat) (s[i]::s.drop (i+1))=[] from List.takeWhile_cons_of_neg (by simp [q])];simp [c_300_l0,c_300_k1,h0,h1,h5,hi,hL,hc]
 ·rintro e L hL ⟨h0,h1,h5⟩;simp [c_300_l0,c_300_k1,h0,h5,hL]
 ·simp
def idS (s:List UInt8):Bool:=match s with
 | []=>false
 | c::_=>decide (s.length<=16)&&(letC c.toNat&&s.all fun b=>idC b.toNat)
theorem qjt (p:UInt8->Bool):∀s:List UInt8,((s.takeWhile p).length=s.length)↔s.all p=true
 | []=>by simp
 | c::r=>by
  have:=qjt p r;cases q:p c<;>simp [q];simpa using this
theorem qsb {s:List UInt8} (h:0<s.length):idS s=(decide (s.length<=16)&&(letC s[0].toNat&&s.all fun b=>idC b.toNat)):=by
 cases s with
 | nil=>simp at h
 | cons c r=>rfl
theorem qtm (s:List UInt8) (hs:s.length<2^40):qac Φ f_228 [.str s]=some (.val (.bool (idS s))):=by
 rw [qaa (fn:=c_228) rfl rfl];by_cases h0:s.length=0
 ·have:s=[]:=Qg h0;subst this;simp [c_228,idS]
 have hp:0<s.length:=by omega
 rw [qsb hp];by_cases h16:16<s.length
 ·simp [c_228,h0,h16,Qf.2 h16]
 have hl:=qlj (s[0].toNat:Int);cases q:letC (s[0].toNat:Int) with
 | false=>
  rw [q] at hl;simp [c_228,h0,hp,h16,hl]
 | true=>
  rw [q] at hl;have he:=qux s hs;have ht:=qjt (fun b=>idC b.toNat) s;have e:(decide ((s.takeWhile fun b=>idC b.toNat).length=s.length))=(s.all fun b=>idC b.toNat):=by
   cases h:(s.all fun b=>idC b.toNat) with
   | true=>exact decide_eq_true (ht.2 h)
   | false=>exact decide_eq_false (fun h2=>by have:=ht.1 h2;rw [h] at this;cases this)
  simp [c_228,h0,hp,h16,Nat.le_of_not_lt h16,hl,he,e]
theorem Fld.e (x:Fld):Fld.c x=[.str x.name,.int .i64 x.width]:=by simp [Fld.c]
theorem Xe.e (x:Xe):Xe.c x=[.int .i64 x.op,.int .i64 x.n,.int .i64 x.w]:=by simp [Xe.c]
theorem Xl.e (x:Xl):Xl.c x=[.int .i64 x.field.header,.int .i64 x.field.field,.int .i64 x.kind]:=by simp [Xl.c]
theorem Xb.e (x:Xb):Xb.c x=[.int .i64 x.action,.slice 1 (x.args.map c32)]:=by simp [Xb.c]
theorem Xk.e (x:Xk):Xk.c x=[.int .u32 x.value,.int .u32 x.mask,.int .i64 x.next]:=by simp [Xk.c]
theorem Action.e (x:Action):Action.c x=[.str x.name,.slice 2 (x.params.map Fld.c),.slice 7 (x.body.map Xg.c)]:=by simp [Action.c]
theorem Xj.e (x:Xj):Xj.c x=[.str x.name,.slice 2 (x.fields.map Fld.c)]:=by simp [Xj.c]
theorem Xh.e (x:Xh):Xh.c x=[.str x.name,.int .i64 x.width,.int .i64 x.size]:=by simp [Xh.c]
theorem Xg.e (x:Xg):Xg.c x=[.int .i64 x.kind,.int .i64 x.dst.header,.int .i64 x.dst.field,.int .i64 x.register,.int .i64 x.header,.slice 3 (x.index.map Xe.c),.slice 3 (x.value.map Xe.c)]:=by simp [Xg.c]
theorem Tbl.e (x:Tbl):Tbl.c x=[.str x.name,.slice 3 (x.keys.map Xl.c),.slice 1 (x.actions.map cI),.int .i64 x.dflt.action,.slice 1 (x.dflt.args.map c32),.int .i64 x.size]:=by simp [Tbl.c]
theorem Xd.e (x:Xd):Xd.c x=[.str x.name,.slice 1 (x.extract.map cI),.bool x.select,.int .i64 x.on.header,.int .i64 x.on.field,.slice 3 (x.cases.map Xk.c),.int .i64 x.dflt]:=by simp [Xd.c]
theorem Xa.e (k t:Int) (c:List Xe) (a b:List Xa):Xa.c (.mk k t c a b)=[.int .i64 k,.int .i64 t,.slice 3 (c.map Xe.c),.slice 5 (a.map Xa.c),.slice 5 (b.map Xa.c)]:=by simp [Xa.c,Xa.cs_eq]
theorem Prg.e (x:Prg):Prg.c x=[.str x.name,.slice 2 (x.Xp.map Xj.c),.slice 2 (x.Xo.map Fld.c),.slice 3 (x.Xm.map Xh.c),.slice 3 (x.actions.map Action.c),.slice 6 (x.Xn.map Tbl.c),.slice 7 (x.states.map Xd.c),.slice 5 (x.control.map Xa.c),.slice 1 (x.Xs.map cI)]:=by simp [Prg.c]
def feF {α:Type} (f:Nat->Option α):Nat->Nat->Option α
 | 0,_=>none
 | n+1,i=>match f i with
  | some x=>some x
  | none=>feF f n (i+1)
def fe {α:Type} (f:Nat->Option α) (N i:Nat):Option α:=feF f (N - i) i
theorem qba {α:Type} {f:Nat->Option α} {N i:Nat} {x:α} (hi:i<N) (h:f i=some x):fe f N i=some x:=by
 unfold fe;rw [show N - i=(N - (i+1))+1 by omega];simp [feF,h]
theorem qa8 {α:Type} {f:Nat->Option α} {N i:Nat} (hi:i<N) (h:f i=none):fe f N i=fe f N (i+1):=by
 unfold fe;rw [show N - i=(N - (i+1))+1 by omega];simp [feF,h]
theorem qb9 {α:Type} {f:Nat->Option α} {N:Nat}:fe f N N=none:=by simp [fe,feF]
def er (e:Int):Option Int:=if e=0 then none else some e
def errO:Option Int->Int
 | none=>0
 | some e=>e
@[simp] theorem qaei:errO none=0:=by simp [errO]
@[simp] theorem qaej (e:Int):errO (some e)=e:=by simp [errO]
def at? {α:Type} (l:List α) (i:Int):Option α:=if i<0 then none else l[i.toNat]?
@[simp] theorem quh {α:Type} (l:List α) (i:Nat):at? l (i:Int)=l[i]? :=by
 unfold at?;rw [QA (by omega)];simp
theorem qe4 {α:Type} {l:List α} {i:Int} (h:i<0):at? l i=none:=by simp [at?,h]
theorem qe3 {α:Type} {l:List α} {i:Int} (h:(l.length:Int)<=i):at? l i=none:=by
 unfold at?;split
 ·rfl
 ·simp;omega
def wBad (w:Int):Bool:=decide (w<1) || decide (32<w)
def dupN {α:Type} (nm:α->List UInt8) (l:List α) (i:Nat) (x:α):Bool:=(l.take i).any fun y=>decide (nm y=nm x)
def fldE (l:List Fld) (i:Nat) (f:Fld):Int:=if idS f.name=false then 6 else if wBad f.width then 10 else if dupN Fld.name l i f then 7 else 0
def fldsE (l:List Fld):Option Int:=fe (fun i=>(l[i]?).bind fun f=>er (fldE l i f)) l.length 0
def wSum (l:List Fld):Int:=(l.map (·.width)).sum
def hdrE (h:Xj):Int:=if idS h.name=false then 6 else if h.fields.length=0 then 8 else if 12<h.fields.length then 12 else
 match fldsE h.fields with
 | some e=>e
 | none=>if (wSum h.fields) % 8=0 then 0 else 10
def regE (r:Xh):Int:=if idS r.name=false then 6 else if wBad r.width then 10 else if r.size<1\/64<r.size then 9 else 0
def decl (p:Prg) (h f:Int):Option Int:=(if h= -1 then some p.Xo else (at? p.Xp h).map (·.fields)).bind fun l=>(at? l f).map (·.width)
def wid (p:Prg) (h f:Int):Int:=match decl p h f with
 | some w=>if wBad w then 0 else w
 | none=>0
def ari (op:Int):Int:=if 1<=op/\op<=4 then 0 else if 5<=op/\op<=8 then 1 else if 9<=op/\op<=16 then 2 else if op=17 then 3 else -1
def wide (w:Int):Int×Int:=if wBad w then (0,10) else (w,0)
def prim (p:Prg) (ps:List Fld) (x:Xe):Int×Int:=
 if x.op=1 then (if wBad x.w then (0,10) else if x.n<0\/2^x.w.toNat - 1<x.n then (0,9) else (x.w,0))
 else if x.op=2 then (match decl p x.n x.w with | some w=>wide w | none=>(0,8))
 else if x.op=3 then (match at? ps x.n with | some f=>wide f.width | none=>(0,8))
 else if (at? p.Xp x.n).isSome then (1,0) else (0,8)
def comb (x:Xe) (a b c:Int):Int×Int:=
 if x.op=6\/x.op=7 then (if x.n<0\/31<x.n then (0,9) else (a,0))
 else if x.op=8 then (if x.n<0 then (0,9) else if wBad x.w\/a - x.w<x.n then (0,10) else (x.w,0))
 else if x.op=14 then wide (a+b)
 else if x.op=17 then (if a≠1\/b≠c then (0,10) else (b,0))
 else if ari x.op=2/\a≠b then (0,10)
 else if x.op=15\/x.op=16 then (1,0) else (a,0)
def chk (p:Prg) (ps:List Fld) (l:List Xe):Nat->Nat->Except Int (Int×Nat)
 | 0,_=> .error 3
 | n+1,i=>match l[i]? with
  | none=> .error 3
  | some x=>
   if ari x.op<0 then .error 11
   else if ari x.op=0 then (if (prim p ps x).2=0 then .ok ((prim p ps x).1,i+1) else .error (prim p ps x).2)
   else match chk p ps l n (i+1) with
    | .error e=> .error e
    | .ok (a,i1)=>
     if ari x.op=1 then (if (comb x a 0 0).2=0 then .ok ((comb x a 0 0).1,i1) else .error (comb x a 0 0).2)
     else match chk p ps l n i1 with
      | .error e=> .error e
      | .ok (b,i2)=>
       if ari x.op=2 then (if (comb x a b 0).2=0 then .ok ((comb x a b 0).1,i2) else .error (comb x a b 0).2)
       else match chk p ps l n i2 with
        | .error e=> .error e
        | .ok (c,i3)=>if (comb x a b c).2=0 then .ok ((comb x a b c).1,i3) else .error (comb x a b c).2
def exE (p:Prg) (ps:List Fld) (l:List Xe):Int×Int:=
 if 24<l.length then (0,12) else match chk p ps l (l.length+1) 0 with
 | .error e=>(0,e)
 | .ok (w,i)=>if i<l.length then (0,4) else (w,0)
def valE (p:Prg) (ps:List Fld) (l:List Xe) (w:Int):Int:=if (exE p ps l).2=0 then (if (exE p ps l).1=w then 0 else 10) else (exE p ps l).2
def stmE (p:Prg) (ps:List Fld) (s:Xg):Int:=
 if s.kind=1 then (match decl p s.dst.header s.dst.field with
  | none=>8
  | some w=>valE p ps s.value w)
 else if s.kind=2\/s.kind=3 then (if (at? p.Xp s.header).isSome then 0 else 8)
 else if s.kind=4 then (match at? p.Xm s.register,decl p s.dst.header s.dst.field with
  | some r,some w=>if (exE p ps s.index).2=0 then (if w=r.width then 0 else 10) else (exE p ps s.index).2
  | _,_=>8)
 else if s.kind=5 then (match at? p.Xm s.register with
  | some r=>if (exE p ps s.index).2=0 then valE p ps s.value r.width else (exE p ps s.index).2
  | none=>8)
 else 11
def actD (a:Action):Int:=if idS a.name=false then 6 else if 4<a.params.length\/12<a.body.length then 12 else errO (fldsE a.params)
def bodyE (p:Prg) (a:Action):Option (Int×Int):=fe (fun k=>(a.body[k]?).bind fun s=>if stmE p a.params s=0 then none else some ((k:Int),stmE p a.params s)) a.body.length 0
def actE (p:Prg) (i:Int):Int×Int:=match at? p.actions i with
 | none=>(-1,8)
 | some a=>if actD a≠0 then (-1,actD a) else (bodyE p a).getD (0,0)
def fits (v w:Int):Bool:= !wBad w&&decide (v<2^w.toNat)
def qc2 (p:Prg) (c:Xb):Int:=match at? p.actions c.action with
 | none=>8
 | some a=>if c.args.length≠a.params.length then 2 else errO (fe (fun i=>match c.args[i]?,a.params[i]? with
  | some v,some f=>if fits v f.width then none else some 9
  | _,_=>none) c.args.length 0)
def keyE (p:Prg) (x:Tbl):Option (Int×Int):=fe (fun i=>(x.keys[i]?).bind fun k=>
 if wid p k.field.header k.field.field=0 then some ((i:Int),8) else if k.kind=1\/k.kind=2\/k.kind=3 then none else some ((i:Int),11)) x.keys.length 0
def kWid (p:Prg) (x:Tbl):List Int:=x.keys.map fun k=>wid p k.field.header k.field.field
def qdz (p:Prg) (x:Tbl):Int×Int:=match keyE p x with
 | some e=>e
 | none=>if 1<x.keys.countP (fun k=>decide (k.kind=2)) then (-2,7) else if 64<(kWid p x).sum then (-2,10) else (0,0)
def qh2 (p:Prg) (x:Tbl):Int:=match fe (fun i=>(x.actions[i]?).bind fun a=>if a<0\/(p.actions.length:Int)<=a then some (8:Int) else if (x.actions.take i).contains a then some 7 else none) x.actions.length 0 with
 | some e=>e
 | none=>if x.actions.contains x.dflt.action then qc2 p x.dflt else 8
def tblE (p:Prg) (t:Int):Int×Int:=match at? p.Xn t with
 | none=>(-1,8)
 | some x=>if idS x.name=false then (-1,6) else if 6<x.keys.length\/16<x.actions.length then (-1,12) else if x.size<1\/256<x.size then (-1,9)
  else if (qdz p x).2≠0 then qdz p x else if qh2 p x≠0 then (-3,qh2 p x) else (0,0)
def leads (p:Prg) (s:Nat) (n:Int):Bool:=decide (n= -1) || decide (n= -2) || (decide ((s:Int)<n)&&decide (n<p.states.length))
def caseE (p:Prg) (s:Nat) (x:Xd) (c:Xk):Int:=
 if fits c.value (wid p x.on.header x.on.field)=false\/fits c.mask (wid p x.on.header x.on.field)=false then 9
 else if c.value.toNat&&& c.mask.toNat≠c.value.toNat then 5
 else if leads p s c.next then 0 else 14
def stE (p:Prg) (s:Nat) (x:Xd):Int×Int:=
 if 4<x.extract.length\/8<x.cases.length then (-1,12)
 else if x.extract.any (fun h=>decide (h<0) || decide ((p.Xp.length:Int)<=h)) then (-1,8)
 else if x.select=true/\wid p x.on.header x.on.field=0 then (-1,8)
 else if x.select=false/\0<x.cases.length then (-1,11)
 else match fe (fun i=>(x.cases[i]?).bind fun c=>if caseE p s x c=0 then none else some ((i:Int),caseE p s x c)) x.cases.length 0 with
  | some e=>e
  | none=>if leads p s x.dflt then (0,0) else (-1,14)
def parE (p:Prg):Int×Int×Int:=
 if p.states.length=0 then (-1,-1,8) else if 12<p.states.length then (-1,-1,12)
 else (fe (fun s=>(p.states[s]?).bind fun x=>if idS x.name=false then some ((s:Int),(-1:Int),(6:Int)) else if dupN Xd.name p.states s x then some ((s:Int),-1,7)
  else if (stE p s x).2=0 then none else some ((s:Int),(stE p s x).1,(stE p s x).2)) p.states.length 0).getD (0,0,0)
def depE (p:Prg):Int×Int:=if 8<p.Xs.length then (-1,12) else
 (fe (fun i=>(p.Xs[i]?).bind fun h=>if h<0\/(p.Xp.length:Int)<=h then some ((i:Int),(8:Int)) else if (p.Xs.take i).contains h then some ((i:Int),7) else none) p.Xs.length 0).getD (0,0)
def Xa.kind:Xa->Int | .mk k _ _ _ _=>k
def Xa.table:Xa->Int | .mk _ t _ _ _=>t
def Xa.cond:Xa->List Xe | .mk _ _ c _ _=>c
def Xa.thn:Xa->List Xa | .mk _ _ _ a _=>a
def Xa.els:Xa->List Xa | .mk _ _ _ _ b=>b
mutual
def pre1:Xa->List Xa
 | .mk k t c a b=> .mk k t c a b::(pre a++pre b)
def pre:List Xa->List Xa
 | []=>[]
 | x::r=>pre1 x++pre r
end
mutual
def nest1:Xa->Nat
 | .mk _ _ _ a b=>max (nest a) (nest b)
def nest:List Xa->Nat
 | []=>0
 | x::r=>max (1+nest1 x) (nest r)
end
def appl (x:Xa):Bool:=decide (x.kind=1) || decide (x.kind=3)
def nodeE (p:Prg) (l:List Xa) (x:Xa):Int:=
 if x.kind=2 then (if (exE p [] x.cond).2=0 then (if (exE p [] x.cond).1=1 then 0 else 10) else (exE p [] x.cond).2)
 else if x.kind=1\/x.kind=3 then (if x.table<0\/(p.Xn.length:Int)<=x.table then 8
  else if l.any (fun y=>appl y&&decide (y.table=x.table)) then 7
  else if x.kind=1/\0<x.thn.length+x.els.length then 5 else 0)
 else 11
def ctlE (p:Prg):Int×Int:=if 24<(pre p.control).length then (-1,12) else if 6<nest p.control then (-1,14)
 else (fe (fun i=>((pre p.control)[i]?).bind fun x=>if nodeE p ((pre p.control).take i) x=0 then none else some ((i:Int),nodeE p ((pre p.control).take i) x)) (pre p.control).length 0).getD (0,0)
abbrev Dg:=Int×Int×Int×Int
def limD (p:Prg):Option Dg:=if idS p.name=false then some (6,0,0,0) else if 8<p.Xp.length then some (12,0,1,0) else if 4<p.Xm.length then some (12,0,3,0)
 else if 16<p.actions.length then some (12,0,4,0) else if 12<p.Xn.length then some (12,0,5,0) else none
def hdrD1 (p:Prg) (i:Nat) (h:Xj):Int:=if hdrE h≠0 then hdrE h else if h.name=[109,101,116,97] then 6 else if dupN Xj.name p.Xp i h then 7 else 0
def hdrD (p:Prg):Option Dg:=fe (fun i=>(p.Xp[i]?).bind fun h=>if hdrD1 p i h=0 then none else some (hdrD1 p i h,1,(i:Int),0)) p.Xp.length 0
def metaW (i:Nat):Fld:=if i=0 then ⟨[105,110],8⟩ else if i=1 then ⟨[111,117,116],8⟩ else ⟨[100,114,111,112],1⟩
def metD (p:Prg):Option Dg:=if 12<p.Xo.length then some (12,2,0,0)
 else match fe (fun i=>(p.Xo[i]?).bind fun f=>if fldE p.Xo i f=0 then none else some (fldE p.Xo i f,(2:Int),(i:Int),(0:Int))) p.Xo.length 0 with
  | some d=>some d
  | none=>fe (fun i=>if p.Xo[i]? =some (metaW i) then none else some (5,2,(i:Int),0)) 3 0
def regD1 (p:Prg) (i:Nat) (r:Xh):Int:=if regE r≠0 then regE r else if dupN Xh.name p.Xm i r then 7 else 0
def regD (p:Prg):Option Dg:=fe (fun i=>(p.Xm[i]?).bind fun r=>if regD1 p i r=0 then none else some (regD1 p i r,3,(i:Int),0)) p.Xm.length 0
def actD1 (p:Prg):Option Dg:=fe (fun i=>(p.actions[i]?).bind fun a=>if (actE p i).2≠0 then some ((actE p i).2,(4:Int),(i:Int),(actE p i).1) else if dupN Action.name p.actions i a then some (7,4,(i:Int),0) else none) p.actions.length 0
def tblD (p:Prg):Option Dg:=fe (fun i=>(p.Xn[i]?).bind fun a=>if (tblE p i).2≠0 then some ((tblE p i).2,(5:Int),(i:Int),(tblE p i).1) else if dupN Tbl.name p.Xn i a then some (7,5,(i:Int),0) else none) p.Xn.length 0
def floD (p:Prg):Option Dg:=if (parE p).2.2≠0 then some ((parE p).2.2,6,(parE p).1,(parE p).2.1) else if (ctlE p).2≠0 then some ((ctlE p).2,7,(ctlE p).1,0)
 else if (depE p).2≠0 then some ((depE p).2,8,(depE p).1,0) else none
def prgD (p:Prg):Dg:=((((((limD p).or (hdrD p)).or (metD p)).or (regD p)).or (actD1 p)).or (tblD p)).or (floD p)|>.getD (0,0,0,0)
def qbn (w:Int):Int:=if wBad w then 0 else 2^w.toNat - 1
theorem wBad_false {w:Int}:wBad w=false↔1<=w/\w<=32:=by
 simp [wBad]
theorem wr1:IntKind.wrap .i64 1=1:=by decide
theorem qh3 (w:Int):qac Φ f_189 [.slice 1 [[.int .i64 w]]]=some (.val (.bool (!wBad w))):=by
 rw [qaa (fn:=c_189) rfl rfl];by_cases h1:w<1
 ·simp [c_189];rw [qc4];simp [c_189_l0,h1,wBad]
 by_cases h2:32<w
 ·simp [c_189];rw [qc4];simp [c_189_l0,h1,h2,wBad]
 simp [c_189];rw [qc4];simp [c_189_l0,h1,h2,wr1];rw [qc4];simp [c_189_k1,h1,h2,wBad]
theorem qwu:∀k:Nat,k<33->1<=k->ishr .u32 4294967295 (IntKind.wrap .i64 (32 - (k:Int)))=2^k - 1/\0<=IntKind.wrap .i64 (32 - (k:Int)):=by decide
theorem qg5 (w:Int):qac Φ f_133 [.int .i64 w]=some (.val (.int .u32 (qbn w))):=by
 rw [qaa (fn:=c_133) rfl rfl];have hv:=qh3 w;cases h:wBad w with
 | true=>
  rw [h] at hv;simp [c_133,hv,qbn,h]
 | false=>
  rw [h] at hv;obtain ⟨h1,h2⟩:=wBad_false.1 h;obtain ⟨k,rfl⟩:∃k:Nat,w=k:=⟨w.toNat,by omega⟩;obtain ⟨e1,e2⟩:=qwu k (by omega) (by omega);simp [c_133,hv,qbn,h,e2];exact e1
theorem qnk (v w:Int):qac Φ f_247 [.int .u32 v,.int .i64 w]=some (.val (.bool (fits v w))):=by
 rw [qaa (fn:=c_247) rfl rfl];have hv:=qh3 w;have hm:=qg5 w;cases h:wBad w with
 | true=>
  rw [h] at hv;simp [c_247,hv,fits,h]
 | false=>
  rw [h] at hv;have e:(v<=qbn w)↔v<2^w.toNat:=by
   simp only [qbn,h];simp;omega
  simp [c_247,hv,hm,fits,h,e]
@[simp] theorem qact {α β:Type} (f:α->β) (l:List α):(l.map f).take l.length=l.map f:=by
 rw [Qo];simp
def Any (h:AH):Prop:=Tail h.objs h.next
theorem Any.app {T:List (Nat×AO)} {n:Nat} {o:AO} (h:Any ⟨T,n⟩):Any ⟨T++[(n,o)],n+1⟩:=Tail.app h o
theorem Any.mk {T:List (Nat×AO)} {n:Nat} (h:Tail T n):Any ⟨T,n⟩:=h
theorem fe_all {α:Type} {f:Nat->Option α} {N:Nat}:fe f N 0=none↔∀i,i<N->f i=none:=by
 have key:∀n i,feF f n i=none↔∀k,i<=k->k<i+n->f k=none:=by
  intro n
  induction n with
  | zero=>intro i;simp [feF];omega
  | succ n ih=>
   intro i;simp only [feF];cases h:f i with
   | some x=>simp;exact ⟨i,Qb _,by omega,by simp [h]⟩
   | none=>
    simp only [ih];constructor
    ·intro hh k h1 h2;rcases QBs h1 with rfl | h3
     ·exact h
     ·exact hh k (by omega) (by omega)
    ·intro hh k h1 h2;exact hh k (by omega) (by omega)
 unfold fe;rw [key];simp
theorem wSum_eq (l:List Fld):wSum l=(l.map (·.width)).sum:=rfl
def tF:Nat:=249
def failV (c p i s:Int):AV:= .iface tF (.agg [.int .i64 c,.int .i64 p,.int .i64 i,.int .i64 s])
theorem qafh (c p i s:Int):AV.iface 249 (.agg [.int .i64 c,.int .i64 p,.int .i64 i,.int .i64 s])=failV c p i s:=rfl
def ix {α:Type} (p:α->Bool) (l:List α) (i:Nat):Int:=(fe (fun k=>(l[k]?).bind fun a=>if p a then some (k:Int) else none) l.length i).getD (-1)
theorem qp8 {α:Type} {p:α->Bool} {l:List α} {i:Nat} (hi:i<l.length) (h:p l[i]=true):ix p l i=i:=by
 unfold ix;rw [qba (x:=(i:Int)) hi (by simp [hi,h])];rfl
theorem qnn {α:Type} {p:α->Bool} {l:List α} {i:Nat} (hi:i<l.length) (h:p l[i]=false):ix p l i=ix p l (i+1):=by
 unfold ix;rw [qa8 hi (by simp [hi,h])]
theorem qp7 {α:Type} {p:α->Bool} {l:List α}:ix p l l.length= -1:=by
 unfold ix;rw [qb9];rfl
theorem qsc {α:Type} {p:α->Bool} {l:List α}:∀n i,n+i=l.length->decide (0<=ix p l i)=qaq l p i
 | 0,i,h=>by
  have:i=l.length:=by omega
  subst this;rw [qp7,qfj];rfl
 | n+1,i,h=>by
  have hi:i<l.length:=by omega
  cases q:p l[i] with
  | true=>rw [qp8 hi q,qg1 hi q];simp
  | false=>rw [qnn hi q,qen hi q];exact qsc n (i+1) (by omega)
theorem qp6 {α:Type} {p:α->Bool} {l:List α}:decide (0<=ix p l 0)=l.any p:=by
 rw [qsc l.length 0 (by omega),qpj]
structure PrgS (p:Prg):Prop where
 n:p.name.length<2^40
 h:p.Xp.length<2^40
 hn:∀h∈p.Xp,h.name.length<2^40
 hf:∀h∈p.Xp,∀f∈h.fields,f.name.length<2^40
 hl:∀h∈p.Xp,h.fields.length<2^40
 m:p.Xo.length<2^40
 mn:∀f∈p.Xo,f.name.length<2^40
 r:p.Xm.length<2^40
 rn:∀r∈p.Xm,r.name.length<2^40
 a:p.actions.length<2^40
 an:∀a∈p.actions,a.name.length<2^40
 ap:∀a∈p.actions,a.params.length<2^40
 apn:∀a∈p.actions,∀f∈a.params,f.name.length<2^40
 ab:∀a∈p.actions,a.body.length<2^40
 ai:∀a∈p.actions,∀s∈a.body,s.index.length<2^40
 av:∀a∈p.actions,∀s∈a.body,s.value.length<2^40
 t:p.Xn.length<2^40
 tn:∀t∈p.Xn,t.name.length<2^40
 tk:∀t∈p.Xn,t.keys.length<2^40
 ta:∀t∈p.Xn,t.actions.length<2^40
 tg:∀t∈p.Xn,t.dflt.args.length<2^40
 s:p.states.length<2^40
 sn:∀s∈p.states,s.name.length<2^40
 se:∀s∈p.states,s.extract.length<2^40
 sc:∀s∈p.states,s.cases.length<2^40
 sv:∀s∈p.states,∀c∈s.cases,ok32 qbw c.value/\ok32 qbw c.mask
 c:p.control.length<2^40
 co:∀x∈p.control,Xa.Ok qbw x
 d:p.Xs.length<2^40
theorem qye {p:Prg} (o:p.Ok qbw):PrgS p:=by
 obtain ⟨o0,o1,o2,o3,o4,o5,o6,o7,o8⟩:=o;have e:=qe6;simp only [qdh,okL,Xj.Ok,Fld.Ok,Xh.Ok,Action.Ok,Xg.Ok,Tbl.Ok,Xb.Ok,Xd.Ok,Xk.Ok] at o0 o1 o2 o3 o4 o5 o6 o7 o8;refine ⟨by omega,by omega,?_,?_,?_,by omega,?_,by omega,?_,by omega,?_,?_,?_,?_,?_,?_,by omega,?_,?_,?_,?_,by omega,?_,?_,?_,?_,by omega,o7.2,by omega⟩
 ·intro h hh;have:=(o1.2 h hh).1;omega
 ·intro h hh f hf;have:=((o1.2 h hh).2.2 f hf).1;omega
 ·intro h hh;have:=(o1.2 h hh).2.1;omega
 ·intro f hf;have:=(o2.2 f hf).1;omega
 ·intro r hr;have:=(o3.2 r hr).1;omega
 ·intro a ha;have:=(o4.2 a ha).1;omega
 ·intro a ha;have:=(o4.2 a ha).2.1.1;omega
 ·intro a ha f hf;have:=((o4.2 a ha).2.1.2 f hf).1;omega
 ·intro a ha;have:=(o4.2 a ha).2.2.1;omega
 ·intro a ha s hs;have:=((o4.2 a ha).2.2.2 s hs).2.2.2.2.1.1;omega
 ·intro a ha s hs;have:=((o4.2 a ha).2.2.2 s hs).2.2.2.2.2.1;omega
 ·intro t ht;have:=(o5.2 t ht).1;omega
 ·intro t ht;have:=(o5.2 t ht).2.1.1;omega
 ·intro t ht;have:=(o5.2 t ht).2.2.1.1;omega
 ·intro t ht;have:=(o5.2 t ht).2.2.2.1.2.1;omega
 ·intro s hs;have:=(o6.2 s hs).1;omega
 ·intro s hs;have:=(o6.2 s hs).2.1.1;omega
 ·intro s hs;have:=(o6.2 s hs).2.2.2.1.1;omega
 ·intro s hs c hc;have:=(o6.2 s hs).2.2.2.1.2 c hc;exact ⟨this.1,this.2.1⟩
theorem FieldRef.e (x:FieldRef):FieldRef.c x=[.int .i64 x.header,.int .i64 x.field]:=by simp [FieldRef.c]
def qhp (ar:List Int) (ps:List Fld) (i:Nat):Option Int:=match ar[i]?,ps[i]? with
  | some v,some f=>if fits v f.width then none else some 9
  | _,_=>none
theorem qlr (p:Prg) (f:PrgS p) (c:Xb) (hc:c.args.length<2^40):qac Φ f_187 [.agg (Prg.c p),.agg (Xb.c c)]=some (.val (.int .i64 (qc2 p c))):=by
 rw [qaa (fn:=c_187) rfl rfl];by_cases i0:c.action<0
 ·simp [c_187,Prg.e,Xb.e,i0,qc2,qe4 i0]
 by_cases i1:(p.actions.length:Int)<=c.action
 ·simp [c_187,Prg.e,Xb.e,i0,i1,qc2,qe3 i1]
 obtain ⟨k,hk0⟩:∃k:Nat,c.action=k:=⟨c.action.toNat,by omega⟩;have hk:k<p.actions.length:=by omega
 by_cases z:c.args.length=p.actions[k].params.length
 rotate_left
 ·simp [c_187,Prg.e,Xb.e,Action.e,hk0,hk,Qf.2 hk,qc2,z]
 have hE:qc2 p c=errO (fe (qhp c.args p.actions[k].params) c.args.length 0):=by simp [qc2,hk0,hk,z]<;>rfl
 rw [hE];simp [c_187,Prg.e,Xb.e,Action.e,hk0,hk,Qf.2 hk,z];rw [<- z];refine qbh c.args.length (fun i e=>look 5 e=some (.slice 2 (p.actions[k].params.map Fld.c))/\look 33 e=some (.slice 1 (c.args.map c32))/\look 34 e=some (.int .i64 c.args.length)/\look 35 e=some (.int .i64 i))
  (fun i=>some (Rt.val (.int .i64 (errO (fe (qhp c.args p.actions[k].params) c.args.length i))))) ?_ ?_ 0 _ (Qc _) ?_
 ·rintro i e L hi hL ⟨h5,h33,h34,h35⟩ ih;have hw:=qal i (by omega);have hi2:i<p.actions[k].params.length:=by omega
  have hf:=qnk c.args[i] p.actions[k].params[i].width;cases y:fits c.args[i] p.actions[k].params[i].width with
  | true=>
   rw [y] at hf;rw [qa8 hi (by simp [qhp,hi,hi2,y])];simp [c_187_l0,Fld.e,c32,h5,h33,h34,h35,hi,hi2,hf,hw];exact ih _ ⟨by simp [h5],by simp [h33],by simp [h34],by simp⟩
  | false=>
   rw [y] at hf;rw [qba (x:=9) hi (by simp [qhp,hi,hi2,y])];simp [c_187_l0,Fld.e,c32,h5,h33,h34,h35,hi,hi2,hf]
 ·rintro e L hL ⟨h5,h33,h34,h35⟩;rw [qb9];simp [c_187_l0,c_187_k1,h34,h35,hL]
 ·simp [z]
@[simp] theorem qadl (O:List (Nat×AO)) (n id:Nat):qii ⟨O,n⟩ (.map id)=match look id O with
  | some (.map es)=>some es
  | _=>none:=by simp only [qii,AH.get]<;>rfl
@[simp] theorem kdOk_i (k:IntKind) (x:Int):kdOk .i (.int k x)=true:=by simp [kdOk]
def setM (l:List Int):List (AV×AV):=l.map fun a=>(.int .i64 a,.bool true)
theorem qkm (k:Int):∀l:List Int,qcf .i (.int .i64 k) (setM l)=some (if l.contains k then some (.bool true) else none)
 | []=>by simp [setM,qcf]
 | a::l=>by
  have ih:=qkm k l;unfold setM at ih ⊢;by_cases h:k=a
  ·subst h;simp [qcf]
  ·simp [qcf,h,ih]
theorem qqw (k:Int):∀l:List Int,l.contains k=false->putA .i (.int .i64 k) (.bool true) (setM l)=some (setM (l++[k]))
 | [],_=>by simp [setM,putA]
 | a::l,h=>by
  simp only [List.contains_cons,QAt,beq_eq_false_iff_ne,ne_eq] at h;have ih:=qqw k l h.2;unfold setM at ih ⊢;simp [putA,h.1,ih]
theorem qwb (l:List Fld) (i:Int):qac Φ f_313 [.slice 2 (l.map Fld.c),.int .i64 i]=some (.val (.agg (match at? l i with | some f=>Fld.c f | none=>[.str [],.int .i64 0]))):=by
 rw [qaa (fn:=c_313) rfl rfl];by_cases i0:i<0
 ·simp [c_313,i0,qe4 i0]
 by_cases i1:(l.length:Int)<=i
 ·simp [c_313,i0,i1,qe3 i1]
 obtain ⟨k,rfl⟩:∃k:Nat,i=k:=⟨i.toNat,by omega⟩;have hk:k<l.length:=by omega
 simp [c_313,hk,Qf.2 hk,Fld.e]
theorem qwc (l:List Xj) (i:Int):qac Φ f_357 [.slice 2 (l.map Xj.c),.int .i64 i]=some (.val (.agg (match at? l i with | some f=>Xj.c f | none=>[.str [],.slice 2 []]))):=by
 rw [qaa (fn:=c_357) rfl rfl];by_cases i0:i<0
 ·simp [c_357,i0,qe4 i0]
 by_cases i1:(l.length:Int)<=i
 ·simp [c_357,i0,i1,qe3 i1]
 obtain ⟨k,rfl⟩:∃k:Nat,i=k:=⟨i.toNat,by omega⟩;have hk:k<l.length:=by omega
 simp [c_357,hk,Qf.2 hk,Xj.e]
def qht (p:Prg) (h:Int):List Fld:=((if h= -1 then some p.Xo else (at? p.Xp h).map (·.fields))).getD []
theorem quy (p:Prg) (h:Int):qac Φ f_314 [.agg (Prg.c p),.int .i64 h]=some (.val (.slice 2 ((qht p h).map Fld.c))):=by
 rw [qaa (fn:=c_314) rfl rfl];by_cases hm:h= -1
 ·simp [c_314,Prg.e,hm,qht]
 have ha:=qwc p.Xp h;cases q:at? p.Xp h with
 | none=>
  rw [q] at ha;simp [c_314,Prg.e,hm,qht,ha,q]
 | some x=>
  rw [q] at ha;simp only [Xj.e] at ha;simp [c_314,Prg.e,hm,qht,ha,q]
theorem qur (p:Prg) (h i:Int):decl p h i=(at? (qht p h) i).map (·.width):=by
 unfold decl qht;cases (if h= -1 then some p.Xo else (at? p.Xp h).map (·.fields)) with
 | some l=>rfl
 | none=>
  have:at? ([]:List Fld) i=none:=by unfold at?;split<;>simp
  simp [this]
theorem qv5 (p:Prg) (h i:Int):qac Φ f_246 [.agg (Prg.c p),.agg [.int .i64 h,.int .i64 i]]=some (.val (.int .i64 (wid p h i))):=by
 rw [qaa (fn:=c_246) rfl rfl];have hf:=quy p h;have ha:=qwb (qht p h) i;have hd:=qur p h i;simp only [Prg.e] at hf;cases q:at? (qht p h) i with
 | none=>
  rw [q] at ha hd;have hm:=qg5 0;rw [show qbn 0=0 from rfl] at hm;simp [c_246,Prg.e,hf,ha,hm,wid,hd]
 | some f=>
  rw [q] at ha hd;simp only [Fld.e] at ha;have hm:=qg5 f.width;cases w:wBad f.width with
  | true=>
   rw [show qbn f.width=0 by simp [qbn,w]] at hm;simp [c_246,Prg.e,hf,ha,hm,wid,hd,w]
  | false=>
   have:¬qbn f.width=0:=by
    obtain ⟨w1,w2⟩:=wBad_false.1 w;have:(2:Int)^1<=2^f.width.toNat:=by
     have:=Nat.pow_le_pow_right (n:=2) (by omega) (show 1<=f.width.toNat by omega)
     exact_mod_cast this
    simp only [qbn,w];simp;omega
   simp [c_246,Prg.e,hf,ha,hm,wid,hd,w,this]
theorem qv6 (p:Prg) (h i:Int):0<=wid p h i/\wid p h i<=32:=by
 unfold wid;split
 ·rename_i w _;cases q:wBad w with
  | true=>simp
  | false=>have:=wBad_false.1 q;simp;omega
 ·simp
def keyG (p:Prg) (x:Tbl) (i:Nat):Option (Int×Int):=(x.keys[i]?).bind fun k=>
 if wid p k.field.header k.field.field=0 then some ((i:Int),8) else if k.kind=1\/k.kind=2\/k.kind=3 then none else some ((i:Int),11)
def qd0 (p:Prg) (x:Tbl):Int×Int:=if 1<x.keys.countP (fun k=>decide (k.kind=2)) then (-2,7) else if 64<(kWid p x).sum then (-2,10) else (0,0)
theorem qgs (p:Prg) (x:Tbl):∀i,i<=x.keys.length->0<=((kWid p x).take i).sum/\((kWid p x).take i).sum<=32*i:=by
 intro i
 induction i with
 | zero=>intro _;simp
 | succ i ih=>
  intro hi;have:=ih (by omega);have hl:i<(kWid p x).length:=by simp [kWid];omega
  rw [Qh hl,List.sum_append,List.sum_singleton];have hr:=qv6 p x.keys[i].field.header x.keys[i].field.field;have he:(kWid p x)[i]=wid p x.keys[i].field.header x.keys[i].field.field:=by simp [kWid]
  rw [he];omega
theorem qwp (p:Prg) (x:Tbl) (hl:x.keys.length<2^40):qac Φ f_235 [.agg (Prg.c p),.agg (Tbl.c x)]=some (.val (.tup [.int .i64 (qdz p x).1,.int .i64 (qdz p x).2])):=by
 rw [qaa (fn:=c_235) rfl rfl];have hE:qdz p x=(fe (keyG p x) x.keys.length 0).getD (qd0 p x):=by
  unfold qdz keyE;show (match fe (keyG p x) x.keys.length 0 with | some e=>e | none=>qd0 p x)=_;cases fe (keyG p x) x.keys.length 0<;>rfl
 rw [hE];simp [c_235,Prg.e,Tbl.e];refine qar x.keys.length (fun _=>[]) 0 (fun i e=>look 2 e=some (.iptr 9 [Prg.c p] 0 0)/\look 6 e=some (.int .i64 ((x.keys.take i).countP fun k=>decide (k.kind=2):Nat))/\look 7 e=some (.int .i64 ((kWid p x).take i).sum)/\look 12 e=some (.slice 3 (x.keys.map Xl.c))/\look 13 e=some (.int .i64 x.keys.length)/\look 14 e=some (.int .i64 i))
  (fun i=>some (Rt.val (.tup [.int .i64 ((fe (keyG p x) x.keys.length i).getD (qd0 p x)).1,.int .i64 ((fe (keyG p x) x.keys.length i).getD (qd0 p x)).2]))) ?_ ?_ 0 _ 0 (Qc _) (Qb _) ?_
 ·rintro i e n L hi hL _ ⟨h2,h6,h7,h12,h13,h14⟩ ih;have hw:=qal i (by omega);have hv:=qv5 p x.keys[i].field.header x.keys[i].field.field;simp only [Prg.e] at hv;rw [Prg.e] at h2;by_cases z:wid p x.keys[i].field.header x.keys[i].field.field=0
  ·rw [z] at hv;rw [qba (x:=((i:Int),8)) hi (by simp [keyG,hi,z])];simp [c_235_l0,Xl.e,h2,h12,h13,h14,hi,hv]
  have hs:=qgs p x (i+1) (by omega);have hs0:=qgs p x i (by omega);have he:((kWid p x).take (i+1)).sum=((kWid p x).take i).sum+wid p x.keys[i].field.header x.keys[i].field.field:=by
   have hl:i<(kWid p x).length:=by simp [kWid];omega
   rw [Qh hl,List.sum_append,List.sum_singleton];congr 1;simp [kWid]
  have hw7:IntKind.wrap .i64 (((kWid p x).take i).sum+wid p x.keys[i].field.header x.keys[i].field.field)=((kWid p x).take (i+1)).sum:=by rw [<- he];exact qej (by omega) (by omega)
  have hc:(x.keys.take (i+1)).countP (fun k=>decide (k.kind=2))=(x.keys.take i).countP (fun k=>decide (k.kind=2))+if x.keys[i].kind=2 then 1 else 0:=by
   rw [Qh hi,List.countP_append];congr 1;simp [List.countP_cons]
  have hcl:(x.keys.take i).countP (fun k=>decide (k.kind=2))<=i:=by
   have:=List.countP_le_length (l:=x.keys.take i) (p:=fun k=>decide (k.kind=2));simp at this;omega
  have hw6:IntKind.wrap .i64 (((x.keys.take i).countP (fun k=>decide (k.kind=2)):Nat)+1:Int)=(((x.keys.take i).countP (fun k=>decide (k.kind=2))+1:Nat):Int):=qej (by omega) (by omega);by_cases k2:x.keys[i].kind=2
  ·rw [qa8 hi (by simp [keyG,hi,z,k2])];rw [QAb k2] at hc;simp [c_235_l0,Xl.e,h2,h6,h7,h12,h13,h14,hi,hv,z,k2,hw7,hw6,hw];exact ih _ _ (Qc _) ⟨by simp [h2,Prg.e],by simp [hc],by simp,by simp [h12],by simp [h13],by simp⟩
  rw [QA k2] at hc;by_cases k1:x.keys[i].kind=1
  ·rw [qa8 hi (by simp [keyG,hi,z,k1])];simp [c_235_l0,Xl.e,h2,h7,h12,h13,h14,hi,hv,z,k1,hw7,hw];exact ih _ _ (Qc _) ⟨by simp [h2,Prg.e],by simp [hc,h6],by simp,by simp [h12],by simp [h13],by simp⟩
  by_cases k3:x.keys[i].kind=3
  ·rw [qa8 hi (by simp [keyG,hi,z,k3])];simp [c_235_l0,Xl.e,h2,h7,h12,h13,h14,hi,hv,z,k3,hw7,hw];exact ih _ _ (Qc _) ⟨by simp [h2,Prg.e],by simp [hc,h6],by simp,by simp [h12],by simp [h13],by simp⟩
  ·rw [qba (x:=((i:Int),11)) hi (by simp [keyG,hi,z,k1,k2,k3])];simp [c_235_l0,Xl.e,h2,h12,h13,h14,hi,hv,z,k1,k2,k3]
 ·rintro e n L hL _ ⟨h2,h6,h7,h12,h13,h14⟩;rw [qb9];have ht:(kWid p x).take x.keys.length=kWid p x:=by rw [Qo];simp [kWid]
  rw [ht] at h7;rw [QAl] at h6;by_cases y1:1<x.keys.countP (fun k=>decide (k.kind=2))
  ·simp [c_235_l0,c_235_k1,h6,h13,h14,hL,qd0,y1]
  by_cases y2:64<(kWid p x).sum
  ·simp [c_235_l0,c_235_k1,h6,h7,h13,h14,hL,qd0,y1,y2]
  ·simp [c_235_l0,c_235_k1,h6,h7,h13,h14,hL,qd0,y1,y2]
 ·simp [Prg.e]
def qeb (p:Prg) (x:Tbl) (i:Nat):Option Int:=(x.actions[i]?).bind fun a=>if a<0\/(p.actions.length:Int)<=a then some (8:Int) else if (x.actions.take i).contains a then some 7 else none
def qem (p:Prg) (x:Tbl):Int:=if x.actions.contains x.dflt.action then qc2 p x.dflt else 8
theorem qq2 (p:Prg) (x:Tbl):qh2 p x=(fe (qeb p x) x.actions.length 0).getD (qem p x):=by
 unfold qh2;show (match fe (qeb p x) x.actions.length 0 with | some e=>e | none=>qem p x)=_;cases fe (qeb p x) x.actions.length 0<;>rfl
theorem qx4 (p:Prg) (f:PrgS p) (x:Tbl) (hl:x.actions.length<2^40) (hg:x.dflt.args.length<2^40):qac Φ f_236 [.agg (Prg.c p),.agg (Tbl.c x)]=some (.val (.int .i64 (qh2 p x))):=by
 rw [qaa (fn:=c_236) rfl rfl,qq2];simp [c_236,Prg.e,Tbl.e];refine qer x.actions.length (fun i e H=>look 2 e=some (.iptr 9 [Prg.c p] 0 0)/\look 3 e=some (.iptr 6 [Tbl.c x] 0 0)/\look 5 e=some (.map 0)/\look 10 e=some (.slice 1 (x.actions.map cI))/\look 11 e=some (.int .i64 x.actions.length)/\look 12 e=some (.int .i64 i)/\
   H=⟨[(0,.map (setM (x.actions.take i)))],1⟩)
  (fun i=>some (Rt.val (.int .i64 ((fe (qeb p x) x.actions.length i).getD (qem p x))))) ?_ ?_ 0 _ _ (Qc _) ?_
 ·rintro i e _ L hi hL ⟨h2,h3,h5,h10,h11,h12,rfl⟩ ih;have hw:=qal i (by omega);rw [Prg.e] at h2;by_cases z0:x.actions[i]<0
  ·rw [qba (x:=8) hi (by simp [qeb,hi,z0])];simp [c_236_l0,cI,h10,h11,h12,hi,z0]
  by_cases z1:(p.actions.length:Int)<=x.actions[i]
  ·rw [qba (x:=8) hi (by simp [qeb,hi,z0,z1])];simp [c_236_l0,cI,h2,h10,h11,h12,hi,z0,z1]
  have hfnd:=qkm x.actions[i] (x.actions.take i);cases q:(x.actions.take i).contains x.actions[i] with
  | true=>
   rw [q] at hfnd;rw [qba (x:=7) hi (by simp only [qeb,Qa hi,QAn];rw [QA (by omega),q];rfl)];simp [c_236_l0,cI,h2,h5,h10,h11,h12,hi,z0,z1,hfnd]
  | false=>
   rw [q] at hfnd;have hput:=qqw x.actions[i] (x.actions.take i) q;rw [<- Qh hi] at hput;rw [qa8 hi (by simp only [qeb,Qa hi,QAn];rw [QA (by omega),q];rfl)];simp [c_236_l0,cI,h2,h5,h10,h11,h12,hi,z0,z1,hfnd,hput,hw];exact ih _ _ ⟨by simp [h2,Prg.e],by simp [h3],by simp [h5],by simp [h10],by simp [h11],by simp,rfl⟩
 ·rintro e _ L hL ⟨h2,h3,h5,h10,h11,h12,rfl⟩;rw [qb9,QAl];have hfnd:=qkm x.dflt.action x.actions;have hc:=qlr p f x.dflt hg;simp only [Prg.e,Xb.e] at hc;rw [Prg.e] at h2;rw [Tbl.e] at h3;cases q:x.actions.contains x.dflt.action with
  | true=>
   rw [q] at hfnd;rw [show qem p x=qc2 p x.dflt by simp only [qem,q];rfl];simp [c_236_l0,c_236_k1,h2,h3,h5,h11,h12,hL,hfnd,hc]
  | false=>
   rw [q] at hfnd;rw [show qem p x=8 by simp only [qem,q];rfl];simp [c_236_l0,c_236_k1,h3,h5,h11,h12,hL,hfnd]
 ·simp [Prg.e,Tbl.e,setM]
theorem qsr (p:Prg) (f:PrgS p) (t:Int):qac Φ f_179 [.agg (Prg.c p),.int .i64 t]=some (.val (.tup [.int .i64 (tblE p t).1,.int .i64 (tblE p t).2])):=by
 rw [qaa (fn:=c_179) rfl rfl];by_cases i0:t<0
 ·simp [c_179,Prg.e,i0,tblE,qe4 i0]
 by_cases i1:(p.Xn.length:Int)<=t
 ·simp [c_179,Prg.e,i0,i1,tblE,qe3 i1]
 obtain ⟨k,rfl⟩:∃k:Nat,t=k:=⟨t.toNat,by omega⟩;have hk:k<p.Xn.length:=by omega
 have hm:=Qd hk;have n1:=qtm p.Xn[k].name (f.tn _ hm);have h1:=qwp p p.Xn[k] (f.tk _ hm);have h2:=qx4 p f p.Xn[k] (f.ta _ hm) (f.tg _ hm);simp only [Prg.e,Tbl.e] at h1 h2;cases q1:idS p.Xn[k].name with
 | false=>rw [q1] at n1;simp [c_179,Prg.e,Tbl.e,hk,Qf.2 hk,n1,tblE,q1]
 | true=>
 rw [q1] at n1;by_cases z0:6<p.Xn[k].keys.length
 ·simp [c_179,Prg.e,Tbl.e,hk,Qf.2 hk,n1,tblE,q1,z0]
 by_cases z1:16<p.Xn[k].actions.length
 ·simp [c_179,Prg.e,Tbl.e,hk,Qf.2 hk,n1,tblE,q1,z0,z1]
 by_cases z2:p.Xn[k].size<1
 ·simp [c_179,Prg.e,Tbl.e,hk,Qf.2 hk,n1,tblE,q1,z0,z1,z2]
 by_cases z3:256<p.Xn[k].size
 ·simp [c_179,Prg.e,Tbl.e,hk,Qf.2 hk,n1,tblE,q1,z0,z1,z2,z3]
 by_cases y1:(qdz p p.Xn[k]).2=0
 rotate_left
 ·simp [c_179,Prg.e,Tbl.e,hk,Qf.2 hk,n1,tblE,q1,z0,z1,z2,z3,h1,y1]
 rw [y1] at h1;by_cases y2:qh2 p p.Xn[k]=0
 ·rw [y2] at h2;simp [c_179,Prg.e,Tbl.e,hk,Qf.2 hk,n1,tblE,q1,z0,z1,z2,z3,h1,y1,h2,y2]
 ·simp [c_179,Prg.e,Tbl.e,hk,Qf.2 hk,n1,tblE,q1,z0,z1,z2,z3,h1,y1,h2,y2]
theorem quj (x y:BitVec 32):x&&& ~~~y=0#32↔x&&& y=x:=by
 constructor
 ·intro h;apply BitVec.eq_of_getLsbD_eq;intro i hi;have:=congrArg (·.getLsbD i) h;simp [hi] at this ⊢;exact this
 ·intro h;apply BitVec.eq_of_getLsbD_eq;intro i hi;have:=congrArg (·.getLsbD i) h;simp [hi] at this ⊢;exact this
theorem qq6 {n:Int} (h1:0<=n) (h2:n<4294967296):IntKind.wrap .u32 n=n:=by
 have e1:(2:Int)^32=4294967296:=rfl;simp only [IntKind.wrap,IntKind.bits,IntKind.signed,Bool.false_and,e1];rw [QA (by simp)];omega
theorem qk1 {v:Int} (h:ok32 0 v):BitVec.ofInt 32 v=BitVec.ofNat 32 v.toNat:=by
 obtain ⟨h1,h2⟩:=h;apply BitVec.eq_of_toNat_eq;simp;omega
theorem qp5 {v m:Int} (hv:ok32 0 v) (hm:ok32 0 m):qg4 .u32 v m=0↔v.toNat&&& m.toNat=v.toNat:=by
 have hv2:=hv.2;have hm2:=hm.2;unfold qg4;show IntKind.wrap .u32 ((BitVec.ofInt 32 v&&& ~~~BitVec.ofInt 32 m).toNat:Int)=0↔_;have hlt:=(BitVec.ofInt 32 v&&& ~~~BitVec.ofInt 32 m).isLt;rw [qq6 (by omega) (by omega)];rw [show (((BitVec.ofInt 32 v&&& ~~~BitVec.ofInt 32 m).toNat:Int)=0)↔(BitVec.ofInt 32 v&&& ~~~BitVec.ofInt 32 m)=0#32 by
  rw [<- BitVec.toNat_inj];simp only [QBt];omega]
 rw [quj,qk1 hv,qk1 hm,<- BitVec.toNat_inj,BitVec.toNat_and,QBt,QBt,QBl (by omega),QBl (by omega)]
theorem qu4 {v m:Int} (hv:ok32 0 v) (hm:ok32 0 m):iand .u32 v m=v↔v.toNat&&& m.toNat=v.toNat:=by
 have hv1:=hv.1;have hv2:=hv.2;have hm2:=hm.2;unfold iand;show IntKind.wrap .u32 ((BitVec.ofInt 32 v&&& BitVec.ofInt 32 m).toNat:Int)=v↔_;have hlt:=(BitVec.ofInt 32 v&&& BitVec.ofInt 32 m).isLt;rw [qq6 (by omega) (by omega),qk1 hv,qk1 hm,BitVec.toNat_and,QBt,QBt,QBl (by omega),QBl (by omega)];omega
theorem qj2 {α β:Type} [BEq β] [LawfulBEq β] [DecidableEq β] (f:α->β) (a:β):∀l:List α,(l.map f).contains a=l.any fun y=>decide (f y=a)
 | []=>by simp
 | x::l=>by
  have ih:=qj2 f a l;simp only [QAz,List.contains_cons,QB,ih];congr 1;by_cases h:a=f x
  ·subst h;simp
  ·have h2:¬f x=a:=fun e=>h e.symm
   simp [h,h2]
theorem qws {Φ:FuncId->Option AFun} {β:Type} {fin:Option (Ex×St)->Option β} (N:Nat) (Inv:Nat->Env->AH->Prop) (Q:Option β->Prop) {b:Xv} {K:List Fr}
  (step:∀i e h L,i<N->(∀j s,go Φ fin L (.exit j) s=go Φ fin K (.exit j) s)->Inv i e h->(∀e' h',Inv (i+1) e' h'->Q (go Φ fin L .normal ⟨e',h'⟩))->Q (go Φ fin (.c b::L) .normal ⟨e,h⟩))
  (last:∀e h L,(∀j s,go Φ fin L (.exit j) s=go Φ fin K (.exit j) s)->Inv N e h->Q (go Φ fin (.c b::L) .normal ⟨e,h⟩)):
  ∀i e h,i<=N->Inv i e h->Q (go Φ fin (.c (.loop b)::K) .normal ⟨e,h⟩):=by
 have key:∀n i e h,N - i<=n->i<=N->Inv i e h->Q (go Φ fin (.c (.loop b)::K) .normal ⟨e,h⟩):=by
  intro n
  induction n with
  | zero=>
   intro i e h hn hi hv;have:i=N:=by omega
   subst this;rw [qc4];exact last e h _ (fun j s=>by simp) hv
  | succ n ih=>
   intro i e h hn hi hv;rcases Qv i N with hlt | hge
   ·rw [qc4];exact step i e h _ hlt (fun j s=>by simp) hv fun e' h' hv'=>ih (i+1) e' h' (by omega) (by omega) hv'
   ·have:i=N:=by omega
    subst this;rw [qc4];exact last e h _ (fun j s=>by simp) hv
 intro i e h hi hv;exact key (N - i) i e h (Qb _) hi hv
structure Wk where
 e:Int
 n:Int
 us:List Int
theorem Fld.eq_iff (a b:Fld):a=b↔a.name=b.name/\a.width=b.width:=Fld.ext_iff
def dgC (d:Dg):List AV:=[.int .i64 d.1,.int .i64 d.2.1,.int .i64 d.2.2.1,.int .i64 d.2.2.2]
theorem qnr (c:Int):qac Φ f_271 [.int .u8 c]=some (.val (.bool (letC c))):=by
 rw [qaa (fn:=c_271) rfl rfl];by_cases h1:97<=c<;>by_cases h2:c<=122<;>by_cases h3:65<=c<;>simp [c_271,letC,h1,h2,h3]
theorem qsk (c:Int):qac Φ f_272 [.int .u8 c]=some (.val (.bool (digI c))):=by
 rw [qaa (fn:=c_272) rfl rfl];by_cases h1:48<=c<;>simp [c_272,digI,h1]
theorem qvk (s:List UInt8) (hs:s.length<2^40):qac Φ f_206 [.str s]=some (.val (.bool (idS s))):=by
 rw [qaa (fn:=c_206) rfl rfl];by_cases h0:s.length=0
 ·have:s=[]:=Qg h0;subst this;simp [c_206,idS]
 have hp:0<s.length:=by omega
 have hne:¬s=[]:=by intro h;subst h;simp at h0
 rw [qsb hp];by_cases h16:16<s.length
 ·simp [c_206,hne,h16,Qf.2 h16]
 have hl:=qnr (s[0].toNat:Int);cases q:letC (s[0].toNat:Int) with
 | false=>
  rw [q] at hl;simp [c_206,hne,hp,h16,hl]
 | true=>
  rw [q] at hl;generalize hX:(decide (s.length<=16)&&(true&&s.all fun b=>idC b.toNat))=X;simp [c_206,hne,hp,h16,hl];refine (qdq s (fun b=> !idC b.toNat) (some (Rt.val (.bool false))) (some (Rt.val (.bool true)))
   (fun i e H=>look 0 e=some (.str s)/\look 3 e=some (.int .i64 i)/\H=⟨[],0⟩) ?_ ?_ ?_ _ _ ?_).trans ?_
  ·rintro i e _ L hi hL ⟨h0,h3,rfl⟩ hb;have g1:=qnr (s[i].toNat:Int);have g2:=qsk (s[i].toNat:Int);cases z1:letC (s[i].toNat:Int) with
   | true=>simp [idC,z1] at hb
   | false=>
    cases z2:digI (s[i].toNat:Int) with
    | true=>simp [idC,z1,z2] at hb
    | false=>
     rw [z1] at g1;rw [z2] at g2;simp only [idC,z1,z2,QAw,QAr,decide_eq_false_iff_not] at hb;simp [c_206_l0,h0,h3,hi,g1,g2,hb]
  ·rintro i e _ L X hi hL ⟨h0,h3,rfl⟩ hb ih;have hw:=qal i (by omega);have g1:=qnr (s[i].toNat:Int);have g2:=qsk (s[i].toNat:Int);cases z1:letC (s[i].toNat:Int) with
   | true=>
    rw [z1] at g1;simp [c_206_l0,h0,h3,hi,g1,hw];exact ih _ _ ⟨by simp [h0],by simp,rfl⟩
   | false=>
    rw [z1] at g1;cases z2:digI (s[i].toNat:Int) with
    | true=>
     rw [z2] at g2;simp [c_206_l0,h0,h3,hi,g1,g2,hw];exact ih _ _ ⟨by simp [h0],by simp,rfl⟩
    | false=>
     rw [z2] at g2;simp only [idC,z1,z2,QAw,Bool.not_eq_false',decide_eq_true_eq] at hb;rw [hb] at g1 g2;simp [c_206_l0,h0,h3,hi,g1,g2,hb,hw];exact ih _ _ ⟨by simp [h0],by simp,rfl⟩
  ·rintro e _ L hL ⟨h0,h3,rfl⟩;simp [c_206_l0,c_206_k1,h0,h3,hL]
  ·simp
  ·rw [<- hX];have:(s.any fun b=> !idC b.toNat)= !(s.all fun b=>idC b.toNat):=by
    rw [List.not_all_eq_any_not]
   rw [this];have h16':decide (s.length<=16)=true:=by simpa using h16
   rw [h16'];cases s.all fun b=>idC b.toNat<;>rfl
theorem qla {n:Int} (h1:0<=n) (h2:n<18446744073709551616):IntKind.wrap .u64 n=n:=by
 have e1:(2:Int)^64=18446744073709551616:=rfl;simp only [IntKind.wrap,IntKind.bits,IntKind.signed,Bool.false_and,e1];rw [QA (by simp)];omega
theorem qsj {i:Nat} (h:i<63):IntKind.wrap .u64 (2*2^i)=2^(i+1):=by
 have h1:(2:Int)^(i+1)=2*2^i:=by rw [Int.pow_succ];omega
 have h2:(2:Int)^i<=2^62:=by
  have:=Nat.pow_le_pow_right (n:=2) (by omega) (show i<=62 by omega)
  exact_mod_cast this
 have h0:(0:Int)<2^i:=by
  have:=Nat.pow_pos (a:=2) (n:=i) (by omega)
  exact_mod_cast this
 have h3:(2:Int)^62=4611686018427387904:=rfl;rw [h1];exact qla (by omega) (by omega)
theorem qh1 (w:Int):qac Φ f_285 [.int .i64 w]=some (.val (.bool (!wBad w))):=by
 rw [qaa (fn:=c_285) rfl rfl];by_cases h1:w<1
 ·simp [c_285,wBad,h1,Int.not_le.2 h1]
 ·by_cases h2:32<w
  ·simp [c_285,wBad,h1,Int.not_lt.1 h1,h2,Int.not_le.2 h2]
  ·simp [c_285,wBad,h1,Int.not_lt.1 h1,h2,Int.not_lt.1 h2]
theorem qjb (n:Nat) (hn:n<63):qac Φ f_286 [.int .i64 n]=some (.val (.int .u64 (2^n))):=by
 rw [qaa (fn:=c_286) rfl rfl];simp [c_286];refine (qbh n (fun i e=>look 0 e=some (.int .i64 n)/\look 3 e=some (.int .u64 (2^i))/\look 4 e=some (.int .i64 i)) (fun i=>some (Rt.val (.int .u64 (2^n)))) ?_ ?_ 0 _ (Qc _) ?_).trans (by simp)
 ·rintro i e L hi hL ⟨h0,h3,h4⟩ ih;have hw:=qal i (by omega);have hp:=qsj (i:=i) (by omega);simp [c_286_l0,h0,h3,h4,hi,hw,hp];exact ih _ ⟨by simp [h0],by simp,by simp⟩
 ·rintro e L hL ⟨h0,h3,h4⟩;simp [c_286_l0,c_286_k1,h0,h3,h4,hL]
 ·simp
theorem qlw (v w:Int) (hv:ok32 0 v):qac Φ f_220 [.int .u32 v,.int .i64 w]=some (.val (.bool (fits v w))):=by
 rw [qaa (fn:=c_220) rfl rfl];have h1:=qh1 w;have hv1:=hv.1;have hv2:=hv.2;have hc:IntKind.wrap .u64 v=v:=qla (by omega) (by omega);cases q:wBad w with
 | true=>
  rw [q] at h1;simp [c_220,h1,fits,q]
 | false=>
  rw [q] at h1;obtain ⟨w1,w2⟩:=wBad_false.1 q;obtain ⟨k,rfl⟩:∃k:Nat,w=k:=⟨w.toNat,by omega⟩;have h2:=qjb k (by omega);simp [c_220,h1,h2,hc,fits,q]
theorem qtr (v:Int) (hv:ok32 0 v) (k:Nat) (hk:k<=32):qac Φ f_150 [.int .u32 v,.int .i64 k]=some (.val (.bool (decide (v<2^k)))):=by
 rw [qaa (fn:=c_150) rfl rfl];have hv1:=hv.1;have hv2:=hv.2;have hc:IntKind.wrap .u64 v=v:=qla (by omega) (by omega);generalize hX:decide (v<2^k)=X;simp [c_150];refine (qbh k (fun i e=>look 0 e=some (.int .u32 v)/\look 1 e=some (.int .i64 k)/\look 5 e=some (.int .u64 (2^i))/\look 6 e=some (.int .i64 i)) (fun i=>some (Rt.val (.bool X))) ?_ ?_ 0 _ (Qc _) ?_).trans (by simp)
 ·rintro i e L hi hL ⟨h0,h1,h5,h6⟩ ih;have hw:=qal i (by omega);have hp:=qsj (i:=i) (by omega);simp [c_150_l0,h1,h5,h6,hi,hw,hp];exact ih _ ⟨by simp [h0],by simp [h1],by simp,by simp⟩
 ·rintro e L hL ⟨h0,h1,h5,h6⟩;simp [c_150_l0,c_150_k1,h0,h1,h5,h6,hL,hc,<- hX]
 ·simp
theorem qoj (p:Prg) (h i:Int):qac Φ f_282 [.agg (Prg.c p),.agg [.int .i64 h,.int .i64 i]]=some (.val (.int .i64 (wid p h i))):=by
 rw [qaa (fn:=c_282) rfl rfl];have tail:∀(l:List Fld),(∀j:Int,decl p h j=(at? l j).map (·.width))->(i<0/\wid p h i=0)\/(¬i<0/\(l.length:Int)<=i/\wid p h i=0)\/∃k:Nat,∃hk:k<l.length,i=k/\((l[k].width<1/\wid p h i=0)\/(¬l[k].width<1/\32<l[k].width/\wid p h i=0)\/(¬l[k].width<1/\¬32<l[k].width/\wid p h i=l[k].width)):=by
  intro l hd;by_cases i0:i<0
  ·exact .inl ⟨i0,by simp [wid,hd,qe4 i0]⟩
  by_cases i1:(l.length:Int)<=i
  ·exact .inr (.inl ⟨i0,i1,by simp [wid,hd,qe3 i1]⟩)
  obtain ⟨k,hk⟩:∃k:Nat,i=k:=⟨i.toNat,by omega⟩;refine .inr (.inr ⟨k,by omega,hk,?_⟩);have hk2:k<l.length:=by omega
  have e:wid p h i=if wBad l[k].width then 0 else l[k].width:=by simp [wid,hd,hk,hk2]
  by_cases w1:l[k].width<1
  ·exact .inl ⟨w1,by rw [e];simp [wBad,w1]⟩
  by_cases w2:32<l[k].width
  ·exact .inr (.inl ⟨w1,w2,by rw [e];simp [wBad,w2]⟩)
  ·exact .inr (.inr ⟨w1,w2,by rw [e];simp [wBad,w1,w2]⟩)
 by_cases h0:0<=h
 ·have hm:¬h= -1:=by omega
  have hm2:¬h< -1:=by omega
  by_cases h1:(p.Xp.length:Int)<=h
  ·rw [show wid p h i=0 by simp [wid,decl,hm,qe3 h1]];simp [c_282,Prg.e,h0,h1]
  obtain ⟨m,rfl⟩:∃k:Nat,h=k:=⟨h.toNat,by omega⟩;have hk:m<p.Xp.length:=by omega
  rcases tail p.Xp[m].fields (by intro j;simp [decl,hm,hk]) with ⟨i0,e⟩ | ⟨i0,i1,e⟩ | ⟨k,hk2,rfl,⟨w1,e⟩ | ⟨w1,w2,e⟩ | ⟨w1,w2,e⟩⟩
  ·rw [e];simp [c_282,Prg.e,Xj.e,hk,Qf.2 hk,hm2,i0]
  ·rw [e];simp [c_282,Prg.e,Xj.e,hk,Qf.2 hk,hm2,i0,i1]
  ·rw [e];simp [c_282,Prg.e,Xj.e,Fld.e,hk,Qf.2 hk,hm2,hk2,Qf.2 hk2,w1]
  ·rw [e];simp [c_282,Prg.e,Xj.e,Fld.e,hk,Qf.2 hk,hm2,hk2,Qf.2 hk2,w1,w2]
  ·rw [e];simp [c_282,Prg.e,Xj.e,Fld.e,hk,Qf.2 hk,hm2,hk2,Qf.2 hk2,w1,w2]
 by_cases hm:h= -1
 ·subst hm;rcases tail p.Xo (by intro j;simp [decl]) with ⟨i0,e⟩ | ⟨i0,i1,e⟩ | ⟨k,hk2,rfl,⟨w1,e⟩ | ⟨w1,w2,e⟩ | ⟨w1,w2,e⟩⟩
  ·rw [e];simp [c_282,Prg.e,i0]
  ·rw [e];simp [c_282,Prg.e,i0,i1]
  ·rw [e];simp [c_282,Prg.e,Fld.e,hk2,Qf.2 hk2,w1]
  ·rw [e];simp [c_282,Prg.e,Fld.e,hk2,Qf.2 hk2,w1,w2]
  ·rw [e];simp [c_282,Prg.e,Fld.e,hk2,Qf.2 hk2,w1,w2]
 ·have hm2:h< -1:=by omega
  rw [show wid p h i=0 by simp [wid,decl,hm,qe4 (show h<0 by omega)]];simp [c_282,Prg.e,h0,hm2]
def fxO {α:Type} (q:α->Bool) (l:List α) (j:Nat):Option Int:=fe (fun k=>(l[k]?).bind fun f=>if q f then some (k:Int) else none) l.length j
theorem qr9 {α:Type} {q:α->Bool} {l:List α} {i:Nat} (hi:i<l.length) (h:q l[i]=true):fxO q l i=some (i:Int):=by
 unfold fxO;rw [qba (x:=(i:Int)) hi (by simp [hi,h])]
theorem qwl {α:Type} {q:α->Bool} {l:List α} {i:Nat} (hi:i<l.length) (h:q l[i]=false):fxO q l i=fxO q l (i+1):=by
 unfold fxO;rw [qa8 hi (by simp [hi,h])]
theorem qu2 {α:Type} {q:α->Bool} {l:List α} {i:Nat} (hi:i<l.length) (h:q l[i]=true):∀n j,n+j=i->∃k:Nat,fxO q l j=some (k:Int)/\(decide ((k:Int)<i)=qaq (l.take i) q j)
 | 0,j,e=>by
  have:j=i:=by omega
  subst this;refine ⟨j,qr9 hi h,?_⟩;have:=qfj (l:=l.take j) (p:=q);rw [show (l.take j).length=j by simp;omega] at this;rw [this];simp
 | n+1,j,e=>by
  have hj:j<l.length:=by omega
  have hj2:j<(l.take i).length:=by simp;omega
  have e1:(l.take i)[j]=l[j]:=by simp
  cases z:q l[j] with
  | true=>
   refine ⟨j,qr9 hj z,?_⟩;rw [qg1 hj2 (by rw [e1];exact z)];simp;omega
  | false=>
   obtain ⟨k,k1,k2⟩:=qu2 hi h n (j+1) (by omega);refine ⟨k,by rw [qwl hj z];exact k1,?_⟩;rw [qen hj2 (by rw [e1];exact z)];exact k2
theorem qxg (w:Int):qac Φ f_284 [.int .i64 w]=some (.val (.int .u32 (qbn w))):=by
 rw [qaa (fn:=c_284) rfl rfl];have h1:=qh1 w;cases q:wBad w with
 | true=>
  rw [q] at h1;simp [c_284,h1,qbn,q]
 | false=>
  rw [q] at h1;obtain ⟨w1,w2⟩:=wBad_false.1 q;obtain ⟨k,rfl⟩:∃k:Nat,w=k:=⟨w.toNat,by omega⟩;have h2:=qjb k (by omega);have hb:(2:Int)^k<=2^32:=by
   have:=Nat.pow_le_pow_right (n:=2) (by omega) (show k<=32 by omega)
   exact_mod_cast this
  have h0:(0:Int)<2^k:=by
   have:=Nat.pow_pos (a:=2) (n:=k) (by omega)
   exact_mod_cast this
  have c1:IntKind.wrap .u64 ((2:Int)^k - 1)=2^k - 1:=qla (by omega) (by omega);have c2:IntKind.wrap .u32 ((2:Int)^k - 1)=2^k - 1:=qq6 (by omega) (by omega);simp [c_284,h1,h2,c1,c2,qbn,q]
theorem qkg (p:Prg) (f:PrgS p) (c:Xb) (hc:c.args.length<2^40) (hv:∀v∈c.args,ok32 0 v):qac Φ f_149 [.agg (Prg.c p),.agg (Xb.c c)]=some (.val (.int .i64 (qc2 p c))):=by
 rw [qaa (fn:=c_149) rfl rfl];by_cases i0:c.action<0
 ·simp [c_149,Prg.e,Xb.e,i0,qc2,qe4 i0]
 by_cases i1:(p.actions.length:Int)<=c.action
 ·simp [c_149,Prg.e,Xb.e,i0,i1,qc2,qe3 i1]
 obtain ⟨k,hk0⟩:∃k:Nat,c.action=k:=⟨c.action.toNat,by omega⟩;have hk:k<p.actions.length:=by omega
 by_cases z:c.args.length=p.actions[k].params.length
 rotate_left
 ·simp [c_149,Prg.e,Xb.e,Action.e,hk0,hk,Qf.2 hk,qc2,z]
 have hE:qc2 p c=errO (fe (qhp c.args p.actions[k].params) c.args.length 0):=by simp [qc2,hk0,hk,z]<;>rfl
 rw [hE];simp [c_149,Prg.e,Xb.e,Action.e,hk0,hk,Qf.2 hk,z];rw [<- z];refine qbh c.args.length (fun i e=>look 3 e=some (.iptr 2 [Xb.c c] 0 0)/\look 5 e=some (.slice 2 (p.actions[k].params.map Fld.c))/\look 6 e=some (.int .i64 i))
  (fun i=>some (Rt.val (.int .i64 (errO (fe (qhp c.args p.actions[k].params) c.args.length i))))) ?_ ?_ 0 _ (Qc _) ?_
 ·rintro i e L hi hL ⟨h3,h5,h6⟩ ih;have hw:=qal i (by omega);have hi2:i<p.actions[k].params.length:=by omega
  have hf:=qlw c.args[i] p.actions[k].params[i].width (hv _ (Qd hi));rw [Xb.e] at h3;cases y:fits c.args[i] p.actions[k].params[i].width with
  | true=>
   rw [y] at hf;rw [qa8 hi (by simp [qhp,hi,hi2,y])];simp [c_149_l0,Fld.e,c32,h3,h5,h6,hi,hi2,hf,hw];exact ih _ ⟨by simp [h3,Xb.e],by simp [h5],by simp⟩
  | false=>
   rw [y] at hf;rw [qba (x:=9) hi (by simp [qhp,hi,hi2,y])];simp [c_149_l0,Fld.e,c32,h3,h5,h6,hi,hi2,hf]
 ·rintro e L hL ⟨h3,h5,h6⟩;rw [qb9];simp [c_149_l0,c_149_k1,h5,h6,hL,<- z]
 ·simp [Xb.e,hk0]
theorem qkj (l:List Int) (x:Int) (hl:l.length<2^40):qac Φ f_219 [.slice 1 (l.map cI),.int .i64 x]=some (.val (.int .i64 (ix (fun s=>decide (s=x)) l 0))):=by
 rw [qaa (fn:=c_219) rfl rfl];simp [c_219];refine (qbh l.length (fun i e=>look 0 e=some (.slice 1 (l.map cI))/\look 1 e=some (.int .i64 x)/\look 5 e=some (.int .i64 i))
  (fun i=>some (.val (.int .i64 (ix (fun s=>decide (s=x)) l i)))) ?_ ?_ 0 _ (Qc _) ?_).trans (by simp)
 ·rintro i e L hi hL ⟨h0,h1,h5⟩ ih;have hw:=qal i (by omega);by_cases z:l[i]=x
  ·rw [qp8 hi (by simpa using z)];simp [c_219_l0,cI,h0,h1,h5,hi,z]
  ·rw [qnn hi (by simpa using z)];simp [c_219_l0,cI,h0,h1,h5,hi,z,hw];exact ih _ ⟨by simp [h0],by simp [h1],by simp⟩
 ·rintro e L hL ⟨h0,h1,h5⟩;rw [qp7];simp [c_219_l0,c_219_k1,h0,h5,hL]
 ·simp
theorem qvp (p:Prg) (x:Tbl) (hl:x.keys.length<2^40):qac Φ f_275 [.agg (Prg.c p),.agg (Tbl.c x)]=some (.val (.tup [.int .i64 (qdz p x).1,.int .i64 (qdz p x).2])):=by
 rw [qaa (fn:=c_275) rfl rfl];have hE:qdz p x=(fe (keyG p x) x.keys.length 0).getD (qd0 p x):=by
  unfold qdz keyE;show (match fe (keyG p x) x.keys.length 0 with | some e=>e | none=>qd0 p x)=_;cases fe (keyG p x) x.keys.length 0<;>rfl
 rw [hE];simp [c_275,Prg.e,Tbl.e];refine qbh x.keys.length (fun i e=>look 2 e=some (.iptr 9 [Prg.c p] 0 0)/\look 3 e=some (.iptr 6 [Tbl.c x] 0 0)/\look 7 e=some (.int .i64 ((x.keys.take i).countP fun k=>decide (k.kind=2):Nat))/\look 6 e=some (.int .i64 ((kWid p x).take i).sum)/\look 8 e=some (.int .i64 i))
  (fun i=>some (Rt.val (.tup [.int .i64 ((fe (keyG p x) x.keys.length i).getD (qd0 p x)).1,.int .i64 ((fe (keyG p x) x.keys.length i).getD (qd0 p x)).2]))) ?_ ?_ 0 _ (Qc _) ?_
 ·rintro i e L hi hL ⟨h2,h3,h7,h6,h8⟩ ih;have hw:=qal i (by omega);have hv:=qoj p x.keys[i].field.header x.keys[i].field.field;simp only [Prg.e] at hv;rw [Prg.e] at h2;rw [Tbl.e] at h3;by_cases z:wid p x.keys[i].field.header x.keys[i].field.field=0
  ·rw [z] at hv;rw [qba (x:=((i:Int),8)) hi (by simp [keyG,hi,z])];simp [c_275_l0,Xl.e,h2,h3,h8,hi,hv]
  have hs:=qgs p x (i+1) (by omega);have hs0:=qgs p x i (by omega);have he:((kWid p x).take (i+1)).sum=((kWid p x).take i).sum+wid p x.keys[i].field.header x.keys[i].field.field:=by
   have hl:i<(kWid p x).length:=by simp [kWid];omega
   rw [Qh hl,List.sum_append,List.sum_singleton];congr 1;simp [kWid]
  have hw7:IntKind.wrap .i64 (((kWid p x).take i).sum+wid p x.keys[i].field.header x.keys[i].field.field)=((kWid p x).take (i+1)).sum:=by rw [<- he];exact qej (by omega) (by omega)
  have hc:(x.keys.take (i+1)).countP (fun k=>decide (k.kind=2))=(x.keys.take i).countP (fun k=>decide (k.kind=2))+if x.keys[i].kind=2 then 1 else 0:=by
   rw [Qh hi,List.countP_append];congr 1;simp [List.countP_cons]
  have hcl:(x.keys.take i).countP (fun k=>decide (k.kind=2))<=i:=by
   have:=List.countP_le_length (l:=x.keys.take i) (p:=fun k=>decide (k.kind=2));simp at this;omega
  have hw6:IntKind.wrap .i64 (((x.keys.take i).countP (fun k=>decide (k.kind=2)):Nat)+1:Int)=(((x.keys.take i).countP (fun k=>decide (k.kind=2))+1:Nat):Int):=qej (by omega) (by omega);by_cases k2:x.keys[i].kind=2
  ·rw [qa8 hi (by simp [keyG,hi,z,k2])];rw [QAb k2] at hc;simp [c_275_l0,Xl.e,h2,h3,h6,h7,h8,hi,hv,z,k2,hw7,hw6,hw];exact ih _ ⟨by simp [h2,Prg.e],by simp [h3,Tbl.e],by simp [hc],by simp,by simp⟩
  rw [QA k2] at hc;by_cases k1:x.keys[i].kind=1
  ·rw [qa8 hi (by simp [keyG,hi,z,k1])];simp [c_275_l0,Xl.e,h2,h3,h6,h8,hi,hv,z,k1,hw7,hw];exact ih _ ⟨by simp [h2,Prg.e],by simp [h3,Tbl.e],by simp [hc,h7],by simp,by simp⟩
  by_cases k3:x.keys[i].kind=3
  ·rw [qa8 hi (by simp [keyG,hi,z,k3])];simp [c_275_l0,Xl.e,h2,h3,h6,h8,hi,hv,z,k3,hw7,hw];exact ih _ ⟨by simp [h2,Prg.e],by simp [h3,Tbl.e],by simp [hc,h7],by simp,by simp⟩
  ·rw [qba (x:=((i:Int),11)) hi (by simp [keyG,hi,z,k1,k2,k3])];simp [c_275_l0,Xl.e,h2,h3,h8,hi,hv,z,k1,k2,k3]
 ·rintro e L hL ⟨h2,h3,h7,h6,h8⟩;rw [qb9];have ht:(kWid p x).take x.keys.length=kWid p x:=by rw [Qo];simp [kWid]
  rw [ht] at h6;rw [QAl] at h7;rw [Tbl.e] at h3;by_cases y1:1<x.keys.countP (fun k=>decide (k.kind=2))
  ·simp [c_275_l0,c_275_k1,h3,h7,h8,hL,qd0,y1]
  by_cases y2:64<(kWid p x).sum
  ·simp [c_275_l0,c_275_k1,h3,h6,h7,h8,hL,qd0,y1,y2]
  ·simp [c_275_l0,c_275_k1,h3,h6,h7,h8,hL,qd0,y1,y2]
 ·simp [Prg.e,Tbl.e]
theorem qle (x:Int) (l:List Int):l.contains x=l.any fun s=>decide (s=x):=by
 have:=qj2 (fun y:Int=>y) x l;rw [List.map_id'] at this;exact this
theorem qvs (p:Prg) (f:PrgS p) (x:Tbl) (hl:x.actions.length<2^40) (hg:x.dflt.args.length<2^40) (hv:∀v∈x.dflt.args,ok32 0 v):qac Φ f_276 [.agg (Prg.c p),.agg (Tbl.c x)]=some (.val (.int .i64 (qh2 p x))):=by
 rw [qaa (fn:=c_276) rfl rfl,qq2];simp [c_276,Prg.e,Tbl.e];refine qbh x.actions.length (fun i e=>look 2 e=some (.iptr 9 [Prg.c p] 0 0)/\look 3 e=some (.iptr 6 [Tbl.c x] 0 0)/\look 5 e=some (.int .i64 i))
  (fun i=>some (Rt.val (.int .i64 ((fe (qeb p x) x.actions.length i).getD (qem p x))))) ?_ ?_ 0 _ (Qc _) ?_
 ·rintro i e L hi hL ⟨h2,h3,h5⟩ ih;have hw:=qal i (by omega);rw [Prg.e] at h2;rw [Tbl.e] at h3;by_cases z0:x.actions[i]<0
  ·rw [qba (x:=8) hi (by simp [qeb,hi,z0])];simp [c_276_l0,cI,h3,h5,hi,z0]
  by_cases z1:(p.actions.length:Int)<=x.actions[i]
  ·rw [qba (x:=8) hi (by simp [qeb,hi,z0,z1])];simp [c_276_l0,cI,h2,h3,h5,hi,z0,z1]
  have hx:=qkj x.actions x.actions[i] hl;obtain ⟨at',k1,k2⟩:=qu2 (q:=fun s:Int=>decide (s=x.actions[i])) hi (by simp) i 0 (by omega);rw [show ix (fun s=>decide (s=x.actions[i])) x.actions 0=(fxO (fun s:Int=>decide (s=x.actions[i])) x.actions 0).getD (-1) from rfl,k1] at hx;rw [qpj,<- qle] at k2;simp only [QAv] at hx;cases q:(x.actions.take i).contains x.actions[i] with
  | true=>
   rw [q] at k2;have k3:at'<i:=by simpa using k2
   rw [qba (x:=7) hi (by simp only [qeb,Qa hi,QAn];rw [QA (by omega),q];rfl)];simp [c_276_l0,cI,h2,h3,h5,hi,z0,z1,hx,k3]
  | false=>
   rw [q] at k2;have k3:¬at'<i:=by simpa using k2
   rw [qa8 hi (by simp only [qeb,Qa hi,QAn];rw [QA (by omega),q];rfl)];simp [c_276_l0,cI,h2,h3,h5,hi,z0,z1,hx,k3,hw];exact ih _ ⟨by simp [h2,Prg.e],by simp [h3,Tbl.e],by simp⟩
 ·rintro e L hL ⟨h2,h3,h5⟩;rw [qb9];have hx:=qkj x.actions x.dflt.action hl;have hc:=qkg p f x.dflt hg hv;have ha:=qp6 (p:=fun s=>decide (s=x.dflt.action)) (l:=x.actions);rw [<- qle] at ha;simp only [Prg.e,Xb.e] at hc;rw [Prg.e] at h2;rw [Tbl.e] at h3;cases q:x.actions.contains x.dflt.action with
  | true=>
   rw [q] at ha;have ha2:¬ix (fun s=>decide (s=x.dflt.action)) x.actions 0<0:=by simpa using ha
   rw [show qem p x=qc2 p x.dflt by simp only [qem,q];rfl];simp [c_276_l0,c_276_k1,h2,h3,h5,hL,hx,ha2,hc]
  | false=>
   rw [q] at ha;have ha2:ix (fun s=>decide (s=x.dflt.action)) x.actions 0<0:=by simpa using ha
   rw [show qem p x=8 by simp only [qem,q];rfl];simp [c_276_l0,c_276_k1,h3,h5,hL,hx,ha2]
 ·simp [Prg.e,Tbl.e]
theorem qqr (p:Prg) (f:PrgS p) (hv:∀t∈p.Xn,∀v∈t.dflt.args,ok32 0 v) (t:Int):qac Φ f_211 [.agg (Prg.c p),.int .i64 t]=some (.val (.tup [.int .i64 (tblE p t).1,.int .i64 (tblE p t).2])):=by
 rw [qaa (fn:=c_211) rfl rfl];by_cases i0:t<0
 ·simp [c_211,Prg.e,i0,tblE,qe4 i0]
 by_cases i1:(p.Xn.length:Int)<=t
 ·simp [c_211,Prg.e,i0,i1,tblE,qe3 i1]
 obtain ⟨k,rfl⟩:∃k:Nat,t=k:=⟨t.toNat,by omega⟩;have hk:k<p.Xn.length:=by omega
 have hm:=Qd hk;have n1:=qvk p.Xn[k].name (f.tn _ hm);have h1:=qvp p p.Xn[k] (f.tk _ hm);have h2:=qvs p f p.Xn[k] (f.ta _ hm) (f.tg _ hm) (hv _ hm);simp only [Prg.e,Tbl.e] at h1 h2;cases q1:idS p.Xn[k].name with
 | false=>rw [q1] at n1;simp [c_211,Prg.e,Tbl.e,hk,Qf.2 hk,n1,tblE,q1]
 | true=>
 rw [q1] at n1;by_cases z0:6<p.Xn[k].keys.length
 ·simp [c_211,Prg.e,Tbl.e,hk,Qf.2 hk,n1,tblE,q1,z0]
 by_cases z1:16<p.Xn[k].actions.length
 ·simp [c_211,Prg.e,Tbl.e,hk,Qf.2 hk,n1,tblE,q1,z0,z1]
 by_cases z2:p.Xn[k].size<1
 ·simp [c_211,Prg.e,Tbl.e,hk,Qf.2 hk,n1,tblE,q1,z0,z1,z2]
 by_cases z3:256<p.Xn[k].size
 ·simp [c_211,Prg.e,Tbl.e,hk,Qf.2 hk,n1,tblE,q1,z0,z1,z2,z3]
 by_cases y1:(qdz p p.Xn[k]).2=0
 rotate_left
 ·simp [c_211,Prg.e,Tbl.e,hk,Qf.2 hk,n1,tblE,q1,z0,z1,z2,z3,h1,y1]
 rw [y1] at h1;by_cases y2:qh2 p p.Xn[k]=0
 ·rw [y2] at h2;simp [c_211,Prg.e,Tbl.e,hk,Qf.2 hk,n1,tblE,q1,z0,z1,z2,z3,h1,y1,h2,y2]
 ·simp [c_211,Prg.e,Tbl.e,hk,Qf.2 hk,n1,tblE,q1,z0,z1,z2,z3,h1,y1,h2,y2]
end Go.Av
