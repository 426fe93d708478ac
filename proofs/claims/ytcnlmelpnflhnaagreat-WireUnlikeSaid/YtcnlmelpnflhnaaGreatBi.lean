import Derived.Test.YtcnlmelpnflhnaaGreatBh
import Derived.Test.YtcnlmelpnflhnaaGreatBg
namespace Go.Proofs.YtcnlmelpnflhnaaGreat
open Go.Eng Go.Vx
set_option linter.unusedSimpArgs false
set_option linter.unusedVariables false
set_option maxRecDepth 100000
def yP (k a b:Nat) (r:RW):List Bool:=numBits r.1 61++numBits r.2.1 61++cQ (wd k a b) (r.2.2.map (jx k a b))
def dt (k a b:Nat) (l:List RW):List Bool:=l.flatMap (yP k a b)
def oe (k a b:Nat) (l:List RW) (T:Nat):List Bool:=cF T++dt k a b l
theorem BV (k a b:Nat) (x:RW) (l:List RW):dt k a b (x::l)=yP k a b x++dt k a b l:=by simp[dt]
theorem DY (k a b:Nat) (l m:List RW):dt k a b (l++m)=dt k a b l++dt k a b m:=by simp[dt]
theorem Ct {k a b:Nat} {l:List RW} {i:Nat} {x:RW} (h:l[i]? =some x):dt k a b (l.take (i+1))=dt k a b (l.take i)++numBits x.1 61++numBits x.2.1 61++cQ (wd k a b) (x.2.2.map (jx k a b)):=by
 rw[ah9,h,DY];simp[dt,yP]
theorem KU {k a b C:Nat} {r:RW} (h:br k a b C r):(yP k a b r).length=122+C*wd k a b:=by
 unfold yP;rw[agn,agn,ai,ai,iF,agr,h.2.2.1]
theorem mg {k a b C:Nat}:∀{l:List RW},(∀r∈l,br k a b C r)→(dt k a b l).length=l.length*(122+C*wd k a b)
 | [],_=>by simp[dt]
 | r::l,h=>by
   rw[BV,agn,KU (h r (by simp)),mg (l:=l) (fun x hx=>h x (by simp[hx])),agu,Nat.succ_mul];omega
theorem qb {n:Nat} (h:n≤1099511627776):(cF n).length≤48:=by
 have hb:=bB (n:=n) (k:=41) zo;rw[pM];omega
@[go_sem] theorem aaJ {k a b C:Nat} {r:RW}:il k a b C r=[.lit (.int .u64 (r.1:Int)),.lit (.int .u64 (r.2.1:Int)),.ptr 4 [[.ptr 3 [[.row 1 ((words (aZ C (wd k a b)) (bF (wd k a b) (r.2.2.map (jx k a b)))).map (ie .u64)),.lit (.int .i64 (C:Int)),.lit (.int .i64 (wd k a b:Int))]] 0 0,.lit (.int .i64 (k:Int)),.lit (.int .i64 (a:Int)),.lit (.int .i64 (b:Int))]] 0 0]:=(rfl)
set_option maxHeartbeats 4000000 in
theorem uW {R C k a b T:Nat} {l:List RW} {L:List Bool} (h:aT k a b) (hC:1≤C∧C≤64) (hR:l.length≤4) (hl:∀r∈l,br k a b C r) (hT:T≤1099511627776) (hL:L.length<1000000000):
 aC Tryz.prog 42 [rB R C k a b l T,.ref 0 0 0 0] [some (jf 1 L),some (iY L)] (.tup []) [some (jf 2 (L++oe k a b l T)),none,some (iY (L++oe k a b l T))]:=by
 have hvl:=qb hT;have hwd:=eC h;refine zF pl Tryz.call42 Tryz.func42 [] fun Q hQ=>?_;refine ae ?_;refine aV [some 0,some 1] [] (sb (L:=L) (n:=T) zo zo) ?_;have e:L++oe k a b l T=L++cF T++dt k a b l:=by unfold oe;rw[agw]
 rw[e] at hQ;have hml:(L++cF T).length<1000000050:=by rw[agn];omega
 generalize L++cF T=M at*
 clear e hvl;refine ae ?_
 refine aM (X:=Nat) (st:=fun i=>([(1,.ref 0 0 0 0),(16,.row 3 (l.map (il k a b C))),(17,.lit (.int .i64 (l.length:Int))),(18,.lit (.int .i64 (i:Int)))],[some (jf 2 (M++dt k a b (l.take i))),none,some (iY (M++dt k a b (l.take i)))]))
  (inv:=fun i=>i≤l.length) (m:=fun i=>l.length-i) 0 [some 0,some 1,some 2] rfl (by simp only[ahk,dt,List.flatMap_nil,ahj];exact zM) zM (agM _) ?_
 intro i hi
 by_cases hil:i<l.length
 · have hgi:l[i]? =some l[i]:=agp hil
   have hget:l.getD i default=l[i]:=by rw[ago,hgi];rfl
   have htk:=Ct (k:=k) (a:=a) (b:=b) hgi;have hok:=hl l[i] (ahB hil);have hsl:=mg (l:=l.take i) fun x hx=>hl x (ag5 hx);have hsl2:(l.take i).length*(122+C*wd k a b)≤4*(122+64*16):=agQ (by rw[agz];omega) (Nat.add_le_add_left (agQ hC.2 hwd.2) _);have hm2:(M++dt k a b (l.take i)).length<1000100050:=by rw[agn];omega
   have e2:M++dt k a b (l.take (i+1))=M++dt k a b (l.take i)++numBits l[i].1 61++numBits l[i].2.1 61++cQ (wd k a b) (l[i].2.2.map (jx k a b)):=by rw[htk];simp
   clear htk hsl hsl2 hgi;generalize l[i]=x at*
   generalize M++dt k a b (l.take i)=M1 at*
   obtain ⟨o1,o2,o3,o4⟩:=hok;have n1:=bW (L:=M1) (n:=x.1) (m:=61) zo zo zd zd (by show x.1<2^61;omega);have n2:=bW (L:=M1++numBits x.1 61) (n:=x.2.1) (m:=61) zo (by rw[agn,ai];omega) zd zd (by show x.2.1<2^61;omega);rw[show Int.toNat 61=61 from rfl] at n1 n2
   have wr:=sL (n:=C) (w:=wd k a b) (N:=x.2.2.map (jx k a b)) (L:=M1++numBits x.1 61++numBits x.2.1 61) zo ⟨hwd.1,by omega⟩ (by rw[agr];exact o3) (fun y hy=>by
    obtain ⟨s,_,rfl⟩:=aho.1 hy;exact lA k a b s) (by rw[agn,agn,ai,ai];omega)
   rw[←e2] at wr;refine bh hget ?_;refine zW [some 0,some 2] [] n1 ?_;refine zW [some 0,some 4] [] n2 ?_;refine zW [some 0,some 5] [] wr ?_;refine aO (i+1) [some 0,some 1,some 6] hil zo
 · obtain rfl:i=l.length:=by omega
   rw[agF];exact zE [some 0,some 1,some 2] hQ
theorem Fv (k a b:Nat):jx k a b (0,0,false)=0:=by
 have e:cW k a b (0,0,false)=numBits 0 (wd k a b):=by
  unfold cW wd;rw[ga,ga,ga,List.replicate_succ',←List.replicate_append_replicate]
 unfold jx;rw[e,aR,Nat.zero_mod]
def zs (C:Nat):List SR:=List.replicate C (0,0,false)
theorem HF (k a b C:Nat):bK k a b (zs C)=0:=by
 unfold bK zs;rw[List.map_replicate,Fv,iN]
theorem Br {k a b:Nat}:aP k a b (0,0,false):=by
 unfold aP
 split
 · exact⟨agM _,agM _,fun h=>by cases h⟩
 · exact⟨rfl,agM _,fun h=>by cases h⟩
theorem GQ {k a b n:Nat} (h:aT k a b) (hn:1≤n∧n≤256):aC Tryz.prog 79 [pR k a b,.lit (.int .i64 (n:Int))] [] (.tup [kp k a b n (wd k a b) (bK k a b (zs n)),.lit (.int .i64 0)]) []:=by
 have cr:=oS h hn;rw[HF]
 have aux:∀x,aC Tryz.prog 79 [pR k a b,.lit (.int .i64 (n:Int))] [] (.tup [.ref 0 0 0 0,.lit (.int .i64 0)]) [some (cN 1 k a b),some (cB 2 n (wd k a b)),some (cf n (wd k a b) x)]→aC Tryz.prog 79 [pR k a b,.lit (.int .i64 (n:Int))] [] (.tup [kp k a b n (wd k a b) x,.lit (.int .i64 0)]) []:=by
  intro x cr;have hlw:=ay (aZ n (wd k a b)) x;exact sP [] (cr)
 exact aux 0 cr
def hV (h:Nat×Nat):List PV:=[.lit (.int .u64 (h.1:Int)),.lit (.int .u64 (h.2:Int))]
attribute [go_sem] hV
def rws (C:Nat) (l:List (Nat×Nat)):List RW:=l.map fun h=>(h.1,h.2,zs C)
theorem B5 {C k a b:Nat} {hs:List (Nat×Nat)} (hR:1≤hs.length∧hs.length≤4) (hC:1≤C∧C≤64) (h:aT k a b) (hh:∀x∈hs,x.1<2305843009213693951∧x.2<2305843009213693951):
 aC Tryz.prog 31 [.agg [.lit (.int .i64 (hs.length:Int)),.lit (.int .i64 (C:Int)),.lit (.int .i64 (k:Int)),.lit (.int .i64 (a:Int)),.lit (.int .i64 (b:Int))],.row 2 (hs.map hV)] [] (.tup [.ref 0 0 0 0,.lit (.int .i64 0)]) [some (jv hs.length C k a b (rws C hs) 0)]:=by
 have ck:=xD (R:=(hs.length:Int)) (C:=(C:Int)) ⟨by omega,by omega,by omega,by omega⟩ h;have nw:=GQ (n:=C) h ⟨hC.1,by omega⟩;refine zF S6 Tryz.call31 Tryz.func31 [.tmp 4,.tmp 5] fun Q hQ=>?_;refine ae ?_;refine zC ck ?_
 refine aM (X:=Nat) (st:=fun i=>([(2,.ref 0 0 0 0),(7,.ref 1 0 0 0),(28,.row 2 (hs.map hV)),(29,.lit (.int .i64 (hs.length:Int))),(30,.lit (.int .i64 (i:Int)))],
  [some (.cells [.lit (.int .i64 (hs.length:Int)),.lit (.int .i64 (C:Int)),.lit (.int .i64 (k:Int)),.lit (.int .i64 (a:Int)),.lit (.int .i64 (b:Int))]),some (.cells [.lit (.int .i64 (hs.length:Int)),.lit (.int .i64 (C:Int)),.lit (.int .i64 (k:Int)),.lit (.int .i64 (a:Int)),.lit (.int .i64 (b:Int)),.sl 2 3 0 i,.lit (.int .i64 0)]),some (.row 3 ((rws C (hs.take i)).map (il k a b C)))]))
  (inv:=fun i=>i≤hs.length) (m:=fun i=>hs.length-i) 0 [some 0,some 1,none] rfl ?_ zM (agM _) ?_
 · dsimp only
   (simp(disch:=(first | omega | (simp only[dm,agr,ags,true_and,and_true];(try omega);done) | fail)) only[go_sem,Int.reduceEq,Int.reduceToNat,Nat.reduceAdd,Nat.reduceMul,Nat.reduceEqDiff, ↓reduceIte,true_and,and_true,and_self,agO,agF,agt,V.lit.injEq,Value.int.injEq,Value.bool.injEq];try (first | omega | (simp;done) | (simp;omega)))
   rfl
 intro i hi
 by_cases hil:i<hs.length
 · have hx:=hh (hs.getD i default) (by rw[ago,agp hil];exact ahB _)
   have ht:rws C (hs.take (i+1))=rws C (hs.take i)++[((hs.getD i default).1,(hs.getD i default).2,zs C)]:=by
    unfold rws;rw[agW hil,ah4,ago,agp hil]
    rfl
   have hlr:(rws C (hs.take i)).length=i:=by unfold rws;rw[agr,agz];omega
   generalize rws C (hs.take i)=l at*
   obtain ⟨⟨A,B⟩,ea⟩:∃a,hs.getD i default=a:=⟨_,rfl⟩;rw[ea] at ht hx;dsimp only at hx ht;have hc:=Dc (A:=A) (B:=B);rw[if_pos hx] at hc;refine bh ea ?_;refine zC hc ?_;refine zC nw ?_;refine aG (i+1) [some 0,some 1,some 5] rfl ?_ zM zo zo;rw[ht,List.map_append];simp only[List.map_cons,List.map_nil,il,lQ]
   (simp(disch:=(first | omega | (simp only[dm,agr,ags,true_and,and_true];(try omega);done) | fail)) only[go_sem,Int.reduceEq,Int.reduceToNat,Nat.reduceAdd,Nat.reduceMul,Nat.reduceEqDiff, ↓reduceIte,true_and,and_true,and_self,agO,agF,agt,V.lit.injEq,Value.int.injEq,Value.bool.injEq];try (first | omega | (simp;done) | (simp;omega)))
 · obtain rfl:i=hs.length:=by omega
   rw[agF];have hlr:(rws C hs).length=hs.length:=by unfold rws;rw[agr]
   generalize rws C hs=l at*
   generalize hs.length=n at*
   subst hlr;exact zE [some 1] hQ
def QM (x:Int×Int×Bool):List PV:=[.lit (.int .i64 x.1),.lit (.int .i64 x.2.1),.lit (.bool x.2.2)]
@[go_sem] theorem acI {x:Int×Int×Bool}:QM x=[.lit (.int .i64 x.1),.lit (.int .i64 x.2.1),.lit (.bool x.2.2)]:=(rfl)
def oN (x:Nat×Nat×Bool):List PV:=[.lit (.int .i64 (x.1:Int)),.lit (.int .i64 (x.2.1:Int)),.lit (.bool x.2.2)]
@[go_sem] theorem ND {x:Nat×Nat×Bool}:oN x=[.lit (.int .i64 (x.1:Int)),.lit (.int .i64 (x.2.1:Int)),.lit (.bool x.2.2)]:=(rfl)
theorem i9 {α:Type} [Inhabited α] {l:List α} {i:Nat} {x:α} (h:l[i]? =some x):l.getD i default=x:=by rw[ago,h];rfl
def oP (k a b:Nat) (l:List (Int×Int×Bool)):List (Nat×Nat×Bool):=if l=[] then [(0,0,false)] else(l.take 8).map (wi k a b)
def rp (k a b:Nat) (S:List (Nat×Nat×Bool)) (i:Nat):List Nat:=(S.take i).map (fun s=>numOf (cW k a b s))++List.replicate (S.length-i) 0
theorem ue (k a b:Nat) (S:List (Nat×Nat×Bool)) {i:Nat} (hi:i≤S.length):(rp k a b S i).length=S.length:=by
 unfold rp;rw[agn,agr,agz,agN];omega
theorem yS (k a b:Nat) (S:List (Nat×Nat×Bool)) (i:Nat):∀x∈rp k a b S i,x<2^wd k a b:=by
 intro x hx;unfold rp at hx;rcases ah2.1 hx with hx | hx
 · obtain ⟨s,_,rfl⟩:=aho.1 hx
   have:=fE (cW k a b s)
   rw[dN] at this;exact this
 · rw[(aiz.1 hx).2]
   exact agV zd
theorem tD (k a b:Nat) {S:List (Nat×Nat×Bool)} {i:Nat} {s:Nat×Nat×Bool} (h:S[i]? =some s):(rp k a b S i).set i (numOf (cW k a b s))=rp k a b S (i+1):=by
 have hi:i<S.length:=(ahp.1 h).1;unfold rp;rw[List.set_append,if_neg (by simp;omega),agr,agz,ahm zo,ahJ];obtain ⟨q,hq⟩:∃q,S.length-i=q+1:=⟨S.length-i-1,by omega⟩;rw[hq,ahN,aiC,ah9,h,show S.length-(i+1)=q by omega]
 simp
theorem JR {k a b:Nat} {l:List (Int×Int×Bool)}:1≤(oP k a b l).length∧(oP k a b l).length≤8:=by
 unfold oP
 by_cases h:l=[]
 · rw[if_pos h];exact⟨agt _,by decide⟩
 · rw[if_neg h,agr,agz]
   have:=aiT.2 h
   omega
theorem mJ {k a b:Nat} {l:List (Int×Int×Bool)}:∀s∈oP k a b l,aP k a b s:=by
 intro s hs;unfold oP at hs
 split at hs
 · rw[ahf.1 hs]
   unfold aP
   split
   · exact⟨agM _,agM _,fun h=>by cases h⟩
   · exact⟨rfl,agM _,fun h=>by cases h⟩
 · obtain ⟨x,_,rfl⟩:=aho.1 hs
   exact AS
set_option maxHeartbeats 4000000 in
theorem BX {k a b:Nat} {l:List (Int×Int×Bool)} (h:Lj k a b) (hl:l.length≤9223372036854775807):
 aC Tryz.prog 25 [pR k a b,.row 3 (l.map QM)] [] (.tup [.ref 0 0 0 0,.row 3 ((oP k a b l).map oN),.lit (.bool true)])
  [some (cN 1 k a b),some (cB 2 (oP k a b l).length (wd k a b)),some (cf (oP k a b l).length (wd k a b) (bF (wd k a b) (rp k a b (oP k a b l) (oP k a b l).length)))]:=by
 have hb:=WG h;have hgood:=eh h;have wn:=fun s=>iA (k:=k) (a:=a) (b:=b) (s:=s) hb.2 hb.1;refine zF VU Tryz.call25 Tryz.func25 [.tmp 4,.tmp 5,.tmp 6] fun Q hQ=>?_;refine ae ?_
 refine aU (X:=Nat) (st:=fun i=>([(1,.row 3 (l.map QM)),(2,.ref 0 0 0 0),(7,.sl 1 3 0 i),(8,.lit (.int .i64 (i:Int)))],
  [some (.cells [.lit (.int .i64 (k:Int)),.lit (.int .i64 (a:Int)),.lit (.int .i64 (b:Int))]),some (.row 3 (((l.take i).map (wi k a b)).map oN))]))
  (inv:=fun i=>i≤l.length∧i≤8) (m:=fun i=>8-i) 0 [some 0,none] ⟨agM _,agM _⟩ ?_
 rintro i ⟨hi,hi8⟩
 by_cases hil:i<l.length
 · by_cases hil8:i<8
   · have hgi:l[i]? =some l[i]:=agp hil
     have hget:=i9 hgi;have wnx:=wn l[i];have htk:(l.take (i+1)).map (wi k a b)=(l.take i).map (wi k a b)++[wi k a b l[i]]:=by rw[ah9,hgi,ah4];rfl
     have hml:((l.take i).map (wi k a b)).length=i:=by rw[agr,agz];omega
     generalize (l.take i).map (wi k a b)=M at*
     generalize wi k a b l[i]=r at*
     have st17:=gz (s:=r);refine bh hget ?_;refine az (wnx) rfl rfl ?_;refine bh hget ?_;refine az (st17) rfl rfl ?_;refine bh hget ?_;refine aG (i+1) [some 0,some 3] rfl ?_ ?_ ⟨hil,hil8⟩ zo
     · dsimp only
       rw[htk,ah4,List.map_singleton,ND]
       (simp(disch:=(first | omega | (simp only[dm,agr,ags,true_and,and_true];(try omega);done) | fail)) only[go_sem,Int.reduceEq,Int.reduceToNat,Nat.reduceAdd,Nat.reduceMul,Nat.reduceEqDiff, ↓reduceIte,true_and,and_true,and_self,agO,agF,agt,V.lit.injEq,Value.int.injEq,Value.bool.injEq];try (first | omega | (simp;done) | (simp;omega)))
     · (simp(disch:=(first | omega | (simp only[dm,agr,ags,true_and,and_true];(try omega);done) | fail)) only[go_sem,Int.reduceEq,Int.reduceToNat,Nat.reduceAdd,Nat.reduceMul,Nat.reduceEqDiff, ↓reduceIte,true_and,and_true,and_self,agO,agF,agt,V.lit.injEq,Value.int.injEq,Value.bool.injEq];try (first | omega | (simp;done) | (simp;omega)))
   · have hie:i=8:=by omega
     have hS:oP k a b l=(l.take i).map (wi k a b):=by
      unfold oP;rw[if_neg (fun e=>by rw[e] at hil;simp at hil),hie]
     rw[←hS];have hSl:(oP k a b l).length=i:=by rw[hS,agr,agz];omega
     have hSw:=mJ (k:=k) (a:=a) (b:=b) (l:=l);generalize oP k a b l=S at*
     have own:=jT (k:=k) (a:=a) (b:=b);have cn:=oS (n:=i) hgood zo
     have hz:cf i (wd k a b) 0=cf i (wd k a b) (bF (wd k a b) (rp k a b S 0)):=by
      unfold rp;rw[ahk];show _=cf i (wd k a b) (bF (wd k a b) (List.replicate _ 0));rw[iN]
     rw[hz] at cn;clear hz;rw[hSl] at hQ;refine bh hSl ?_;refine az (own) rfl rfl ?_;refine bh hSl ?_;refine zW [] [] cn ?_
     refine aU (X:=Nat) (st:=fun j=>([(7,.row 3 (S.map oN)),(9,.ref 0 0 0 0),(52,.row 3 (S.map oN)),(53,.lit (.int .i64 (i:Int))),(54,.lit (.int .i64 (j:Int)))],
      [some (cN 1 k a b),some (cB 2 i (wd k a b)),some (cf i (wd k a b) (bF (wd k a b) (rp k a b S j)))]))
      (inv:=fun j=>j≤i) (m:=fun j=>i-j) 0 [some 2,some 3,some 4] (agM _) ?_
     intro j hj
     by_cases hjl:j<i
     · have hgj:S[j]? =some S[j]:=agp zo
       have hget:=i9 hgj;have hset:=tD k a b hgj;have st:=oE (n:=i) (i:=j) (N:=rp k a b S j) (s:=S[j]) hgood (hSw _ (ahB _)) zo hjl (by rw[ue k a b S zo,hSl]) (yS k a b S j);rw[hset] at st;generalize S[j]=r at*
       refine bh hget ?_;refine zW [some 0,some 1,some 2] [] st ?_;refine aO (j+1) [some 0,some 1,some 2] zo zo
     · obtain rfl:i=j:=by omega
       exact zE [some 0,some 1,some 2] hQ
 · have hie:i=l.length:=by omega
   by_cases h0:l=[]
   · subst h0
     obtain rfl:i=0:=by simpa using hie
     have hSr:(oP k a b []).map oN=dy [.int .i64 0,.int .i64 0,.bool false] 1:=rfl;have hSl:(oP k a b []).length=1:=rfl;have hSw:=mJ (k:=k) (a:=a) (b:=b) (l:=[]);generalize oP k a b []=S at*
     have own:=jT (k:=k) (a:=a) (b:=b);have cn:=oS (n:=1) hgood zo
     have hz:cf 1 (wd k a b) 0=cf 1 (wd k a b) (bF (wd k a b) (rp k a b S 0)):=by
      unfold rp;rw[ahk];show _=cf 1 (wd k a b) (bF (wd k a b) (List.replicate _ 0));rw[iN]
     rw[hz] at cn;clear hz;rw[hSl] at hQ;refine bh hSl ?_;rw[←hSr];refine az (own) rfl rfl ?_;refine bh hSl ?_;refine zW [] [] cn ?_
     refine aU (X:=Nat) (st:=fun j=>([(7,.row 3 (S.map oN)),(9,.ref 0 0 0 0),(52,.row 3 (S.map oN)),(53,.lit (.int .i64 1)),(54,.lit (.int .i64 (j:Int)))],
      [some (cN 1 k a b),some (cB 2 1 (wd k a b)),some (cf 1 (wd k a b) (bF (wd k a b) (rp k a b S j)))]))
      (inv:=fun j=>j≤1) (m:=fun j=>1-j) 0 [some 3,some 4,some 5] (agM _) ?_
     intro j hj
     by_cases hjl:j<1
     · have hgj:S[j]? =some S[j]:=agp zo
       have hget:=i9 hgj;have hset:=tD k a b hgj;have st:=oE (n:=1) (i:=j) (N:=rp k a b S j) (s:=S[j]) hgood (hSw _ (ahB _)) zo hjl (by rw[ue k a b S zo,hSl]) (yS k a b S j);rw[hset] at st;generalize S[j]=r at*
       refine dK hget hSl ?_;refine zW [some 0,some 1,some 2] [] st ?_;refine aO (j+1) [some 0,some 1,some 2] zo zo
     · obtain rfl:j=1:=by omega
       exact zE [some 0,some 1,some 2] hQ
   · have hS:oP k a b l=(l.take i).map (wi k a b):=by
      unfold oP;rw[if_neg h0,hie,agF,agB zo]
     rw[←hS];have hSl:(oP k a b l).length=i:=by rw[hS,agr,agz];omega
     have hi1:1≤i:=by have:=aiT.2 h0;omega
     have hSw:=mJ (k:=k) (a:=a) (b:=b) (l:=l);generalize oP k a b l=S at*
     have own:=jT (k:=k) (a:=a) (b:=b);have cn:=oS (n:=i) hgood zo
     have hz:cf i (wd k a b) 0=cf i (wd k a b) (bF (wd k a b) (rp k a b S 0)):=by
      unfold rp;rw[ahk];show _=cf i (wd k a b) (bF (wd k a b) (List.replicate _ 0));rw[iN]
     rw[hz] at cn;clear hz;rw[hSl] at hQ;refine bh hSl ?_;refine az (own) rfl rfl ?_;refine bh hSl ?_;refine zW [] [] cn ?_
     refine aU (X:=Nat) (st:=fun j=>([(7,.row 3 (S.map oN)),(9,.ref 0 0 0 0),(52,.row 3 (S.map oN)),(53,.lit (.int .i64 (i:Int))),(54,.lit (.int .i64 (j:Int)))],
      [some (cN 1 k a b),some (cB 2 i (wd k a b)),some (cf i (wd k a b) (bF (wd k a b) (rp k a b S j)))]))
      (inv:=fun j=>j≤i) (m:=fun j=>i-j) 0 [some 2,some 3,some 4] (agM _) ?_
     intro j hj
     by_cases hjl:j<i
     · have hgj:S[j]? =some S[j]:=agp zo
       have hget:=i9 hgj;have hset:=tD k a b hgj;have st:=oE (n:=i) (i:=j) (N:=rp k a b S j) (s:=S[j]) hgood (hSw _ (ahB _)) zo hjl (by rw[ue k a b S zo,hSl]) (yS k a b S j);rw[hset] at st;generalize S[j]=r at*
       refine bh hget ?_;refine zW [some 0,some 1,some 2] [] st ?_;refine aO (j+1) [some 0,some 1,some 2] zo zo
     · obtain rfl:i=j:=by omega
       exact zE [some 0,some 1,some 2] hQ
end Go.Proofs.YtcnlmelpnflhnaaGreat
