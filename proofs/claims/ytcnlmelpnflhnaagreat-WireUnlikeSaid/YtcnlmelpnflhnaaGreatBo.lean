import Derived.Test.YtcnlmelpnflhnaaGreatBh
import Derived.Test.YtcnlmelpnflhnaaGreatAb
import Derived.Test.YtcnlmelpnflhnaaGreatBi
import Derived.Test.YtcnlmelpnflhnaaGreatBn
import Derived.Test.YtcnlmelpnflhnaaGreatBl
import Derived.Test.YtcnlmelpnflhnaaGreatIn
namespace Go.Proofs.YtcnlmelpnflhnaaGreat
open Go.Eng Go.Vx
set_option linter.unusedSimpArgs false
set_option linter.unusedVariables false
set_option maxRecDepth 100000
theorem bt {A T:List Bool} {n:Nat} (hn:n≤1048575):rV (A++(aq (n+1)++T)) A.length 0=((n:Int),A.length+(aq (n+1)).length,0):=by
 have g:=zV (A:=A) (T:=T) (n:=n+1) zo zo;unfold rV;rw[if_pos rfl,g];dsimp only;rw[if_pos rfl,if_neg zo]
 congr 1
 omega
theorem iU {A T:List Bool} {k a b:Nat} (hk:k≤1048575) (ha:a≤1048575) (hb:b≤1048575):prX (A++(bQ [k,a,b]++T)) A.length 0=(((k:Int),(a:Int),(b:Int)),A.length+(bQ [k,a,b]).length,0):=by
 have e0:A++(bQ [k,a,b]++T)=A++(aq (k+1)++(aq (a+1)++(aq (b+1)++T))):=by simp[bQ]
 have e1:A++(aq (k+1)++(aq (a+1)++(aq (b+1)++T)))=(A++aq (k+1))++(aq (a+1)++(aq (b+1)++T)):=by simp
 have e2:A++(aq (k+1)++(aq (a+1)++(aq (b+1)++T)))=(A++aq (k+1)++aq (a+1))++(aq (b+1)++T):=by simp
 have n1:=bt (A:=A) (T:=aq (a+1)++(aq (b+1)++T)) hk;have n2:=bt (A:=A++aq (k+1)) (T:=aq (b+1)++T) ha;have n3:=bt (A:=A++aq (k+1)++aq (a+1)) (T:=T) hb;rw[←e1] at n2;rw[←e2] at n3;rw[List.length_append] at n2;rw[List.length_append,List.length_append] at n3;rw[e0];unfold prX;rw[n1];dsimp only;rw[n2];dsimp only;rw[n3];have hl:(bQ [k,a,b]).length=(aq (k+1)).length+(aq (a+1)).length+(aq (b+1)).length:=by simp[bQ];omega
 rw[hl];simp only[ahQ]
theorem pJ {k a b:Nat}:∀(l:List SR),cQ (wd k a b) (l.map (jx k a b))=l.flatMap (cW k a b)
 | []=>rfl
 | s::l=>by
   rw[agR,List.flatMap_cons,←pJ l,←mF (s:=s)]
   rfl
theorem mr {k a b:Nat} {R:List Bool} (h:aT k a b):∀(l:List SR) (A:List Bool),(∀s∈l,aP k a b s)→xH (A++(l.flatMap (cW k a b)++R)) k a b l.length A.length=(some l,A.length+(l.flatMap (cW k a b)).length,0)
 | [],A,_=>rfl
 | s::l,A,hw=>by
   have e0:A++((s::l).flatMap (cW k a b)++R)=A++(cW k a b s++(l.flatMap (cW k a b)++R)):=by simp
   have e1:A++(cW k a b s++(l.flatMap (cW k a b)++R))=(A++cW k a b s)++(l.flatMap (cW k a b)++R):=by simp
   have r1:=iQ (A:=A) (R:=l.flatMap (cW k a b)++R) h (hw s aim);have ih:=mr (R:=R) h l (A++cW k a b s) (fun x hx=>hw x (ahI _ hx));have hlen:(A++cW k a b s).length=A.length+wd k a b:=by rw[agn,dN];rfl
   rw[←e1,hlen] at ih;rw[e0,List.length_cons,mz,r1];dsimp only;rw[ih,List.flatMap_cons,List.length_append,dN];simp only[Option.map_some]
   congr 2
   unfold wd;omega
theorem CB {A R:List Bool} {k a b C:Nat} {r:RW} (h:aT k a b) (ok:br k a b C r):JN (A++(yP k a b r++R)) k a b C A.length=(some r,A.length+(yP k a b r).length,0):=by
 obtain ⟨x,y,l⟩:=r;obtain ⟨o1,o2,o3,o4⟩:=ok;dsimp only at o1 o2 o3 o4;subst o3
 have hb:yP k a b (x,y,l)=numBits x 61++(numBits y 61++l.flatMap (cW k a b)):=by
  unfold yP;rw[pJ,agw]
 have e0:A++(yP k a b (x,y,l)++R)=A++(numBits x 61++(numBits y 61++(l.flatMap (cW k a b)++R))):=by rw[hb];simp
 have e1:A++(numBits x 61++(numBits y 61++(l.flatMap (cW k a b)++R)))=(A++numBits x 61)++(numBits y 61++(l.flatMap (cW k a b)++R)):=by simp
 have e2:A++(numBits x 61++(numBits y 61++(l.flatMap (cW k a b)++R)))=(A++numBits x 61++numBits y 61)++(l.flatMap (cW k a b)++R):=by simp
 have t1:=ou (A:=A) (B:=numBits x 61) (R:=numBits y 61++(l.flatMap (cW k a b)++R)) (ai _ _);have t2:=ou (A:=A++numBits x 61) (B:=numBits y 61) (R:=l.flatMap (cW k a b)++R) (ai _ _);have c:=mr (R:=R) h l (A++numBits x 61++numBits y 61) o4;rw[←e1,agn,ai] at t2;have l2:(A++numBits x 61++numBits y 61).length=A.length+122:=by rw[agn,agn,ai,ai]
 rw[←e2,l2] at c;rw[e0]
 have hlen:A.length+122≤(A++(numBits x 61++(numBits y 61++(l.flatMap (cW k a b)++R)))).length:=by
  rw[e2,agn,l2];omega
 unfold JN;rw[if_pos zo,if_pos hlen,t1,t2,aR,aR,agL zo,agL zo,if_pos ⟨o1,o2⟩,c,hb];simp only[ahi,agn,ai]
 congr 2
 omega
theorem qz {k a b C:Nat} {R:List Bool} (h:aT k a b):∀(l:List RW) (A:List Bool),(∀r∈l,br k a b C r)→nZ (A++(dt k a b l++R)) k a b C l.length A.length=(some l,A.length+(dt k a b l).length,0)
 | [],A,_=>rfl
 | r::l,A,hw=>by
   have e0:A++(dt k a b (r::l)++R)=A++(yP k a b r++(dt k a b l++R)):=by simp[dt]
   have e1:A++(yP k a b r++(dt k a b l++R))=(A++yP k a b r)++(dt k a b l++R):=by simp
   have r1:=CB (A:=A) (R:=dt k a b l++R) h (hw r aim);have ih:=qz (R:=R) h l (A++yP k a b r) (fun x hx=>hw x (ahI _ hx));rw[←e1,agn] at ih;have hl:(dt k a b (r::l)).length=(yP k a b r).length+(dt k a b l).length:=by simp[dt]
   rw[e0,List.length_cons,xc,r1];dsimp only;rw[ih,hl];simp only[Option.map_some]
   congr 2
   omega
theorem uS {A R:List Bool} {k a b C T:Nat} {l:List RW} (h:aT k a b) (hT:T≤1099511627776) (hw:∀r∈l,br k a b C r):cmR (A++(oe k a b l T++R)) l.length C k a b A.length=(some (l,T),A.length+(oe k a b l T).length,0):=by
 have e0:A++(oe k a b l T++R)=A++(cF T++(dt k a b l++R)):=by simp[oe]
 have e1:A++(cF T++(dt k a b l++R))=(A++cF T)++(dt k a b l++R):=by simp
 have v:=tP (A:=A) (T:=dt k a b l++R) (n:=T) zo;have r:=qz (R:=R) h l (A++cF T) hw;rw[←e1,agn] at r;have hl:(oe k a b l T).length=(cF T).length+(dt k a b l).length:=by simp[oe]
 rw[e0];unfold cmR;rw[v];dsimp only;rw[if_pos rfl,if_neg zo,r,hl];simp only[Option.map_some]
 congr 2
 omega
def afD (l:List Nat):Prop:=aC Tryz.prog 11 [.row 1 ((nl l).map (ie .u8))] [] (.tup [itN 0,.lit (.int .i64 13)]) []
def mT (x:V) (E:List Nat):Prop:=E.length≤1200∧aC Tryz.prog 10 [x] [] (.tup [.sl 0 1 0 E.length,.lit (.int .i64 0)]) [some (.row 1 ((nl E).map (ie .u8)))]
theorem jY {x:V} {L:List Bool} (hL:L.length≤9000) (en:aC Tryz.prog 10 [x] [] (.tup [.sl 0 1 0 ((jF L).length+4),.lit (.int .i64 0)]) [some (.row 1 ((nl (cU (jF L))).map (ie .u8)))]):mT x (cU (jF L)):=by
 refine⟨by rw[gl,fV];omega,?_⟩;rw[gl];exact en
theorem mT.row {x:V} {E:List Nat} (h:mT x E):aC Tryz.prog 10 [x] [] (.tup [.row 1 ((nl E).map (ie .u8)),.lit (.int .i64 0)]) []:=by
 have en:=h.2;have hEl:=aD E;generalize nl E=N at*
 exact sP [] (en)
theorem Jt {k a b:Nat} {s:SR} (h:aT k a b) (w:aP k a b s):mT (CL k a b s) (cU (jF (bI 1++bQ [k,a,b]++cW k a b s))):=by
 refine jY ?_ (IH h w)
 have hN:∀x∈([k,a,b]:List Nat),x≤1048576:=by
  intro x hx;simp only[agG,ahd,or_false] at hx;rcases h with h | h | h | h<;>omega
 have hgl:=cy hN;have hhl:=eo 1;have hwl:=yr h;have hrl:=dN k a b s;have hN3:([k,a,b]:List Nat).length=3:=rfl;rw[agn,agn];omega
theorem IA {k a b n:Nat} {l:List SR} (h:aT k a b) (hn:n≤256) (hM:l.length=n):mT (oY k a b n l) (cU (jF (bI 2++bQ [k,a,b,n]++cQ (wd k a b) (l.map (jx k a b))))):=by
 refine jY ?_ (JY h hn hM)
 have hN:∀x∈([k,a,b,n]:List Nat),x≤1048576:=by
  intro x hx;simp only[agG,ahd,or_false] at hx;rcases h with h | h | h | h<;>omega
 have hgl:=cy hN;have hhl:=eo 2;have hrl:=iF (wd k a b) (l.map (jx k a b));rw[agr] at hrl;have hwd:=eC h;have hnw:l.length*wd k a b≤256*16:=agQ zo hwd.2;have hN3:([k,a,b,n]:List Nat).length=4:=rfl;rw[agn,agn];omega
theorem JH {M D S:Nat} {st:SS} (hM:M≤16) (hD:D≤4) (hS:S≤8) (hX:st.1.length≤256) (hc:∀c∈st.1,c.1<2^M∧c.2<2^D) (hs:1≤st.2.1∧st.2.1≤8):mT (qg M D S st) (cU (jF (bI 3++bQ [M,D,S,st.1.length]++ey M D st))):=by
 refine jY ?_ (H0 hM hD hS hX hc hs)
 have hN:∀x∈([M,D,S,st.1.length]:List Nat),x≤1048576:=by
  intro x hx;simp only[agG,ahd,or_false] at hx;omega
 have hgl:=cy hN;have hhl:=eo 3;have hrl:=oW M D st;have hnw:st.1.length*(M+D)≤256*20:=agQ hX zo;have hN3:([M,D,S,st.1.length]:List Nat).length=4:=rfl;rw[agn,agn];omega
theorem Ka {R C k a b T:Nat} {l:List RW} (h:aT k a b) (hC:1≤C∧C≤64) (hR:R≤4) (hl1:l.length≤4) (hl:∀r∈l,br k a b C r) (hT:T≤1099511627776):mT (pB R C k a b l T) (cU (jF (bI 4++bQ [R,C,k,a,b]++oe k a b l T))):=by
 refine jY ?_ (Jm h hC hR hl1 hl hT)
 have hN:∀x∈([R,C,k,a,b]:List Nat),x≤1048576:=by
  intro x hx;simp only[agG,ahd,or_false] at hx;rcases h with h | h | h | h<;>omega
 have hgl:=cy hN;have hhl:=eo 4;have hrl:(oe k a b l T).length=(cF T).length+l.length*(122+C*wd k a b):=by unfold oe;rw[agn,mg hl]
 have hvl:=qb hT;have hwd:=eC h;have hnw:l.length*(122+C*wd k a b)≤4*(122+64*16):=agQ hl1 (Nat.add_le_add_left (agQ hC.2 hwd.2) _);have hN3:([R,C,k,a,b]:List Nat).length=5:=rfl;rw[agn,agn];omega
theorem I1 {K P C T:Nat} {X:List (Nat×Nat)} (hK:K≤8) (hP:P≤8) (hC:C≤16) (hX:X.length≤16) (hk:∀x∈X,x.1<2305843009213693951∧x.2≤1048576) (h1:T=0∨∀x∈X,1≤x.2) (hT:T≤1048576):mT (oU K P C X T) (cU (jF (bI 5++bQ [K,P,C]++eH X T))):=by
 refine jY ?_ (J5 hK hP hC hX hk h1 hT)
 have hN:∀x∈([K,P,C]:List Nat),x≤1048576:=by
  intro x hx;simp only[agG,ahd,or_false] at hx;omega
 have hgl:=cy hN;have hhl:=eo 5
 have hrl:(eH X T).length≤24+16*102:=by
  have hv:=lF hT;unfold eH;rw[agn]
  split
  · rw[agE];omega
  · rename_i h0
    have:=oT (X:=X) fun x hx=>⟨(h1.resolve_left h0) x hx,(hk x hx).2⟩
    have h2:X.length*102≤16*102:=agP _ hX;omega
 have hN3:([K,P,C]:List Nat).length=3:=rfl;rw[agn,agn];omega
def okW (l:List Nat):Prop:=l.length≤4096∧∃c0 c1 c2 c3 c4 c5 c6 c7 c8 c9 c10:V,kW.plnL [c0,c1,c2,c3,c4,c5,c6,c7,c8,c9,c10]=true∧
 aC Tryz.prog 11 [.row 1 ((nl l).map (ie .u8))] [] (.tup [.agg [c0,c1,c2,c3,c4,c5,c6,c7,c8,c9,c10],.lit (.int .i64 0)]) []∧
 aC Tryz.prog 9 [.agg [c0,c1,c2,c3,c4,c5,c6,c7,c8,c9,c10]] [] (.lit (.int .i64 0)) []∧
 aC Tryz.prog 10 [.agg [c0,c1,c2,c3,c4,c5,c6,c7,c8,c9,c10]] [] (.tup [.row 1 ((nl l).map (ie .u8)),.lit (.int .i64 0)]) []
abbrev ZS:=List (Nat×Nat)×Nat×Nat×Bool
def uq (L:List Bool) (n i:Nat) (x:ZS):Prop:=Th n x.1 x.2.1∧x.2.1≤i∧(x.2.2.2=true→1≤x.2.1)∧x.2.2.1≤L.length
def BB (G:Nat→ZS→Int×ZS):List Nat→ZS→ZS
 | [],x=>x
 | k::ks,x=>BB G ks (G (k%7) x).2
theorem z6 {G:Nat→ZS→Int×ZS} {x:ZS}:BB G [] x=x:=rfl
theorem pH {G:Nat→ZS→Int×ZS} {k:Nat} {ks:List Nat} {x:ZS}:BB G (k::ks) x=BB G ks (G (k%7) x).2:=rfl
theorem zh {L:List Bool} {n:Nat} {G:Nat→ZS→Int×ZS} (hG:∀(k i:Nat) x,k≤1000→i≤900→uq L n i x→uq L n (i+1) (G k x).2):∀ks i x,i+ks.length≤900→uq L n i x→uq L n (i+ks.length) (BB G ks x)
 | [],i,x,_,h=>h
 | k::ks,i,x,hl,h=>by
   rw[pH,agu,show i+(ks.length+1)=(i+1)+ks.length by omega];rw[agu] at hl;exact zh hG ks (i+1) _ zo (hG _ i x zo zo h)
set_option maxHeartbeats 8000000 in
theorem Hr {Kd kk aa bb:Int} {S:List (Int×Int×Bool)} {M D Sc R C ck ca cb:Int} {W Ky:List Nat} {L0:List Bool} (ht:(Kd.tmod 5+5)%5=4) (hS:S.length≤9223372036854775807) (hL0:L0.length≤9223372036854775807) (hKy:Ky.length≤9223372036854775807) (hky:∀x∈Ky,x<18446744073709551616):
 ∃(K P n T:Nat) (X:List (Nat×Nat)),At (K:Int) (P:Int) (n:Int)∧n≤5∧P≤4∧Th n X T∧T≤12∧aC Tryz.prog 8 [.agg (HH Kd kk aa bb S M D Sc R C ck ca cb W Ky L0)] [] (.tup [itM 0,.lit (.bool true)]) [some (oF (K:Int) (P:Int) (n:Int) X T)]:=by
 obtain ⟨k,a,b,hsm,hs⟩:=fq (kk:=kk) (aa:=aa) (bb:=bb);have hg:=eh hsm;have h0:=hs (0,0,false);dsimp only at h0;have hL1:(L0.take 300).length≤300:=by rw[List.length_take];omega
 have nt:=mP (L:=L0.take 300) zo;have hns:¬300<L0.length→L0.take 300=L0:=fun h=>agB zo;generalize hL:L0.take 300=L at*
 have t1: -5<Kd.tmod 5:=by have:=aiD Kd (b:=5) zd;omega
 have t2:Kd.tmod 5<5:=aiE Kd zd;have hkw:IntKind.i64.wrap (Kd.tmod 5+5)=Kd.tmod 5+5:=wrap_i64 ⟨by omega,by omega⟩;have m1:bY .and .i64 aa 1=aa%2:=dP (k:=.i64) (j:=1) (a:=aa) zd;have m2:bY .and .i64 bb 3=bb%4:=dP (k:=.i64) (j:=2) (a:=bb) zd;obtain ⟨n,hn⟩:∃n,1+S.length%5=n:=⟨_,rfl⟩;have hS6:(1:Int)+(S.length:Int)%5=(n:Int):=by omega
 have fw:=pX hKy;have hKt:(Ky.take 12).length≤12:=by rw[agz];omega
 have hKl:=aD (Ky.take 12);generalize Ky.take 12=Kt at*
 by_cases hA:aa%2=0
 · obtain ⟨P,hP⟩:∃P:Nat,1+bb%4=(P:Int):=⟨(1+bb%4).toNat,by omega⟩
   have nw:=vx (K:=1) (P:=(P:Int)) (C:=n) ⟨.inl ⟨rfl,by omega,by omega⟩,by omega,by omega⟩
   obtain ⟨G,hG⟩:∃G:Nat→ZS→Int×ZS,∀(k i:Nat) x,k≤1000→i≤900→uq L n i x→uq L n (i+1) (G k x).2∧
    aC Tryz.prog 20 [.ref 0 0 0 0,.ref 1 0 0 0,.lit (.int .u64 (k:Int))] [some (oF 1 (P:Int) (n:Int) x.1 x.2.1),some (aX L x.2.2.1 x.2.2.2)] (.lit (.int .i64 (G k x).1)) [some (oF 1 (P:Int) (n:Int) (G k x).2.1 (G k x).2.2.1),some (aX L (G k x).2.2.2.1 (G k x).2.2.2.2)]:=by
    have h:∀(k:Nat) (x:ZS),∃y:Int×ZS,∀i,k≤1000→i≤900→uq L n i x→uq L n (i+1) y.2∧
     aC Tryz.prog 20 [.ref 0 0 0 0,.ref 1 0 0 0,.lit (.int .u64 (k:Int))] [some (oF 1 (P:Int) (n:Int) x.1 x.2.1),some (aX L x.2.2.1 x.2.2.2)] (.lit (.int .i64 y.1)) [some (oF 1 (P:Int) (n:Int) y.2.1 y.2.2.1),some (aX L y.2.2.2.1 y.2.2.2.2)]:=by
     intro k x
     by_cases h:k≤1000∧uq L n 900 x
     · obtain ⟨h1,h2,h3,h4,h5⟩:=h
       obtain ⟨e,X',N',q,d',a1,a2,a3,a4,a5⟩:=zL (K:=1) (P:=(P:Int)) (d:=x.2.2.2) (key:=k) zo h2 zo zo h4 zo h5;exact⟨(e,X',N',q,d'),fun i _ _ ho=>⟨⟨a1,by have:=ho.2.1;dsimp only;omega,a3,a4⟩,a5⟩⟩
     · exact⟨(0,x),fun i h1 h2 h3=>absurd ⟨h1,h3.1,by have:=h3.2.1;omega,h3.2.2⟩ h⟩
    exact⟨fun k x=>Classical.choose (h k x),fun k i x=>Classical.choose_spec (h k x) i⟩
   obtain ⟨z0,hz⟩:∃z:List (Nat×Nat),z=List.replicate n (0,0):=⟨_,rfl⟩;have hzl:z0.length=n:=by rw[hz,agN]
   have hx0:uq L n 0 (z0,0,0,false):=by rw[hz];exact⟨AL,agt _,fun h=>(by cases h),agM _⟩
   have hfin:=zh (fun k i x h1 h2 h3=>(hG k i x h1 h2 h3).1) Kt 0 _ zo hx0;have hf2:=hfin.2.1;refine⟨1,P,n,(BB G Kt (z0,0,0,false)).2.1,(BB G Kt (z0,0,0,false)).1,⟨.inl ⟨rfl,by omega,by omega⟩,by omega,by omega⟩,by omega,by omega,hfin.1,by omega,?_⟩;have hn5:1≤n∧n≤5:=by omega
   clear hfin hn hf2;rw[←hz] at nw;clear hz;subst hzl;change aC _ _ _ _ _ [some (oF 1 (P:Int) (z0.length:Int) _ _)];refine zF HR Tryz.call8 Tryz.func8 [.cell 2 42,.tmp 3] fun Q hQ=>?_
   by_cases h1:300<L0.length
   case' pos=>
    refine De hL ?_
   case' neg=>
    have hLL:=hns h1;subst hLL;refine ae ?_
   all_goals
    refine aV [] [] (nt) ?_;refine dK hkw ht ?_;refine az (h0) rfl rfl ?_;refine dK hkw ht ?_
    by_cases h2:0<S.length
    case' pos=>
     obtain ⟨⟨s1,s2,s3⟩,ea⟩:∃x,S.getD 0 default=x:=⟨_,rfl⟩;have h3:=hs (s1,s2,s3);dsimp only at h3;generalize wi k a b (s1,s2,s3)=r at*
     generalize wi k a b (0,0,false)=r0 at*
     refine bh ea ?_;refine az (h3) rfl rfl ?_;refine UE ht m1 m2 hA hP hS6 ?_
    case' neg=>
     generalize wi k a b (0,0,false)=r at*
     refine UE ht m1 m2 hA hP hS6 ?_
    all_goals
     refine dB (nw) ?_;refine ae ?_;refine zC fw ?_
     refine aU (X:=Nat×ZS) (st:=fun z=>([(2,.ref 0 0 0 0),(5,.ref 1 0 0 0),(6,.ref 2 0 0 0),(9,.lit (.bool true)),(19,.ref 3 0 0 0),(96,.row 1 ((nl Kt).map (ie .u64))),(97,.lit (.int .i64 (Kt.length:Int))),(98,.lit (.int .i64 (z.1:Int)))],
      [some (.cells [.lit (.int .i64 0),.lit (.int .i64 0),.lit (.int .i64 0),.lit (.int .i64 0),.lit (.int .i64 0),.lit (.int .i64 0),.lit (.bool false),.lit (.pointer none),.lit (.pointer none),.lit (.pointer none),.lit (.pointer none)]),some (aX L z.2.2.2.1 z.2.2.2.2),some (.cells [.lit (.int .i64 (1+4)),.lit (.int .i64 0),.lit (.int .i64 0),.lit (.int .i64 0),.lit (.int .i64 0),.lit (.int .i64 0),.lit (.bool false),.lit (.pointer none),.lit (.pointer none),.lit (.pointer none),.lit (.pointer none)]),some (oF 1 (P:Int) (z0.length:Int) z.2.1 z.2.2.1)]))
      (inv:=fun z=>z.1≤Kt.length∧uq L z0.length z.1 z.2∧BB G Kt (z0,0,0,false)=BB G (Kt.drop z.1) z.2) (m:=fun z=>Kt.length-z.1) (0,z0,0,0,false) [some 1,some 2,some 3,some 7] ⟨agM _,hx0,by rw[agO]⟩ ?_
     rintro ⟨i,X,N,p,d⟩ ⟨hi,hz,hv⟩;dsimp only at hi hz hv ⊢
     by_cases hil:i<Kt.length
     · have hdr:Kt.drop i=Kt.getD i 0::Kt.drop (i+1):=by
        rw[ahn hil,ago,agp hil]
        rfl
       rw[hdr,pH] at hv;have hkey:(nl Kt).getD i 0=((Kt.getD i 0:Nat):Int):=bg Kt i;generalize Kt.getD i 0=key at*
       have gg:=hG (key%7) i (X,N,p,d) zo zo hz;have e2:((key:Nat):Int)%7=((key%7:Nat):Int):=by omega
       generalize hgx:G (key%7) (X,N,p,d)=gx at*
       obtain ⟨e,X',N',q,d'⟩:=gx;dsimp only at gg;refine dK hkey e2 ?_;refine zW [some 3,some 1] [] gg.2 ?_;refine aO (i+1,X',N',q,d') [some 0,some 1,some 2,some 3] ⟨by omega,gg.1,hv⟩ zo
     · obtain rfl:i=Kt.length:=by omega
       rw[aix,z6] at hv;rw[hv] at hQ;exact zE [some 3] hQ
 · have hA2:aa%2=1:=by omega
   have nw:=vx (K:=2) (P:=0) (C:=n) ⟨.inr ⟨rfl,rfl⟩,by omega,by omega⟩
   obtain ⟨G,hG⟩:∃G:Nat→ZS→Int×ZS,∀(k i:Nat) x,k≤1000→i≤900→uq L n i x→uq L n (i+1) (G k x).2∧
    aC Tryz.prog 20 [.ref 0 0 0 0,.ref 1 0 0 0,.lit (.int .u64 (k:Int))] [some (oF 2 0 (n:Int) x.1 x.2.1),some (aX L x.2.2.1 x.2.2.2)] (.lit (.int .i64 (G k x).1)) [some (oF 2 0 (n:Int) (G k x).2.1 (G k x).2.2.1),some (aX L (G k x).2.2.2.1 (G k x).2.2.2.2)]:=by
    have h:∀(k:Nat) (x:ZS),∃y:Int×ZS,∀i,k≤1000→i≤900→uq L n i x→uq L n (i+1) y.2∧
     aC Tryz.prog 20 [.ref 0 0 0 0,.ref 1 0 0 0,.lit (.int .u64 (k:Int))] [some (oF 2 0 (n:Int) x.1 x.2.1),some (aX L x.2.2.1 x.2.2.2)] (.lit (.int .i64 y.1)) [some (oF 2 0 (n:Int) y.2.1 y.2.2.1),some (aX L y.2.2.2.1 y.2.2.2.2)]:=by
     intro k x
     by_cases h:k≤1000∧uq L n 900 x
     · obtain ⟨h1,h2,h3,h4,h5⟩:=h
       obtain ⟨e,X',N',q,d',a1,a2,a3,a4,a5⟩:=zL (K:=2) (P:=0) (d:=x.2.2.2) (key:=k) zo h2 zo zo h4 zo h5;exact⟨(e,X',N',q,d'),fun i _ _ ho=>⟨⟨a1,by have:=ho.2.1;dsimp only;omega,a3,a4⟩,a5⟩⟩
     · exact⟨(0,x),fun i h1 h2 h3=>absurd ⟨h1,h3.1,by have:=h3.2.1;omega,h3.2.2⟩ h⟩
    exact⟨fun k x=>Classical.choose (h k x),fun k i x=>Classical.choose_spec (h k x) i⟩
   obtain ⟨z0,hz⟩:∃z:List (Nat×Nat),z=List.replicate n (0,0):=⟨_,rfl⟩;have hzl:z0.length=n:=by rw[hz,agN]
   have hx0:uq L n 0 (z0,0,0,false):=by rw[hz];exact⟨AL,agt _,fun h=>(by cases h),agM _⟩
   have hfin:=zh (fun k i x h1 h2 h3=>(hG k i x h1 h2 h3).1) Kt 0 _ zo hx0;have hf2:=hfin.2.1;refine⟨2,0,n,(BB G Kt (z0,0,0,false)).2.1,(BB G Kt (z0,0,0,false)).1,⟨.inr ⟨rfl,rfl⟩,by omega,by omega⟩,by omega,by omega,hfin.1,by omega,?_⟩;have hn5:1≤n∧n≤5:=by omega
   clear hfin hn hf2;rw[←hz] at nw;clear hz;subst hzl;change aC _ _ _ _ _ [some (oF 2 0 (z0.length:Int) _ _)];refine zF HR Tryz.call8 Tryz.func8 [.cell 2 42,.tmp 3] fun Q hQ=>?_
   by_cases h1:300<L0.length
   case' pos=>
    refine De hL ?_
   case' neg=>
    have hLL:=hns h1;subst hLL;refine ae ?_
   all_goals
    refine aV [] [] (nt) ?_;refine dK hkw ht ?_;refine az (h0) rfl rfl ?_;refine dK hkw ht ?_
    by_cases h2:0<S.length
    case' pos=>
     obtain ⟨⟨s1,s2,s3⟩,ea⟩:∃x,S.getD 0 default=x:=⟨_,rfl⟩;have h3:=hs (s1,s2,s3);dsimp only at h3;generalize wi k a b (s1,s2,s3)=r at*
     generalize wi k a b (0,0,false)=r0 at*
     refine bh ea ?_;refine az (h3) rfl rfl ?_;refine Is ht m1 m2 hA2 hS6 (show(1:Int)+1=2 from rfl) ?_
    case' neg=>
     generalize wi k a b (0,0,false)=r at*
     refine Is ht m1 m2 hA2 hS6 (show(1:Int)+1=2 from rfl) ?_
    all_goals
     refine dB (nw) ?_;refine ae ?_;refine zC fw ?_
     refine aU (X:=Nat×ZS) (st:=fun z=>([(2,.ref 0 0 0 0),(5,.ref 1 0 0 0),(6,.ref 2 0 0 0),(9,.lit (.bool true)),(19,.ref 3 0 0 0),(96,.row 1 ((nl Kt).map (ie .u64))),(97,.lit (.int .i64 (Kt.length:Int))),(98,.lit (.int .i64 (z.1:Int)))],
      [some (.cells [.lit (.int .i64 0),.lit (.int .i64 0),.lit (.int .i64 0),.lit (.int .i64 0),.lit (.int .i64 0),.lit (.int .i64 0),.lit (.bool false),.lit (.pointer none),.lit (.pointer none),.lit (.pointer none),.lit (.pointer none)]),some (aX L z.2.2.2.1 z.2.2.2.2),some (.cells [.lit (.int .i64 (1+4)),.lit (.int .i64 0),.lit (.int .i64 0),.lit (.int .i64 0),.lit (.int .i64 0),.lit (.int .i64 0),.lit (.bool false),.lit (.pointer none),.lit (.pointer none),.lit (.pointer none),.lit (.pointer none)]),some (oF 2 0 (z0.length:Int) z.2.1 z.2.2.1)]))
      (inv:=fun z=>z.1≤Kt.length∧uq L z0.length z.1 z.2∧BB G Kt (z0,0,0,false)=BB G (Kt.drop z.1) z.2) (m:=fun z=>Kt.length-z.1) (0,z0,0,0,false) [some 1,some 2,some 3,some 7] ⟨agM _,hx0,by rw[agO]⟩ ?_
     rintro ⟨i,X,N,p,d⟩ ⟨hi,hz,hv⟩;dsimp only at hi hz hv ⊢
     by_cases hil:i<Kt.length
     · have hdr:Kt.drop i=Kt.getD i 0::Kt.drop (i+1):=by
        rw[ahn hil,ago,agp hil]
        rfl
       rw[hdr,pH] at hv;have hkey:(nl Kt).getD i 0=((Kt.getD i 0:Nat):Int):=bg Kt i;generalize Kt.getD i 0=key at*
       have gg:=hG (key%7) i (X,N,p,d) zo zo hz;have e2:((key:Nat):Int)%7=((key%7:Nat):Int):=by omega
       generalize hgx:G (key%7) (X,N,p,d)=gx at*
       obtain ⟨e,X',N',q,d'⟩:=gx;dsimp only at gg;refine dK hkey e2 ?_;refine zW [some 3,some 1] [] gg.2 ?_;refine aO (i+1,X',N',q,d') [some 0,some 1,some 2,some 3] ⟨by omega,gg.1,hv⟩ zo
     · obtain rfl:i=Kt.length:=by omega
       rw[aix,z6] at hv;rw[hv] at hQ;exact zE [some 3] hQ
end Go.Proofs.YtcnlmelpnflhnaaGreat
