import Derived.Test.YtcnlmelpnflhnaaGreatFw
import Derived.Test.YtcnlmelpnflhnaaGreatE7
import Derived.Test.YtcnlmelpnflhnaaGreatNi
import Derived.Test.YtcnlmelpnflhnaaGreatFb
import Derived.Test.YtcnlmelpnflhnaaGreatD1
namespace Go.Proofs.YtcnlmelpnflhnaaGreat
open Go.Eng Go.Vx
set_option linter.unusedSimpArgs false
set_option linter.unusedVariables false
set_option maxRecDepth 100000
theorem Oo {s:ByteArray} {z:Nat} {F:Bool→V→Prop} (h:∀z:Fin 256,rp s z.val=bl z.val) (hs:s.size=256) (hz:z<256):
 qb Tryz.prog 9 (.lit (.string s)) (.lit (.int .u8 z)) F=F true (.lit (.int .u8 (bl z:Int))):=by
 rw[PT zo,show((z:Nat):Int).toNat=z by omega,h ⟨z,hz⟩]
theorem D8 {n:Nat} (hn:n<18446744073709551616):aA Tryz.prog 96 [.lit (.int .u64 n)] [] (.I (bl n:Int)) []:=by
 refine zF pl Tryz.call96 Tryz.func96 [.tmp 2] fun Q hQ=>?_;obtain ⟨c,hc⟩:∃c:Int,c=bl n:=⟨_,rfl⟩;rw[←hc] at hQ
 by_cases h32:4294967296≤n
 case' pos=>
  have e1:=mJ (n:=n) (k:=32) h32;refine ae ?_;rw[show(n:Int)/4294967296=((n/2^32:Nat):Int) by omega];have hx:n/2^32<4294967296:=by omega
  generalize n/2^32=x at*
 case' neg=>
  refine ae ?_;have hx:n<4294967296:=by omega
  have e1:bl n=0+bl n:=by omega
  obtain ⟨x,rfl⟩:∃x,x=n:=⟨_,rfl⟩
 all_goals
  by_cases h16:65536≤x
  case' pos=>
   have e2:=mJ (n:=x) (k:=16) h16;refine ae ?_;rw[show(x:Int)/65536=((x/2^16:Nat):Int) by omega];have hy:x/2^16<65536:=by omega
   generalize x/2^16=y at*
  case' neg=>
   refine ae ?_;have hy:x<65536:=by omega
   have e2:bl x=0+bl x:=by omega
   obtain ⟨y,rfl⟩:∃y,y=x:=⟨_,rfl⟩
 all_goals
  by_cases h8:256≤y
  case' pos=>
   have e3:=mJ (n:=y) (k:=8) h8;refine ae ?_;rw[show(y:Int)/256=((y/2^8:Nat):Int) by omega];have hz:y/2^8<256:=by omega
   generalize y/2^8=z at*
  case' neg=>
   refine ae ?_;have hz:y<256:=by omega
   have e3:bl y=0+bl y:=by omega
   obtain ⟨z,rfl⟩:∃z,z=y:=⟨_,rfl⟩
 all_goals
  have hb8:=bI (n:=z) (k:=8) hz;rw[Oo (of_decide_eq_true zk) zk hz];exact zE [] hQ
theorem dZ {L:List Bool} {n:Nat} (hn:n<18446744073709551616) (h0:n≠0) (hL:L.length<1099511626000):
 aA Tryz.prog 38 [.ref 0 0 0 0,.lit (.int .u64 n)] [some (jY 1 L),some (jN L)] (.I 0) [some (jY 2 (L++ay n)),none,some (jN (L++ay n))]:=by
 refine zF pl Tryz.call38 Tryz.func38 [.tmp 4] fun Q hQ=>?_;have hb:=jV h0;have hb2:=bI (n:=n) (k:=64) hn;have hb3:=ko n;refine ae ?_;refine zC (D8 hn) ?_;rw[show((bl n:Int)-1)=((bl n-1:Nat):Int) by omega];refine zW [some 0,some 1] [] (cC (L:=L) (n:=0) (m:=((bl n-1:Nat):Int)) zo zo zo zo (amd _)) ?_;refine zW [some 0,some 2] [] (cC (L:=L++numBits 0 (bl n-1)) (n:=n) (m:=bl n) hn (by simp[aj];omega) zo zo (by simpa using hb3)) ?_;rw[akl];unfold ay at hQ;exact ai [some 0,some 1,some 3] hQ
theorem uz {L:List Bool} {n:Nat} (hn:n<18446744073709551616) (hL:L.length<1099511625000):
 aA Tryz.prog 99 [.ref 0 0 0 0,.lit (.int .u64 n)] [some (jY 1 L),some (jN L)] (.tup []) [some (jY 2 (L++cR n)),none,some (jN (L++cR n))]:=by
 refine zF pl Tryz.call99 Tryz.func99 [] fun Q hQ=>?_;refine ae ?_;have hvl:=rF n;have hb2:=bI (n:=n) (k:=64) hn
 refine aU (X:=Nat×List Bool) (st:=fun x=>([(0,.ref 0 0 0 0),(1,.lit (.int .u64 x.1))],[some (jY 2 x.2),none,some (jN x.2)]))
  (inv:=fun x=>x.2++cR x.1=L++cR n∧x.1≤n) (m:=fun x=>x.1) (n,L) [some 0,some 1,some 1] ⟨rfl,akk _⟩ ?_
 rintro ⟨x,M⟩ ⟨hM,hx⟩;simp only at hM hx;have hlen:=congrArg List.length hM;simp only[ake] at hlen
 by_cases h:x<128
 · rw[vJ h] at hM
   refine ae ?_;refine aF [some 0,some 2] [] (cC (L:=M) (n:=x) (m:=8) zo zo zo zo (by simp only[Int.reduceToNat];omega)) ?_;simp only[Int.reduceToNat];rw[hM];exact zE [some 0,some 1,some 3] hQ
 · rw[we h,←akl] at hM
   refine ae ?_;rw[Rx];refine aF [some 0,some 2] [] (cC (L:=M) (n:=128+x%128) (m:=8) zo zo zo zo (by simp only[Int.reduceToNat];omega)) ?_;simp only[Int.reduceToNat];refine ae ?_;refine aR (x/128,M++numBits (128+x%128) 8) [some 0,some 1,some 3] ⟨hM,by simp only;omega⟩ (by simp only;omega)
theorem rO {L:List Bool} {n w:Nat}:∀f q,q≤L.length→q≤(dC L n w f q).2.2.1∧(dC L n w f q).2.2.1≤L.length
 | 0,q,h=>⟨h,akk _⟩
 | f+1,q,h=>by
   unfold dC
   split
   · split
     · exact⟨alz _ _,by assumption⟩
     · obtain ⟨h1,h2⟩:=rO (n:=n) (w:=w) f (q+w) (by assumption)
       exact⟨by omega,h2⟩
   · exact⟨h,akk _⟩
theorem tF {L:List Bool} {n p:Nat} (h:p≤L.length):p≤(cq L n p).2.2.1∧(cq L n p).2.2.1≤L.length:=rO _ _ h
theorem oa {L:List Bool} {n p:Nat} (hn:0<n):cq L n p=(0,8,L.length,true)∨∃x q,x<n∧cq L n p=(x,0,q,false):=by
 unfold cq;generalize bl (n-1)=w;generalize L.length+1-p=f
 induction f generalizing p with
 | zero=>exact .inl rfl
 | succ f ih=>
   unfold dC
   split
   · split
     · rename_i h;exact .inr ⟨_,_,h,rfl⟩
     · exact ih
   · exact .inl rfl
def ahd (N took:Nat) (e:Int):V:=.agg [.lit (.int .u64 N),.I took,.I e]
attribute [go_sem] ahd
open Go.Eng
def kp (X:List (Nat×Nat)):List Bool:=X.flatMap fun x=>numBits x.1 61++ay x.2
def eG (X:List (Nat×Nat)) (N:Nat):List Bool:=cR N++if N=0 then [] else kp X
theorem jL (x:Nat×Nat) (X:List (Nat×Nat)):kp (x::X)=numBits x.1 61++ay x.2++kp X:=by simp[kp]
theorem M8 (X Y:List (Nat×Nat)):kp (X++Y)=kp X++kp Y:=by simp[kp]
def kH (L:List Bool) (T:Nat):Nat→Nat→Option (List (Nat×Nat))×Nat×Int
 | 0,p=>(some [],p,0)
 | c+1,p=>
   if p+61≤L.length then
    (if (gX L (p+61)).2.2=0 then
     (if 2305843009213693951≤numOf ((L.drop p).take 61)∨T<(gX L (p+61)).1 then(none,(gX L (p+61)).2.1,4)
      else((kH L T c (gX L (p+61)).2.1).1.map (fun X=>(numOf ((L.drop p).take 61),(gX L (p+61)).1)::X),(kH L T c (gX L (p+61)).2.1).2))
     else(none,(gX L (p+61)).2.1,(gX L (p+61)).2.2))
   else(none,p,5)
theorem Hx {L:List Bool} {T p:Nat}:kH L T 0 p=(some [],p,0):=rfl
theorem yl {L:List Bool} {T c p:Nat}:kH L T (c+1) p=
 if p+61≤L.length then
  (if (gX L (p+61)).2.2=0 then
   (if 2305843009213693951≤numOf ((L.drop p).take 61)∨T<(gX L (p+61)).1 then(none,(gX L (p+61)).2.1,4)
    else((kH L T c (gX L (p+61)).2.1).1.map (fun X=>(numOf ((L.drop p).take 61),(gX L (p+61)).1)::X),(kH L T c (gX L (p+61)).2.1).2))
   else(none,(gX L (p+61)).2.1,(gX L (p+61)).2.2))
 else(none,p,5):=rfl
def tE (L:List Bool) (C p:Nat):Option (List (Nat×Nat)×Nat)×Nat×Int:=
 if (vX L p).2.2=0 then
  (if 1048576<(vX L p).1 then(none,(vX L p).2.1,4)
   else if (vX L p).1=0 then(some (List.replicate C (0,0),0),(vX L p).2.1,0)
   else((kH L (vX L p).1 C (vX L p).2.1).1.map (fun X=>(X,(vX L p).1)),(kH L (vX L p).1 C (vX L p).2.1).2))
 else(none,(vX L p).2.1,(vX L p).2.2)
theorem Jh {L:List Bool} {T:Nat}:∀{c p:Nat},p≤L.length→(kH L T c p).2.1≤L.length
 | 0,p,h=>h
 | c+1,p,h=>by
   unfold kH
   split
   · rename_i h1
     have h2:=Kz h1
     split
     · split
       · exact h2
       · exact Jh (c:=c) h2
     · exact h2
   · exact h
theorem De {L:List Bool} {T:Nat}:∀{c p:Nat} {X:List (Nat×Nat)},p≤L.length→(kH L T c p).1=some X→
 L.drop p=kp X++L.drop (kH L T c p).2.1∧(kH L T c p).2.2=0∧X.length=c∧(∀x∈X,x.1<2305843009213693951∧1≤x.2∧x.2≤T)∧p≤(kH L T c p).2.1
 | 0,p,X,hp,h=>by
   injection h with h;subst h;exact⟨rfl,rfl,rfl,fun x hx=>(by cases hx),akk _⟩
 | c+1,p,X,hp,h=>by
   by_cases h1:p+61≤L.length
   · by_cases h2:(gX L (p+61)).2.2=0
     · by_cases h3:2305843009213693951≤numOf ((L.drop p).take 61)∨T<(gX L (p+61)).1
       · unfold kH at h
         rw[if_pos h1,if_pos h2,if_pos h3] at h
         cases h
       · have e:kH L T (c+1) p=((kH L T c (gX L (p+61)).2.1).1.map (fun X=>(numOf ((L.drop p).take 61),(gX L (p+61)).1)::X),(kH L T c (gX L (p+61)).2.1).2):=by
          conv=>lhs;unfold kH
          rw[if_pos h1,if_pos h2,if_neg h3]
         rw[e] at h ⊢;have hg:=Si h2;have hpos:=IE h2
         cases hr:(kH L T c (gX L (p+61)).2.1).1 with
         | none=>rw[hr] at h;cases h
         | some Y=>
           rw[hr] at h;injection h with h;subst h;obtain ⟨k1,k2,k3,k4,k5⟩:=De (c:=c) hg.2.1 hr;dsimp only;refine⟨?_,k2,by rw[List.length_cons,k3],fun x hx=>?_,by omega⟩
           · rw[jL,ga h1,akl,akl,←k1,←hg.1,←gn]
           · rcases aky.1 hx with rfl | hx
             · exact⟨by dsimp only;omega,by dsimp only;omega,by dsimp only;omega⟩
             · exact k4 x hx
     · unfold kH at h
       rw[if_pos h1,if_neg h2] at h
       cases h
   · unfold kH at h
     rw[if_neg h1] at h
     cases h
theorem yh {L:List Bool} {T:Nat}:∀{c p:Nat},(kH L T c p).1=none→(kH L T c p).2.2=4∨(kH L T c p).2.2=5
 | 0,p,h=>by cases h
 | c+1,p,h=>by
   have hg:=(YQ L (p+61)).2.2.2;unfold kH at*
   split at h
   · rename_i h1
     rw[if_pos h1]
     split at h
     · rename_i h2
       rw[if_pos h2]
       split at h
       · rename_i h3
         rw[if_pos h3];exact .inl rfl
       · rename_i h3
         rw[if_neg h3];exact yh (c:=c) (amm.1 h)
     · rename_i h2
       rw[if_neg h2];dsimp only;omega
   · rename_i h1
     rw[if_neg h1];exact .inr rfl
theorem yu {T:Nat} {R:List Bool}:∀(X:List (Nat×Nat)) (A:List Bool),(∀x∈X,x.1<2305843009213693951∧1≤x.2∧x.2≤T)→T≤1048576→
 kH (A++(kp X++R)) T X.length A.length=(some X,A.length+(kp X).length,0)
 | [],A,h,hT=>by simp[kH,kp]
 | x::X,A,h,hT=>by
   obtain ⟨h1,h2,h3⟩:=h x (by simp);have ih:=yu (T:=T) (R:=R) X (A++numBits x.1 61++ay x.2) (fun y hy=>h y (by simp[hy])) hT;have e:A++(kp (x::X)++R)=A++numBits x.1 61++ay x.2++(kp X++R):=by rw[jL];simp
   have e2:A++(kp (x::X)++R)=A++numBits x.1 61++(ay x.2++(kp X++R)):=by rw[jL];simp
   have e3:A++(kp (x::X)++R)=A++(numBits x.1 61++(ay x.2++(kp X++R))):=by rw[jL];simp
   have hn:numOf (((A++(kp (x::X)++R)).drop A.length).take 61)=x.1:=by
    rw[e3,amM,alo (aj _ _),ba,akG zo]
   have hl:A.length+61≤(A++(kp (x::X)++R)).length:=by rw[e3];simp[aj]
   have hg:gX (A++(kp (x::X)++R)) (A.length+61)=(x.2,A.length+61+(ay x.2).length,0):=by
    have:=CM (A:=A++numBits x.1 61) (T:=kp X++R) (n:=x.2) zo zo
    rw[ake,aj] at this;rw[e2];exact this
   rw[List.length_append,List.length_append,aj,←e] at ih;rw[List.length_cons];unfold kH;rw[if_pos hl,hg];dsimp only;rw[if_pos rfl,hn,if_neg zo,ih,jL];simp only[Option.map_some,List.length_append,aj]
   congr 2
   omega
theorem Sv {L:List Bool} {C p:Nat} (h:p≤L.length):(tE L C p).2.1≤L.length:=by
 have h1:(vX L p).2.1≤L.length:=si _ _ _ _ h;unfold tE
 split
 · split
   · exact h1
   · split
     · exact h1
     · exact Jh h1
 · exact h1
theorem KA {L:List Bool} {C p:Nat} (h:(tE L C p).1=none):(tE L C p).2.2=4∨(tE L C p).2.2=5:=by
 have hv:(vX L p).2.2=0∨(vX L p).2.2=4∨(vX L p).2.2=5:=DP _ _ _ _;unfold tE at*
 split at h
 · rename_i h1
   rw[if_pos h1]
   split at h
   · rename_i h2
     rw[if_pos h2];exact .inl rfl
   · rename_i h2
     rw[if_neg h2]
     split at h
     · cases h
     · rename_i h3
       rw[if_neg h3];exact yh (amm.1 h)
 · rename_i h1
   rw[if_neg h1];dsimp only;omega
def okA (C:Nat) (X:List (Nat×Nat)) (N:Nat):Prop:=X.length=C∧N≤1048576∧(∀x∈X,x.1<2305843009213693951∧x.2≤N)∧((0<N∧∀x∈X,1≤x.2)∨(N=0∧∀x∈X,x=(0,0)))
theorem MV {L:List Bool} {C p:Nat} {X:List (Nat×Nat)} {N:Nat} (hp:p≤L.length) (h:(tE L C p).1=some (X,N)):
 L.drop p=eG X N++L.drop (tE L C p).2.1∧(tE L C p).2.2=0∧okA C X N∧p≤(tE L C p).2.1:=by
 by_cases h1:(vX L p).2.2=0
 · obtain ⟨k1,k2,k3⟩:=Rt h1
   by_cases h2:1048576<(vX L p).1
   · unfold tE at h
     rw[if_pos h1,if_pos h2] at h
     cases h
   · by_cases h3:(vX L p).1=0
     · have e:tE L C p=(some (List.replicate C (0,0),0),(vX L p).2.1,0):=by unfold tE;rw[if_pos h1,if_neg h2,if_pos h3]
       rw[e] at h ⊢;injection h with h;injection h with ha hb;subst ha hb;rw[h3] at k1;refine⟨?_,rfl,⟨akB,by decide,fun x hx=>?_,.inr ⟨rfl,fun x hx=>alR hx⟩⟩,k3⟩
       · unfold eG
         rw[if_pos rfl,ak7];exact k1
       · rw[alR hx]
         exact⟨by decide,akk _⟩
     · have e:tE L C p=((kH L (vX L p).1 C (vX L p).2.1).1.map (fun X=>(X,(vX L p).1)),(kH L (vX L p).1 C (vX L p).2.1).2):=by unfold tE;rw[if_pos h1,if_neg h2,if_neg h3]
       rw[e] at h ⊢
       cases hr:(kH L (vX L p).1 C (vX L p).2.1).1 with
       | none=>rw[hr] at h;cases h
       | some Y=>
         rw[hr] at h;injection h with h;injection h with ha hb;obtain ⟨j1,j2,j3,j4,j5⟩:=De k2 hr;subst ha hb;dsimp only;refine⟨?_,j2,⟨j3,by omega,fun x hx=>⟨(j4 x hx).1,(j4 x hx).2.2⟩,.inl ⟨by omega,fun x hx=>(j4 x hx).2.1⟩⟩,by omega⟩;unfold eG;rw[if_neg h3,List.append_assoc,←j1];exact k1
 · unfold tE at h
   rw[if_neg h1] at h
   cases h
theorem y6 {A R:List Bool} {C:Nat} {X:List (Nat×Nat)} {N:Nat} (h:okA C X N):tE (A++(eG X N++R)) C A.length=(some (X,N),A.length+(eG X N).length,0):=by
 obtain ⟨h1,h2,h3,h4⟩:=h;rcases h4 with⟨h4,h5⟩ | ⟨h4,h5⟩
 · have hb:eG X N=cR N++kp X:=by unfold eG;rw[if_neg zo]
   have hv:=wt (A:=A) (T:=kp X++R) (n:=N) zo;have e:A++(eG X N++R)=A++(cR N++(kp X++R)):=by rw[hb];simp
   have e2:A++(eG X N++R)=A++cR N++(kp X++R):=by rw[hb];simp
   have hr:=yu (T:=N) (R:=R) X (A++cR N) (fun x hx=>⟨(h3 x hx).1,h5 x hx,(h3 x hx).2⟩) h2;rw[←e2,List.length_append,h1] at hr;rw[←e] at hv;unfold tE;rw[hv];dsimp only;rw[if_pos rfl,if_neg zo,if_neg zo,hr,hb];simp only[Option.map_some,List.length_append]
   congr 2
   omega
 · subst h4
   have hX:X=List.replicate C (0,0):=List.eq_replicate_iff.2 ⟨h1,h5⟩;have hb:eG X 0=cR 0:=by unfold eG;rw[if_pos rfl,ak7]
   have hv:=wt (A:=A) (T:=R) (n:=0) zd;rw[hb];unfold tE;rw[hv];dsimp only;rw[if_pos rfl,if_neg zd,if_pos rfl,hX]
theorem J8 (a b:Nat) (hb:b<8):a*8 ||| b=a*8+b:=by
 have:=ami (i:=3) (b:=b) hb a
 rw[show(2:Nat)^3=8 from rfl,akC 8 a] at this;exact this.symm
theorem Ns {a b:Nat} (ha:a<18446744073709551616) (hb:b<18446744073709551616):aA Tryz.prog 174 [.lit (.int .u64 a),.lit (.int .u64 b)] [] (.lit (.int .u64 ((a*b%pr:Nat):Int))) []:=by
 refine zF pl Tryz.call174 Tryz.func174 [.tmp 4] fun Q hQ=>?_;have e1:(a:Int)%2305843009213693951=((a%2305843009213693951:Nat):Int):=by omega
 have e2:(b:Int)%2305843009213693951=((b%2305843009213693951:Nat):Int):=by omega
 have hab:a*b%pr=(a%2305843009213693951)*(b%2305843009213693951)%2305843009213693951:=by unfold pr;rw[←Nat.mul_mod]
 rw[hab] at hQ;have l1:a%2305843009213693951<2305843009213693951:=akD _ zd;have l2:b%2305843009213693951<2305843009213693951:=akD _ zd;generalize a%2305843009213693951=x at*
 generalize b%2305843009213693951=y at*
 have hxy:x*y≤2305843009213693950*2305843009213693950:=akH zo zo;refine eo e1 e2 ?_;refine aC (rZ (x:=x) (y:=y) zo zo) rfl rfl ?_;generalize x*y=z at*
 have hm:=agb z;have hhi:z/18446744073709551616<288230376151711744:=by omega
 have f1:((z%18446744073709551616:Nat):Int)%2305843009213693952=((z%2305843009213693952:Nat):Int):=by omega
 have f2:((z%18446744073709551616:Nat):Int)/2305843009213693952=((z%18446744073709551616/2305843009213693952:Nat):Int):=by omega
 have f3:((z/18446744073709551616:Nat):Int)*8=((z/18446744073709551616*8:Nat):Int):=by omega
 have f4:bS .or .u64 ((z/18446744073709551616*8:Nat):Int) ((z%18446744073709551616/2305843009213693952:Nat):Int)=((z/2305843009213693952:Nat):Int):=by
  rw[iK zo zo,J8 _ _ zo];omega
 have f5:(((z%2305843009213693952:Nat):Int)+((z/2305843009213693952:Nat):Int))%2305843009213693951=((z%2305843009213693951:Nat):Int):=by omega
 refine Oc f1 f2 f3 f4 f5 ?_;exact ai [] hQ
end Go.Proofs.YtcnlmelpnflhnaaGreat
