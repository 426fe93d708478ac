import Derived.Test.YtcnlmelpnflhnaaGreatBh
import Derived.Test.YtcnlmelpnflhnaaGreatBf
import Derived.Test.YtcnlmelpnflhnaaGreatBm
import Derived.Test.YtcnlmelpnflhnaaGreatIp
import Derived.Test.YtcnlmelpnflhnaaGreatBq
import Derived.Test.YtcnlmelpnflhnaaGreatOg
import Derived.Test.YtcnlmelpnflhnaaGreatAc
import Derived.Test.YtcnlmelpnflhnaaGreatAf
namespace Go.Proofs.YtcnlmelpnflhnaaGreat
open Go.Eng Go.Vx
set_option linter.unusedSimpArgs false
set_option linter.unusedVariables false
set_option maxRecDepth 100000
theorem bG {A T:List Bool} {n:Nat} (hn:n≤1048575):eY (A++(ay (n+1)++T)) A.length 0=((n:Int),A.length+(ay (n+1)).length,0):=by
 have g:=CM (A:=A) (T:=T) (n:=n+1) zo zo;unfold eY;rw[if_pos rfl,g];dsimp only;rw[if_pos rfl,if_neg zo]
 congr 1
 omega
theorem jI {A T:List Bool} {k a b:Nat} (hk:k≤1048575) (ha:a≤1048575) (hb:b≤1048575):xy (A++(cu [k,a,b]++T)) A.length 0=(((k:Int),(a:Int),(b:Int)),A.length+(cu [k,a,b]).length,0):=by
 have e0:A++(cu [k,a,b]++T)=A++(ay (k+1)++(ay (a+1)++(ay (b+1)++T))):=by simp[cu]
 have e1:A++(ay (k+1)++(ay (a+1)++(ay (b+1)++T)))=(A++ay (k+1))++(ay (a+1)++(ay (b+1)++T)):=by simp
 have e2:A++(ay (k+1)++(ay (a+1)++(ay (b+1)++T)))=(A++ay (k+1)++ay (a+1))++(ay (b+1)++T):=by simp
 have n1:=bG (A:=A) (T:=ay (a+1)++(ay (b+1)++T)) hk;have n2:=bG (A:=A++ay (k+1)) (T:=ay (b+1)++T) ha;have n3:=bG (A:=A++ay (k+1)++ay (a+1)) (T:=T) hb;rw[←e1] at n2;rw[←e2] at n3;rw[List.length_append] at n2;rw[List.length_append,List.length_append] at n3;rw[e0];unfold xy;rw[n1];dsimp only;rw[n2];dsimp only;rw[n3];have hl:(cu [k,a,b]).length=(ay (k+1)).length+(ay (a+1)).length+(ay (b+1)).length:=by simp[cu];omega
 rw[hl];simp only[alN]
theorem rB {k a b:Nat}:∀(l:List SR),du (wd k a b) (l.map (iL k a b))=l.flatMap (dr k a b)
 | []=>rfl
 | s::l=>by
   rw[akK,List.flatMap_cons,←rB l,←n5 (s:=s)]
   rfl
theorem nQ {k a b:Nat} {R:List Bool} (h:aX k a b):∀(l:List SR) (A:List Bool),(∀s∈l,aZ k a b s)→nE (A++(l.flatMap (dr k a b)++R)) k a b l.length A.length=(some l,A.length+(l.flatMap (dr k a b)).length,0)
 | [],A,_=>rfl
 | s::l,A,hw=>by
   have e0:A++((s::l).flatMap (dr k a b)++R)=A++(dr k a b s++(l.flatMap (dr k a b)++R)):=by simp
   have e1:A++(dr k a b s++(l.flatMap (dr k a b)++R))=(A++dr k a b s)++(l.flatMap (dr k a b)++R):=by simp
   have r1:=jE (A:=A) (R:=l.flatMap (dr k a b)++R) h (hw s amr);have ih:=nQ (R:=R) h l (A++dr k a b s) (fun x hx=>hw x (alI _ hx));have hlen:(A++dr k a b s).length=A.length+wd k a b:=by rw[ake,ey];rfl
   rw[←e1,hlen] at ih;rw[e0,List.length_cons,kZ,r1];dsimp only;rw[ih,List.flatMap_cons,List.length_append,ey];simp only[Option.map_some]
   congr 2
   unfold wd;omega
theorem FA {A R:List Bool} {k a b C:Nat} {r:RW} (h:aX k a b) (ok:bB k a b C r):ma (A++(BD k a b r++R)) k a b C A.length=(some r,A.length+(BD k a b r).length,0):=by
 obtain ⟨x,y,l⟩:=r;obtain ⟨o1,o2,o3,o4⟩:=ok;dsimp only at o1 o2 o3 o4;subst o3
 have hb:BD k a b (x,y,l)=numBits x 61++(numBits y 61++l.flatMap (dr k a b)):=by
  unfold BD;rw[rB,akl]
 have e0:A++(BD k a b (x,y,l)++R)=A++(numBits x 61++(numBits y 61++(l.flatMap (dr k a b)++R))):=by rw[hb];simp
 have e1:A++(numBits x 61++(numBits y 61++(l.flatMap (dr k a b)++R)))=(A++numBits x 61)++(numBits y 61++(l.flatMap (dr k a b)++R)):=by simp
 have e2:A++(numBits x 61++(numBits y 61++(l.flatMap (dr k a b)++R)))=(A++numBits x 61++numBits y 61)++(l.flatMap (dr k a b)++R):=by simp
 have t1:=qe (A:=A) (B:=numBits x 61) (R:=numBits y 61++(l.flatMap (dr k a b)++R)) (aj _ _);have t2:=qe (A:=A++numBits x 61) (B:=numBits y 61) (R:=l.flatMap (dr k a b)++R) (aj _ _);have c:=nQ (R:=R) h l (A++numBits x 61++numBits y 61) o4;rw[←e1,ake,aj] at t2;have l2:(A++numBits x 61++numBits y 61).length=A.length+122:=by rw[ake,ake,aj,aj]
 rw[←e2,l2] at c;rw[e0]
 have hlen:A.length+122≤(A++(numBits x 61++(numBits y 61++(l.flatMap (dr k a b)++R)))).length:=by
  rw[e2,ake,l2];omega
 unfold ma;rw[if_pos zo,if_pos hlen,t1,t2,ba,ba,akG zo,akG zo,if_pos ⟨o1,o2⟩,c,hb];simp only[ald,ake,aj]
 congr 2
 omega
theorem sL {k a b C:Nat} {R:List Bool} (h:aX k a b):∀(l:List RW) (A:List Bool),(∀r∈l,bB k a b C r)→fh (A++(dQ k a b l++R)) k a b C l.length A.length=(some l,A.length+(dQ k a b l).length,0)
 | [],A,_=>rfl
 | r::l,A,hw=>by
   have e0:A++(dQ k a b (r::l)++R)=A++(BD k a b r++(dQ k a b l++R)):=by simp[dQ]
   have e1:A++(BD k a b r++(dQ k a b l++R))=(A++BD k a b r)++(dQ k a b l++R):=by simp
   have r1:=FA (A:=A) (R:=dQ k a b l++R) h (hw r amr);have ih:=sL (R:=R) h l (A++BD k a b r) (fun x hx=>hw x (alI _ hx));rw[←e1,ake] at ih;have hl:(dQ k a b (r::l)).length=(BD k a b r).length+(dQ k a b l).length:=by simp[dQ]
   rw[e0,List.length_cons,ir,r1];dsimp only;rw[ih,hl];simp only[Option.map_some]
   congr 2
   omega
theorem xB {A R:List Bool} {k a b C T:Nat} {l:List RW} (h:aX k a b) (hT:T≤1099511627776) (hw:∀r∈l,bB k a b C r):D4 (A++(pW k a b l T++R)) l.length C k a b A.length=(some (l,T),A.length+(pW k a b l T).length,0):=by
 have e0:A++(pW k a b l T++R)=A++(cR T++(dQ k a b l++R)):=by simp[pW]
 have e1:A++(cR T++(dQ k a b l++R))=(A++cR T)++(dQ k a b l++R):=by simp
 have v:=wt (A:=A) (T:=dQ k a b l++R) (n:=T) zo;have r:=sL (R:=R) h l (A++cR T) hw;rw[←e1,ake] at r;have hl:(pW k a b l T).length=(cR T).length+(dQ k a b l).length:=by simp[pW]
 rw[e0];unfold D4;rw[v];dsimp only;rw[if_pos rfl,if_neg zo,r,hl];simp only[Option.map_some]
 congr 2
 omega
def tU (l:List Nat):Prop:=aA Tryz.prog 11 [.row 1 ((nl l).map (ie .u8))] [] (.tup [p7 0,.I 13]) []
def mB (x:V) (E:List Nat):Prop:=E.length≤1200∧aA Tryz.prog 10 [x] [] (.tup [.sl 0 1 0 E.length,.I 0]) [some (.row 1 ((nl E).map (ie .u8)))]
theorem k7 {x:V} {L:List Bool} (hL:L.length≤9000) (en:aA Tryz.prog 10 [x] [] (.tup [.sl 0 1 0 ((j9 L).length+4),.I 0]) [some (.row 1 ((nl (aT (j9 L))).map (ie .u8)))]):mB x (aT (j9 L)):=by
 refine⟨by rw[fj,gU];omega,?_⟩;rw[fj];exact en
theorem mB.row {x:V} {E:List Nat} (h:mB x E):aA Tryz.prog 10 [x] [] (.tup [.row 1 ((nl E).map (ie .u8)),.I 0]) []:=by
 have en:=h.2;have hEl:=av E;generalize nl E=N at*
 exact sF [] (en)
theorem Dm {k a b:Nat} {s:SR} (h:aX k a b) (w:aZ k a b s):mB (zH k a b s) (aT (j9 (bT 1++cu [k,a,b]++dr k a b s))):=by
 refine k7 ?_ (Mz h w)
 have hN:∀x∈([k,a,b]:List Nat),x≤1048576:=by
  intro x hx;simp only[aky,ak6,or_false] at hx;rcases h with h | h | h | h<;>omega
 have hgl:=cQ hN;have hhl:=eW 1;have hwl:=Bh h;have hrl:=ey k a b s;have hN3:([k,a,b]:List Nat).length=3:=rfl;rw[ake,ake];omega
theorem CO {k a b n:Nat} {l:List SR} (h:aX k a b) (hn:n≤256) (hM:l.length=n):mB (pZ k a b n l) (aT (j9 (bT 2++cu [k,a,b,n]++du (wd k a b) (l.map (iL k a b))))):=by
 refine k7 ?_ (N0 h hn hM)
 have hN:∀x∈([k,a,b,n]:List Nat),x≤1048576:=by
  intro x hx;simp only[aky,ak6,or_false] at hx;rcases h with h | h | h | h<;>omega
 have hgl:=cQ hN;have hhl:=eW 2;have hrl:=jm (wd k a b) (l.map (iL k a b));rw[aki] at hrl;have hwd:=ff h;have hnw:l.length*wd k a b≤256*16:=akH zo hwd.2;have hN3:([k,a,b,n]:List Nat).length=4:=rfl;rw[ake,ake];omega
theorem Dz {M D S:Nat} {st:SS} (hM:M≤16) (hD:D≤4) (hS:S≤8) (hX:st.1.length≤256) (hc:∀c∈st.1,c.1<2^M∧c.2<2^D) (hs:1≤st.2.1∧st.2.1≤8):mB (p8 M D S st) (aT (j9 (bT 3++cu [M,D,S,st.1.length]++eC M D st))):=by
 refine k7 ?_ (LR hM hD hS hX hc hs)
 have hN:∀x∈([M,D,S,st.1.length]:List Nat),x≤1048576:=by
  intro x hx;simp only[aky,ak6,or_false] at hx;omega
 have hgl:=cQ hN;have hhl:=eW 3;have hrl:=np M D st;have hnw:st.1.length*(M+D)≤256*20:=akH hX zo;have hN3:([M,D,S,st.1.length]:List Nat).length=4:=rfl;rw[ake,ake];omega
theorem DM {R C k a b T:Nat} {l:List RW} (h:aX k a b) (hC:1≤C∧C≤64) (hR:R≤4) (hl1:l.length≤4) (hl:∀r∈l,bB k a b C r) (hT:T≤1099511627776):mB (p6 R C k a b l T) (aT (j9 (bT 4++cu [R,C,k,a,b]++pW k a b l T))):=by
 refine k7 ?_ (Nh h hC hR hl1 hl hT)
 have hN:∀x∈([R,C,k,a,b]:List Nat),x≤1048576:=by
  intro x hx;simp only[aky,ak6,or_false] at hx;rcases h with h | h | h | h<;>omega
 have hgl:=cQ hN;have hhl:=eW 4;have hrl:(pW k a b l T).length=(cR T).length+l.length*(122+C*wd k a b):=by unfold pW;rw[ake,nM hl]
 have hvl:=r7 hT;have hwd:=ff h;have hnw:l.length*(122+C*wd k a b)≤4*(122+64*16):=akH hl1 (Nat.add_le_add_left (akH hC.2 hwd.2) _);have hN3:([R,C,k,a,b]:List Nat).length=5:=rfl;rw[ake,ake];omega
theorem C6 {K P C T:Nat} {X:List (Nat×Nat)} (hK:K≤8) (hP:P≤8) (hC:C≤16) (hX:X.length≤16) (hk:∀x∈X,x.1<2305843009213693951∧x.2≤1048576) (h1:T=0∨∀x∈X,1≤x.2) (hT:T≤1048576):mB (pY K P C X T) (aT (j9 (bT 5++cu [K,P,C]++eG X T))):=by
 refine k7 ?_ (N7 hK hP hC hX hk h1 hT)
 have hN:∀x∈([K,P,C]:List Nat),x≤1048576:=by
  intro x hx;simp only[aky,ak6,or_false] at hx;omega
 have hgl:=cQ hN;have hhl:=eW 5
 have hrl:(eG X T).length≤24+16*102:=by
  have hv:=mT hT;unfold eG;rw[ake]
  split
  · rw[akz];omega
  · rename_i h0
    have:=qE (X:=X) fun x hx=>⟨(h1.resolve_left h0) x hx,(hk x hx).2⟩
    have h2:X.length*102≤16*102:=akI _ hX;omega
 have hN3:([K,P,C]:List Nat).length=3:=rfl;rw[ake,ake];omega
def okW (l:List Nat):Prop:=l.length≤4096∧∃c0 c1 c2 c3 c4 c5 c6 c7 c8 c9 c10:V,lB.plnL [c0,c1,c2,c3,c4,c5,c6,c7,c8,c9,c10]=true∧
 aA Tryz.prog 11 [.row 1 ((nl l).map (ie .u8))] [] (.tup [.agg [c0,c1,c2,c3,c4,c5,c6,c7,c8,c9,c10],.I 0]) []∧
 aA Tryz.prog 9 [.agg [c0,c1,c2,c3,c4,c5,c6,c7,c8,c9,c10]] [] (.I 0) []∧
 aA Tryz.prog 10 [.agg [c0,c1,c2,c3,c4,c5,c6,c7,c8,c9,c10]] [] (.tup [.row 1 ((nl l).map (ie .u8)),.I 0]) []
def Gh (L:List Bool):List Bool:=List.replicate (8*((L.length+7)/8)-L.length) false
theorem tu {t:Nat} {M:List Bool} (ht:t<8) (hm:(bT t++M).length≤9600):let E:=aT (j9 (bT t++M))
 (∀x∈E,x<256)∧4≤E.length∧E.length≤4096∧aT (E.take (E.length-4))=E∧4<E.length∧bitsOf (nl (aO E))=bT t++(M++Gh (bT t++M))∧E.length-4=((bT t++M).length+7)/8∧
 numOf ((bitsOf (nl (aO E))).take 4)=1∧numOf (((bitsOf (nl (aO E))).drop 4).take 3)=t∧dE (bitsOf (nl (aO E))) (bT t++M).length=0:=by
 intro E;have hl:E.length=(j9 (bT t++M)).length+4:=fj _;have hp:=gU (bT t++M);have hh:=eW t;have hap:(bT t++M).length=7+M.length:=by rw[ake,hh]
 have htk:E.take (E.length-4)=j9 (bT t++M):=by rw[hl,alJ];exact Cu _
 have hi:aO E=j9 (bT t++M):=htk;have hb:bitsOf (nl (aO E))=bT t++(M++Gh (bT t++M)):=by rw[hi,←sQ,oU,akl];rfl
 refine⟨Hf (lx _),by omega,by omega,by rw[htk],by omega,hb,by omega,?_,?_,?_⟩
 · rw[hb]
   unfold bT;rw[akl,alo (aj _ _),ba]
 · rw[hb]
   unfold bT;rw[akl,List.drop_left' (aj _ _),alo (aj _ _),ba,akG zo]
 · rw[hb,←akl]
   have hz:(Gh (bT t++M)).length<8:=by unfold Gh;rw[akB];omega
   unfold dE;rw[if_neg (by rw[ake];omega),List.drop_left' rfl,if_neg];unfold Gh
   simp
def Ms (Kd kk aa bb:Int) (S:List (Int×Int×Bool)) (M D Sc R C ck ca cb:Int) (W Ky:List Nat) (L0:List Bool):List V:=[.I Kd,.I kk,.I aa,.I bb,.row 3 (S.map Zx),.I M,.I D,.I Sc,.I R,.I C,.I ck,.I ca,.I cb,.row 1 ((nl W).map (ie .u64)),.row 1 ((nl Ky).map (ie .u64)),.row 1 (L0.map be)]
attribute [go_sem] Ms
theorem Jp {Kd kk aa bb:Int} {S:List (Int×Int×Bool)} {M D Sc R C ck ca cb:Int} {W Ky:List Nat} {L0:List Bool} (ht:(Kd.tmod 5+5)%5=0) (hS:S.length≤9223372036854775807) (hL0:L0.length≤9223372036854775807):
 ∃(k a b:Nat) (s:SR),Pe k a b∧aZ k a b s∧aA Tryz.prog 8 [.agg (Ms Kd kk aa bb S M D Sc R C ck ca cb W Ky L0)] [] (.tup [zH k a b s,.lit (.bool true)]) []:=by
 obtain ⟨k,a,b,hsm,hs⟩:=gb (kk:=kk) (aa:=aa) (bb:=bb);have ow:=kS (k:=k) (a:=a) (b:=b);have hg:=eR hsm;have h0:=hs (0,0,false);dsimp only at h0;have hL1:(L0.take 300).length≤300:=by rw[List.length_take];omega
 have nt:=oh (L:=L0.take 300) zo;have hns:¬300<L0.length→L0.take 300=L0:=fun h=>aku zo;generalize hL:L0.take 300=L at*
 have t1: -5<Kd.tmod 5:=by have:=amF Kd (b:=5) zd;omega
 have t2:Kd.tmod 5<5:=amf Kd zd;have hkw:IntKind.i64.wrap (Kd.tmod 5+5)=Kd.tmod 5+5:=wrap_i64 ⟨by omega,by omega⟩;refine⟨k,a,b,if 0<S.length then wi k a b (S.getD 0 default) else wi k a b (0,0,false),hsm,?_,?_⟩
 · split<;>exact DO
 refine zF LG Tryz.call8 Tryz.func8 [.cell 2 42,.tmp 3] fun Q hQ=>?_
 by_cases h1:300<L0.length
 · refine Gb hL ?_
   refine aF [] [] (nt) ?_;refine eo hkw ht ?_;refine aC (h0) rfl rfl ?_;refine eo hkw ht ?_
   by_cases h2:0<S.length
   · obtain ⟨⟨s1,s2,s3⟩,ea⟩:∃x,S.getD 0 default=x:=⟨_,rfl⟩
     have h3:=hs (s1,s2,s3);have st:=iw (s:=wi k a b (s1,s2,s3));rw[if_pos h2,ea] at hQ;dsimp only at h3;generalize wi k a b (s1,s2,s3)=r at*
     refine bg ea ?_;refine aC (h3) rfl rfl ?_;refine bg ht ?_;refine zC ow ?_;refine zC st ?_;exact ai [] hQ
   · have st:=iw (s:=wi k a b (0,0,false))
     rw[if_neg h2] at hQ;generalize wi k a b (0,0,false)=r at*
     refine bg ht ?_;refine zC ow ?_;refine zC st ?_;exact ai [] hQ
 · have hLL:=hns h1
   subst hLL;refine ae ?_;refine aF [] [] (nt) ?_;refine eo hkw ht ?_;refine aC (h0) rfl rfl ?_;refine eo hkw ht ?_
   by_cases h2:0<S.length
   · obtain ⟨⟨s1,s2,s3⟩,ea⟩:∃x,S.getD 0 default=x:=⟨_,rfl⟩
     have h3:=hs (s1,s2,s3);have st:=iw (s:=wi k a b (s1,s2,s3));rw[if_pos h2,ea] at hQ;dsimp only at h3;generalize wi k a b (s1,s2,s3)=r at*
     refine bg ea ?_;refine aC (h3) rfl rfl ?_;refine bg ht ?_;refine zC ow ?_;refine zC st ?_;exact ai [] hQ
   · have st:=iw (s:=wi k a b (0,0,false))
     rw[if_neg h2] at hQ;generalize wi k a b (0,0,false)=r at*
     refine bg ht ?_;refine zC ow ?_;refine zC st ?_;exact ai [] hQ
theorem OC {M D S p i n:Nat} {st:SS} {d:Bool} {L:List Bool} (hw:WB M D S) (hL:L.length≤1048576) (hp:p≤L.length) (hd:d=true→p=L.length) (hX:st.1.length≤256) (hi:i<st.1.length)
 (hs:SOk (cZ M D S) st) (hn:n≤1048576):∃(e:Int) (st':SS) (q:Nat) (d':Bool),SOk (cZ M D S) st'∧st'.1.length=st.1.length∧q≤L.length∧(d'=true→q=L.length)∧
 aA Tryz.prog 18 [.ref 0 0 0 0,.ref 1 0 0 0,.I i,.I n] [some (zG M D S st),some (bm L p d)]
 (.I e) [some (zG M D S st'),some (bm L q d')]:=by
 have h:=LZ hw hL hp hd hX hi hs hn;refine⟨_,_,_,_,?_,?_,?_,?_,h⟩<;>(unfold F3 Ft;split)
 · rename_i r q hr
   exact(i5 (Iy hw.pw.toPB st i n hs) hr).1
 · exact hs
 · rename_i r q hr
   exact(i5 (Nr (cZ M D S) st i n) hr).1
 · rfl
 · rename_i r q hr
   exact(sJ hp hr).2
 · exact akk _
 · rename_i r q hr
   intro hdd;have h1:=hd hdd;have h2:=sJ hp hr;dsimp only;omega
 · exact fun _=>rfl
theorem EZ {L:List Bool} {n p:Nat} (hL:L.length≤1048576) (hn:2≤n) (hn2:n<18446744073709551616):aA Tryz.prog 77 [.ref 0 0 0 0,.lit (.int .u64 n)] [some (bm L p true)]
 (.tup [.lit (.int .u64 0),.I 8]) [some (bm L p true)]:=by
 refine zF pl Tryz.call77 Tryz.func77 [.tmp 4,.tmp 5] fun Q hQ=>?_;have hn1:(n:Int)-1=((n-1:Nat):Int):=by omega
 have hw:=bI (n:=n-1) (k:=64) zo;have hnw:=ko (n-1);generalize hwd:bl (n-1)=w at*
 have hw1:1≤w:=by
  rcases akQ w with h | h
  · rw[h,amO] at hnw;omega
  · exact h
 refine bg hn1 ?_;refine zC (hwd▸lu (n:=n-1) zo) ?_
 refine aU (X:=Unit) (st:=fun q=>([(0,.ref 0 0 0 0),(1,.lit (.int .u64 n)),(6,.I w)],[some (bm L p true)]))
  (inv:=fun q=>True) (m:=fun q=>0) () [some 0] trivial ?_
 rintro ⟨⟩-;refine ae ?_
 refine aU (X:=Unit) (st:=fun i=>([(0,.ref 0 0 0 0),(1,.lit (.int .u64 n)),(6,.I w),(7,.lit (.int .u64 0)),(15,.I w),(16,.I 0)],[some (bm L p true)]))
  (inv:=fun i=>True) (m:=fun i=>0) () [some 0] trivial ?_
 rintro ⟨⟩-;refine ae ?_;refine zW [some 0] [] (gJ (L:=L) (p:=p) (d:=true) hL (.inl rfl)) ?_;exact ai [some 0] hQ
theorem IF {K P C:Int} {X:List (Nat×Nat)} {N key p:Nat} {L:List Bool} (hX:X.length≤1000000) (h:X≠ []) (hk:key<2305843009213693951) (hN:N<1048576) (hN1:1≤N) (hL:L.length≤1048576):
 aA Tryz.prog 20 [.ref 0 0 0 0,.ref 1 0 0 0,.lit (.int .u64 key)] [some (oH K P C X N),some (bm L p true)]
 (.I 8) [some (oH K P C X N),some (bm L p true)]:=by
 have hc:=vg (K:=K) (P:=P) (C:=C) (N:=N) hX h;have hNN:(N:Int)+1=((N+1:Nat):Int):=by omega
 have hb:=EZ (L:=L) (n:=N+1) (p:=p) hL zo zo;have hXl:0<X.length:=amT.2 h;refine zF pl Tryz.call20 Tryz.func20 [.tmp 6] fun Q hQ=>?_;refine ae ?_;refine dk (hc) ?_;refine ae ?_
 refine aU (X:=Unit) (st:=fun y=>([(0,.ref 0 0 0 0),(1,.ref 1 0 0 0),(2,.lit (.int .u64 key)),(7,.ref 2 0 0 0),(34,.I X.length),(35,.I 0)],[some (oH K P C X N),some (bm L p true),some (.cells [.I K,.I P,.I C,.sl 3 2 0 X.length,.I ((N+1:Nat):Int)]),some (.row 2 (X.map sV))]))
  (inv:=fun y=>True) (m:=fun y=>0) () [some 0,some 1,some 2,some 3] trivial ?_
 rintro ⟨⟩-;refine ae ?_;refine zW [some 1] [] hb ?_;exact ai [some 0,some 1] hQ
theorem Eo {L:List Bool} {N key:Nat} {X X':List (Nat×Nat)} {p q:Nat} (hX:0<N→∀x∈X,1≤x.2) (h:fY L (N+1) key X p=some (X',q)):∀x∈X',1≤x.2:=by
 have st:∀(x:Nat×Nat) (a:Nat),a<N+1→(N=0∨1≤x.2)→1≤(P1 key a x).2:=by
  intro x a ha hx;unfold P1
  split
  · exact akk _
  · split
    · show 1≤x.2+1;omega
    · omega
 rcases akQ N with h0 | h0
 · exact s7 (al8 N) (A:=fun _=>True) (fun x a ha _=>st x a ha (.inl h0)) (fun _ _=>trivial) h
 · exact s7 (al8 N) (A:=fun x=>1≤x.2) (fun x a ha hx=>st x a ha (.inr hx)) (hX h0) h
def Xw (C:Nat) (X:List (Nat×Nat)) (N:Nat):Prop:=X.length=C∧(∀x∈X,x.1<2305843009213693951∧x.2≤N)∧((0<N∧∀x∈X,1≤x.2)∨(N=0∧∀x∈X,x=(0,0)))
theorem QS {L:List Bool} {p:Nat} (hp:p≤L.length):cq L 1 p=(0,0,p,false):=by
 obtain ⟨f,hf⟩:∃f,L.length+1-p=f+1:=⟨L.length-p,by omega⟩;unfold cq;rw[hf,show bl (1-1)=0 from rfl];unfold dC;rw[if_pos zo,alf,uA,if_pos zd]
 rfl
theorem qZ {L:List Bool} {key:Nat}:∀{X:List (Nat×Nat)} {p:Nat},p≤L.length→fY L (0+1) key X p≠none
 | [],p,hp=>fun h=>by cases h
 | x::xs,p,hp=>fun h=>by
   unfold fY at h;rw[show 0+1=1 from rfl,QS hp,if_pos rfl,amm] at h;exact qZ (X:=xs) hp h
theorem DF {C:Nat}:Xw C (List.replicate C (0,0)) 0:=by
 refine⟨akB,fun x hx=>?_,.inr ⟨rfl,fun x hx=>(amq.1 hx).2⟩⟩;rw[(amq.1 hx).2];exact⟨by decide,akk _⟩
theorem CD {K P:Int} {C:Nat} {X:List (Nat×Nat)} {N key p:Nat} {d:Bool} {L:List Bool} (hC:1≤C∧C≤1000) (h:Xw C X N) (hk:key<2305843009213693951) (hN:N≤1000) (hd:d=true→1≤N) (hL:L.length≤1048576) (hp:p≤L.length):
 ∃(e:Int) (X':List (Nat×Nat)) (N' q:Nat) (d':Bool),Xw C X' N'∧N'≤N+1∧(d'=true→1≤N')∧q≤L.length∧
 aA Tryz.prog 20 [.ref 0 0 0 0,.ref 1 0 0 0,.lit (.int .u64 key)] [some (oH K P C X N),some (bm L p d)]
 (.I e) [some (oH K P C X' N'),some (bm L q d')]:=by
 obtain ⟨hX,hR,hR1⟩:=h;have hXne:X≠ []:=fun e=>by rw[e] at hX;simp at hX;omega
 cases d with
 | true=>exact⟨8,X,N,p,true,⟨hX,hR,hR1⟩,by omega,fun _=>hd rfl,hp,IF zo hXne hk zo (hd rfl) hL⟩
 | false=>
   have hu:=Ol (K:=K) (P:=P) (C:=C) (X:=X) (N:=N) (key:=key) (p:=p) (L:=L) zo hXne zo zo hL hp (fun x hx=>by have:=hR x hx;omega)
   cases hup:fY L (N+1) key X p with
   | some r=>
     obtain ⟨X',q⟩:=r;obtain ⟨k1,k2,k3⟩:=L8 hp hup;have hR':=Oj (B:=2305843009213693951) zo hR hup;have hP1:=Eo (fun h=>hR1.elim (fun h1=>h1.2) (fun h1=>absurd h1.1 zo)) hup;rw[hup] at hu;exact⟨0,X',N+1,q,false,⟨by omega,hR',.inl ⟨al8 _,hP1⟩⟩,akk _,fun h=>(by cases h),k2,hu⟩
   | none=>
     rw[hup] at hu
     have hN1:1≤N:=by
      rcases akQ N with h0 | h0
      · subst h0
        exact absurd hup (qZ hp)
      · exact h0
     exact⟨8,X,N,L.length,true,⟨hX,hR,hR1⟩,by omega,fun _=>hN1,akk _,hu⟩
end Go.Proofs.YtcnlmelpnflhnaaGreat
