import Derived.Test.YtcnlmelpnflhnaaGreatFw
import Derived.Test.YtcnlmelpnflhnaaGreatD3
import Derived.Test.YtcnlmelpnflhnaaGreatHf
import Derived.Test.YtcnlmelpnflhnaaGreatSc
import Derived.Test.YtcnlmelpnflhnaaGreatHa
namespace Go.Proofs.YtcnlmelpnflhnaaGreat
open Go.Eng Go.Vx
set_option linter.unusedSimpArgs false
set_option linter.unusedVariables false
set_option maxRecDepth 100000
theorem vu {v N:Nat} (hN:N≤8192) (hv:(wg v).length≤1000000):aA Tryz.prog 131 [NV v,.lit (.int .i64 (N:Int))] [] (.tup [NV (v*2^N),.lit (.int .i64 0)]) []:=by
 refine zF O2 Tryz.call131 Tryz.func131 [.cell 4 157,.tmp 5] fun Q hQ=>?_;have hnl:=ay (wg v);have hq:(N:Int)/64=((N/64:Nat):Int):=by omega
 have hs:(N:Int)%64=((N%64:Nat):Int):=by omega
 have hm:=rR (W:=wg v) (s:=N%64) (eW v) zo zo;rw[eF] at hm;have hF:=cI (B:=18446744073709551616) ((wg v).length+1) (v*2^(N%64));have hFl:=pg (B:=18446744073709551616) zd ((wg v).length+1) (v*2^(N%64))
 have hFv:aD 18446744073709551616 (fw 18446744073709551616 ((wg v).length+1) (v*2^(N%64)))=v*2^(N%64):=by
  rw[ku zd,ajL];have h1:v<18446744073709551616^(wg v).length:=fQ (B:=18446744073709551616) zd v
  have h2:2^(N%64)≤18446744073709551616:=by
   rw[show(18446744073709551616:Nat)=2^64 from rfl];exact ajv zd zo
  rw[ajS];exact aj2 (alE h1 (ajV zd)) (akk _ h2)
 have hval:aD 18446744073709551616 (List.replicate (N/64) 0++fw 18446744073709551616 ((wg v).length+1) (v*2^(N%64)))=v*2^N:=by
  rw[jq,sw,ajF,ajU,hFv,show(18446744073709551616:Nat)=2^64 from rfl,←Nat.pow_mul,akZ,←ako,ajT]
 have hall:∀d∈List.replicate (N/64) 0++fw 18446744073709551616 ((wg v).length+1) (v*2^(N%64)),d<18446744073709551616:=fun d hd=>by
  rcases akU.1 hd with h | h
  · rw[ala h];decide
  · exact hFl d h
 have hlen:(List.replicate (N/64) 0++fw 18446744073709551616 ((wg v).length+1) (v*2^(N%64))).length≤4000000:=by
  rw[ajj,ajF,hF];omega
 have hsplit:nl (List.replicate (N/64) 0++fw 18446744073709551616 ((wg v).length+1) (v*2^(N%64)))=nl (List.replicate (N/64) 0)++nl (fw 18446744073709551616 ((wg v).length+1) (v*2^(N%64))):=by unfold nl;rw[akX]
 have hrep:=mI (N/64);generalize fw 18446744073709551616 ((wg v).length+1) (v*2^(N%64))=F at*
 clear hFv;generalize N/64=q at*
 generalize N%64=s at*
 have hnF:=ay F;rw[←hF] at hm;refine ej hq hs ?_;refine bI (hm) ?_;have htk:List.take F.length (nl F)=nl F:=ajy zo
 have happ:List.map (ie .u64) (List.replicate q 0++nl F)=List.map (ie .u64) (nl (List.replicate q 0++F)):=by
  rw[hsplit,hrep]
 have hll:q+(nl F).length=(List.replicate q 0++F).length:=by rw[ajj,ajF,hnF]
 refine PN hq hs htk happ hll ?_;have hnl4:=ay (List.replicate q 0++F);refine aF [] [4] (dy (l:=List.replicate q 0++F) hall hlen) ?_;rw[hval];exact zE [] hQ
theorem xK {A B:Nat} (hB:B≠0):¬(((A:Int):Rat)/((B:Int):Rat)).num<0:=by
 have h:=pZ (p:=(A:Int)) (q:=(B:Int)) zo;rw[ajn (show¬(A:Int)<0 by omega),ajn (show¬(B:Int)<0 by omega)] at h;rw[←h];exact uI hB
theorem IT {a:Int} (h0: -9223372036854775808≤a) (h1:a≤9223372036854775807):RS 1 (a:Rat):=sF (Qa h0 h1) zd
abbrev SR:=Nat×Nat×Bool
def fj (k a b:Nat) (s:SR):Nat:=numOf (cD k a b s)
def FX (k a b n:Nat) (l:List SR):List Nat:=l.map (fj k a b)++List.replicate (n-l.length) 0
theorem kG (k a b:Nat) (s:SR):fj k a b s<2^wd k a b:=by
 have:=dU (cD k a b s)
 rw[dL] at this;exact this
theorem Kx (k a b:Nat) {n:Nat} {l:List SR} (h:l.length≤n):(FX k a b n l).length=n:=by
 unfold FX;rw[ajj,ajl,ajF];omega
theorem Rj (k a b n:Nat) (l:List SR):∀x∈FX k a b n l,x<2^wd k a b:=by
 intro x hx;unfold FX at hx;rcases akU.1 hx with hx | hx
 · obtain ⟨s,_,rfl⟩:=akh.1 hx
   exact kG k a b s
 · rw[(alk.1 hx).2]
   exact ajV zd
theorem LP (k a b:Nat) {n:Nat} {l:List SR} {s:SR} (h:l.length<n):(FX k a b n l).set l.length (fj k a b s)=FX k a b n (l++[s]):=by
 unfold FX;rw[List.set_append,if_neg (by simp),ajl,akz];obtain ⟨q,hq⟩:∃q,n-l.length=q+1:=⟨n-l.length-1,by omega⟩;rw[hq,akF,alp,ajj,akw,show n-(l.length+1)=q by omega]
 simp
theorem JO (k a b:Nat) {n:Nat} {l:List SR} (h:l.length=n):FX k a b n l=l.map (fj k a b):=by
 unfold FX;rw[h,akz,List.replicate_zero,ake]
def oL (L:List Bool) (k a b:Nat):Nat→Nat→Option (List SR)×Nat×Int
 | 0,p=>(some [],p,0)
 | n+1,p=>match vR L k a b p with
   | (some s,q,_)=>((oL L k a b n q).1.map (s:: ·),(oL L k a b n q).2)
   | (none,q,e)=>(none,q,e)
theorem JB {L:List Bool} {k a b p:Nat} (h:p≤L.length):(vR L k a b p).2.1≤L.length:=by
 unfold vR
 split
 · split<;>assumption
 · exact h
theorem v5 {L:List Bool} {k a b p:Nat}:((vR L k a b p).1=none→(vR L k a b p).2.2≠0)∧(∀s,(vR L k a b p).1=some s→(vR L k a b p).2.2=0∧aP k a b s):=by
 unfold vR
 split
 · split
   · rename_i h
     refine⟨fun h=>(by cases h),fun s hs=>?_⟩
     cases hs
     exact⟨rfl,h⟩
   · exact⟨fun _=>(show(4:Int)≠0 by decide),fun s hs=>(by cases hs)⟩
 · exact⟨fun _=>(show(5:Int)≠0 by decide),fun s hs=>(by cases hs)⟩
theorem kM {L:List Bool} {k a b n p:Nat}:oL L k a b (n+1) p=match vR L k a b p with
 | (some s,q,_)=>((oL L k a b n q).1.map (s:: ·),(oL L k a b n q).2)
 | (none,q,e)=>(none,q,e):=(rfl)
theorem IA {L:List Bool} {k a b p:Nat}:oL L k a b 0 p=(some [],p,0):=(rfl)
def crV (r:Option (List SR)×Nat×Int):V:=match r.1 with
 | some _=>.tup [.ref 1 0 0 0,.lit (.int .i64 0)]
 | none=>.tup [.lit (.pointer none),.lit (.int .i64 r.2.2)]
def crS (k a b n:Nat) (B:List Int) (r:Option (List SR)×Nat×Int):St:=match r.1 with
 | some l=> [some (dk B r.2.1),some (cP 2 k a b),some (cC 3 n (wd k a b)),some (ch n (wd k a b) (aV (wd k a b) (l.map (fj k a b))))]
 | none=> [some (dk B r.2.1)]
set_option maxHeartbeats 4000000 in
theorem x8 {k a b n p:Nat} {B:List Int} (h:aL k a b) (hn:1≤n∧n≤256) (hI:ke B) (hB:B.length≤1099511627776) (hp:p≤8*B.length):
 aA Tryz.prog 106 [.ref 0 0 0 0,pR k a b,.lit (.int .i64 (n:Int))] [some (dk B p)] (crV (oL (bitsOf B) k a b n p)) (crS k a b n B (oL (bitsOf B) k a b n p)):=by
 have hbl:=ba B;have cn:=oe h hn
 have hz:ch n (wd k a b) 0=ch n (wd k a b) (aV (wd k a b) (FX k a b n [])):=by
  show _=ch n (wd k a b) (aV (wd k a b) (List.replicate _ 0));rw[gY]
 rw[hz] at cn;clear hz;refine zF pl Tryz.call106 Tryz.func106 [.tmp 6,.tmp 7] fun Q hQ=>?_;refine ae ?_;refine zW [] [] cn ?_
 refine aR (X:=List SR×Nat) (st:=fun y=>([(0,.ref 0 0 0 0),(4,.ref 1 0 0 0),(8,.ref 2 0 0 0),(22,.lit (.int .i64 (n:Int))),(23,.lit (.int .i64 (y.1.length:Int)))],
  [some (dk B y.2),some (.cells [.lit (.int .i64 (k:Int)),.lit (.int .i64 (a:Int)),.lit (.int .i64 (b:Int))]),some (cP 3 k a b),some (cC 4 n (wd k a b)),some (ch n (wd k a b) (aV (wd k a b) (FX k a b n y.1)))]))
  (inv:=fun y=>y.1.length≤n∧y.2≤(bitsOf B).length∧oL (bitsOf B) k a b n p=((oL (bitsOf B) k a b (n-y.1.length) y.2).1.map (y.1++ ·),(oL (bitsOf B) k a b (n-y.1.length) y.2).2)) (m:=fun y=>n-y.1.length)
  ([],p) [some 0,some 1,some 2,some 3,some 4] ⟨ajH _,by omega,by simp⟩ ?_
 rintro ⟨l,q⟩ ⟨hl,hq,hr⟩;dsimp only at hl hq hr ⊢
 by_cases hil:l.length<n
 · obtain ⟨c,hc⟩:∃c,n-l.length=c+1:=⟨n-l.length-1,by omega⟩
   rw[hc] at hr;have rr:=qx (p:=q) h hI hB zo;have hle:=JB (L:=bitsOf B) (k:=k) (a:=a) (b:=b) hq;have her:=v5 (L:=bitsOf B) (k:=k) (a:=a) (b:=b) (p:=q);rw[kM] at hr;generalize vR (bitsOf B) k a b q=v at*
   obtain ⟨o,q2,e⟩:=v;dsimp only at rr hle her
   cases o with
   | none=>
     have he:=her.1 rfl;dsimp only at he hr;rw[hr] at hQ;dsimp only[Option.map] at hQ;unfold crV crS at hQ;dsimp only at hQ;refine ae ?_;refine zW [some 0] [] rr ?_;exact ak [some 0] hQ
   | some s=>
     obtain ⟨he,hws⟩:=her.2 s rfl;dsimp only at he hr;subst he;have st:=nI (n:=n) (i:=l.length) (N:=FX k a b n l) (s:=s) h hws hn.2 hil (Kx k a b hl) (Rj k a b n l);rw[show numOf (cD k a b s)=fj k a b s from rfl,LP k a b hil] at st;refine ae ?_;refine zW [some 0] [] rr ?_;refine zW [some 2,some 3,some 4] [] st ?_;refine aH (l++[s],q2) [some 0,some 1,some 2,some 3,some 4] rfl ?_ ?_ ⟨by simp;omega,hle,?_⟩ (by simp;omega)
     · (simp(disch:=(first | omega | (simp only[cQ,ajl,ajo,true_and,and_true];(try omega);done) | fail)) only[go_sem,Int.reduceEq,Int.reduceToNat,Nat.reduceAdd,Nat.reduceMul,Nat.reduceEqDiff, ↓reduceIte,true_and,and_true,and_self,ajE,ajz,ajp,V.lit.injEq,Value.int.injEq,Value.bool.injEq];try (first | omega | (simp;done) | (simp;omega)))
     · dsimp only
       rw[ajj,akw]
       (simp(disch:=(first | omega | (simp only[cQ,ajl,ajo,true_and,and_true];(try omega);done) | fail)) only[go_sem,Int.reduceEq,Int.reduceToNat,Nat.reduceAdd,Nat.reduceMul,Nat.reduceEqDiff, ↓reduceIte,true_and,and_true,and_self,ajE,ajz,ajp,V.lit.injEq,Value.int.injEq,Value.bool.injEq];try (first | omega | (simp;done) | (simp;omega)))
     · dsimp only
       rw[hr,ajj,akw,show n-(l.length+1)=c by omega];generalize oL (bitsOf B) k a b c q2=w;obtain ⟨o,w2⟩:=w
       cases o with
       | none=>rfl
       | some x=>simp
 · have hln:l.length=n:=by omega
   rw[hln,Nat.sub_self] at hr;rw[IA] at hr;rw[hr] at hQ;unfold crV crS at hQ;dsimp only[Option.map] at hQ;rw[List.append_nil,←JO k a b hln] at hQ;exact zE [some 0,some 2,some 3,some 4] hQ
theorem Bs {L:List Bool} {k a b:Nat}:∀{n p:Nat},p≤L.length→(oL L k a b n p).2.1≤L.length
 | 0,p,h=>h
 | n+1,p,h=>by
   rw[kM];have h1:=JB (k:=k) (a:=a) (b:=b) h;generalize vR L k a b p=v at*
   obtain ⟨o,q,e⟩:=v
   cases o with
   | none=>exact h1
   | some s=>exact Bs (n:=n) h1
theorem x5 {L:List Bool} {k a b:Nat}:∀{n p:Nat} {l:List SR},(oL L k a b n p).1=some l→(oL L k a b n p).2.2=0∧l.length=n∧∀s∈l,aP k a b s
 | 0,p,l,h=>by
   injection h with h;subst h;exact⟨rfl,rfl,fun s hs=>by cases hs⟩
 | n+1,p,l,h=>by
   rw[kM] at h ⊢;have h1:=(v5 (L:=L) (k:=k) (a:=a) (b:=b) (p:=p)).2;generalize vR L k a b p=v at*
   obtain ⟨o,q,e⟩:=v
   cases o with
   | none=>cases h
   | some s=>
     dsimp only at h h1 ⊢;have ih:=fun l=>x5 (L:=L) (k:=k) (a:=a) (b:=b) (n:=n) (p:=q) (l:=l);generalize oL L k a b n q=u at*
     obtain ⟨o,q2,e2⟩:=u
     cases o with
     | none=>cases h
     | some m=>
       injection h with h;subst h;obtain ⟨i1,i2,i3⟩:=ih _ rfl;refine⟨i1,by rw[ajr,i2],fun x hx=>?_⟩;rcases ajC.1 hx with rfl | hx
       · exact(h1 _ rfl).2
       · exact i3 x hx
theorem xU {L:List Bool} {k a b:Nat}:∀{n p:Nat},(oL L k a b n p).1=none→(oL L k a b n p).2.2≠0
 | 0,p,h=>by cases h
 | n+1,p,h=>by
   rw[kM] at h ⊢;have h1:=(v5 (L:=L) (k:=k) (a:=a) (b:=b) (p:=p)).1;generalize vR L k a b p=v at*
   obtain ⟨o,q,e⟩:=v
   cases o with
   | none=>exact h1 rfl
   | some s=>
     dsimp only at h ⊢;have ih:=xU (L:=L) (k:=k) (a:=a) (b:=b) (n:=n) (p:=q);generalize oL L k a b n q=u at*
     obtain ⟨o,q2,e2⟩:=u
     cases o with
     | none=>exact ih rfl
     | some m=>cases h
abbrev RW:=Nat×Nat×List SR
def tz (L:List Bool) (k a b C p:Nat):Option RW×Nat×Int:=
 if p+61≤L.length then
  (if p+122≤L.length then
   (if numOf ((L.drop p).take 61)<2305843009213693951∧numOf ((L.drop (p+61)).take 61)<2305843009213693951 then
    ((oL L k a b C (p+122)).1.map (fun l=>(numOf ((L.drop p).take 61),numOf ((L.drop (p+61)).take 61),l)),(oL L k a b C (p+122)).2)
    else(none,p+122,4))
   else(none,p+61,5))
 else(none,p,5)
theorem Mb {L:List Bool} {k a b C p:Nat} (h:p≤L.length):(tz L k a b C p).2.1≤L.length:=by
 unfold tz
 split
 · split
   · split
     · exact Bs (by assumption)
     · assumption
   · assumption
 · exact h
def bC (k a b C:Nat) (r:RW):Prop:=r.1<2305843009213693951∧r.2.1<2305843009213693951∧r.2.2.length=C∧∀s∈r.2.2,aP k a b s
theorem EJ {L:List Bool} {k a b C p:Nat} {r:RW} (h:(tz L k a b C p).1=some r):(tz L k a b C p).2.2=0∧bC k a b C r:=by
 unfold tz at*
 split at h
 · rename_i h1
   rw[if_pos h1]
   split at h
   · rename_i h2
     rw[if_pos h2]
     split at h
     · rename_i h3
       rw[if_pos h3];have ih:=fun l=>x5 (L:=L) (k:=k) (a:=a) (b:=b) (n:=C) (p:=p+122) (l:=l);generalize oL L k a b C (p+122)=u at*
       obtain ⟨o,q,e⟩:=u
       cases o with
       | none=>cases h
       | some l=>
         injection h with h;subst h;obtain ⟨i1,i2,i3⟩:=ih _ rfl;exact⟨i1,h3.1,h3.2,i2,i3⟩
     · cases h
   · cases h
 · cases h
def jl (L:List Bool) (k a b C:Nat):Nat→Nat→Option (List RW)×Nat×Int
 | 0,p=>(some [],p,0)
 | n+1,p=>match tz L k a b C p with
   | (some r,q,_)=>((jl L k a b C n q).1.map (r:: ·),(jl L k a b C n q).2)
   | (none,q,e)=>(none,q,e)
theorem AO {L:List Bool} {k a b C p:Nat}:jl L k a b C 0 p=(some [],p,0):=(rfl)
theorem qh {L:List Bool} {k a b C n p:Nat}:jl L k a b C (n+1) p=match tz L k a b C p with
 | (some r,q,_)=>((jl L k a b C n q).1.map (r:: ·),(jl L k a b C n q).2)
 | (none,q,e)=>(none,q,e):=(rfl)
def ZZ (L:List Bool) (R C k a b p:Nat):Option (List RW×Nat)×Nat×Int:=
 if (vX L p).2.2=0 then
  (if 1099511627776<(vX L p).1 then(none,(vX L p).2.1,4)
   else((jl L k a b C R (vX L p).2.1).1.map (fun l=>(l,(vX L p).1)),(jl L k a b C R (vX L p).2.1).2))
 else(none,(vX L p).2.1,(vX L p).2.2)
def gz (v:Nat) (e:Int):Ob:=.cells [.ref v 0 0 0,.lit (.int .i64 e)]
attribute [go_sem] gz
def jE (L:List Bool) (p:Nat) (e:Int):Int×Nat×Int:=
 if e=0 then
  (if (gX L p).2.2=0 then(if 1048576<(gX L p).1 then(IntKind.i64.wrap (((gX L p).1:Int)-1),(gX L p).2.1,13) else(((gX L p).1:Int)-1,(gX L p).2.1,0))
   else(0,(gX L p).2.1,(gX L p).2.2))
 else(0,p,e)
theorem eU {L:List Bool} {p:Nat} {e:Int} (h:p≤L.length):(jE L p e).2.1≤L.length:=by
 have:=OU h
 unfold jE
 split
 · split
   · split<;>exact this
   · exact this
 · exact h
set_option maxHeartbeats 1000000 in
theorem eC {B:List Int} {p:Nat} {e:Int} (hI:ke B) (hB:B.length≤1099511627776) (hp:p≤8*B.length):aA Tryz.prog 107 [.ref 0 0 0 0] [some (gz 1 e),some (dk B p)]
 (.lit (.int .i64 (jE (bitsOf B) p e).1)) [some (gz 1 (jE (bitsOf B) p e).2.2),some (dk B (jE (bitsOf B) p e).2.1)]:=by
 have g:=wW hI hB hp;have hlt:=NB (L:=bitsOf B) (p:=p);have hpos:=Qk (L:=bitsOf B) (p:=p);have herr:=Pq (L:=bitsOf B) (p:=p);unfold jE;generalize gX (bitsOf B) p=v at*
 obtain ⟨n,q,f⟩:=v;dsimp only at g hlt hpos herr;refine zF pl Tryz.call107 Tryz.func107 [.tmp 2] fun Q hQ=>?_
 by_cases he:e=0
 · subst he
   rw[if_pos rfl] at hQ;dsimp only at hQ
   by_cases hf:f=0
   · subst hf
     rw[if_pos rfl] at hQ;have hn:=hpos rfl;have hmin:min (n:Int) 1=1:=by omega
     by_cases hn2:1048576<n
     · rw[if_pos hn2] at hQ
       dsimp only at hQ;refine ae ?_;refine aF [some 1] [] (g) ?_;refine br hmin ?_;exact ak [some 0,some 1] hQ
     · rw[if_neg hn2] at hQ
       dsimp only at hQ;refine ae ?_;refine aF [some 1] [] (g) ?_;refine br hmin ?_;exact ak [some 0,some 1] hQ
   · rw[if_neg hf] at hQ
     obtain rfl:=herr hf;dsimp only at hQ;refine ae ?_;refine zW [some 1] [] g ?_;rw[show((0:Nat):Int)-min ((0:Nat):Int) 1=0 from rfl];exact ak [some 0,some 1] hQ
 · rw[if_neg he] at hQ
   dsimp only at hQ;exact zE [some 0,some 1] hQ
def FO (L:List Bool) (p:Nat) (e:Int):(Int×Int×Int)×Nat×Int:=
 (((jE L p e).1,(jE L (jE L p e).2.1 (jE L p e).2.2).1,(jE L (jE L (jE L p e).2.1 (jE L p e).2.2).2.1 (jE L (jE L p e).2.1 (jE L p e).2.2).2.2).1),(jE L (jE L (jE L p e).2.1 (jE L p e).2.2).2.1 (jE L (jE L p e).2.1 (jE L p e).2.2).2.2).2)
theorem z5 {L:List Bool} {p:Nat} {e:Int} (h:p≤L.length):(FO L p e).2.1≤L.length:=eU (eU (eU h))
theorem wx {B:List Int} {p:Nat} {e:Int} (hI:ke B) (hB:B.length≤1099511627776) (hp:p≤8*B.length):aA Tryz.prog 104 [.ref 0 0 0 0] [some (gz 1 e),some (dk B p)]
 (.agg [.lit (.int .i64 (FO (bitsOf B) p e).1.1),.lit (.int .i64 (FO (bitsOf B) p e).1.2.1),.lit (.int .i64 (FO (bitsOf B) p e).1.2.2)]) [some (gz 1 (FO (bitsOf B) p e).2.2),some (dk B (FO (bitsOf B) p e).2.1)]:=by
 have hbl:=ba B;have n1:=eC (e:=e) hI hB hp;have l1:=eU (L:=bitsOf B) (e:=e) (p:=p) zo;unfold FO;generalize jE (bitsOf B) p e=v at*
 obtain ⟨x1,p1,e1⟩:=v;dsimp only at n1 l1;have n2:=eC (e:=e1) hI hB (show p1≤8*B.length by omega);have l2:=eU (L:=bitsOf B) (e:=e1) (p:=p1) l1;generalize jE (bitsOf B) p1 e1=v at*
 obtain ⟨x2,p2,e2⟩:=v;dsimp only at n2 l2;have n3:=eC (e:=e2) hI hB (show p2≤8*B.length by omega);dsimp only;generalize jE (bitsOf B) p2 e2=v at*
 obtain ⟨x3,p3,e3⟩:=v;dsimp only at n3 ⊢;refine zF pl Tryz.call104 Tryz.func104 [.cell 2 34] fun Q hQ=>?_;refine ae ?_;refine zW [some 0,some 1] [] n1 ?_;refine zW [some 0,some 1] [] n2 ?_;refine zW [some 0,some 1] [] n3 ?_;exact ak [some 0,some 1] hQ
def ahG (R C k a b:Int):Prop:=(1≤R∧R≤4∧1≤C∧C≤64)∧ZY k a b
theorem qI {R C:Int} {k a b:Nat} (h:1≤R∧R≤4∧1≤C∧C≤64) (hg:aL k a b):aA Tryz.prog 82 [.agg [.lit (.int .i64 R),.lit (.int .i64 C),.lit (.int .i64 (k:Int)),.lit (.int .i64 (a:Int)),.lit (.int .i64 (b:Int))]] [] (.lit (.int .i64 0)) []:=by
 have rc:=fL hg;obtain ⟨h1,h2,h3,h4⟩:=h;refine zF pl Tryz.call82 Tryz.func82 [.tmp 2] fun Q hQ=>?_;refine ae ?_;refine zC rc ?_;exact ak [] hQ
theorem uJ {A B:Nat}:aA Tryz.prog 83 [.agg [.lit (.int .u64 (A:Int)),.lit (.int .u64 (B:Int))]] [] (.lit (.int .i64 (if A<2305843009213693951∧B<2305843009213693951 then 0 else 2))) []:=by
 refine zF pl Tryz.call83 Tryz.func83 [.tmp 2] fun Q hQ=>?_
 by_cases h1:A<2305843009213693951
 · by_cases h2:B<2305843009213693951
   · rw[if_pos ⟨h1,h2⟩] at hQ
     exact zE [] hQ
   · rw[if_neg (fun h=>h2 h.2)] at hQ
     exact zE [] hQ
 · rw[if_neg (fun h=>h1 h.1)] at hQ
   exact zE [] hQ
open Go.Eng
def j7 (X:List (Nat×Nat)):List Bool:=X.flatMap fun x=>numBits x.1 61++ai x.2
def eE (X:List (Nat×Nat)) (N:Nat):List Bool:=cZ N++if N=0 then [] else j7 X
theorem lg (x:Nat×Nat) (X:List (Nat×Nat)):j7 (x::X)=numBits x.1 61++ai x.2++j7 X:=by simp[j7]
theorem LJ (X Y:List (Nat×Nat)):j7 (X++Y)=j7 X++j7 Y:=by simp[j7]
def Ca (L:List Bool) (T:Nat):Nat→Nat→Option (List (Nat×Nat))×Nat×Int
 | 0,p=>(some [],p,0)
 | c+1,p=>
   if p+61≤L.length then
    (if (gX L (p+61)).2.2=0 then
     (if 2305843009213693951≤numOf ((L.drop p).take 61)∨T<(gX L (p+61)).1 then(none,(gX L (p+61)).2.1,4)
      else((Ca L T c (gX L (p+61)).2.1).1.map (fun X=>(numOf ((L.drop p).take 61),(gX L (p+61)).1)::X),(Ca L T c (gX L (p+61)).2.1).2))
     else(none,(gX L (p+61)).2.1,(gX L (p+61)).2.2))
   else(none,p,5)
theorem GI {L:List Bool} {T p:Nat}:Ca L T 0 p=(some [],p,0):=rfl
theorem xQ {L:List Bool} {T c p:Nat}:Ca L T (c+1) p=
 if p+61≤L.length then
  (if (gX L (p+61)).2.2=0 then
   (if 2305843009213693951≤numOf ((L.drop p).take 61)∨T<(gX L (p+61)).1 then(none,(gX L (p+61)).2.1,4)
    else((Ca L T c (gX L (p+61)).2.1).1.map (fun X=>(numOf ((L.drop p).take 61),(gX L (p+61)).1)::X),(Ca L T c (gX L (p+61)).2.1).2))
   else(none,(gX L (p+61)).2.1,(gX L (p+61)).2.2))
 else(none,p,5):=rfl
def U4 (L:List Bool) (C p:Nat):Option (List (Nat×Nat)×Nat)×Nat×Int:=
 if (vX L p).2.2=0 then
  (if 1048576<(vX L p).1 then(none,(vX L p).2.1,4)
   else if (vX L p).1=0 then(some (List.replicate C (0,0),0),(vX L p).2.1,0)
   else((Ca L (vX L p).1 C (vX L p).2.1).1.map (fun X=>(X,(vX L p).1)),(Ca L (vX L p).1 C (vX L p).2.1).2))
 else(none,(vX L p).2.1,(vX L p).2.2)
theorem x6 {T:Nat} {R:List Bool}:∀(X:List (Nat×Nat)) (A:List Bool),(∀x∈X,x.1<2305843009213693951∧1≤x.2∧x.2≤T)→T≤1048576→
 Ca (A++(j7 X++R)) T X.length A.length=(some X,A.length+(j7 X).length,0)
 | [],A,h,hT=>by simp[Ca,j7]
 | x::X,A,h,hT=>by
   obtain ⟨h1,h2,h3⟩:=h x (by simp);have ih:=x6 (T:=T) (R:=R) X (A++numBits x.1 61++ai x.2) (fun y hy=>h y (by simp[hy])) hT;have e:A++(j7 (x::X)++R)=A++numBits x.1 61++ai x.2++(j7 X++R):=by rw[lg];simp
   have e2:A++(j7 (x::X)++R)=A++numBits x.1 61++(ai x.2++(j7 X++R)):=by rw[lg];simp
   have e3:A++(j7 (x::X)++R)=A++(numBits x.1 61++(ai x.2++(j7 X++R))):=by rw[lg];simp
   have hn:numOf (((A++(j7 (x::X)++R)).drop A.length).take 61)=x.1:=by
    rw[e3,alO,akv (aj _ _),aX,ajL zo]
   have hl:A.length+61≤(A++(j7 (x::X)++R)).length:=by rw[e3];simp[aj]
   have hg:gX (A++(j7 (x::X)++R)) (A.length+61)=(x.2,A.length+61+(ai x.2).length,0):=by
    have:=Cb (A:=A++numBits x.1 61) (T:=j7 X++R) (n:=x.2) zo zo
    rw[ajj,aj] at this;rw[e2];exact this
   rw[List.length_append,List.length_append,aj,←e] at ih;rw[List.length_cons];unfold Ca;rw[if_pos hl,hg];dsimp only;rw[if_pos rfl,hn,if_neg zo,ih,lg];simp only[Option.map_some,List.length_append,aj]
   congr 2
   omega
def okA (C:Nat) (X:List (Nat×Nat)) (N:Nat):Prop:=X.length=C∧N≤1048576∧(∀x∈X,x.1<2305843009213693951∧x.2≤N)∧((0<N∧∀x∈X,1≤x.2)∨(N=0∧∀x∈X,x=(0,0)))
theorem sC {A R:List Bool} {C:Nat} {X:List (Nat×Nat)} {N:Nat} (h:okA C X N):U4 (A++(eE X N++R)) C A.length=(some (X,N),A.length+(eE X N).length,0):=by
 obtain ⟨h1,h2,h3,h4⟩:=h;rcases h4 with⟨h4,h5⟩ | ⟨h4,h5⟩
 · have hb:eE X N=cZ N++j7 X:=by unfold eE;rw[if_neg zo]
   have hv:=vM (A:=A) (T:=j7 X++R) (n:=N) zo;have e:A++(eE X N++R)=A++(cZ N++(j7 X++R)):=by rw[hb];simp
   have e2:A++(eE X N++R)=A++cZ N++(j7 X++R):=by rw[hb];simp
   have hr:=x6 (T:=N) (R:=R) X (A++cZ N) (fun x hx=>⟨(h3 x hx).1,h5 x hx,(h3 x hx).2⟩) h2;rw[←e2,List.length_append,h1] at hr;rw[←e] at hv;unfold U4;rw[hv];dsimp only;rw[if_pos rfl,if_neg zo,if_neg zo,hr,hb];simp only[Option.map_some,List.length_append]
   congr 2
   omega
 · subst h4
   have hX:X=List.replicate C (0,0):=List.eq_replicate_iff.2 ⟨h1,h5⟩;have hb:eE X 0=cZ 0:=by unfold eE;rw[if_pos rfl,ake]
   have hv:=vM (A:=A) (T:=R) (n:=0) zd;rw[hb];unfold U4;rw[hv];dsimp only;rw[if_pos rfl,if_neg zd,if_pos rfl,hX]
end Go.Proofs.YtcnlmelpnflhnaaGreat
