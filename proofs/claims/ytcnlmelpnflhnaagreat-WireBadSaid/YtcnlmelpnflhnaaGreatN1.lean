import Derived.Test.YtcnlmelpnflhnaaGreatE6
import Derived.Laws.Externs
import Derived.Test.YtcnlmelpnflhnaaGreatRa
namespace Go.Eng
open Go.Vx
set_option linter.unusedSimpArgs false
set_option linter.unusedVariables false
theorem uK {w:World} {Im:Nat→Prop} {μ:Mu}:∀{xs args:List Value},bd w Im μ (xs.map V.lit) args→args=xs
 | [],args,h=>akx.1 (by simpa using h.1)
 | x::xs,args,h=>by
   obtain ⟨v,vs,rfl,h1,h2⟩:=bd.uncons h
   cases h1
   rw[uK h2]
theorem Pp {P:Program} {e:Bool} {f:FuncId} {xs:List Value} {u:V} {v:Value} {σ:St} {K:KV} (h:∀w,(callFunc f xs.toArray).run P w=.ok (.value v) w)
 (hu:∀w Im μ,RepV w Im μ u v) (hk:K true u σ):dT P e f (xs.map V.lit) σ K:=fun μ Im w args r hr=>by
 obtain rfl:=uK hr;unfold AL mh runK;rw[h];exact⟨u,σ,μ,Im,r,Stp.refl _ _ _ _,fun _=>Ext.refl _ _,hu _ _ _,hk⟩
theorem C4 {a b:Value} (ha:bD a=true) (hb:bD b=true) (w:World) (Im:Nat→Prop) (μ:Mu):RepV w Im μ (.tup [.lit a,.lit b]) (.tuple #[a,b]):=
 .tup (C:=[a,b]) rfl fun i u c h1 h2=>by
  rcases i with _ | _ | i
  · simp at h1 h2;subst h1;subst h2;exact .lit ha
  · simp at h1 h2;subst h1;subst h2;exact .lit hb
  · simp at h1
theorem fZ {P:Program} {e:Bool} {f:FuncId} {fn:Func} {x y c:Nat} {σ:St} {K:KV} (hf:P.funcs[f]? =some fn) (h1:(fn.name== "runtime.NumGoroutine")=false)
 (h2:fn.body.isNone=true) (h3:Extern.findNext fn=none) (h4:Extern.find fn=some add64Entry) (hc:c≤1)
 (hk:K true (.tup [.lit (.int .u64 (((x+y+c)%18446744073709551616:Nat):Int)),.lit (.int .u64 (((x+y+c)/18446744073709551616:Nat):Int))]) σ):
 dT P e f [.lit (.int .u64 x),.lit (.int .u64 y),.lit (.int .u64 c)] σ K:=by
 refine Pp (xs:=[.int .u64 x,.int .u64 y,.int .u64 c]) (fun w=>?_) (C4 rfl rfl) hk;rw[run_callFunc_extern hf h1 h2 h3 h4,run_add64 x y c zo zo zo zo];simp only[Result.andThen]
 congr 5<;>omega
def Jl:Array Value→Sem Value:=(Extern.MathBitsCarry.rows.getD 1 ("",fun _=>stuck "")).2
theorem B8 {P:Program} (x y b:Nat) (hb:b≤1) (w:World):(Jl #[.int .u64 x,.int .u64 y,.int .u64 b]).run P w=
 .ok (.tuple #[.int .u64 (((x+18446744073709551616-y-b)%18446744073709551616:Nat):Int),.int .u64 ((if x<y+b then 1 else 0:Nat):Int)]) w:=by
 have:b=0∨b=1:=by omega
 rcases this with rfl | rfl<;>rfl
theorem km {P:Program} {e:Bool} {f:FuncId} {fn:Func} {x y c:Nat} {σ:St} {K:KV} (hf:P.funcs[f]? =some fn) (h1:(fn.name== "runtime.NumGoroutine")=false)
 (h2:fn.body.isNone=true) (h3:Extern.findNext fn=none) (h4:Extern.find fn=some Jl) (hc:c≤1)
 (hk:K true (.tup [.lit (.int .u64 (((x+18446744073709551616-y-c)%18446744073709551616:Nat):Int)),.lit (.int .u64 ((if x<y+c then 1 else 0:Nat):Int))]) σ):
 dT P e f [.lit (.int .u64 x),.lit (.int .u64 y),.lit (.int .u64 c)] σ K:=by
 refine Pp (xs:=[.int .u64 x,.int .u64 y,.int .u64 c]) (fun w=>?_) (C4 rfl rfl) hk;rw[run_callFunc_extern hf h1 h2 h3 h4,B8 x y c hc]
 rfl
end Go.Eng
namespace Go.Proofs.YtcnlmelpnflhnaaGreat
open Go.Eng Go.Vx
set_option linter.unusedSimpArgs false
set_option linter.unusedVariables false
set_option maxRecDepth 100000
def wg (n:Nat):List Nat:=l8 18446744073709551616 n
def NV (n:Nat):V:=.agg [.row 1 ((nl (wg n)).map (ie .u64))]
attribute [go_sem] NV
theorem fe (n:Nat):∀d∈wg n,d<18446744073709551616:=Sn (B:=18446744073709551616) zd n
theorem eH (n:Nat):aE 18446744073709551616 (wg n)=n:=NW zd n
theorem eU:wg 0=[]:=gy _
theorem Ad {n:Nat}:wg n=[]↔n=0:=nu zd
theorem rS {n k:Nat} (h:n<18446744073709551616^k):(wg n).length≤k:=(fQ zd).2 h
theorem df {a b:Nat} (h:a≤b):(wg a).length≤(wg b).length:=nF zd h
theorem di {n:Nat} (h:n<18446744073709551616):(wg n).length≤1:=rS (by simpa using h)
theorem dD {l:List Nat} (hl:∀d∈l,d<18446744073709551616) (hm:l.length≤4000000):aA Tryz.prog 135 [.row 1 ((nl l).map (ie .u64))] [] (NV (aE 18446744073709551616 l)) []:=by
 refine zF pl Tryz.call135 Tryz.func135 [.cell 2 157] fun Q hQ=>?_;have hnl:=av l;refine ae ?_
 refine aU (X:=Nat) (st:=fun n=>([(0,.row 1 ((nl l).map (ie .u64))),(2,.ref 0 0 0 0),(3,.I n)],[some (.cells [.row 1 []])]))
  (inv:=fun n=>n≤l.length∧∀i,n≤i→i<l.length→l.getD i 0=0) (m:=fun n=>n) l.length [some 0] ⟨by omega,fun i h1 h2=>by omega⟩ ?_
 rintro n ⟨hn,h0⟩
 by_cases h:0<n
 · obtain ⟨k,rfl⟩:∃k,n=k+1:=⟨n-1,by omega⟩
   have hg:=bt l k;have hk:(((k+1:Nat):Int)-1).toNat=k:=by omega
   by_cases hz:l.getD k 0=0
   · simp(maxSteps:=1000000) (disch:=(first | omega | (simp only[cS,aki,akj,true_and,and_true];(try omega);done) | fail)) only[go_sem,hk,hg,hz,Int.reduceEq,Int.reduceToNat,Nat.reduceAdd,Nat.reduceMul,Nat.reduceEqDiff, ↓reduceIte]
     refine aR k [some 0] ⟨by omega,fun i h1 h2=>?_⟩ zo;rcases Nat.eq_or_lt_of_le h1 with e | e
     · rw[←e];exact hz
     · exact h0 i e h2
   · have ht:l.take _=wg (aE 18446744073709551616 l):=yY (B:=18446744073709551616) zd hl hn h0 (.inr (by rw[alJ];exact hz))
     simp(maxSteps:=1000000) (disch:=(first | omega | (simp only[cS,aki,akj,true_and,and_true];(try omega);done) | fail)) only[go_sem,hk,hg,Int.reduceEq,Int.reduceToNat,Nat.reduceAdd,Nat.reduceMul,Nat.reduceEqDiff, ↓reduceIte]
     rw[nB,ht];exact ai [] hQ
 · obtain rfl:n=0:=by omega
   have ht:l.take _=wg (aE 18446744073709551616 l):=yY (B:=18446744073709551616) zd hl hn h0 (.inl rfl);refine ae ?_;rw[nB,ht];exact ai [] hQ
theorem EC {B:List Nat} (hB:B.length≤4000000):aA Tryz.prog 136 [.row 1 ((nl B).map (ie .u64))] [] (.row 1 ((nl B).map (ie .u64))) []:=by
 refine zF pl Tryz.call136 Tryz.func136 [.tmp 2] fun Q hQ=>?_;have hnl:=av B
 by_cases h:B=[]
 · subst h
   refine Ya ?_;refine jC ?_ ?_
   · refine ae ?_
     exact ai [] hQ
   · refine ae ?_
     exact ai [] hQ
 · have he:((nl B).map (ie .u64)).isEmpty=false:=by simp[h,nl]
   refine bg he ?_;exact ai [] hQ
theorem Hi {l:List Nat} (hl:∀d∈l,d<18446744073709551616) (hm:l.length≤4000000):aA Tryz.prog 74 [.row 1 ((nl l).map (ie .u64))] [] (NV (aE 18446744073709551616 l)) []:=by
 refine zF pl Tryz.call74 Tryz.func74 [.cell 2 157] fun Q hQ=>?_;refine ae ?_;refine zC (EC (B:=l) hm) ?_;refine zC (dD hl hm) ?_;exact ai [] hQ
theorem eI {x:Nat} (hx:x<18446744073709551616):aA Tryz.prog 74 [.row 1 [[.lit (.int .u64 x)]]] [] (NV x) []:=by
 have h:=Hi (l:=[x]) (by simpa using hx) (by simp)
 rwa [show aE 18446744073709551616 [x]=x by simp[aE]] at h
theorem dS {n:Nat} (hn:(wg n).length≤4000000):aA Tryz.prog 162 [NV n] [] (.lit (.bool (decide (n=0)))) []:=by
 refine zF pl Tryz.call162 Tryz.func162 [.tmp 2] fun Q hQ=>?_;have hnl:=av (wg n)
 by_cases h:n=0
 · subst h
   rw[eU] at hnl;refine bg @eU ?_;exact ai [] hQ
 · have h0:0<(wg n).length:=by
    rcases akQ (wg n).length with e | e
    · exact absurd (Ad.1 (akx.1 e)) h
    · exact e
   rw[akg h] at hQ;have hd:decide (((nl (wg n)).length:Int)=0)=false:=akg zo;refine bg hd ?_;exact ai [] hQ
theorem fE {a b:Nat} (ha:(wg a).length≤4000000) (hb:(wg b).length≤4000000):aA Tryz.prog 191 [NV a,NV b] [] (.I (iP a b)) []:=by
 refine zF Pr Tryz.call191 Tryz.func191 [.tmp 4] fun Q hQ=>?_;have hal:=fe a;have hbl:=fe b;have hav:=eH a;have hbv:=eH b;have hnA:=av (wg a);have hnB:=av (wg b);unfold iP at hQ
 by_cases hl:(wg a).length=(wg b).length
 · refine ae ?_
   refine aU (X:=Nat) (st:=fun k=>([(2,.ref 0 0 0 0),(3,.ref 1 0 0 0),(6,.I ((k:Int)-1))],[some (.cells [.row 1 ((nl (wg a)).map (ie .u64))]),some (.cells [.row 1 ((nl (wg b)).map (ie .u64))])]))
    (inv:=fun k=>k≤(wg a).length∧(wg a).drop k=(wg b).drop k) (m:=fun k=>k) (wg a).length [some 0,some 1] ⟨by omega,by rw[am0 (akk _),am0 zo]⟩ ?_
   rintro k ⟨hk,hd⟩
   by_cases h:0<k
   · obtain ⟨i,rfl⟩:∃i,k=i+1:=⟨k-1,by omega⟩
     have hga:=bt (wg a) i;have hgb:=bt (wg b) i;have hki:(((i+1:Nat):Int)-1).toNat=i:=by omega
     by_cases h1:(wg a).getD i 0<(wg b).getD i 0
     · have hlt:=xe zd hal hbl hl zo hd h1
       rw[hav,hbv] at hlt;rw[if_pos hlt] at hQ;refine qm hki hga hgb ?_;exact ai [] hQ
     · by_cases h2:(wg b).getD i 0<(wg a).getD i 0
       · have hlt:=xe zd hbl hal hl.symm zo hd.symm h2
         rw[hav,hbv] at hlt;rw[if_neg zo,if_pos hlt] at hQ;refine qm hki hga hgb ?_;exact ai [] hQ
       · refine qm hki hga hgb ?_
         refine aR i [some 0,some 1] ⟨by omega,?_⟩ zo;rw[ak3 (show i<(wg a).length by omega),ak3 (show i<(wg b).length by omega),hd]
         congr 1
         simp only[akf,akh (show i<(wg a).length by omega),akh (show i<(wg b).length by omega),amQ] at h1 h2;omega
   · obtain rfl:k=0:=by omega
     rw[akv,akv] at hd;rw[hd] at hav;rw[if_neg zo,if_neg zo] at hQ;exact zE [] hQ
 · by_cases h:(wg a).length<(wg b).length
   · have hlt:=qP (B:=18446744073709551616) zd h
     rw[if_pos hlt] at hQ;have hmm:max (-1) (min (((wg a).length:Int)-((wg b).length:Int)) 1)= -1:=by omega
     refine bg hmm ?_;exact ai [] hQ
   · have hlt:=qP (B:=18446744073709551616) zd (show(wg b).length<(wg a).length by omega)
     rw[if_neg zo,if_pos hlt] at hQ;have hmm:max (-1) (min (((wg a).length:Int)-((wg b).length:Int)) 1)=1:=by omega
     refine bg hmm ?_;exact ai [] hQ
def pad (L:List Nat) (k:Nat):List Nat:=L++List.replicate (k-L.length) 0
theorem wG {L:List Nat} {k:Nat} (h:L.length≤k):(pad L k).length=k:=by unfold pad;simp;omega
theorem vI {L:List Nat} {k x:Nat} (h:L.length<k):(pad L k).set L.length x=pad (L++[x]) k:=by
 unfold pad;obtain ⟨m,hm⟩:∃m,k-L.length=m+1:=⟨k-L.length-1,by omega⟩;rw[hm,alE,ame (h:=akk _),alw,amt,ake,alj,show k-(L.length+1)=m by omega,akl]
 rfl
theorem tG {L:List Nat} {k:Nat} (h:L.length=k):pad L k=L:=by unfold pad;rw[h,alw];simp
theorem DC (k:Nat):pad [] k=List.replicate k 0:=rfl
set_option maxHeartbeats 4000000 in
theorem ia {a b:Nat} (ha:(wg a).length≤2000000) (hb:(wg b).length≤2000000):aA Tryz.prog 199 [NV a,NV b] [] (NV (a+b)) []:=by
 refine zF pl Tryz.call199 Tryz.func199 [.cell 4 157] fun Q hQ=>?_
 by_cases h:(wg a).length<(wg b).length
 case' pos=>
  have hnA:=av (wg a);have hnB:=av (wg b);refine ae ?_;rw[alX a b] at hQ;have hle:(wg a).length≤(wg b).length:=by omega
  clear h hnA hnB;generalize b=x at*
  generalize a=y at*
 case' neg=>
  have hnA:=av (wg a);have hnB:=av (wg b);refine ae ?_;have hle:(wg b).length≤(wg a).length:=by omega
  clear h hnA hnB;generalize a=x at*
  generalize b=y at*
 all_goals
  have hal:=fe x;have hbl:=fe y;have hav:=eH x;have hbv:=eH y;have hnA:=av (wg x);have hnB:=av (wg y)
  refine aW (X:=List Nat×Nat) (st:=fun z=>([(2,.ref 0 0 0 0),(3,.ref 1 0 0 0),(4,.ref 2 0 0 0),(5,.sl 3 1 0 ((wg x).length+1)),(6,.lit (.int .u64 z.2)),(25,.row 1 ((nl (wg x)).map (ie .u64))),(26,.I ((wg x).length:Int)),(27,.I z.1.length)],
   [some (.cells [.row 1 ((nl (wg x)).map (ie .u64))]),some (.cells [.row 1 ((nl (wg y)).map (ie .u64))]),some (.cells [.lit (.slice none 0 0)]),some (.row 1 ((nl (pad z.1 ((wg x).length+1))).map (ie .u64)))]))
   (inv:=fun z=>(∀d∈z.1,d<18446744073709551616)∧z.2≤1∧aE 18446744073709551616 z.1+18446744073709551616^z.1.length*z.2=aE 18446744073709551616 ((wg x).take z.1.length)+aE 18446744073709551616 ((wg y).take z.1.length)∧z.1.length≤(wg x).length)
   (m:=fun z=>(wg x).length-z.1.length) ([],0) [some 0,some 1,some 2,some 3] rfl (by simp only[DC,←mQ];exact zM) zM ⟨by simp,by simp,by simp[aE],by simp⟩ ?_
  rintro ⟨L,c⟩ ⟨hL,hc,hv,hll⟩;simp only at hL hc hv hll ⊢;have hpl:=wG (L:=L) (k:=(wg x).length+1) zo;have hnp:=av (pad L ((wg x).length+1))
  by_cases h1:L.length<(wg x).length
  · have hga:=bt (wg x) L.length
    have hgb:=bt (wg y) L.length;have hxa:=cN zd hal L.length;have hxb:=cN zd hbl L.length;have hzb:(wg y).length≤L.length→(wg y).getD L.length 0=0:=yZ;have hst:=xN hv;generalize (wg x).getD L.length 0=u at*
    generalize (wg y).getD L.length 0=v at*
    have hcs:u+v+c=c+u+v:=by omega
    have hset:=fJ (pad L ((wg x).length+1)) L.length ((c+u+v)%18446744073709551616);rw[vI zo] at hset;have hinv:(∀d∈L++[(c+u+v)%18446744073709551616],d<18446744073709551616)∧(c+u+v)/18446744073709551616≤1:=⟨kq hL (akD _ zd),by omega⟩
    by_cases h2:L.length<(wg y).length
    · refine eo hga hgb ?_
      refine fZ Tryz.func205 zk zk zk zk zo ?_;rw[hcs];refine bg hset ?_;refine aI (L++[(c+u+v)%18446744073709551616],(c+u+v)/18446744073709551616) [some 0,some 1,some 2,some 3] rfl (by simp only[ake,akm,akz];exact zM) (by exact zM) ⟨hinv.1,hinv.2,by simp only[ake,akm,akz];exact hst,by simp only[ake,akm,akz];omega⟩ (by simp only[ake,akm,akz];omega)
    · obtain rfl:v=0:=hzb zo
      simp only[alv] at hst hset hinv;rw[alv,alv] at hcs;refine bg hga ?_;refine fZ (y:=0) Tryz.func205 zk zk zk zk zo ?_;rw[alv,hcs];refine bg hset ?_;refine aI (L++[(c+u)%18446744073709551616],(c+u)/18446744073709551616) [some 0,some 1,some 2,some 3] rfl (by simp only[ake,akm,akz];exact zM) (by exact zM) ⟨hinv.1,hinv.2,by simp only[ake,akm,akz];exact hst,by simp only[ake,akm,akz];omega⟩ (by simp only[ake,akm,akz];omega)
  · have hLe:L.length=(wg x).length:=by omega
    have e1:(wg x).take L.length=wg x:=aku zo;have e2:(wg y).take L.length=wg y:=aku zo;rw[e1,e2,hav,hbv] at hv;have hset:=fJ (pad L ((wg x).length+1)) L.length c;rw[vI zo,tG (L:=L++[c]) (by simp only[ake,akm,akz];omega),hLe] at hset;have hval:aE 18446744073709551616 (L++[c])=x+y:=by rw[eu];exact hv
    have hlc:(L++[c]).length=(wg x).length+1:=by simp only[ake,akm,akz];omega
    have hls:=av (L++[c]);have hset2:(nl (pad L ((wg x).length+1))).set (nl (wg x)).length (c:Int)=nl (L++[c]):=by rw[hnA];exact hset
    refine bg hset2 ?_;refine aF [] [3] (dD (l:=L++[c]) (kq hL zo) zo) ?_;rw[hval];exact zE [] hQ
theorem fA {a b:Nat}:iP a b<0↔a<b:=by unfold iP;split<;>(try split)<;>omega
theorem oP {u v c:Nat} (hu:u<18446744073709551616) (hv:v<18446744073709551616) (hc:c≤1):
 u+18446744073709551616*(if u<v+c then 1 else 0)=(u+18446744073709551616-v-c)%18446744073709551616+c+v∧(if u<v+c then 1 else 0)≤1∧(u+18446744073709551616-v-c)%18446744073709551616<18446744073709551616:=by
 split<;>omega
theorem qj:NV 0=.agg [.row 1 []]:=by unfold NV;rw[eU];rfl
theorem rV {a b:Nat} (hba:a<b) (ha:(wg a).length≤2000000) (hb:(wg b).length≤2000000):aA Tryz.prog 180 [NV a,NV b] [] (.tup [NV 0,.I 2]) []:=by
 refine zF pl Tryz.call180 Tryz.func180 [.cell 4 157,.tmp 5] fun Q hQ=>?_;have hc:=fA.2 hba;rw[qj] at hQ;refine ae ?_;refine aC (fE (a:=a) (b:=b) zo zo) rfl rfl ?_;refine bg (aks hc) ?_;exact ai [] hQ
set_option maxHeartbeats 4000000 in
theorem jP {a b:Nat} (hba:b≤a) (ha:(wg a).length≤2000000):aA Tryz.prog 180 [NV a,NV b] [] (.tup [NV (a-b),.I 0]) []:=by
 refine zF pl Tryz.call180 Tryz.func180 [.cell 4 157,.tmp 5] fun Q hQ=>?_;have hc:¬iP a b<0:=fun h=>by have:=fA.1 h;omega
 have hal:=fe a;have hbl:=fe b;have hav:=eH a;have hbv:=eH b;have hnA:=av (wg a);have hnB:=av (wg b);have hle:(wg b).length≤(wg a).length:=df hba;refine ae ?_;refine aC (fE (a:=a) (b:=b) zo zo) rfl rfl ?_;refine bg (akg hc) ?_
 refine aW (X:=List Nat×Nat) (st:=fun z=>([(2,.ref 0 0 0 0),(3,.ref 1 0 0 0),(4,.ref 2 0 0 0),(6,.sl 3 1 0 ((wg a).length)),(7,.lit (.int .u64 z.2)),(21,.row 1 ((nl (wg a)).map (ie .u64))),(22,.I ((wg a).length:Int)),(23,.I z.1.length)],
  [some (.cells [.row 1 ((nl (wg a)).map (ie .u64))]),some (.cells [.row 1 ((nl (wg b)).map (ie .u64))]),some (.cells [.lit (.slice none 0 0)]),some (.row 1 ((nl (pad z.1 (wg a).length)).map (ie .u64)))]))
  (inv:=fun z=>(∀d∈z.1,d<18446744073709551616)∧z.2≤1∧aE 18446744073709551616 ((wg a).take z.1.length)+18446744073709551616^z.1.length*z.2=aE 18446744073709551616 z.1+aE 18446744073709551616 ((wg b).take z.1.length)∧z.1.length≤(wg a).length)
  (m:=fun z=>(wg a).length-z.1.length) ([],0) [some 0,some 1,some 2,some 3] rfl (by simp only[DC,←mQ];exact zM) zM ⟨by simp,by simp,by simp[aE],by simp⟩ ?_
 rintro ⟨L,c⟩ ⟨hL,hc,hv,hll⟩;simp only at hL hc hv hll ⊢;have hpl:=wG (L:=L) (k:=(wg a).length) zo;have hnp:=av (pad L (wg a).length)
 by_cases h1:L.length<(wg a).length
 · have hga:=bt (wg a) L.length
   have hgb:=bt (wg b) L.length;have hxa:=cN zd hal L.length;have hxb:=cN zd hbl L.length;have hzb:(wg b).length≤L.length→(wg b).getD L.length 0=0:=yZ;have hst:=fun z c' h=>HE (x:=z) (c':=c') hv h;generalize (wg a).getD L.length 0=u at*
   generalize (wg b).getD L.length 0=v at*
   obtain ⟨hd,hd1,hd2⟩:=oP hxa hxb hc;have hst:=hst _ _ hd;have hset:∀s:Nat,(nl (pad L (wg a).length)).set L.length (s:Int)=nl (pad (L++[s]) (wg a).length):=fun s=>by rw[fJ,vI zo]
   by_cases h2:L.length<(wg b).length
   · generalize hs:(u+18446744073709551616-v-c)%18446744073709551616=s at*
     generalize hcc:(if u<v+c then 1 else 0)=c' at*
     refine eo hga hgb ?_;refine km Tryz.func197 zk zk zk zk zo ?_;rw[hs,hcc];refine bg hset ?_;refine aI (L++[s],c') [some 0,some 1,some 2,some 3] rfl (by simp only[ake,akm,akz];exact zM) (by exact zM) ⟨kq hL hd2,hd1,by simp only[ake,akm,akz];exact hst,by simp only[ake,akm,akz];omega⟩ (by simp only[ake,akm,akz];omega)
   · obtain rfl:v=0:=hzb zo
     generalize hs:(u+18446744073709551616-0-c)%18446744073709551616=s at*
     generalize hcc:(if u<0+c then 1 else 0)=c' at*
     refine bg hga ?_;refine km (y:=0) Tryz.func197 zk zk zk zk zo ?_;rw[hs,hcc];refine bg hset ?_;refine aI (L++[s],c') [some 0,some 1,some 2,some 3] rfl (by simp only[ake,akm,akz];exact zM) (by exact zM) ⟨kq hL hd2,hd1,by simp only[ake,akm,akz];exact hst,by simp only[ake,akm,akz];omega⟩ (by simp only[ake,akm,akz];omega)
 · have hLe:L.length=(wg a).length:=by omega
   have e1:(wg a).take L.length=wg a:=aku zo;have e2:(wg b).take L.length=wg b:=aku zo;rw[e1,e2,hav,hbv] at hv;have hvl:=gj hL
   have hc0:c=0:=by
    rcases akQ c with h | h
    · exact h
    · have:=alg (18446744073709551616^L.length) h
      generalize 18446744073709551616^L.length=P at*
      generalize P*c=Pc at*
      omega
   have hval:aE 18446744073709551616 L=a-b:=by rw[hc0] at hv;omega
   have hpf:=tG hLe;rw[hpf] at*
   have hls:=av L;refine ae ?_;refine aF [] [3] (dD (l:=L) hL zo) ?_;rw[hval];exact zE [] hQ
end Go.Proofs.YtcnlmelpnflhnaaGreat
