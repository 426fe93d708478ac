import Derived.Test.YtcnlmelpnflhnaaGreatE6
import Derived.Laws.Externs
import Derived.Test.YtcnlmelpnflhnaaGreatRa
namespace Go.Eng
open Go.Vx
set_option linter.unusedSimpArgs false
set_option linter.unusedVariables false
theorem sB {w:World} {Im:Nat→Prop} {μ:Mu}:∀{xs args:List Value},aW w Im μ (xs.map V.lit) args→args=xs
 | [],args,h=>agD.1 (by simpa using h.1)
 | x::xs,args,h=>by
   obtain ⟨v,vs,rfl,h1,h2⟩:=aW.uncons h
   cases h1
   rw[sB h2]
theorem Lr {P:Program} {e:Bool} {f:FuncId} {xs:List Value} {u:V} {v:Value} {σ:St} {K:KV} (h:∀w,(callFunc f xs.toArray).run P w=.ok (.value v) w)
 (hu:∀w Im μ,RepV w Im μ u v) (hk:K true u σ):dv P e f (xs.map V.lit) σ K:=fun μ Im w args r hr=>by
 obtain rfl:=sB hr;unfold x5 k7 runK;rw[h];exact⟨u,σ,μ,Im,r,Stp.refl _ _ _ _,fun _=>Ext.refl _ _,hu _ _ _,hk⟩
theorem Ad {a b:Value} (ha:bj a=true) (hb:bj b=true) (w:World) (Im:Nat→Prop) (μ:Mu):RepV w Im μ (.tup [.lit a,.lit b]) (.tuple #[a,b]):=
 .tup (C:=[a,b]) rfl fun i u c h1 h2=>by
  rcases i with _ | _ | i
  · simp at h1 h2;subst h1;subst h2;exact .lit ha
  · simp at h1 h2;subst h1;subst h2;exact .lit hb
  · simp at h1
theorem fo {P:Program} {e:Bool} {f:FuncId} {fn:Func} {x y c:Nat} {σ:St} {K:KV} (hf:P.funcs[f]? =some fn) (h1:(fn.name== "runtime.NumGoroutine")=false)
 (h2:fn.body.isNone=true) (h3:Extern.findNext fn=none) (h4:Extern.find fn=some add64Entry) (hc:c≤1)
 (hk:K true (.tup [.lit (.int .u64 (((x+y+c)%18446744073709551616:Nat):Int)),.lit (.int .u64 (((x+y+c)/18446744073709551616:Nat):Int))]) σ):
 dv P e f [.lit (.int .u64 (x:Int)),.lit (.int .u64 (y:Int)),.lit (.int .u64 (c:Int))] σ K:=by
 refine Lr (xs:=[.int .u64 (x:Int),.int .u64 (y:Int),.int .u64 (c:Int)]) (fun w=>?_) (Ad rfl rfl) hk;rw[run_callFunc_extern hf h1 h2 h3 h4,run_add64 x y c zo zo zo zo];simp only[Result.andThen]
 congr 5<;>omega
def F3:Array Value→Sem Value:=(Extern.MathBitsCarry.rows.getD 1 ("",fun _=>stuck "")).2
theorem y9 {P:Program} (x y b:Nat) (hb:b≤1) (w:World):(F3 #[.int .u64 x,.int .u64 y,.int .u64 b]).run P w=
 .ok (.tuple #[.int .u64 (((x+18446744073709551616-y-b)%18446744073709551616:Nat):Int),.int .u64 ((if x<y+b then 1 else 0:Nat):Int)]) w:=by
 have:b=0∨b=1:=by omega
 rcases this with rfl | rfl<;>rfl
theorem jn {P:Program} {e:Bool} {f:FuncId} {fn:Func} {x y c:Nat} {σ:St} {K:KV} (hf:P.funcs[f]? =some fn) (h1:(fn.name== "runtime.NumGoroutine")=false)
 (h2:fn.body.isNone=true) (h3:Extern.findNext fn=none) (h4:Extern.find fn=some F3) (hc:c≤1)
 (hk:K true (.tup [.lit (.int .u64 (((x+18446744073709551616-y-c)%18446744073709551616:Nat):Int)),.lit (.int .u64 ((if x<y+c then 1 else 0:Nat):Int))]) σ):
 dv P e f [.lit (.int .u64 (x:Int)),.lit (.int .u64 (y:Int)),.lit (.int .u64 (c:Int))] σ K:=by
 refine Lr (xs:=[.int .u64 (x:Int),.int .u64 (y:Int),.int .u64 (c:Int)]) (fun w=>?_) (Ad rfl rfl) hk;rw[run_callFunc_extern hf h1 h2 h3 h4,y9 x y c hc]
 rfl
end Go.Eng
namespace Go.Proofs.YtcnlmelpnflhnaaGreat
open Go.Eng Go.Vx
set_option linter.unusedSimpArgs false
set_option linter.unusedVariables false
set_option maxRecDepth 100000
def wg (n:Nat):List Nat:=kR 18446744073709551616 n
def NV (n:Nat):V:=.agg [.row 1 ((nl (wg n)).map (ie .u64))]
attribute [go_sem] NV
theorem eB (n:Nat):∀d∈wg n,d<18446744073709551616:=N5 (B:=18446744073709551616) zd n
theorem dU (n:Nat):aA 18446744073709551616 (wg n)=n:=JV zd n
theorem ej:wg 0=[]:=fC _
theorem xA {n:Nat}:wg n=[]↔n=0:=lW zd
theorem pZ {n k:Nat} (h:n<18446744073709551616^k):(wg n).length≤k:=(fc zd).2 h
theorem cI {a b:Nat} (h:a≤b):(wg a).length≤(wg b).length:=l9 zd h
theorem cK {n:Nat} (h:n<18446744073709551616):(wg n).length≤1:=pZ (by simpa using h)
theorem dc {l:List Nat} (hl:∀d∈l,d<18446744073709551616) (hm:l.length≤4000000):aC Tryz.prog 135 [.row 1 ((nl l).map (ie .u64))] [] (NV (aA 18446744073709551616 l)) []:=by
 refine zF pl Tryz.call135 Tryz.func135 [.cell 2 157] fun Q hQ=>?_;have hnl:=aD l;refine ae ?_
 refine aU (X:=Nat) (st:=fun n=>([(0,.row 1 ((nl l).map (ie .u64))),(2,.ref 0 0 0 0),(3,.lit (.int .i64 (n:Int)))],[some (.cells [.row 1 []])]))
  (inv:=fun n=>n≤l.length∧∀i,n≤i→i<l.length→l.getD i 0=0) (m:=fun n=>n) l.length [some 0] ⟨by omega,fun i h1 h2=>by omega⟩ ?_
 rintro n ⟨hn,h0⟩
 by_cases h:0<n
 · obtain ⟨k,rfl⟩:∃k,n=k+1:=⟨n-1,by omega⟩
   have hg:=bg l k;have hk:(((k+1:Nat):Int)-1).toNat=k:=by omega
   by_cases hz:l.getD k 0=0
   · simp(maxSteps:=1000000) (disch:=(first | omega | (simp only[dm,agr,ags,true_and,and_true];(try omega);done) | fail)) only[go_sem,hk,hg,hz,Int.reduceEq,Int.reduceToNat,Nat.reduceAdd,Nat.reduceMul,Nat.reduceEqDiff, ↓reduceIte]
     refine aO k [some 0] ⟨by omega,fun i h1 h2=>?_⟩ zo;rcases Nat.eq_or_lt_of_le h1 with e | e
     · rw[←e];exact hz
     · exact h0 i e h2
   · have ht:l.take _=wg (aA 18446744073709551616 l):=wx (B:=18446744073709551616) zd hl hn h0 (.inr (by rw[ahX];exact hz))
     simp(maxSteps:=1000000) (disch:=(first | omega | (simp only[dm,agr,ags,true_and,and_true];(try omega);done) | fail)) only[go_sem,hk,hg,Int.reduceEq,Int.reduceToNat,Nat.reduceAdd,Nat.reduceMul,Nat.reduceEqDiff, ↓reduceIte]
     rw[lZ,ht];exact ak [] hQ
 · obtain rfl:n=0:=by omega
   have ht:l.take _=wg (aA 18446744073709551616 l):=wx (B:=18446744073709551616) zd hl hn h0 (.inl rfl);refine ae ?_;rw[lZ,ht];exact ak [] hQ
theorem BK {B:List Nat} (hB:B.length≤4000000):aC Tryz.prog 136 [.row 1 ((nl B).map (ie .u64))] [] (.row 1 ((nl B).map (ie .u64))) []:=by
 refine zF pl Tryz.call136 Tryz.func136 [.tmp 2] fun Q hQ=>?_;have hnl:=aD B
 by_cases h:B=[]
 · subst h
   refine TV ?_;refine iO ?_ ?_
   · refine ae ?_
     exact ak [] hQ
   · refine ae ?_
     exact ak [] hQ
 · have he:((nl B).map (ie .u64)).isEmpty=false:=by simp[h,nl]
   refine bh he ?_;exact ak [] hQ
theorem Ek {l:List Nat} (hl:∀d∈l,d<18446744073709551616) (hm:l.length≤4000000):aC Tryz.prog 74 [.row 1 ((nl l).map (ie .u64))] [] (NV (aA 18446744073709551616 l)) []:=by
 refine zF pl Tryz.call74 Tryz.func74 [.cell 2 157] fun Q hQ=>?_;refine ae ?_;refine zC (BK (B:=l) hm) ?_;refine zC (dc hl hm) ?_;exact ak [] hQ
theorem dV {x:Nat} (hx:x<18446744073709551616):aC Tryz.prog 74 [.row 1 [[.lit (.int .u64 (x:Int))]]] [] (NV x) []:=by
 have h:=Ek (l:=[x]) (by simpa using hx) (by simp)
 rwa [show aA 18446744073709551616 [x]=x by simp[aA]] at h
theorem du {n:Nat} (hn:(wg n).length≤4000000):aC Tryz.prog 162 [NV n] [] (.lit (.bool (decide (n=0)))) []:=by
 refine zF pl Tryz.call162 Tryz.func162 [.tmp 2] fun Q hQ=>?_;have hnl:=aD (wg n)
 by_cases h:n=0
 · subst h
   rw[ej] at hnl;refine bh @ej ?_;exact ak [] hQ
 · have h0:0<(wg n).length:=by
    rcases agX (wg n).length with e | e
    · exact absurd (xA.1 (agD.1 e)) h
    · exact e
   rw[agq h] at hQ;have hd:decide (((nl (wg n)).length:Int)=0)=false:=agq zo;refine bh hd ?_;exact ak [] hQ
theorem eR {a b:Nat} (ha:(wg a).length≤4000000) (hb:(wg b).length≤4000000):aC Tryz.prog 191 [NV a,NV b] [] (.lit (.int .i64 (gU a b))) []:=by
 refine zF Lt Tryz.call191 Tryz.func191 [.tmp 4] fun Q hQ=>?_;have hal:=eB a;have hbl:=eB b;have hav:=dU a;have hbv:=dU b;have hnA:=aD (wg a);have hnB:=aD (wg b);unfold gU at hQ
 by_cases hl:(wg a).length=(wg b).length
 · refine ae ?_
   refine aU (X:=Nat) (st:=fun k=>([(2,.ref 0 0 0 0),(3,.ref 1 0 0 0),(6,.lit (.int .i64 ((k:Int)-1)))],[some (.cells [.row 1 ((nl (wg a)).map (ie .u64))]),some (.cells [.row 1 ((nl (wg b)).map (ie .u64))])]))
    (inv:=fun k=>k≤(wg a).length∧(wg a).drop k=(wg b).drop k) (m:=fun k=>k) (wg a).length [some 0,some 1] ⟨by omega,by rw[ai1 (agt _),ai1 zo]⟩ ?_
   rintro k ⟨hk,hd⟩
   by_cases h:0<k
   · obtain ⟨i,rfl⟩:∃i,k=i+1:=⟨k-1,by omega⟩
     have hga:=bg (wg a) i;have hgb:=bg (wg b) i;have hki:(((i+1:Nat):Int)-1).toNat=i:=by omega
     by_cases h1:(wg a).getD i 0<(wg b).getD i 0
     · have hlt:=uA zd hal hbl hl zo hd h1
       rw[hav,hbv] at hlt;rw[if_pos hlt] at hQ;refine rD hki hga hgb ?_;exact ak [] hQ
     · by_cases h2:(wg b).getD i 0<(wg a).getD i 0
       · have hlt:=uA zd hbl hal hl.symm zo hd.symm h2
         rw[hav,hbv] at hlt;rw[if_neg zo,if_pos hlt] at hQ;refine rD hki hga hgb ?_;exact ak [] hQ
       · refine rD hki hga hgb ?_
         refine aO i [some 0,some 1] ⟨by omega,?_⟩ zo;rw[ahn (show i<(wg a).length by omega),ahn (show i<(wg b).length by omega),hd]
         congr 1
         simp only[ago,agp (show i<(wg a).length by omega),agp (show i<(wg b).length by omega),aiQ] at h1 h2;omega
   · obtain rfl:k=0:=by omega
     rw[agO,agO] at hd;rw[hd] at hav;rw[if_neg zo,if_neg zo] at hQ;exact zE [] hQ
 · by_cases h:(wg a).length<(wg b).length
   · have hlt:=pg (B:=18446744073709551616) zd h
     rw[if_pos hlt] at hQ;have hmm:max (-1) (min (((wg a).length:Int)-((wg b).length:Int)) 1)= -1:=by omega
     refine bh hmm ?_;exact ak [] hQ
   · have hlt:=pg (B:=18446744073709551616) zd (show(wg b).length<(wg a).length by omega)
     rw[if_neg zo,if_pos hlt] at hQ;have hmm:max (-1) (min (((wg a).length:Int)-((wg b).length:Int)) 1)=1:=by omega
     refine bh hmm ?_;exact ak [] hQ
def pad (L:List Nat) (k:Nat):List Nat:=L++List.replicate (k-L.length) 0
theorem tZ {L:List Nat} {k:Nat} (h:L.length≤k):(pad L k).length=k:=by unfold pad;simp;omega
theorem tf {L:List Nat} {k x:Nat} (h:L.length<k):(pad L k).set L.length x=pad (L++[x]) k:=by
 unfold pad;obtain ⟨m,hm⟩:∃m,k-L.length=m+1:=⟨k-L.length-1,by omega⟩;rw[hm,ahN,aiG (h:=agt _),ahJ,aiC,agn,aip,show k-(L.length+1)=m by omega,agw]
 rfl
theorem rk {L:List Nat} {k:Nat} (h:L.length=k):pad L k=L:=by unfold pad;rw[h,ahJ];simp
theorem AH (k:Nat):pad [] k=List.replicate k 0:=rfl
set_option maxHeartbeats 4000000 in
theorem gh {a b:Nat} (ha:(wg a).length≤2000000) (hb:(wg b).length≤2000000):aC Tryz.prog 199 [NV a,NV b] [] (NV (a+b)) []:=by
 refine zF pl Tryz.call199 Tryz.func199 [.cell 4 157] fun Q hQ=>?_
 by_cases h:(wg a).length<(wg b).length
 case' pos=>
  have hnA:=aD (wg a);have hnB:=aD (wg b);refine ae ?_;rw[ah1 a b] at hQ;have hle:(wg a).length≤(wg b).length:=by omega
  clear h hnA hnB;generalize b=x at*
  generalize a=y at*
 case' neg=>
  have hnA:=aD (wg a);have hnB:=aD (wg b);refine ae ?_;have hle:(wg b).length≤(wg a).length:=by omega
  clear h hnA hnB;generalize a=x at*
  generalize b=y at*
 all_goals
  have hal:=eB x;have hbl:=eB y;have hav:=dU x;have hbv:=dU y;have hnA:=aD (wg x);have hnB:=aD (wg y)
  refine aM (X:=List Nat×Nat) (st:=fun z=>([(2,.ref 0 0 0 0),(3,.ref 1 0 0 0),(4,.ref 2 0 0 0),(5,.sl 3 1 0 ((wg x).length+1)),(6,.lit (.int .u64 (z.2:Int))),(25,.row 1 ((nl (wg x)).map (ie .u64))),(26,.lit (.int .i64 ((wg x).length:Int))),(27,.lit (.int .i64 (z.1.length:Int)))],
   [some (.cells [.row 1 ((nl (wg x)).map (ie .u64))]),some (.cells [.row 1 ((nl (wg y)).map (ie .u64))]),some (.cells [.lit (.slice none 0 0)]),some (.row 1 ((nl (pad z.1 ((wg x).length+1))).map (ie .u64)))]))
   (inv:=fun z=>(∀d∈z.1,d<18446744073709551616)∧z.2≤1∧aA 18446744073709551616 z.1+18446744073709551616^z.1.length*z.2=aA 18446744073709551616 ((wg x).take z.1.length)+aA 18446744073709551616 ((wg y).take z.1.length)∧z.1.length≤(wg x).length)
   (m:=fun z=>(wg x).length-z.1.length) ([],0) [some 0,some 1,some 2,some 3] rfl (by simp only[AH,←lB];exact zM) zM ⟨by simp,by simp,by simp[aA],by simp⟩ ?_
  rintro ⟨L,c⟩ ⟨hL,hc,hv,hll⟩;simp only at hL hc hv hll ⊢;have hpl:=tZ (L:=L) (k:=(wg x).length+1) zo;have hnp:=aD (pad L ((wg x).length+1))
  by_cases h1:L.length<(wg x).length
  · have hga:=bg (wg x) L.length
    have hgb:=bg (wg y) L.length;have hxa:=cv zd hal L.length;have hxb:=cv zd hbl L.length;have hzb:(wg y).length≤L.length→(wg y).getD L.length 0=0:=wy;have hst:=vg hv;generalize (wg x).getD L.length 0=u at*
    generalize (wg y).getD L.length 0=v at*
    have hcs:u+v+c=c+u+v:=by omega
    have hset:=fv (pad L ((wg x).length+1)) L.length ((c+u+v)%18446744073709551616);rw[tf zo] at hset;have hinv:(∀d∈L++[(c+u+v)%18446744073709551616],d<18446744073709551616)∧(c+u+v)/18446744073709551616≤1:=⟨jt hL (agJ _ zd),by omega⟩
    by_cases h2:L.length<(wg y).length
    · refine dK hga hgb ?_
      refine fo Tryz.func205 zk zk zk zk zo ?_;rw[hcs];refine bh hset ?_;refine aG (L++[(c+u+v)%18446744073709551616],(c+u+v)/18446744073709551616) [some 0,some 1,some 2,some 3] rfl (by simp only[agn,agu,agE];exact zM) (by exact zM) ⟨hinv.1,hinv.2,by simp only[agn,agu,agE];exact hst,by simp only[agn,agu,agE];omega⟩ (by simp only[agn,agu,agE];omega)
    · obtain rfl:v=0:=hzb zo
      simp only[ahA] at hst hset hinv;rw[ahA,ahA] at hcs;refine bh hga ?_;refine fo (y:=0) Tryz.func205 zk zk zk zk zo ?_;rw[ahA,hcs];refine bh hset ?_;refine aG (L++[(c+u)%18446744073709551616],(c+u)/18446744073709551616) [some 0,some 1,some 2,some 3] rfl (by simp only[agn,agu,agE];exact zM) (by exact zM) ⟨hinv.1,hinv.2,by simp only[agn,agu,agE];exact hst,by simp only[agn,agu,agE];omega⟩ (by simp only[agn,agu,agE];omega)
  · have hLe:L.length=(wg x).length:=by omega
    have e1:(wg x).take L.length=wg x:=agB zo;have e2:(wg y).take L.length=wg y:=agB zo;rw[e1,e2,hav,hbv] at hv;have hset:=fv (pad L ((wg x).length+1)) L.length c;rw[tf zo,rk (L:=L++[c]) (by simp only[agn,agu,agE];omega),hLe] at hset;have hval:aA 18446744073709551616 (L++[c])=x+y:=by rw[dM];exact hv
    have hlc:(L++[c]).length=(wg x).length+1:=by simp only[agn,agu,agE];omega
    have hls:=aD (L++[c]);have hset2:(nl (pad L ((wg x).length+1))).set (nl (wg x)).length (c:Int)=nl (L++[c]):=by rw[hnA];exact hset
    refine bh hset2 ?_;refine aV [] [3] (dc (l:=L++[c]) (jt hL zo) zo) ?_;rw[hval];exact zE [] hQ
theorem eN {a b:Nat}:gU a b<0↔a<b:=by unfold gU;split<;>(try split)<;>omega
theorem nj {u v c:Nat} (hu:u<18446744073709551616) (hv:v<18446744073709551616) (hc:c≤1):
 u+18446744073709551616*(if u<v+c then 1 else 0)=(u+18446744073709551616-v-c)%18446744073709551616+c+v∧(if u<v+c then 1 else 0)≤1∧(u+18446744073709551616-v-c)%18446744073709551616<18446744073709551616:=by
 split<;>omega
theorem oy:NV 0=.agg [.row 1 []]:=by unfold NV;rw[ej];rfl
theorem p7 {a b:Nat} (hba:a<b) (ha:(wg a).length≤2000000) (hb:(wg b).length≤2000000):aC Tryz.prog 180 [NV a,NV b] [] (.tup [NV 0,.lit (.int .i64 2)]) []:=by
 refine zF pl Tryz.call180 Tryz.func180 [.cell 4 157,.tmp 5] fun Q hQ=>?_;have hc:=eN.2 hba;rw[oy] at hQ;refine ae ?_;refine az (eR (a:=a) (b:=b) zo zo) rfl rfl ?_;refine bh (agC hc) ?_;exact ak [] hQ
set_option maxHeartbeats 4000000 in
theorem i5 {a b:Nat} (hba:b≤a) (ha:(wg a).length≤2000000):aC Tryz.prog 180 [NV a,NV b] [] (.tup [NV (a-b),.lit (.int .i64 0)]) []:=by
 refine zF pl Tryz.call180 Tryz.func180 [.cell 4 157,.tmp 5] fun Q hQ=>?_;have hc:¬gU a b<0:=fun h=>by have:=eN.1 h;omega
 have hal:=eB a;have hbl:=eB b;have hav:=dU a;have hbv:=dU b;have hnA:=aD (wg a);have hnB:=aD (wg b);have hle:(wg b).length≤(wg a).length:=cI hba;refine ae ?_;refine az (eR (a:=a) (b:=b) zo zo) rfl rfl ?_;refine bh (agq hc) ?_
 refine aM (X:=List Nat×Nat) (st:=fun z=>([(2,.ref 0 0 0 0),(3,.ref 1 0 0 0),(4,.ref 2 0 0 0),(6,.sl 3 1 0 ((wg a).length)),(7,.lit (.int .u64 (z.2:Int))),(21,.row 1 ((nl (wg a)).map (ie .u64))),(22,.lit (.int .i64 ((wg a).length:Int))),(23,.lit (.int .i64 (z.1.length:Int)))],
  [some (.cells [.row 1 ((nl (wg a)).map (ie .u64))]),some (.cells [.row 1 ((nl (wg b)).map (ie .u64))]),some (.cells [.lit (.slice none 0 0)]),some (.row 1 ((nl (pad z.1 (wg a).length)).map (ie .u64)))]))
  (inv:=fun z=>(∀d∈z.1,d<18446744073709551616)∧z.2≤1∧aA 18446744073709551616 ((wg a).take z.1.length)+18446744073709551616^z.1.length*z.2=aA 18446744073709551616 z.1+aA 18446744073709551616 ((wg b).take z.1.length)∧z.1.length≤(wg a).length)
  (m:=fun z=>(wg a).length-z.1.length) ([],0) [some 0,some 1,some 2,some 3] rfl (by simp only[AH,←lB];exact zM) zM ⟨by simp,by simp,by simp[aA],by simp⟩ ?_
 rintro ⟨L,c⟩ ⟨hL,hc,hv,hll⟩;simp only at hL hc hv hll ⊢;have hpl:=tZ (L:=L) (k:=(wg a).length) zo;have hnp:=aD (pad L (wg a).length)
 by_cases h1:L.length<(wg a).length
 · have hga:=bg (wg a) L.length
   have hgb:=bg (wg b) L.length;have hxa:=cv zd hal L.length;have hxb:=cv zd hbl L.length;have hzb:(wg b).length≤L.length→(wg b).getD L.length 0=0:=wy;have hst:=fun z c' h=>EE (x:=z) (c':=c') hv h;generalize (wg a).getD L.length 0=u at*
   generalize (wg b).getD L.length 0=v at*
   obtain ⟨hd,hd1,hd2⟩:=nj hxa hxb hc;have hst:=hst _ _ hd;have hset:∀s:Nat,(nl (pad L (wg a).length)).set L.length (s:Int)=nl (pad (L++[s]) (wg a).length):=fun s=>by rw[fv,tf zo]
   by_cases h2:L.length<(wg b).length
   · generalize hs:(u+18446744073709551616-v-c)%18446744073709551616=s at*
     generalize hcc:(if u<v+c then 1 else 0)=c' at*
     refine dK hga hgb ?_;refine jn Tryz.func197 zk zk zk zk zo ?_;rw[hs,hcc];refine bh hset ?_;refine aG (L++[s],c') [some 0,some 1,some 2,some 3] rfl (by simp only[agn,agu,agE];exact zM) (by exact zM) ⟨jt hL hd2,hd1,by simp only[agn,agu,agE];exact hst,by simp only[agn,agu,agE];omega⟩ (by simp only[agn,agu,agE];omega)
   · obtain rfl:v=0:=hzb zo
     generalize hs:(u+18446744073709551616-0-c)%18446744073709551616=s at*
     generalize hcc:(if u<0+c then 1 else 0)=c' at*
     refine bh hga ?_;refine jn (y:=0) Tryz.func197 zk zk zk zk zo ?_;rw[hs,hcc];refine bh hset ?_;refine aG (L++[s],c') [some 0,some 1,some 2,some 3] rfl (by simp only[agn,agu,agE];exact zM) (by exact zM) ⟨jt hL hd2,hd1,by simp only[agn,agu,agE];exact hst,by simp only[agn,agu,agE];omega⟩ (by simp only[agn,agu,agE];omega)
 · have hLe:L.length=(wg a).length:=by omega
   have e1:(wg a).take L.length=wg a:=agB zo;have e2:(wg b).take L.length=wg b:=agB zo;rw[e1,e2,hav,hbv] at hv;have hvl:=fx hL
   have hc0:c=0:=by
    rcases agX c with h | h
    · exact h
    · have:=ahl (18446744073709551616^L.length) h
      generalize 18446744073709551616^L.length=P at*
      generalize P*c=Pc at*
      omega
   have hval:aA 18446744073709551616 L=a-b:=by rw[hc0] at hv;omega
   have hpf:=rk hLe;rw[hpf] at*
   have hls:=aD L;refine ae ?_;refine aV [] [3] (dc (l:=L) hL zo) ?_;rw[hval];exact zE [] hQ
end Go.Proofs.YtcnlmelpnflhnaaGreat
