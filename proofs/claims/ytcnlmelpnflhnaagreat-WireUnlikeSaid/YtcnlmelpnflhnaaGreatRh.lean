import Derived.Test.YtcnlmelpnflhnaaGreatRa
import Derived.Test.YtcnlmelpnflhnaaGreatE7
import Derived.Test.YtcnlmelpnflhnaaGreatD1
import Derived.Test.YtcnlmelpnflhnaaGreatE8
import Derived.Test.YtcnlmelpnflhnaaGreatE6
namespace Go.Proofs.YtcnlmelpnflhnaaGreat
open Go.Eng
set_option linter.unusedSimpArgs false
set_option linter.unusedVariables false
def QC (K:Nat) (s:Nat×Nat):Nat×Nat:=if 2*K≤s.1*s.1/K then(s.1*s.1/K/2,2*s.2+1) else(s.1*s.1/K,2*s.2)
def Nc (K:Nat) (s:Nat×Nat):Nat→Nat×Nat
 | 0=>s
 | j+1=>QC K (Nc K s j)
theorem NB {K:Nat} {s:Nat×Nat} (hK:0<K) (h:K≤s.1∧s.1<2*K):K≤(QC K s).1∧(QC K s).1<2*K∧(QC K s).2≤2*s.2+1:=by
 have h1:K*K≤s.1*s.1:=agQ h.1 h.1
 have h2:s.1*s.1<4*K*K:=by
  have:=Nat.mul_lt_mul'' h.2 h.2
  have e:2*K*(2*K)=4*K*K:=by rw[Nat.mul_mul_mul_comm,agZ 4]
  omega
 have h3:K≤s.1*s.1/K:=(ahL hK).2 h1;have h4:s.1*s.1/K<4*K:=(agY hK).2 h2;unfold QC
 split
 · simp only;omega
 · simp only;omega
theorem MW {K x o:Nat} (hK:0<K) (h:K≤x∧x<2*K):∀j,K≤(Nc K (x,o) j).1∧(Nc K (x,o) j).1<2*K∧(Nc K (x,o) j).2+1≤(o+1)*2^j
 | 0=>⟨h.1,h.2,by simp[Nc]⟩
 | j+1=>by
   obtain ⟨a,b,c⟩:=MW hK h j (o:=o)
   have:=NB hK ⟨a,b⟩
   refine⟨this.1,this.2.1,?_⟩;have h3:=this.2.2
   show(QC K (Nc K (x,o) j)).2+1≤_
   rw[agS,←agZ];omega
def K62:Nat:=4611686018427387904
def lgN (n:Nat):Nat:=(Nc K62 (n*2^(62-(bl n-1)),bl n-1) 28).2
def D28:Nat:=268435456
open Go.Eng Go.Vx
set_option maxRecDepth 100000
theorem xf {A B:List Int} (hA:A.length≤1099511627776) (hB:B.length≤1099511627776):aC Tryz.prog 14 [.row 1 (A.map (ie .u8)),.row 1 (B.map (ie .u8))] [] (.lit (.bool (decide (A=B)))) []:=by
 refine zF U5 Tryz.call14 Tryz.func14 [.tmp 4] fun Q hQ=>?_
 by_cases hl:A.length=B.length
 · refine ae ?_
   refine aU (X:=Nat) (st:=fun i=>([(0,.row 1 (A.map (ie .u8))),(1,.row 1 (B.map (ie .u8))),(5,.lit (.int .i64 (i:Int)))],[]))
    (inv:=fun i=>i≤A.length∧A.take i=B.take i) (m:=fun i=>A.length-i) 0 [] ⟨agM _,by simp⟩ ?_
   rintro i ⟨hi,hs⟩
   by_cases hil:i<A.length
   · by_cases hx:A.getD i 0=B.getD i 0
     · refine Wx hx ?_
       refine aO (i+1) [] ⟨by omega,?_⟩ zo;rw[kc _ _ hil,kc _ _ zo,hs]
       have:A.getD i default=B.getD i default:=hx
       rw[this]
     · refine acj hx ?_
       have:decide (A=B)=false:=agq fun e=>hx (by rw[e])
       rw[this] at hQ;exact ak [] hQ
   · refine ae ?_
     obtain rfl:i=A.length:=by omega
     rw[agB zo,agB zo] at hs;rw[agC hs] at hQ;exact ak [] hQ
 · refine ae ?_
   have:decide (A=B)=false:=agq fun e=>hl (by rw[e])
   rw[this] at hQ;exact ak [] hQ
theorem BF {B:List Bool} (hB:B.length≤140737488355327):aC Tryz.prog 60 [.row 1 (B.map be)] [] (.row 1 (B.map be)) []:=by
 refine zF pl Tryz.call60 Tryz.func60 [.tmp 2] fun Q hQ=>?_
 by_cases h:B=[]
 · subst h
   refine TV ?_;refine iO ?_ ?_
   · refine ae ?_
     exact ak [] hQ
   · refine ae ?_
     exact ak [] hQ
 · have he:(B.map be).isEmpty=false:=by simp[h]
   refine bh he ?_;exact ak [] hQ
def aX (L:List Bool) (p:Nat) (d:Bool):Ob:=.cells [.lit (.int .i64 (p:Int)),.lit (.bool d),.row 1 (L.map be)]
def tpP (L:List Bool) (p:Nat) (d:Bool):V:=.rref 3 [[.lit (.int .i64 (p:Int)),.lit (.bool d),.row 1 (L.map be)]] 0 0
attribute [go_sem] aX tpP
theorem mP {L:List Bool} (hL:L.length≤1048576):aC Tryz.prog 15 [.row 1 (L.map be)] [] (.ref 0 0 0 0) [some (aX L 0 false)]:=by
 refine zF pl Tryz.call15 Tryz.func15 [.tmp 2] fun Q hQ=>?_;have hm:min (L.length:Int) 1048576=(L.length:Int):=by omega
 refine aaS hm ?_;refine zC (BF (B:=L) zo) ?_;exact ak [some 0] hQ
theorem oz {L:List Bool} {p:Nat} (hL:L.length≤1048576) (hp:p<L.length):aC Tryz.prog 142 [.ref 0 0 0 0] [some (aX L p false)] (.tup [.lit (.bool (L.getD p false)),.lit (.int .i64 0)]) [some (aX L (p+1) false)]:=by
 refine zF AU Tryz.call142 Tryz.func142 [.tmp 2,.tmp 3] fun Q hQ=>?_;have hp1:(((p:Int)+1)-1).toNat=p:=by omega
 refine bh hp1 ?_;exact ak [some 0] hQ
theorem fM {L:List Bool} {p:Nat} {d:Bool} (hL:L.length≤1048576) (h:d=true∨p=L.length):aC Tryz.prog 142 [.ref 0 0 0 0] [some (aX L p d)] (.tup [.lit (.bool false),.lit (.int .i64 8)]) [some (aX L p true)]:=by
 refine zF AU Tryz.call142 Tryz.func142 [.tmp 2,.tmp 3] fun Q hQ=>?_
 cases d with
 | true=>
   exact zE [some 0] hQ
 | false=>
   obtain rfl:p=L.length:=by simpa using h
   exact zE [some 0] hQ
end Go.Proofs.YtcnlmelpnflhnaaGreat

namespace Go.Vx
open Go.Eng
set_option linter.unusedSimpArgs false
set_option linter.unusedVariables false
theorem zK {α:Type} {l c:List α} {F:List α→Prop} (h:l.length=c.length):da l 0 c F=F c:=by
 unfold da;rw[if_pos zo,agU,←h,aix,ahk,aht,ahj]
end Go.Vx
namespace Go.Proofs.YtcnlmelpnflhnaaGreat
open Go.Eng Go.Vx
set_option linter.unusedSimpArgs false
set_option linter.unusedVariables false
set_option maxRecDepth 100000
def j9 (i:Nat):List V:=(la i).map V.lit
theorem pI {i:Nat} (h:i≤256):(j9 i).length=256:=by unfold j9;rw[agr,BM h]
theorem CO:j9 0=List.map V.lit (List.replicate 256 (.int .u32 0)):=by unfold j9;rw[xv]
theorem Gm {i:Nat} (h:i<256):(j9 i).set i (.lit (.int .u32 ((entry i:Nat):Int)))=j9 (i+1):=by
 unfold j9;rw[←Bj h,List.map_set]
 rfl
theorem AD {m:Nat} {G:V→Prop} (h:m<256):lO (j9 256) m G=G (.lit (.int .u32 ((entry m:Nat):Int))):=by
 unfold lO j9;rw[ag4,Cb h]
 rfl
theorem uM:∀C:List Value,kW.plnL (C.map V.lit)=true
 | []=>rfl
 | c::C=>by
   show(true&&kW.plnL (C.map V.lit))=true
   rw[uM C];rfl
theorem Jk {ok:Nat→Bool} {π:Pi} {σ:St} {i:Nat}:rn ok π σ (j9 i) (j9 i)=True:=eq_true (ki (uM _))
attribute [go_sem ↓] Jk
theorem GG:aC Tryz.prog 176 [] [] (.agg (j9 256)) []:=by
 refine zF pl Tryz.call176 Tryz.func176 [.cell 0 274] fun Q hQ=>?_;refine ae ?_;rw[←CO]
 refine aU (X:=Nat) (st:=fun i=>([(0,.ref 0 0 0 0),(1,.ref 1 0 0 0),(5,.lit (.int .i64 (i:Int)))],[some (.cells (j9 0)),some (.cells (j9 i))]))
  (inv:=fun i=>i≤256) (m:=fun i=>256-i) 0 [some 0,some 1] zo ?_
 intro i hi;have hl:=pI hi;have hl0:=pI (i:=0) zo
 by_cases h:i<256
 · refine ae ?_
   refine aM (X:=Nat) (st:=fun k=>([(0,.ref 0 0 0 0),(1,.ref 1 0 0 0),(2,.lit (.int .i64 (i:Int))),(3,.lit (.int .u32 ((bL i k:Nat):Int))),(5,.lit (.int .i64 (i:Int))),(10,.lit (.int .i64 (k:Int)))],[some (.cells (j9 0)),some (.cells (j9 i))]))
    (inv:=fun k=>k≤8) (m:=fun k=>8-k) 0 [some 0,some 1] rfl zM (by rw[show bL i 0=i from rfl];exact zM) zo ?_
   intro k hk;have hlt:=gj (c:=i) zo k
   by_cases h8:k<8
   · have hs:bL i (k+1)=gO (bL i k):=rfl
     generalize bL i k=c at*
     unfold gO at hs;have hcd:(c:Int)/2=((c/2:Nat):Int):=by omega
     have hx:bY .xor .u32 ((c/2:Nat):Int) 3988292384=((c/2^^^3988292384:Nat):Int):=tM (x:=c/2) (y:=3988292384) zo zd;have hm:(c:Int)%2=((c%2:Nat):Int):=by omega
     by_cases ho:c%2=1
     · rw[if_pos ho] at hs
       refine dK hcd hx ?_;refine aG (k+1) [some 0,some 1] rfl zM (by dsimp only;rw[hs];exact zM) zo zo
     · rw[if_neg ho] at hs
       refine dK hcd hx ?_;refine aG (k+1) [some 0,some 1] rfl zM (by dsimp only;rw[hs];exact zM) zo zo
   · obtain rfl:k=8:=by omega
     have hts:=Gm h;rw[show bL i 8=entry i from rfl];refine dK @t8 hts ?_;refine aO (i+1) [some 0,some 1] zo zo
 · obtain rfl:i=256:=by omega
   refine dK @JX @zK ?_;exact ak [] hQ
theorem nE (y:Nat):IntKind.u8.wrap (y:Int)=((y%256:Nat):Int):=by
 unfold IntKind.wrap;have e:IntKind.u8.bits=8:=rfl;have e2:IntKind.u8.signed=false:=rfl;rw[e,e2]
 simp
theorem Jg {c b:Nat} (hc:c<4294967296) (hb:b<256):
 bY .xor .u8 ((c%256:Nat):Int) (b:Int)=((c%256^^^b:Nat):Int)∧c%256^^^b<256∧bY .xor .u32 ((entry (c%256^^^b):Nat):Int) ((c:Int)/256)=((ms c b:Nat):Int):=by
 have h1:(c:Int)%256=((c%256:Nat):Int):=by omega
 have h2:(c:Int)/256=((c/256:Nat):Int):=by omega
 have h3:c%256^^^b<256:=aiA (n:=8) (agJ _ zd) hb;refine⟨by rw[NP zo hb],h3,?_⟩;rw[h2,tM (Fc h3) zo]
 rfl
theorem Mk {c:Nat} (h:c<4294967296):bY .xor .u32 (if IntKind.u32.signed then-1 else IntKind.u32.max) (c:Int)=((4294967295-c:Nat):Int):=by
 have e:(if IntKind.u32.signed then(-1:Int) else IntKind.u32.max)=((4294967295:Nat):Int):=by decide
 rw[e,tM zo h,Nat.xor_comm,←EN h]
theorem Ja {l:List Nat} {s:Nat} (hl:∀x∈l,x<256) (hm:l.length<4294967296) (hs:s<4294967296):aC Tryz.prog 149 [.lit (.int .u32 s),.row 1 ((nl l).map (ie .u8))] [] (.lit (.int .u32 ((4294967295-nF (4294967295-s) l:Nat):Int))) []:=by
 refine zF pl Tryz.call149 Tryz.func149 [.tmp 4] fun Q hQ=>?_;have hnl:=aD l;have hl0:=pI (i:=256) zo;refine ae ?_;refine az (GG) rfl rfl ?_;have hns:=Mk hs;have h1c:bj (Value.int .u32 0)=true:=rfl;refine Of @zK hns false_or h1c @Jq ?_
 refine aM (X:=Nat) (st:=fun i=>([(5,.ref 0 0 0 0),(6,.lit (.int .u32 ((nF (4294967295-s) (l.take i):Nat):Int))),(12,.row 1 ((nl l).map (ie .u8))),(13,.lit (.int .i64 (l.length:Int))),(14,.lit (.int .i64 (i:Int)))],[some (.cells (j9 256))]))
  (inv:=fun i=>i≤l.length) (m:=fun i=>l.length-i) 0 [some 0] rfl zM (by rw[ahk,show nF (4294967295-s) []=4294967295-s from rfl];exact zM) zo ?_
 intro i hi;have hlt:=AV (l:=l.take i) (c:=4294967295-s) (fun x hx=>hl x (ag5 hx)) zo
 by_cases h:i<l.length
 · have hg:=bg l i
   have hb:=yM hl i;have hn:nF (4294967295-s) (l.take (i+1))=ms (nF (4294967295-s) (l.take i)) (l.getD i 0):=by rw[fG h,Gt];rfl
   generalize nF (4294967295-s) (l.take i)=c at*
   generalize l.getD i 0=b at*
   obtain ⟨m1,m2,m3⟩:=Jg (b:=b) hlt hb;have ha:=AD (m:=c%256^^^b) (G:=fun v=>True) m2
   simp(maxSteps:=1000000) (disch:=(first | omega | (simp only[dm,agr,ags,true_and,and_true];(try omega);done) | fail)) only[go_sem,hg,nE,m1,AD m2,m3,Int.reduceEq,Int.reduceToNat,Nat.reduceAdd,Nat.reduceMul,Nat.reduceEqDiff, ↓reduceIte]
   refine aG (i+1) [some 0] rfl zM (by dsimp only;rw[hn];exact zM) zo zo
 · have hns2:=Mk hlt
   obtain rfl:i=l.length:=by omega
   rw[agF] at*
   refine bh hns2 ?_;exact ak [] hQ
theorem Hp {l:List Nat} (hl:∀x∈l,x<256) (hm:l.length<4294967296):aC Tryz.prog 101 [.row 1 ((nl l).map (ie .u8))] [] (.lit (.int .u32 ((gy l:Nat):Int))) []:=by
 refine zF pl Tryz.call101 Tryz.func101 [.tmp 2] fun Q hQ=>?_;have h0:=Ja (l:=l) (s:=0) hl hm zd;rw[Nat.sub_zero,show 4294967295-nF 4294967295 l=gy l from rfl] at h0;refine ae ?_;refine zC h0 ?_;exact ak [] hQ
theorem sy {B:List Int} (hB:B.length≤140737488355327):aC Tryz.prog 100 [.row 1 (B.map (ie .u8))] [] (.sl 0 1 0 B.length) [some (.row 1 (B.map (ie .u8)))]:=by
 refine zF pl Tryz.call100 Tryz.func100 [.tmp 2] fun Q hQ=>?_
 by_cases h:B=[]
 · subst h
   refine TV ?_;refine iO ?_ ?_
   · refine ae ?_
     exact ak [none] hQ
   · refine ae ?_
     exact ak [some 1] hQ
 · have he:(B.map (ie .u8)).isEmpty=false:=by simp[h]
   refine bh he ?_;exact ak [some 1] hQ
theorem AR (s j:Nat) (hj:j<4):(iE s).getD j 0=s/2^(8*(3-j))%256:=by
 rcases (show j=0∨j=1∨j=2∨j=3 by omega) with rfl | rfl | rfl | rfl<;>simp[iE]
theorem Ku {l:List Nat} (hl:∀x∈l,x<256) (hm:l.length<1000000):aC Tryz.prog 44 [.row 1 ((nl l).map (ie .u8))] [] (.row 1 ((nl (cU l)).map (ie .u8))) []:=by
 refine zF pl Tryz.call44 Tryz.func44 [.tmp 2] fun Q hQ=>?_;have hnl:=aD l;refine ae ?_;refine zW [] [] (sy (B:=nl l) zo) ?_;refine zC (Hp hl zo) ?_;have hs:=zY l
 refine aM (X:=Nat) (st:=fun j=>([(3,.sl 0 1 0 (l.length+j)),(4,.lit (.int .i64 (3-(j:Int)))),(5,.lit (.int .u32 ((gy l:Nat):Int)))],[some (.row 1 ((nl (l++(iE (gy l)).take j)).map (ie .u8)))]))
  (inv:=fun j=>j≤4) (m:=fun j=>4-j) 0 [some 0] rfl (by rw[ahk,ahj];exact zM) zM zo ?_
 intro j hj;have hll:(nl (l++(iE (gy l)).take j)).length=l.length+j:=by rw[aD];simp[iE];omega
 by_cases h:j<4
 · have ht:nl (l++(iE (gy l)).take (j+1))=nl (l++(iE (gy l)).take j)++[((gy l/2^(8*(3-j))%256:Nat):Int)]:=by
    rw[fG (by simp[iE];omega),AR _ _ h];simp[nl]
   have h83:((8:Int)*(3-(j:Int))).toNat=8*(3-j):=by omega
   have hdv:=gb (gy l) (8*(3-j));generalize gy l/2^(8*(3-j))=q at*
   refine rD h83 hdv @nE ?_;refine aG (j+1) [some 2] rfl (by dsimp only;rw[ht];exact zM) zM zo zo
 · obtain rfl:j=4:=by omega
   have e:l++(iE (gy l)).take 4=cU l:=rfl;rw[e] at*
   have hsl:=gl l;have hns:=aD (cU l);exact zE [] hQ
end Go.Proofs.YtcnlmelpnflhnaaGreat
