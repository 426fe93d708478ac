import Derived.Test.YtcnlmelpnflhnaaGreatE8
import Derived.Test.YtcnlmelpnflhnaaGreatE6
import Derived.Test.YtcnlmelpnflhnaaGreatE7
namespace Go.Proofs.YtcnlmelpnflhnaaGreat
open Go.Eng
set_option linter.unusedSimpArgs false
set_option linter.unusedVariables false
def aA (B:Nat):List Nat→Nat
 | []=>0
 | d::l=>d+B*aA B l
def kR (B:Nat) (n:Nat):List Nat:=if h:n=0∨B<2 then [] else n%B::kR B (n/B)
termination_by n
decreasing_by exact Nat.div_lt_self zo zo
theorem fC (B:Nat):kR B 0=[]:=by unfold kR;simp
theorem kD {B n:Nat} (hB:2≤B) (h:n≠0):kR B n=n%B::kR B (n/B):=by
 conv=>lhs;unfold kR
 rw[dif_neg zo]
theorem JV {B:Nat} (hB:2≤B) (n:Nat):aA B (kR B n)=n:=by
 induction n using Nat.strongRecOn with
 | _ n ih=>
   by_cases h:n=0
   · subst h;rw[fC];rfl
   · rw[kD hB h]
     show n%B+B*aA B (kR B (n/B))=n;rw[ih _ (Nat.div_lt_self zo zo),ah1,agT]
theorem N5 {B:Nat} (hB:2≤B) (n:Nat):∀d∈kR B n,d<B:=by
 induction n using Nat.strongRecOn with
 | _ n ih=>
   by_cases h:n=0
   · subst h;rw[fC];simp
   · rw[kD hB h]
     intro d hd;rcases agG.1 hd with rfl | hd
     · exact agJ _ zo
     · exact ih _ (Nat.div_lt_self zo zo) d hd
theorem lW {B n:Nat} (hB:2≤B):kR B n=[]↔n=0:=by
 constructor
 · intro h
   refine Classical.byContradiction fun hn=>?_;rw[kD hB hn] at h
   cases h
 · rintro rfl;exact fC B
theorem fx {B:Nat}:∀{l:List Nat},(∀d∈l,d<B)→aA B l<B^l.length
 | [],_=>by simp[aA]
 | d::l,h=>by
   have ih:=fx (l:=l) (fun x hx=>h x (by simp[hx]));have hd:=h d (by simp);show d+B*aA B l<B^(l.length+1)
   have:B*(aA B l+1)≤B*B^l.length:=ahl _ ih
   rw[agS,agK (B^l.length)];rw[ag1,aid] at this;omega
theorem iR (B:Nat):∀l m:List Nat,aA B (l++m)=aA B l+B^l.length*aA B m
 | [],m=>by simp[aA]
 | d::l,m=>by
   show d+B*aA B (l++m)=d+B*aA B l+B^(l.length+1)*aA B m;rw[iR B l m,agS,ag1,agK (B^l.length) B,agZ,ahQ]
theorem dM (B:Nat) (l:List Nat) (d:Nat):aA B (l++[d])=aA B l+B^l.length*d:=by
 rw[iR];simp[aA]
theorem qJ (B n:Nat):aA B (List.replicate n 0)=0:=by
 induction n with
 | zero=>rfl
 | succ n ih=>rw[ahN];show 0+B*_=0;rw[ih];simp
theorem Ds {B:Nat} {l:List Nat} {i:Nat} (h:i<l.length):aA B (l.take (i+1))=aA B (l.take i)+B^i*l.getD i 0:=by
 rw[ah9,agp h];show aA B (l.take i++[l[i]])=_;rw[dM,agz,ahm zo,ago,agp h]
 rfl
theorem qh {B:Nat}:∀{l:List Nat} {i x:Nat},i<l.length→aA B (l.set i x)+B^i*l.getD i 0=aA B l+B^i*x
 | d::l,0,x,_=>by simp[aA];omega
 | d::l,i+1,x,h=>by
   have ih:=qh (B:=B) (l:=l) (i:=i) (x:=x) (by simpa using h);simp only[List.set_cons_succ,List.getD_cons_succ];show d+B*aA B (l.set i x)+B^(i+1)*l.getD i 0=d+B*aA B l+B^(i+1)*x;have e1:B^(i+1)*l.getD i 0=B*(B^i*l.getD i 0):=by rw[agS,agK (B^i),agZ]
   have e2:B^(i+1)*x=B*(B^i*x):=by rw[agS,agK (B^i),agZ]
   have e3:B*aA B (l.set i x)+B*(B^i*l.getD i 0)=B*aA B l+B*(B^i*x):=by rw[←ag1,←ag1,ih]
   omega
theorem D3 {B:Nat} (hB:2≤B):∀{l:List Nat},(∀d∈l,d<B)→(∀h:l≠ [],l.getLast h≠0)→kR B (aA B l)=l
 | [],_,_=>fC B
 | d::l,h,hl=>by
   have hd:=h d (by simp)
   have ih:=D3 hB (l:=l) (fun x hx=>h x (by simp[hx])) (fun hne=>by
    have:=hl (by simp)
    rwa [List.getLast_cons hne] at this)
   have hv:aA B (d::l)=d+B*aA B l:=rfl
   have hne:aA B (d::l)≠0:=by
    rw[hv];intro h0;have hd0:d=0:=by omega
    have hv0:aA B l=0:=by
     rcases agX (aA B l) with h | h
     · exact h
     · have:0<B*aA B l:=Nat.mul_pos zo h
       omega
    rw[hv0,fC] at ih;subst ih;exact hl (by simp) hd0
   rw[kD hB hne,hv];have e1:(d+B*aA B l)%B=d:=by rw[Nat.add_mul_mod_self_left,agL hd]
   have e2:(d+B*aA B l)/B=aA B l:=by rw[air _ _ zo,ahG hd,agU]
   rw[e1,e2,ih]
theorem Fb {B:Nat} (hB:2≤B) (n:Nat):∀h:kR B n≠ [],(kR B n).getLast h≠0:=by
 induction n using Nat.strongRecOn with
 | _ n ih=>
   intro h;have hn:n≠0:=fun e=>h ((lW hB).2 e);have e:=kD hB hn
   by_cases hq:n/B=0
   · have e2:kR B n=[n%B]:=by rw[e,hq,fC]
     have:n%B≠0:=by
      have:=agT n B
      rw[hq] at this;omega
     simpa [e2] using this
   · have hne:kR B (n/B)≠ []:=fun h=>hq ((lW hB).1 h)
     have:=ih _ (Nat.div_lt_self zo zo) hne
     have e3:(kR B n).getLast h=(kR B (n/B)).getLast hne:=by simp only[e];rw[List.getLast_cons hne]
     rw[e3];exact this
theorem fc {B n k:Nat} (hB:2≤B):(kR B n).length≤k↔n<B^k:=by
 induction k generalizing n with
 | zero=>
   rw[aiP];constructor
   · intro h
     have:=(lW hB).1 (agD.1 (by omega:(kR B n).length=0))
     omega
   · intro h
     rw[(lW hB).2 zo]
     simp
 | succ k ih=>
   by_cases h:n=0
   · subst h
     rw[fC];exact⟨fun _=>agV zo,fun _=>by simp⟩
   · rw[kD hB h,agu,Nat.add_le_add_iff_right,ih,agY zo,agS]
theorem l9 {B m n:Nat} (hB:2≤B) (h:m≤n):(kR B m).length≤(kR B n).length:=
 (fc hB).2 (ahb h ((fc hB).1 (agt _)))
theorem fr {B:Nat} (hB:2≤B) (n:Nat):n<B^(kR B n).length:=(fc hB).1 (agt _)
theorem ib {B:Nat} (hB:2≤B) (m n:Nat):(kR B (m*n)).length≤(kR B m).length+(kR B n).length:=by
 rw[fc hB,ahq];exact Nat.mul_lt_mul'' (fr hB m) (fr hB n)
theorem ia {B:Nat} (hB:2≤B) {m n k:Nat} (h1:(kR B m).length≤k) (h2:(kR B n).length≤k):(kR B (m+n)).length≤k+1:=by
 rw[fc hB] at*
 rw[agS]
 have:B^k*2≤B^k*B:=ahl _ hB
 omega
theorem wx {B:Nat} (hB:2≤B) {l:List Nat} {n:Nat} (hl:∀d∈l,d<B) (hn:n≤l.length) (h0:∀i,n≤i→i<l.length→l.getD i 0=0) (hp:n=0∨l.getD (n-1) 0≠0):l.take n=kR B (aA B l):=by
 have e:aA B l=aA B (l.take n):=by
  have hd:l.drop n=List.replicate (l.length-n) 0:=by
   apply aiu (by simp);intro i h1 h2
   have:=h0 (n+i) zo (by simp at h1;omega)
   simp at h1;rw[List.getElem_drop,List.getElem_replicate];simpa [ago,agp (show n+i<l.length by omega)] using this
  conv=>lhs;rw[←ail n l,hd,iR,qJ]
  simp
 rw[e];refine(D3 hB (fun d hd=>hl d (ag5 hd)) fun hne=>?_).symm;rcases hp with rfl | hp
 · simp at hne
 · have hlen:(l.take n).length=n:=by simp;omega
   have hn0:0<n:=by
    rcases agX n with h | h
    · subst h;simp at hne
    · exact h
   rw[List.getLast_eq_getElem];simp only[hlen,ai2];simpa [ago,agp (show n-1<l.length by omega)] using hp
theorem cv {B:Nat} {l:List Nat} (hB:0<B) (h:∀d∈l,d<B) (i:Nat):l.getD i 0<B:=by
 rw[ago]
 cases hx:l[i]? with
 | none=>exact hB
 | some x=>exact h x (ahc hx)
theorem dS {B:Nat} {l:List Nat} {i x:Nat} (h:∀d∈l,d<B) (hx:x<B):∀d∈l.set i x,d<B:=fun y hy=>by
 rcases aiq hy with h' | h'
 · exact h y h'
 · rw[h'];exact hx
theorem uA {B:Nat} {l m:List Nat} {i:Nat} (hB:0<B) (hl:∀d∈l,d<B) (hm:∀d∈m,d<B) (hlen:l.length=m.length) (hi:i<l.length) (he:l.drop (i+1)=m.drop (i+1)) (hlt:l.getD i 0<m.getD i 0):aA B l<aA B m:=by
 have hs:∀k:List Nat,i<k.length→aA B k=aA B (k.take i)+B^i*(k.getD i 0+B*aA B (k.drop (i+1))):=fun k hk=>by
  conv=>lhs;rw[←ail i k,ahn hk,iR]
  have e:k.getD i 0=k[i]:=by simp[ago,hk]
  rw[agz,ahm zo,e]
  rfl
 rw[hs l hi,hs m zo,he]
 have h1:aA B (l.take i)<B^i:=by
  have:=fx (B:=B) (l:=l.take i) (fun d hd=>hl d (ag5 hd))
  rwa [agz,ahm zo] at this
 have h2:B^i*(l.getD i 0+B*aA B (m.drop (i+1))+1)≤B^i*(m.getD i 0+B*aA B (m.drop (i+1))):=ahl _ zo;rw[ag1 _ _ 1,aid] at h2;omega
theorem pg {B a b:Nat} (hB:2≤B) (h:(kR B a).length<(kR B b).length):a<b:=by
 refine Classical.byContradiction fun hn=>?_
 have:=l9 hB (show b≤a by omega)
 omega
theorem No:nl []=[]:=rfl
attribute [go_sem] No
theorem lZ (l:List Nat) (n:Nat):(nl l).take n=nl (l.take n):=by simp[nl,aiI]
theorem cL {B:Nat} (l:List Nat) (i:Nat):aA B (l.take (i+1))=aA B (l.take i)+B^i*l.getD i 0:=by
 rcases ahV i l.length with h | h
 · exact Ds h
 · rw[agB zo,agB h]
   have:l.getD i 0=0:=by rw[ago,ahS h];rfl
   rw[this];simp
theorem wy {l:List Nat} {i:Nat} (h:l.length≤i):l.getD i 0=0:=by rw[ago,ahS h];rfl
theorem uN (P B x:Nat):P*(x%B)+P*B*(x/B)=P*x:=by
 rw[agZ,←ag1,Nat.mod_add_div]
theorem jt {B:Nat} {l:List Nat} {x:Nat} (h:∀d∈l,d<B) (hx:x<B):∀d∈l++[x],d<B:=fun d hd=>by
 rcases ah2.1 hd with h' | h'
 · exact h d h'
 · rw[ahf] at h';omega
theorem vg {B c:Nat} {L a b:List Nat} (hv:aA B L+B^L.length*c=aA B (a.take L.length)+aA B (b.take L.length)):
 aA B (L++[(c+a.getD L.length 0+b.getD L.length 0)%B])+B^(L.length+1)*((c+a.getD L.length 0+b.getD L.length 0)/B)=aA B (a.take (L.length+1))+aA B (b.take (L.length+1)):=by
 rw[dM,cL,cL,agS];have h:=uN (B^L.length) B (c+a.getD L.length 0+b.getD L.length 0);rw[ag1,ag1] at h;omega
def gU (a b:Nat):Int:=if a<b then-1 else if b<a then 1 else 0
theorem CK {B j c y:Nat} {O:List Nat} (hj:j<O.length):
 aA B (O.set j ((O.getD j 0+c+y)%B))+B^(j+1)*((O.getD j 0+c+y)/B)=aA B O+B^j*c+B^j*y:=by
 have h1:=qh (B:=B) (x:=(O.getD j 0+c+y)%B) hj;have h2:=uN (B^j) B (O.getD j 0+c+y);rw[ag1,ag1] at h2;rw[agS];omega
theorem EE {B c x c':Nat} {L a b:List Nat} (hv:aA B (a.take L.length)+B^L.length*c=aA B L+aA B (b.take L.length)) (hx:a.getD L.length 0+B*c'=x+c+b.getD L.length 0):
 aA B (a.take (L.length+1))+B^(L.length+1)*c'=aA B (L++[x])+aA B (b.take (L.length+1)):=by
 rw[dM,cL,cL,agS];have h:B^L.length*(a.getD L.length 0+B*c')=B^L.length*(x+c+b.getD L.length 0):=by rw[hx]
 rw[ag1,ag1,ag1,←agZ] at h;omega
open Go.Eng Go.Vx
set_option maxRecDepth 100000
theorem mD {n:Int}:aC Tryz.prog 87 [.lit (.int .i64 n)] [] (.lit (.bool (decide (0≤n∧n≤64)))) []:=by
 refine zF pl Tryz.call87 Tryz.func87 [.tmp 2] fun Q hQ=>?_
 by_cases h:0≤n
 · refine Cx ?_
   simp only[h,true_and] at hQ;exact ak [] hQ
 · refine EG ?_
   simp only[h,false_and,decide_false] at hQ;exact ak [] hQ
def jf (o:Nat) (L:List Bool):Ob:=.cells [.sl o 1 0 (pk L).length,.lit (.int .i64 (L.length:Int))]
def iY (L:List Bool):Ob:=.row 1 ((pk L).map (ie .u8))
attribute [go_sem] jf iY
theorem yl {L:List Bool} {x:Bool} (hm:L.length<1099511627776):aC Tryz.prog 89 [.ref 0 0 0 0,.lit (.bool x)] [some (jf 1 L),some (iY L)] (.tup []) [some (jf 2 (L++[x])),none,some (iY (L++[x]))]:=by
 refine zF Sf Tryz.call89 Tryz.func89 [] fun Q hQ=>?_;have hpl:=j1 L;have hsn:=KY L x;have hst:=Ff L x;have hnx:=CI L;have hlx:(pk (L++[x])).length=L.length/8+1:=by rw[hsn,mu]
 have hr8:L.length%8<8:=agJ _ zo;have hsb:=lJ L true;have hlt:=gE (L++[true]) (L.length/8);have hpw:(2:Nat)^(7-L.length%8)<256:=ahb (agA zo (show 7-L.length%8≤7 by omega)) zd
 have horv:bY .or .u8 ((dh L (L.length/8):Nat):Int) (IntKind.u8.wrap (1*2^(7-(L.length:Int)%8).toNat))=((dh L (L.length/8)+2^(7-L.length%8):Nat):Int):=by
  have e1:(1*2^(7-(L.length:Int)%8).toNat:Int)=((2^(7-L.length%8):Nat):Int):=by
   rw[show(7-(L.length:Int)%8).toNat=7-L.length%8 by omega,Int.one_mul]
   norm_cast
  rw[e1,wrap_u8 ⟨Int.natCast_nonneg _,by exact_mod_cast ai3 hpw⟩,UL (gE _ _) hpw,Og ⟨L.length%8,hr8⟩ ⟨dh L (L.length/8),gE _ _⟩ hsb.2]
 have hdiv:((L.length:Int)/8).toNat=L.length/8:=by omega
 have hgt:=wK L (L.length/8+1) (L.length/8) zo;have hlen:((L.length:Int)+1)=(((L++[x]).length:Nat):Int):=by simp
 by_cases h8:L.length%8=0
 · rw[if_pos h8] at hnx
   cases x with
   | true=>
     refine ae ?_;refine kM [some 0,some 1,some 3] _ _ rfl ?_ ?_ hQ
     · refine Kz ?_
       rw[hdiv,←hnx,hgt,horv,hsn,hst,hlen];refine⟨⟨?_,by simp⟩,by simp⟩;simp[mu];omega
     · exact Ca
   | false=>
     refine ae ?_;refine kM [some 0,some 1,some 3] _ _ rfl ?_ ?_ hQ
     · refine Kz ?_
       rw[←hnx,hsn,qY,hlen,mu];refine⟨⟨?_,by simp⟩,by simp⟩;omega
     · exact Ca
 · rw[if_neg h8] at hnx
   cases x with
   | true=>
     refine ae ?_;refine kM [some 0,some 1,some 1] _ _ rfl ?_ ?_ hQ
     · refine Kz ?_
       rw[hdiv,←hnx,hgt,horv,hsn,hst,hlen];refine⟨⟨?_,by simp⟩,by simp⟩
       simp
     · exact Ca
   | false=>
     refine ae ?_;refine kM [some 0,some 1,some 1] _ _ rfl ?_ ?_ hQ
     · refine Kz ?_
       rw[←hnx,hsn,qY,hlen];refine⟨⟨?_,by simp⟩,by simp⟩
       simp
     · exact Ca
theorem JK {n:Nat} {m:Int} (hn:n<18446744073709551616) (h0:0≤m) (h6:m≤64):aC Tryz.prog 88 [.lit (.int .u64 n),.lit (.int .i64 m)] [] (.lit (.bool (decide (n<2^m.toNat)))) []:=by
 refine zF pl Tryz.call88 Tryz.func88 [.tmp 4] fun Q hQ=>?_
 by_cases h:m=64
 · subst h
   refine Cx ?_;rw[agC (by rw[show Int.toNat 64=64 from rfl];omega)] at hQ;exact ak [] hQ
 · refine EG ?_
   have e:decide ((n:Int)/2^m.toNat=0)=decide (n<2^m.toNat):=by
    have hp:0<2^m.toNat:=aif _;rw[decide_eq_decide]
    have:((n:Int)/2^m.toNat)=((n/2^m.toNat:Nat):Int):=by simp
    rw[this];rw[show((n/2^m.toNat:Nat):Int)=0↔n/2^m.toNat=0 by omega,Nat.div_eq_zero_iff];omega
   rw[e];exact ak [] hQ
theorem bW {L:List Bool} {n:Nat} {m:Int} (hn:n<18446744073709551616) (hm:L.length<1099511627000) (h0:0≤m) (h6:m≤64) (hf:n<2^m.toNat):
 aC Tryz.prog 36 [.ref 0 0 0 0,.lit (.int .u64 n),.lit (.int .i64 m)] [some (jf 1 L),some (iY L)] (.lit (.int .i64 0)) [some (jf 2 (L++numBits n m.toNat)),none,some (iY (L++numBits n m.toNat))]:=by
 refine zF pl Tryz.call36 Tryz.func36 [.tmp 6] fun Q hQ=>?_;refine ae ?_;refine az (mD) rfl rfl ?_;refine acx h0 h6 ?_;refine az (JK hn h0 h6) rfl rfl ?_;refine Wx hf ?_;obtain ⟨M,rfl⟩:=aiW h0;rw[ag9] at*
 refine aM (X:=Nat) (st:=fun i=>([(0,.ref 0 0 0 0),(1,.lit (.int .u64 n)),(2,.lit (.int .i64 M)),(17,.lit (.int .i64 M)),(18,.lit (.int .i64 (i:Int)))],[some (jf 2 (L++(numBits n M).take i)),none,some (iY (L++(numBits n M).take i))]))
  (inv:=fun i=>i≤M) (m:=fun i=>M-i) 0 [some 0,some 1,some 1] rfl (by simp(maxSteps:=1000000) (disch:=(first | omega | (simp only[dm,agr,ags,true_and,and_true];(try omega);done) | fail)) only[go_sem,Int.reduceEq,Int.reduceToNat,Nat.reduceAdd,Nat.reduceMul,Nat.reduceEqDiff, ↓reduceIte];simp) (by simp(maxSteps:=1000000) (disch:=(first | omega | (simp only[dm,agr,ags,true_and,and_true];(try omega);done) | fail)) only[go_sem,Int.reduceEq,Int.reduceToNat,Nat.reduceAdd,Nat.reduceMul,Nat.reduceEqDiff, ↓reduceIte];simp) (agM _) ?_
 intro i hi;have hnl:=ai n M
 by_cases hil:i<M
 · refine ae ?_
   have hx:decide ((n:Int)/2^((M:Int)-1-i).toNat%2=1)=(numBits n M)[i]'zo:=by
    rw[ij n M i zo,decide_eq_decide,show((M:Int)-1-i).toNat=M-1-i by omega]
    have:((n:Int)/2^(M-1-i)%2)=((n/2^(M-1-i)%2:Nat):Int):=by simp
    rw[this];omega
   rw[hx];have htk:(numBits n M).take (i+1)=(numBits n M).take i++[(numBits n M)[i]'zo]:=agW _;refine zW [some 0,some 2] [] (yl (L:=L++(numBits n M).take i) (x:=(numBits n M)[i]'zo) (by simp;omega)) ?_;refine aG (i+1) [some 0,some 1,some 3] rfl ?_ ?_ zo zo
   · dsimp only
     rw[htk,←agw];exact acJ
   · dsimp only
     refine zq7 ?_
     simp
 · refine ae ?_
   obtain rfl:i=M:=by omega
   rw[agB zo];exact ak [some 0,some 1,some 2] hQ
end Go.Proofs.YtcnlmelpnflhnaaGreat
