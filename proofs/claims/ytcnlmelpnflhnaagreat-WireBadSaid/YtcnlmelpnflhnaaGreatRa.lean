import Derived.Test.YtcnlmelpnflhnaaGreatE8
import Derived.Test.YtcnlmelpnflhnaaGreatE6
import Derived.Test.YtcnlmelpnflhnaaGreatE7
namespace Go.Proofs.YtcnlmelpnflhnaaGreat
open Go.Eng
set_option linter.unusedSimpArgs false
set_option linter.unusedVariables false
def aE (B:Nat):List Nat→Nat
 | []=>0
 | d::l=>d+B*aE B l
def l8 (B:Nat) (n:Nat):List Nat:=if h:n=0∨B<2 then [] else n%B::l8 B (n/B)
termination_by n
decreasing_by exact Nat.div_lt_self zo zo
theorem gy (B:Nat):l8 B 0=[]:=by unfold l8;simp
theorem lP {B n:Nat} (hB:2≤B) (h:n≠0):l8 B n=n%B::l8 B (n/B):=by
 conv=>lhs;unfold l8
 rw[dif_neg zo]
theorem NW {B:Nat} (hB:2≤B) (n:Nat):aE B (l8 B n)=n:=by
 induction n using Nat.strongRecOn with
 | _ n ih=>
   by_cases h:n=0
   · subst h;rw[gy];rfl
   · rw[lP hB h]
     show n%B+B*aE B (l8 B (n/B))=n;rw[ih _ (Nat.div_lt_self zo zo),alX,akO]
theorem Sn {B:Nat} (hB:2≤B) (n:Nat):∀d∈l8 B n,d<B:=by
 induction n using Nat.strongRecOn with
 | _ n ih=>
   by_cases h:n=0
   · subst h;rw[gy];simp
   · rw[lP hB h]
     intro d hd;rcases aky.1 hd with rfl | hd
     · exact akD _ zo
     · exact ih _ (Nat.div_lt_self zo zo) d hd
theorem nu {B n:Nat} (hB:2≤B):l8 B n=[]↔n=0:=by
 constructor
 · intro h
   refine Classical.byContradiction fun hn=>?_;rw[lP hB hn] at h
   cases h
 · rintro rfl;exact gy B
theorem gj {B:Nat}:∀{l:List Nat},(∀d∈l,d<B)→aE B l<B^l.length
 | [],_=>by simp[aE]
 | d::l,h=>by
   have ih:=gj (l:=l) (fun x hx=>h x (by simp[hx]));have hd:=h d (by simp);show d+B*aE B l<B^(l.length+1)
   have:B*(aE B l+1)≤B*B^l.length:=alg _ ih
   rw[akM,akC (B^l.length)];rw[akU,al9] at this;omega
theorem jF (B:Nat):∀l m:List Nat,aE B (l++m)=aE B l+B^l.length*aE B m
 | [],m=>by simp[aE]
 | d::l,m=>by
   show d+B*aE B (l++m)=d+B*aE B l+B^(l.length+1)*aE B m;rw[jF B l m,akM,akU,akC (B^l.length) B,akS,alN]
theorem eu (B:Nat) (l:List Nat) (d:Nat):aE B (l++[d])=aE B l+B^l.length*d:=by
 rw[jF];simp[aE]
theorem sZ (B n:Nat):aE B (List.replicate n 0)=0:=by
 induction n with
 | zero=>rfl
 | succ n ih=>rw[alE];show 0+B*_=0;rw[ih];simp
theorem Gp {B:Nat} {l:List Nat} {i:Nat} (h:i<l.length):aE B (l.take (i+1))=aE B (l.take i)+B^i*l.getD i 0:=by
 rw[ama,akh h];show aE B (l.take i++[l[i]])=_;rw[eu,akr,alh zo,akf,akh h]
 rfl
theorem sd {B:Nat}:∀{l:List Nat} {i x:Nat},i<l.length→aE B (l.set i x)+B^i*l.getD i 0=aE B l+B^i*x
 | d::l,0,x,_=>by simp[aE];omega
 | d::l,i+1,x,h=>by
   have ih:=sd (B:=B) (l:=l) (i:=i) (x:=x) (by simpa using h);simp only[List.set_cons_succ,List.getD_cons_succ];show d+B*aE B (l.set i x)+B^(i+1)*l.getD i 0=d+B*aE B l+B^(i+1)*x;have e1:B^(i+1)*l.getD i 0=B*(B^i*l.getD i 0):=by rw[akM,akC (B^i),akS]
   have e2:B^(i+1)*x=B*(B^i*x):=by rw[akM,akC (B^i),akS]
   have e3:B*aE B (l.set i x)+B*(B^i*l.getD i 0)=B*aE B l+B*(B^i*x):=by rw[←akU,←akU,ih]
   omega
theorem GZ {B:Nat} (hB:2≤B):∀{l:List Nat},(∀d∈l,d<B)→(∀h:l≠ [],l.getLast h≠0)→l8 B (aE B l)=l
 | [],_,_=>gy B
 | d::l,h,hl=>by
   have hd:=h d (by simp)
   have ih:=GZ hB (l:=l) (fun x hx=>h x (by simp[hx])) (fun hne=>by
    have:=hl (by simp)
    rwa [List.getLast_cons hne] at this)
   have hv:aE B (d::l)=d+B*aE B l:=rfl
   have hne:aE B (d::l)≠0:=by
    rw[hv];intro h0;have hd0:d=0:=by omega
    have hv0:aE B l=0:=by
     rcases akQ (aE B l) with h | h
     · exact h
     · have:0<B*aE B l:=Nat.mul_pos zo h
       omega
    rw[hv0,gy] at ih;subst ih;exact hl (by simp) hd0
   rw[lP hB hne,hv];have e1:(d+B*aE B l)%B=d:=by rw[Nat.add_mul_mod_self_left,akG hd]
   have e2:(d+B*aE B l)/B=aE B l:=by rw[amu _ _ zo,alx hd,akP]
   rw[e1,e2,ih]
theorem Ih {B:Nat} (hB:2≤B) (n:Nat):∀h:l8 B n≠ [],(l8 B n).getLast h≠0:=by
 induction n using Nat.strongRecOn with
 | _ n ih=>
   intro h;have hn:n≠0:=fun e=>h ((nu hB).2 e);have e:=lP hB hn
   by_cases hq:n/B=0
   · have e2:l8 B n=[n%B]:=by rw[e,hq,gy]
     have:n%B≠0:=by
      have:=akO n B
      rw[hq] at this;omega
     simpa [e2] using this
   · have hne:l8 B (n/B)≠ []:=fun h=>hq ((nu hB).1 h)
     have:=ih _ (Nat.div_lt_self zo zo) hne
     have e3:(l8 B n).getLast h=(l8 B (n/B)).getLast hne:=by simp only[e];rw[List.getLast_cons hne]
     rw[e3];exact this
theorem fQ {B n k:Nat} (hB:2≤B):(l8 B n).length≤k↔n<B^k:=by
 induction k generalizing n with
 | zero=>
   rw[amO];constructor
   · intro h
     have:=(nu hB).1 (akx.1 (by omega:(l8 B n).length=0))
     omega
   · intro h
     rw[(nu hB).2 zo]
     simp
 | succ k ih=>
   by_cases h:n=0
   · subst h
     rw[gy];exact⟨fun _=>akN zo,fun _=>by simp⟩
   · rw[lP hB h,akm,Nat.add_le_add_iff_right,ih,akR zo,akM]
theorem nF {B m n:Nat} (hB:2≤B) (h:m≤n):(l8 B m).length≤(l8 B n).length:=
 (fQ hB).2 (ak4 h ((fQ hB).1 (akk _)))
theorem gh {B:Nat} (hB:2≤B) (n:Nat):n<B^(l8 B n).length:=(fQ hB).1 (akk _)
theorem iY {B:Nat} (hB:2≤B) (m n:Nat):(l8 B (m*n)).length≤(l8 B m).length+(l8 B n).length:=by
 rw[fQ hB,ale];exact Nat.mul_lt_mul'' (gh hB m) (gh hB n)
theorem iX {B:Nat} (hB:2≤B) {m n k:Nat} (h1:(l8 B m).length≤k) (h2:(l8 B n).length≤k):(l8 B (m+n)).length≤k+1:=by
 rw[fQ hB] at*
 rw[akM]
 have:B^k*2≤B^k*B:=alg _ hB
 omega
theorem yY {B:Nat} (hB:2≤B) {l:List Nat} {n:Nat} (hl:∀d∈l,d<B) (hn:n≤l.length) (h0:∀i,n≤i→i<l.length→l.getD i 0=0) (hp:n=0∨l.getD (n-1) 0≠0):l.take n=l8 B (aE B l):=by
 have e:aE B l=aE B (l.take n):=by
  have hd:l.drop n=List.replicate (l.length-n) 0:=by
   apply amy (by simp);intro i h1 h2
   have:=h0 (n+i) zo (by simp at h1;omega)
   simp at h1;rw[am1,List.getElem_replicate];simpa [akf,akh (show n+i<l.length by omega)] using this
  conv=>lhs;rw[←alT n l,hd,jF,sZ]
  simp
 rw[e];refine(GZ hB (fun d hd=>hl d (akt hd)) fun hne=>?_).symm;rcases hp with rfl | hp
 · simp at hne
 · have hlen:(l.take n).length=n:=by simp;omega
   have hn0:0<n:=by
    rcases akQ n with h | h
    · subst h;simp at hne
    · exact h
   rw[List.getLast_eq_getElem];simp only[hlen,am2];simpa [akf,akh (show n-1<l.length by omega)] using hp
theorem cN {B:Nat} {l:List Nat} (hB:0<B) (h:∀d∈l,d<B) (i:Nat):l.getD i 0<B:=by
 rw[akf]
 cases hx:l[i]? with
 | none=>exact hB
 | some x=>exact h x (ak5 hx)
theorem eE {B:Nat} {l:List Nat} {i x:Nat} (h:∀d∈l,d<B) (hx:x<B):∀d∈l.set i x,d<B:=fun y hy=>by
 rcases amb hy with h' | h'
 · exact h y h'
 · rw[h'];exact hx
theorem xe {B:Nat} {l m:List Nat} {i:Nat} (hB:0<B) (hl:∀d∈l,d<B) (hm:∀d∈m,d<B) (hlen:l.length=m.length) (hi:i<l.length) (he:l.drop (i+1)=m.drop (i+1)) (hlt:l.getD i 0<m.getD i 0):aE B l<aE B m:=by
 have hs:∀k:List Nat,i<k.length→aE B k=aE B (k.take i)+B^i*(k.getD i 0+B*aE B (k.drop (i+1))):=fun k hk=>by
  conv=>lhs;rw[←alT i k,ak3 hk,jF]
  have e:k.getD i 0=k[i]:=by simp[akf,hk]
  rw[akr,alh zo,e]
  rfl
 rw[hs l hi,hs m zo,he]
 have h1:aE B (l.take i)<B^i:=by
  have:=gj (B:=B) (l:=l.take i) (fun d hd=>hl d (akt hd))
  rwa [akr,alh zo] at this
 have h2:B^i*(l.getD i 0+B*aE B (m.drop (i+1))+1)≤B^i*(m.getD i 0+B*aE B (m.drop (i+1))):=alg _ zo;rw[akU _ _ 1,al9] at h2;omega
theorem qP {B a b:Nat} (hB:2≤B) (h:(l8 B a).length<(l8 B b).length):a<b:=by
 refine Classical.byContradiction fun hn=>?_
 have:=nF hB (show b≤a by omega)
 omega
theorem RA:nl []=[]:=rfl
attribute [go_sem] RA
theorem nB (l:List Nat) (n:Nat):(nl l).take n=nl (l.take n):=by simp[nl,amn]
theorem dj {B:Nat} (l:List Nat) (i:Nat):aE B (l.take (i+1))=aE B (l.take i)+B^i*l.getD i 0:=by
 rcases alY i l.length with h | h
 · exact Gp h
 · rw[aku zo,aku h]
   have:l.getD i 0=0:=by rw[akf,alU h];rfl
   rw[this];simp
theorem yZ {l:List Nat} {i:Nat} (h:l.length≤i):l.getD i 0=0:=by rw[akf,alU h];rfl
theorem xr (P B x:Nat):P*(x%B)+P*B*(x/B)=P*x:=by
 rw[akS,←akU,Nat.mod_add_div]
theorem kq {B:Nat} {l:List Nat} {x:Nat} (h:∀d∈l,d<B) (hx:x<B):∀d∈l++[x],d<B:=fun d hd=>by
 rcases alK.1 hd with h' | h'
 · exact h d h'
 · rw[ak1] at h';omega
theorem xN {B c:Nat} {L a b:List Nat} (hv:aE B L+B^L.length*c=aE B (a.take L.length)+aE B (b.take L.length)):
 aE B (L++[(c+a.getD L.length 0+b.getD L.length 0)%B])+B^(L.length+1)*((c+a.getD L.length 0+b.getD L.length 0)/B)=aE B (a.take (L.length+1))+aE B (b.take (L.length+1)):=by
 rw[eu,dj,dj,akM];have h:=xr (B^L.length) B (c+a.getD L.length 0+b.getD L.length 0);rw[akU,akU] at h;omega
def iP (a b:Nat):Int:=if a<b then-1 else if b<a then 1 else 0
theorem FJ {B j c y:Nat} {O:List Nat} (hj:j<O.length):
 aE B (O.set j ((O.getD j 0+c+y)%B))+B^(j+1)*((O.getD j 0+c+y)/B)=aE B O+B^j*c+B^j*y:=by
 have h1:=sd (B:=B) (x:=(O.getD j 0+c+y)%B) hj;have h2:=xr (B^j) B (O.getD j 0+c+y);rw[akU,akU] at h2;rw[akM];omega
theorem HE {B c x c':Nat} {L a b:List Nat} (hv:aE B (a.take L.length)+B^L.length*c=aE B L+aE B (b.take L.length)) (hx:a.getD L.length 0+B*c'=x+c+b.getD L.length 0):
 aE B (a.take (L.length+1))+B^(L.length+1)*c'=aE B (L++[x])+aE B (b.take (L.length+1)):=by
 rw[eu,dj,dj,akM];have h:B^L.length*(a.getD L.length 0+B*c')=B^L.length*(x+c+b.getD L.length 0):=by rw[hx]
 rw[akU,akU,akU,←akS] at h;omega
open Go.Eng Go.Vx
set_option maxRecDepth 100000
theorem QT {s:ByteArray} {z:Nat} {F:Bool→V→Prop} (h:∀z:Fin 256,rp s z.val=bl z.val) (hs:s.size=256) (hz:z<256):
 qb Tryz.prog 9 (.lit (.string s)) (.lit (.int .u8 z)) F=F true (.lit (.int .u8 (bl z:Int))):=by
 rw[PT zo,show((z:Nat):Int).toNat=z by omega,h ⟨z,hz⟩]
theorem lu {n:Nat} (hn:n<18446744073709551616):aA Tryz.prog 96 [.lit (.int .u64 n)] [] (.I (bl n:Int)) []:=by
 refine zF pl Tryz.call96 Tryz.func96 [.tmp 2] fun Q hQ=>?_;obtain ⟨c,hc⟩:∃c:Int,c=bl n:=⟨_,rfl⟩;rw[←hc] at hQ
 by_cases h32:4294967296≤n
 case' pos=>
  have e1:=mJ (n:=n) (k:=32) h32;refine ae ?_;rw[show(n:Int)/4294967296=((n/2^32:Nat):Int) by omega];have hx:n/2^32<4294967296:=by omega
  generalize n/2^32=x at*
 case' neg=>
  refine ae ?_;have hx:n<4294967296:=by omega
  have e1:bl n=0+bl n:=by omega
  obtain ⟨x,rfl⟩:∃x,x=n:=⟨_,rfl⟩
 all_goals
  by_cases h16:65536≤x
  case' pos=>
   have e2:=mJ (n:=x) (k:=16) h16;refine ae ?_;rw[show(x:Int)/65536=((x/2^16:Nat):Int) by omega];have hy:x/2^16<65536:=by omega
   generalize x/2^16=y at*
  case' neg=>
   refine ae ?_;have hy:x<65536:=by omega
   have e2:bl x=0+bl x:=by omega
   obtain ⟨y,rfl⟩:∃y,y=x:=⟨_,rfl⟩
 all_goals
  by_cases h8:256≤y
  case' pos=>
   have e3:=mJ (n:=y) (k:=8) h8;refine ae ?_;rw[show(y:Int)/256=((y/2^8:Nat):Int) by omega];have hz:y/2^8<256:=by omega
   generalize y/2^8=z at*
  case' neg=>
   refine ae ?_;have hz:y<256:=by omega
   have e3:bl y=0+bl y:=by omega
   obtain ⟨z,rfl⟩:∃z,z=y:=⟨_,rfl⟩
 all_goals
  have hb8:=bI (n:=z) (k:=8) hz;rw[QT (of_decide_eq_true zk) zk hz];exact zE [] hQ
theorem nY {n:Int}:aA Tryz.prog 87 [.I n] [] (.lit (.bool (decide (0≤n∧n≤64)))) []:=by
 refine zF pl Tryz.call87 Tryz.func87 [.tmp 2] fun Q hQ=>?_
 by_cases h:0≤n
 · refine Fw ?_
   simp only[h,true_and] at hQ;exact ai [] hQ
 · refine HG ?_
   simp only[h,false_and,decide_false] at hQ;exact ai [] hQ
def jY (o:Nat) (L:List Bool):Ob:=.cells [.sl o 1 0 (pk L).length,.I L.length]
def jN (L:List Bool):Ob:=.row 1 ((pk L).map (ie .u8))
attribute [go_sem] jY jN
theorem AZ {L:List Bool} {x:Bool} (hm:L.length<1099511627776):aA Tryz.prog 89 [.ref 0 0 0 0,.lit (.bool x)] [some (jY 1 L),some (jN L)] (.tup []) [some (jY 2 (L++[x])),none,some (jN (L++[x]))]:=by
 refine zF Ws Tryz.call89 Tryz.func89 [] fun Q hQ=>?_;have hpl:=k9 L;have hsn:=OR L x;have hst:=Il L x;have hnx:=FG L;have hlx:(pk (L++[x])).length=L.length/8+1:=by rw[hsn,nR]
 have hr8:L.length%8<8:=akD _ zo;have hsb:=m5 L true;have hlt:=iz (L++[true]) (L.length/8);have hpw:(2:Nat)^(7-L.length%8)<256:=ak4 (ako zo (show 7-L.length%8≤7 by omega)) zd
 have horv:bS .or .u8 ((dJ L (L.length/8):Nat):Int) (IntKind.u8.wrap (1*2^(7-(L.length:Int)%8).toNat))=((dJ L (L.length/8)+2^(7-L.length%8):Nat):Int):=by
  have e1:(1*2^(7-(L.length:Int)%8).toNat:Int)=((2^(7-L.length%8):Nat):Int):=by
   rw[show(7-(L.length:Int)%8).toNat=7-L.length%8 by omega,Int.one_mul]
   norm_cast
  rw[e1,wrap_u8 ⟨Int.natCast_nonneg _,by exact_mod_cast am3 hpw⟩,Pz (iz _ _) hpw,Sx ⟨L.length%8,hr8⟩ ⟨dJ L (L.length/8),iz _ _⟩ hsb.2]
 have hdiv:((L.length:Int)/8).toNat=L.length/8:=by omega
 have hgt:=zf L (L.length/8+1) (L.length/8) zo;have hlen:((L.length:Int)+1)=(((L++[x]).length:Nat):Int):=by simp
 by_cases h8:L.length%8=0
 · rw[if_pos h8] at hnx
   cases x with
   | true=>
     refine ae ?_;refine lX [some 0,some 1,some 3] _ _ rfl ?_ ?_ hQ
     · refine NO ?_
       rw[hdiv,←hnx,hgt,horv,hsn,hst,hlen];refine⟨⟨?_,by simp⟩,by simp⟩;simp[nR];omega
     · exact E4
   | false=>
     refine ae ?_;refine lX [some 0,some 1,some 3] _ _ rfl ?_ ?_ hQ
     · refine NO ?_
       rw[←hnx,hsn,tz,hlen,nR];refine⟨⟨?_,by simp⟩,by simp⟩;omega
     · exact E4
 · rw[if_neg h8] at hnx
   cases x with
   | true=>
     refine ae ?_;refine lX [some 0,some 1,some 1] _ _ rfl ?_ ?_ hQ
     · refine NO ?_
       rw[hdiv,←hnx,hgt,horv,hsn,hst,hlen];refine⟨⟨?_,by simp⟩,by simp⟩
       simp
     · exact E4
   | false=>
     refine ae ?_;refine lX [some 0,some 1,some 1] _ _ rfl ?_ ?_ hQ
     · refine NO ?_
       rw[←hnx,hsn,tz,hlen];refine⟨⟨?_,by simp⟩,by simp⟩
       simp
     · exact E4
theorem NH {n:Nat} {m:Int} (hn:n<18446744073709551616) (h0:0≤m) (h6:m≤64):aA Tryz.prog 88 [.lit (.int .u64 n),.I m] [] (.lit (.bool (decide (n<2^m.toNat)))) []:=by
 refine zF pl Tryz.call88 Tryz.func88 [.tmp 4] fun Q hQ=>?_
 by_cases h:m=64
 · subst h
   refine Fw ?_;rw[aks (by rw[show Int.toNat 64=64 from rfl];omega)] at hQ;exact ai [] hQ
 · refine HG ?_
   have e:decide ((n:Int)/2^m.toNat=0)=decide (n<2^m.toNat):=by
    have hp:0<2^m.toNat:=amd _;rw[decide_eq_decide]
    have:((n:Int)/2^m.toNat)=((n/2^m.toNat:Nat):Int):=by simp
    rw[this];rw[show((n/2^m.toNat:Nat):Int)=0↔n/2^m.toNat=0 by omega,Nat.div_eq_zero_iff];omega
   rw[e];exact ai [] hQ
theorem cC {L:List Bool} {n:Nat} {m:Int} (hn:n<18446744073709551616) (hm:L.length<1099511627000) (h0:0≤m) (h6:m≤64) (hf:n<2^m.toNat):
 aA Tryz.prog 36 [.ref 0 0 0 0,.lit (.int .u64 n),.I m] [some (jY 1 L),some (jN L)] (.I 0) [some (jY 2 (L++numBits n m.toNat)),none,some (jN (L++numBits n m.toNat))]:=by
 refine zF pl Tryz.call36 Tryz.func36 [.tmp 6] fun Q hQ=>?_;refine ae ?_;refine aC (nY) rfl rfl ?_;refine aha h0 h6 ?_;refine aC (NH hn h0 h6) rfl rfl ?_;refine agy hf ?_;obtain ⟨M,rfl⟩:=al3 h0;rw[ak0] at*
 refine aW (X:=Nat) (st:=fun i=>([(0,.ref 0 0 0 0),(1,.lit (.int .u64 n)),(2,.I M),(17,.I M),(18,.I i)],[some (jY 2 (L++(numBits n M).take i)),none,some (jN (L++(numBits n M).take i))]))
  (inv:=fun i=>i≤M) (m:=fun i=>M-i) 0 [some 0,some 1,some 1] rfl (by simp(maxSteps:=1000000) (disch:=(first | omega | (simp only[cS,aki,akj,true_and,and_true];(try omega);done) | fail)) only[go_sem,Int.reduceEq,Int.reduceToNat,Nat.reduceAdd,Nat.reduceMul,Nat.reduceEqDiff, ↓reduceIte];simp) (by simp(maxSteps:=1000000) (disch:=(first | omega | (simp only[cS,aki,akj,true_and,and_true];(try omega);done) | fail)) only[go_sem,Int.reduceEq,Int.reduceToNat,Nat.reduceAdd,Nat.reduceMul,Nat.reduceEqDiff, ↓reduceIte];simp) (akF _) ?_
 intro i hi;have hnl:=aj n M
 by_cases hil:i<M
 · refine ae ?_
   have hx:decide ((n:Int)/2^((M:Int)-1-i).toNat%2=1)=(numBits n M)[i]'zo:=by
    rw[i6 n M i zo,decide_eq_decide,show((M:Int)-1-i).toNat=M-1-i by omega]
    have:((n:Int)/2^(M-1-i)%2)=((n/2^(M-1-i)%2:Nat):Int):=by simp
    rw[this];omega
   rw[hx];have htk:(numBits n M).take (i+1)=(numBits n M).take i++[(numBits n M)[i]'zo]:=akL _;refine zW [some 0,some 2] [] (AZ (L:=L++(numBits n M).take i) (x:=(numBits n M)[i]'zo) (by simp;omega)) ?_;refine aI (i+1) [some 0,some 1,some 3] rfl ?_ ?_ zo zo
   · dsimp only
     rw[htk,←akl];exact ahm
   · dsimp only
     refine zq7 ?_
     simp
 · refine ae ?_
   obtain rfl:i=M:=by omega
   rw[aku zo];exact ai [some 0,some 1,some 2] hQ
end Go.Proofs.YtcnlmelpnflhnaaGreat

namespace Go.Vx
open Go.Eng
set_option linter.unusedSimpArgs false
set_option linter.unusedVariables false
section
variable {P:Program}
def FnR (P:Program) (f:FuncId) (vs:List V) (σ:St) {X:Type} (R:X→Prop) (r:X→V) (s:X→St):Prop:=Fn P f vs σ fun u' s'=>∃x,R x∧u'=r x∧s'=s x
theorem Dr {f:FuncId} {fn:Func} {c:Code} {vs:List V} {σ:St} {X:Type} {R:X→Prop} {r:X→V} {s:X→St} (pl:aK) (hm:P.follows .mixedOrders=true) (hcf:∀(args:Array Value) (w:World),(callFunc f args).run P w=.ok (.enter f args) w)
 (hf:P.funcs[f]? =some fn) (hb:fn.body=some c) (hc:nT fn.ntmps pl c=true) (hs:Nat.ble vs.length fn.ntmps=true) (rs:List ResultVar) (hr:fn.results.toList=rs)
 (h:∀Q:V→St→Prop,(∀x,R x→Q (r x) (s x))→ek true P σ.length pl c (Gg 0 vs) σ (qV P rs (tP σ.length Q))):FnR P f vs σ R r s:=
 OV pl hm hcf hf hb (ft hc) hs rs hr (h _ fun x hx=>⟨x,hx,rfl,rfl⟩)
theorem Pq {e:Bool} {f:FuncId} {vs vs₀:List V} {σ σ₀:St} {X:Type} {R:X→Prop} {r:X→V} {s:X→St} {K:KV} (π:Pi) (F:List Nat) (spec:FnR P f vs₀ σ₀ R r s)
 (hk:∀x,R x→K true (l9 (w7 (je σ.length π) (σ.length+ku π)) (r x)) (sK π F σ (s x)))
 (h1:(Tp π&&π.all (fun p=>match p with | some p=>decide (p<σ.length)&&!F.contains p | none=>true))=true:=by rfl)
 (h2:nZ F.contains π σ σ₀ π:=by simp(disch:=(first | omega | (simp only[ake,akJ,akm,akz,akB,akr,akW,aki,akj,true_and,and_true];(try omega);done) | fail)) only[go_sem,Int.reduceEq,Int.reduceToNat,Nat.reduceAdd,Nat.reduceMul,Nat.reduceEqDiff, ↓reduceIte,true_and,and_true,and_self,akv,akw,akk,V.lit.injEq,Value.int.injEq,Value.bool.injEq];try (first | omega | (simp;done) | (simp;omega)))
 (h3:tH F.contains π σ vs₀ vs:=by simp(disch:=(first | omega | (simp only[ake,akJ,akm,akz,akB,akr,akW,aki,akj,true_and,and_true];(try omega);done) | fail)) only[go_sem,Int.reduceEq,Int.reduceToNat,Nat.reduceAdd,Nat.reduceMul,Nat.reduceEqDiff, ↓reduceIte,true_and,and_true,and_self,akv,akw,akk,V.lit.injEq,Value.int.injEq,Value.bool.injEq];try (first | omega | (simp;done) | (simp;omega))) (he:e=true→σ₀=[]:=by simp):dT P e f vs σ K:=
 xf π F spec ⟨h1,h2,h3⟩ he fun u s ⟨x,hx,h4,h5⟩=>by rw[h4,h5];exact hk x hx
end
@[go_sem] theorem UY {l:List V}:NG (.cells l)=(HP.pnL l=true):=(rfl)
end Go.Vx
