import Derived.Test.YtcnlmelpnflhnaaGreatE6
namespace Go.Proofs.YtcnlmelpnflhnaaGreat
open Go.Eng
set_option linter.unusedSimpArgs false
set_option linter.unusedVariables false
def l8 (L:List Bool) (i:Nat):Nat:=(L.getD i false).toNat
theorem AL (L:List Bool) (i:Nat):l8 L i≤1:=by unfold l8;cases L.getD i false<;>simp
theorem nh {L:List Bool} {i:Nat} (h:L.length≤i):l8 L i=0:=by
 unfold l8;rw[ajk,akP h];rfl
theorem cE {L:List Bool} {i:Nat} (x:Bool) (h:i<L.length):l8 (L++[x]) i=l8 L i:=by
 unfold l8;rw[ajk,ajw h,←ajk]
theorem pq (L:List Bool) (x:Bool):l8 (L++[x]) L.length=x.toNat:=by
 unfold l8;simp
def dC (L:List Bool) (k:Nat):Nat:=
 l8 L (8*k)*128+l8 L (8*k+1)*64+l8 L (8*k+2)*32+l8 L (8*k+3)*16+l8 L (8*k+4)*8+l8 L (8*k+5)*4+l8 L (8*k+6)*2+l8 L (8*k+7)
theorem ir (L:List Bool) (k:Nat):dC L k<256:=by
 unfold dC;have h:=AL L;have h0:=h (8*k);have h1:=h (8*k+1);have h2:=h (8*k+2);have h3:=h (8*k+3);have h4:=h (8*k+4);have h5:=h (8*k+5);have h6:=h (8*k+6);have h7:=h (8*k+7);omega
theorem ta {L:List Bool} {k:Nat} (x:Bool) (h:k<L.length/8):dC (L++[x]) k=dC L k:=by
 unfold dC;rw[cE x zo,cE x zo,cE x zo,cE x zo,cE x zo,cE x zo,cE x zo,cE x zo]
theorem mQ (L:List Bool) (x:Bool):dC (L++[x]) (L.length/8)=dC L (L.length/8)+x.toNat*2^(7-L.length%8)∧dC L (L.length/8)%2^(8-L.length%8)=0:=by
 have hs:∀i,l8 (L++[x]) i=if i<L.length then l8 L i else if i=L.length then x.toNat else 0:=fun i=>by
  by_cases h:i<L.length
  · rw[if_pos h,cE x h]
  · rw[if_neg h]
    by_cases h':i=L.length
    · rw[if_pos h',h',pq]
    · rw[if_neg h',nh (by simp;omega)]
 have ho:∀i,L.length≤i→l8 L i=0:=fun i h=>nh h;have hn:L.length=8*(L.length/8)+L.length%8:=(ajT _ 8).symm;have hx:x.toNat≤1:=by cases x<;>simp
 unfold dC;simp only[hs];generalize L.length/8=k at*
 have hr:L.length%8<8:=ajI _ zo;generalize L.length%8=r at*
 rw[hn] at ho ⊢;have h:=AL L;have h0:=h (8*k);have h1:=h (8*k+1);have h2:=h (8*k+2);have h3:=h (8*k+3);have h4:=h (8*k+4);have h5:=h (8*k+5);have h6:=h (8*k+6);have h7:=h (8*k+7);have o0:=ho (8*k);have o1:=ho (8*k+1);have o2:=ho (8*k+2);have o3:=ho (8*k+3);have o4:=ho (8*k+4);have o5:=ho (8*k+5);have o6:=ho (8*k+6);have o7:=ho (8*k+7);generalize l8 L (8*k)=a0 at*
 generalize l8 L (8*k+1)=a1 at*
 generalize l8 L (8*k+2)=a2 at*
 generalize l8 L (8*k+3)=a3 at*
 generalize l8 L (8*k+4)=a4 at*
 generalize l8 L (8*k+5)=a5 at*
 generalize l8 L (8*k+6)=a6 at*
 generalize l8 L (8*k+7)=a7 at*
 generalize x.toNat=q at*
 clear hs ho h hn;rcases (by omega:r=0∨r=1∨r=2∨r=3∨r=4∨r=5∨r=6∨r=7) with rfl | rfl | rfl | rfl | rfl | rfl | rfl | rfl<;>simp(disch:=omega) only[if_pos,if_neg, ↓reduceIte]<;>constructor<;>simp only[Nat.reducePow,Nat.reduceSub, ↓reduceIte]<;>omega
theorem Q7:∀r:Fin 8,∀y:Fin 256,y.val%2^(8-r.val)=0→y.val ||| 2^(7-r.val)=y.val+2^(7-r.val):=by decide+kernel
def kp (L:List Bool) (m:Nat):List Int:=(List.range m).map fun k=>(dC L k:Int)
def pk (L:List Bool):List Int:=kp L ((L.length+7)/8)
theorem nE (L:List Bool) (m:Nat):(kp L m).length=m:=by simp[kp]
theorem kQ (L:List Bool):(pk L).length=(L.length+7)/8:=nE _ _
theorem yP (L:List Bool) (m i:Nat) (h:i<m):(kp L m).getD i 0=dC L i:=by
 unfold kp;rw[ajk,aj1,alf h]
 rfl
theorem Hm (L:List Bool) (x:Bool):kp (L++[x]) (L.length/8+1)=(kp L (L.length/8+1)).set (L.length/8) ((dC L (L.length/8):Int)+(x.toNat*2^(7-L.length%8):Nat)):=by
 unfold kp;apply alx
 · simp
 · intro i h1 h2
   simp only[List.getElem_set,List.getElem_map,List.getElem_range];simp at h1
   by_cases h:L.length/8=i
   · subst h
     rw[if_pos rfl,(mQ L x).1]
     simp
   · rw[if_neg h,ta x zo]
theorem No (L:List Bool) (x:Bool):pk (L++[x])=kp (L++[x]) (L.length/8+1):=by
 unfold pk
 congr 1
 simp
 omega
theorem sP (L:List Bool) (m:Nat):kp (L++[false]) m=kp L m:=by
 have h:∀i,l8 (L++[false]) i=l8 L i:=fun i=>by
  by_cases h:i<L.length
  · exact cE _ h
  · rw[nh (L:=L) zo]
    by_cases h':i=L.length
    · subst h';rw[pq];rfl
    · exact nh (by simp;omega)
 unfold kp dC;simp only[h]
theorem EU (L:List Bool):kp L (L.length/8+1)=if L.length%8=0 then pk L++[0] else pk L:=by
 unfold pk
 by_cases h:L.length%8=0
 · rw[if_pos h,show(L.length+7)/8=L.length/8 by omega]
   unfold kp;rw[al0,akX];have h2:=(mQ L false).2;rw[h,Nat.sub_zero] at h2
   have:=ir L (L.length/8)
   rw[show(2:Nat)^8=256 from rfl] at h2;simp[show dC L (L.length/8)=0 by omega]
 · rw[if_neg h,show(L.length+7)/8=L.length/8+1 by omega]
def numBits (n:Nat):Nat→List Bool
 | 0=> []
 | m+1=>decide (n/2^m%2=1)::numBits n m
theorem aj (n:Nat):∀m,(numBits n m).length=m
 | 0=>rfl
 | m+1=>by simp[numBits,aj n m]
theorem iU (n:Nat):∀(m i:Nat) (h:i<m),(numBits n m)[i]'(by rw[aj];exact h)=decide (n/2^(m-1-i)%2=1)
 | m+1,0,_=>by simp[numBits]
 | m+1,i+1,h=>by
   simp only[numBits,List.getElem_cons_succ];rw[iU n m i zo]
   congr 5
   omega
theorem EC (L:List Bool) (i:Nat):dC L (i/8)/2^(7-i%8)%2=l8 L i:=by
 have hr:i%8<8:=ajI _ zo;have hi:i=8*(i/8)+i%8:=(ajT _ 8).symm;generalize i/8=k at*
 generalize i%8=r at*
 subst hi;unfold dC;have h:=AL L;have h0:=h (8*k);have h1:=h (8*k+1);have h2:=h (8*k+2);have h3:=h (8*k+3);have h4:=h (8*k+4);have h5:=h (8*k+5);have h6:=h (8*k+6);have h7:=h (8*k+7);rcases (by omega:r=0∨r=1∨r=2∨r=3∨r=4∨r=5∨r=6∨r=7) with rfl | rfl | rfl | rfl | rfl | rfl | rfl | rfl<;>simp only[Nat.reduceSub,Nat.reducePow,aky]<;>omega
def numOf (l:List Bool):Nat:=l.foldl (fun n b=>2*n+b.toNat) 0
theorem tX:numOf []=0:=rfl
theorem qp (l:List Bool) (b:Bool):numOf (l++[b])=2*numOf l+b.toNat:=by simp[numOf]
theorem dU (l:List Bool):numOf l<2^l.length:=by
 have aux:∀(l:List Bool) (n:Nat),l.foldl (fun n b=>2*n+b.toNat) n<(n+1)*2^l.length:=by
  intro l
  induction l with
  | nil=>intro n;simp
  | cons b l ih=>
    intro n;have hb:b.toNat≤1:=by cases b<;>simp
    have:=ih (2*n+b.toNat)
    simp only[List.foldl_cons,ajr];refine aj2 this ?_;rw[ajS,ajJ (2^l.length) 2,←ajZ];exact ajP _ zo
 simpa [numOf] using aux l 0
def My (B:List Int) (p:Nat):Bool:=decide (B.getD (p/8) 0/2^(7-p%8)%2=1)
def bitsOf (B:List Int):List Bool:=(List.range (8*B.length)).map (My B)
theorem ba (B:List Int):(bitsOf B).length=8*B.length:=by simp[bitsOf]
theorem rv (B:List Int) (p:Nat) (h:p<8*B.length):(bitsOf B).getD p false=My B p:=by
 unfold bitsOf;rw[ajk,aj1,alf h]
 rfl
theorem Rd (n:Nat) (b:Bool) (h:n<9223372036854775808):cv .or .u64 (IntKind.u64.wrap ((n:Int)*2)) (b.toNat:Int)=((2*n+b.toNat:Nat):Int):=by
 have hw:IntKind.u64.wrap ((n:Int)*2)=((2*n:Nat):Int):=by rw[wrap_u64 zo];omega
 rw[hw];show IntKind.u64.wrap ((BitVec.ofInt 64 ((2*n:Nat):Int) ||| BitVec.ofInt 64 (b.toNat:Int)).toNat:Int)=_
 have h1:(BitVec.ofInt 64 ((2*n:Nat):Int) ||| BitVec.ofInt 64 (b.toNat:Int)).toNat=2*n+b.toNat:=by
  rw[BitVec.toNat_or,BitVec.ofInt_natCast,BitVec.ofInt_natCast,BitVec.toNat_ofNat,BitVec.toNat_ofNat,ajL zo,ajL (by cases b<;>decide)]
  cases b with
  | false=>simp
  | true=>exact(ale (i:=1) (b:=1) zd n).symm
 rw[h1,wrap_u64 (by have:b.toNat≤1:=by cases b<;>simp
                    omega)]
theorem CL (n:Nat) (b:Bool) (h:n<9223372036854775808):cv .or .u64 ((n:Int)*2) (b.toNat:Int)=((2*n+b.toNat:Nat):Int):=by
 rw[←Rd n b h,wrap_u64 zo]
theorem ji {l:List Bool} {a w:Nat} (h:a+w<l.length):(l.drop a).take (w+1)=(l.drop a).take w++[l.getD (a+w) false]:=by
 rw[ajN (by simp;omega),al3,ajk,ajm h]
 rfl
theorem Wt (x:Int) (b:Bool) (h:b=decide (x%2=1)):x%2=(b.toNat:Int):=by
 subst h
 by_cases h:x%2=1
 · simp[h]
 · simp[h];omega
theorem ub (x y:List Bool):numOf (x++y)=numOf x*2^y.length+numOf y:=by
 have aux:∀(l:List Bool) (n:Nat),l.foldl (fun n b=>2*n+b.toNat) n=n*2^l.length+l.foldl (fun n b=>2*n+b.toNat) 0:=by
  intro l
  induction l with
  | nil=>intro n;simp
  | cons b l ih=>
    intro n;simp only[List.foldl_cons,ajr];rw[ih (2*n+b.toNat),ih (2*0+b.toNat),ajS,ajG,alB,ajU];rw[ajJ (2^l.length) 2,←ajZ,ajJ n 2];omega
 unfold numOf;rw[List.foldl_append,aux]
def rX (L:List Bool) (p:Nat) (w:Int):Nat×Nat×Int:=
 if 0≤w∧w≤64 then(if p+w.toNat≤L.length then(numOf ((L.drop p).take w.toNat),p+w.toNat,0) else(0,p,5)) else(0,p,2)
theorem Yq {L:List Bool} {p:Nat} {w:Int} (h:p≤L.length):(rX L p w).2.1≤L.length:=by
 unfold rX;split
 · split
   · assumption
   · exact h
 · exact h
def jR (L:List Bool) (p:Nat):Int:=if 8≤L.length-p then 4 else if (L.drop p).any id=true then 4 else 0
theorem Ay {L:List Bool} {p i:Nat} (h:p+i<L.length) (hb:L.getD (p+i) false=true):(L.drop p).any id=true:=by
 rw[List.any_eq_true];refine⟨true,akI.2 ⟨i,by simp;omega,?_⟩,rfl⟩;rw[al3];rw[ajk,ajm h] at hb;exact hb
theorem IP {L:List Bool} {p i:Nat} (h:p+i<L.length) (hb:L.getD (p+i) false=false) (ha:((L.drop p).take i).any id=false):((L.drop p).take (i+1)).any id=false:=by
 rw[ji h,List.any_append,ha,hb];rfl
structure PutN where
 n:Nat
 m:Int
instance:Inhabited PutN:=⟨⟨0,0⟩⟩
def NO (x:PutN):Prop:=0≤x.m∧x.m≤64∧x.n<2^x.m.toNat
instance (x:PutN):Decidable (NO x):=by unfold NO;exact inferInstance
theorem aX (n:Nat):∀m,numOf (numBits n m)=n%2^m
 | 0=>by simp[numBits,numOf,Nat.mod_one]
 | m+1=>by
   have e:numBits n (m+1)=[decide (n/2^m%2=1)]++numBits n m:=rfl;rw[e,ub,aX n m,aj]
   have h1:numOf [decide (n/2^m%2=1)]=n/2^m%2:=by
    have:=ajI (n/2^m) (show 0<2 by decide)
    unfold numOf
    by_cases h:n/2^m%2=1
    · simp[h]
    · simp[h];omega
   rw[h1,ajS,Nat.mod_mul];rw[ajJ (2^m),akS]
def kb (K:List PutN):List Bool:=K.flatMap fun x=>numBits x.n x.m.toNat
theorem oH (L:List Bool):bitsOf (pk L)=L++List.replicate (8*((L.length+7)/8)-L.length) false:=by
 have hl:=ba (pk L);rw[kQ] at hl;apply alx
 · rw[hl];simp;omega
 · intro i h1 h2
   have hi:i<8*(pk L).length:=by rw[kQ];omega
   have e:=rv (pk L) i hi;rw[ajk,ajm h1] at e;simp only[alR] at e;rw[e];unfold My;have hg:(pk L).getD (i/8) 0=dC L (i/8):=yP L _ _ (by rw[kQ] at hi;omega);rw[hg]
   have hbit:decide (((dC L (i/8):Nat):Int)/2^(7-i%8)%2=1)=decide (dC L (i/8)/2^(7-i%8)%2=1):=by
    rw[decide_eq_decide]
    have:(((dC L (i/8):Nat):Int)/2^(7-i%8)%2)=((dC L (i/8)/2^(7-i%8)%2:Nat):Int):=by simp
    rw[this];omega
   rw[hbit,EC L i]
   by_cases h:i<L.length
   · rw[List.getElem_append_left h]
     unfold l8;rw[ajk,ajm h];simp only[alR]
     cases L[i]<;>simp
   · rw[List.getElem_append_right zo,List.getElem_replicate,nh zo]
     simp
def bl (n:Nat):Nat:=if n=0 then 0 else Nat.log2 n+1
theorem Kz:bl 0=0:=rfl
theorem jY (n:Nat):n<2^bl n:=by
 unfold bl
 split
 · omega
 · exact Nat.lt_log2_self
theorem pd {n:Nat} (h:n≠0):2^(bl n-1)≤n:=by
 unfold bl;rw[if_neg h];exact Nat.log2_self_le h
theorem jH {n:Nat} (h:n≠0):0<bl n:=by unfold bl;rw[if_neg h];omega
theorem WW {n k:Nat} (h1:2^k≤n) (h2:n<2^(k+1)):bl n=k+1:=by
 have hn:n≠0:=by have:=ak9 k;omega
 unfold bl;rw[if_neg hn];have a1:k≤Nat.log2 n:=(Nat.le_log2 hn).2 h1;have a2:Nat.log2 n<k+1:=(Nat.log2_lt hn).2 h2;omega
theorem bP {n k:Nat} (h:n<2^k):bl n≤k:=by
 by_cases hn:n=0
 · subst hn;simp[bl]
 · have h1:=pd hn
   have:2^(bl n-1)<2^k:=aj9 h1 h
   have:=(alT (show 1<2 by decide)).1 this
   omega
theorem mE {n k:Nat} (h:2^k≤n):bl n=k+bl (n/2^k):=by
 have hp:=ak9 k
 have hq:n/2^k≠0:=by
  intro h0
  have:=(Nat.div_eq_zero_iff).1 h0
  omega
 have h1:=pd hq;have h2:=jY (n/2^k);have hb:=jH hq
 have e:bl n=(k+bl (n/2^k)-1)+1:=by
  apply WW
  · rw[show k+bl (n/2^k)-1=(bl (n/2^k)-1)+k by omega,ako]
    exact(akL hp).1 h1
  · rw[show k+bl (n/2^k)-1+1=bl (n/2^k)+k by omega,ako]
    exact(ajX hp).1 h2
 omega
def ai (n:Nat):List Bool:=numBits 0 (bl n-1)++numBits n (bl n)
def GN (n:Nat):List Bool:=ai (bl n)++numBits (n-2^(bl n-1)) (bl n-1)
def cZ (n:Nat):List Bool:=if h:n<128 then numBits n 8 else numBits (128+n%128) 8++cZ (n/128)
termination_by n
decreasing_by omega
theorem mR {n:Nat} (h:n≠0):(ai n).length=2*bl n-1:=by
 have:=jH h
 simp only[ai,ajj,aj];omega
theorem qT (n:Nat):(cZ n).length=8*max 1 ((bl n+6)/7):=by
 induction n using Nat.strongRecOn with
 | ind n ih=>
   unfold cZ
   by_cases h:n<128
   · rw[dif_pos h,aj]
     have:=bP (n:=n) (k:=7) h
     omega
   · rw[dif_neg h,ajj,aj,ih _ zo]
     have e:=mE (n:=n) (k:=7) zo;rw[show(2:Nat)^7=128 from rfl] at e
     have:0<bl (n/128):=jH zo
     omega
theorem CH {k:Nat} (h:k<64):IntKind.u64.wrap (1*2^k)=((2^k:Nat):Int):=by
 have h1:2^k≤2^63:=ajv zd zo;unfold IntKind.wrap;have h2:(1*2^k:Int)=((2^k:Nat):Int):=by simp
 rw[h2];generalize 2^k=x at*
 have e:IntKind.u64.bits=64:=rfl;have e2:IntKind.u64.signed=false:=rfl;rw[e,e2]
 simp
 omega
theorem CR {x y:Nat} (hx:x<18446744073709551616) (hy:y<18446744073709551616):cv .andNot .u64 (x:Int) (y:Int)=((x^^^(x&&&y):Nat):Int):=by
 have e:(BitVec.ofInt IntKind.u64.bits (x:Int)&&& ~~~ BitVec.ofInt IntKind.u64.bits (y:Int)).toNat=x^^^(x&&&y):=by
  have e0:∀a b:BitVec IntKind.u64.bits,a&&& ~~~ b=a^^^(a&&&b):=by
   intro a b
   ext i hi
   simp
   cases a[i]<;>cases b[i]<;>rfl
  rw[e0,BitVec.toNat_xor,BitVec.toNat_and,BitVec.ofInt_natCast,BitVec.ofInt_natCast,BitVec.toNat_ofNat,BitVec.toNat_ofNat,show 2^IntKind.u64.bits=18446744073709551616 from rfl,ajL hx,ajL hy]
 show IntKind.u64.wrap ((BitVec.ofInt IntKind.u64.bits (x:Int)&&& ~~~ BitVec.ofInt IntKind.u64.bits (y:Int)).toNat:Int)=_;rw[e];have h2:x^^^(x&&&y)<2^64:=alD (by simpa using hx) (Nat.and_lt_two_pow _ (by simpa using hy));generalize x^^^(x&&&y)=z at*
 unfold IntKind.wrap;have e:IntKind.u64.bits=64:=rfl;have e2:IntKind.u64.signed=false:=rfl;rw[e,e2]
 simp
 omega
theorem QP {k n:Nat} (hk:k<64) (h:n<2^k):cv .or .u64 ((2^k:Nat):Int) (n:Int)=((2^k+n:Nat):Int):=by
 have h1:2^k≤2^63:=ajv zd zo;rw[iE zo zo];have e:=ale h 1;rw[ak6] at e;rw[e]
theorem B4 {n:Nat} (h:n<128):cZ n=numBits n 8:=by unfold cZ;rw[dif_pos h]
theorem Cv {n:Nat} (h:¬n<128):cZ n=numBits (128+n%128) 8++cZ (n/128):=by conv=>lhs;unfold cZ;rw[dif_neg h]
theorem Qb (n:Nat):cv .or .u64 ((n:Int)%128) 128=((128+n%128:Nat):Int):=by
 have h:n%128<128:=ajI _ zd;rw[show(n:Int)%128=((n%128:Nat):Int) by omega];generalize n%128=r at*
 have e:=iE (x:=r) (y:=128) zo zo;rw[show((128:Nat):Int)=128 from rfl] at e;rw[e,Nat.or_comm];have e:=ale (i:=7) h 1;rw[←e]
def bTo (L:List Bool) (j:Nat):Nat→Nat
 | 0=>0
 | k+1=>2*bTo L j k+l8 L (8*j+k)
def zl:List Bool→Nat
 | []=>0
 | true::_=>0
 | false::l=>zl l+1
theorem Of:∀l:List Bool,zl l≤l.length
 | []=>ajp _
 | true::l=>ajH _
 | false::l=>by have:=Of l;simp only[zl,ajr];omega
theorem w6:∀(l:List Bool) (k:Nat),k<zl l→l.getD k false=false
 | [],k,h=>by simp[zl] at h
 | true::l,k,h=>by simp[zl] at h
 | false::l,0,h=>rfl
 | false::l,k+1,h=>by
   have:=w6 l k (by simp only[zl] at h;omega)
   simpa using this
theorem Cy:∀l:List Bool,zl l<l.length→l.getD (zl l) false=true
 | [],h=>by simp[zl] at h
 | true::l,h=>rfl
 | false::l,h=>by
   have:=Cy l (by simp only[zl,ajr] at h;omega)
   simpa [zl] using this
def zr (L:List Bool) (p:Nat):Nat:=zl (L.drop p)
theorem s6 (L:List Bool) (p k:Nat):(L.drop p).getD k false=L.getD (p+k) false:=by
 simp[ajk,akc]
theorem Od {L:List Bool} {p:Nat} (h:p≤L.length):p+zr L p≤L.length:=by
 have:=Of (L.drop p)
 unfold zr;simp at this;omega
theorem KZ {L:List Bool} {p k:Nat} (h:p+k<L.length) (hk:k≤zr L p) (hb:L.getD (p+k) false=true):zr L p=k:=by
 by_cases h1:k<zr L p
 · have:=w6 _ _ h1
   rw[s6,hb] at this
   cases this
 · omega
theorem GF {L:List Bool} {p k:Nat} (h:p+k<L.length) (hk:k≤zr L p) (hb:L.getD (p+k) false=false):k+1≤zr L p:=by
 by_cases h1:k=zr L p
 · subst h1
   have:=Cy (L.drop p) (by unfold zr at h;simp;omega)
   rw[s6] at this;unfold zr at hb;rw[hb] at this
   cases this
 · omega
theorem Qp {L:List Bool} {p k:Nat} (h:¬p+k<L.length) (hk:k≤zr L p) (hp:p≤L.length):zr L p=k:=by
 have:=Od hp
 omega
theorem zZ {L:List Bool} {p:Nat} (h:p<L.length):rX L p 1=((L.getD p false).toNat,p+1,0):=by
 unfold rX;rw[if_pos zo,if_pos (by simp;omega)]
 have e:(L.drop p).take 1=[L.getD p false]:=by
  have:=ji (l:=L) (a:=p) (w:=0) zo
  simpa using this
 simp only[Int.toNat_one,e]
 cases L.getD p false<;>rfl
theorem Bd {L:List Bool} {p:Nat} (h:¬p<L.length):rX L p 1=(0,p,5):=by
 unfold rX;rw[if_pos zo,if_neg (by simp;omega)]
theorem HC {L:List Bool} {p w:Nat} (hw:w≤64) (h:p+w≤L.length):rX L p w=(numOf ((L.drop p).take w),p+w,0):=by
 unfold rX;rw[if_pos zo,if_pos (by simpa using h)]
 simp
theorem zL {L:List Bool} {p w:Nat} (hw:w≤64) (h:¬p+w≤L.length):rX L p w=(0,p,5):=by
 unfold rX;rw[if_pos zo,if_neg (by simpa using h)]
def gX (L:List Bool) (p:Nat):Nat×Nat×Int:=
 if 64≤zr L p then(0,p+64,4) else if L.length<p+2*zr L p+1 then(0,(if p+zr L p<L.length then p+zr L p+1 else p+zr L p),5)
 else(2^zr L p+numOf ((L.drop (p+zr L p+1)).take (zr L p)),p+2*zr L p+1,0)
def gR (L:List Bool) (p:Nat):Nat×Nat×Int:=
 if 64≤zr L p then(0,p+64,4) else if L.length<p+2*zr L p+1 then(0,p+zr L p,5)
 else(2^zr L p+numOf ((L.drop (p+zr L p+1)).take (zr L p)),p+2*zr L p+1,0)
theorem OU {L:List Bool} {p:Nat} (h:p≤L.length):(gX L p).2.1≤L.length:=by
 have:=Od h
 unfold gX
 split
 · simp only;omega
 · split
   · simp only;split<;>omega
   · simp only;omega
theorem NB {L:List Bool} {p:Nat}:(gX L p).1<18446744073709551616:=by
 unfold gX
 split
 · simp
 · split
   · simp
   · simp only
     have h1:2^zr L p≤2^63:=ajv zd zo;have h2:=dU ((L.drop (p+zr L p+1)).take (zr L p));have h3:2^((L.drop (p+zr L p+1)).take (zr L p)).length≤2^63:=ajv zd (by simp;omega);omega
theorem Qk {L:List Bool} {p:Nat} (h:(gX L p).2.2=0):0<(gX L p).1:=by
 unfold gX at*
 split at h
 · cases h
 · split at h
   · cases h
   · rename_i h1 h2
     rw[if_neg h1,if_neg h2]
     have:=ak9 (zr L p)
     simp only;omega
theorem Pq {L:List Bool} {p:Nat} (h:(gX L p).2.2≠0):(gX L p).1=0:=by
 unfold gX at*
 split
 · rfl
 · split
   · rfl
   · rename_i h1 h2
     rw[if_neg h1,if_neg h2] at h;exact absurd rfl h
theorem KA {L:List Bool} {p:Nat} (h:64≤zr L p):gX L p=(0,p+64,4)∧gR L p=(0,p+64,4):=by
 unfold gX gR;rw[if_pos h,if_pos h];exact⟨rfl,rfl⟩
theorem HK {L:List Bool} {p k:Nat} (hz:zr L p=k) (h:k<64) (he:L.length<p+2*k+1):gX L p=(0,(if p+k<L.length then p+k+1 else p+k),5)∧gR L p=(0,p+k,5):=by
 subst hz;exact⟨by unfold gX;rw[if_neg zo,if_pos he],by unfold gR;rw[if_neg zo,if_pos he]⟩
theorem Om {L:List Bool} {p k:Nat} (hz:zr L p=k) (h:k<64) (he:p+2*k+1≤L.length):gX L p=(2^k+numOf ((L.drop (p+k+1)).take k),p+2*k+1,0)∧gR L p=gX L p:=by
 subst hz;have e:gX L p=(2^zr L p+numOf ((L.drop (p+zr L p+1)).take (zr L p)),p+2*zr L p+1,0):=by unfold gX;rw[if_neg zo,if_neg zo]
 exact⟨e,by rw[e];unfold gR;rw[if_neg zo,if_neg zo]⟩
def dX (L:List Bool) (p:Nat):Nat×Nat×Int:=
 if (gX L p).2.2=0 then(if 64<(gX L p).1 then(0,(gX L p).2.1,4) else
  if (gX L p).2.1+((gX L p).1-1)≤L.length then(2^((gX L p).1-1)+numOf ((L.drop (gX L p).2.1).take ((gX L p).1-1)),(gX L p).2.1+((gX L p).1-1),0)
  else(0,(gX L p).2.1,5)) else(0,(gX L p).2.1,(gX L p).2.2)
def dR (L:List Bool) (p:Nat):Nat×Nat×Int:=
 if (dX L p).2.2=0 then dX L p else(0,p,(dX L p).2.2)
def F0 (L:List Bool):Nat→Nat→Nat→Nat→Nat×Nat×Int
 | 0,_,p,_=>(0,p,4)
 | j+1,i,p,a=>
   if (rX L p 8).2.2=0 then
    (if (i=9∧1<(rX L p 8).1%128)∨(0<i∧(rX L p 8).1=0) then(0,(rX L p 8).2.1,4)
     else if (rX L p 8).1<128 then(a+(rX L p 8).1%128*2^(7*i),(rX L p 8).2.1,0)
     else F0 L j (i+1) (rX L p 8).2.1 (a+(rX L p 8).1%128*2^(7*i)))
   else(0,(rX L p 8).2.1,5)
def vX (L:List Bool) (p:Nat):Nat×Nat×Int:=F0 L 10 0 p 0
theorem AK {L:List Bool}:∀(j i p a:Nat),p≤L.length→(F0 L j i p a).2.1≤L.length
 | 0,_,_,_,h=>h
 | j+1,i,p,a,h=>by
   have:=Yq (w:=8) h
   unfold F0
   split
   · split
     · exact this
     · split
       · exact this
       · exact AK _ _ _ _ this
   · exact this
theorem Pr {L:List Bool} {p:Nat} (h:p+8≤L.length):rX L p 8=(numOf ((L.drop p).take 8),p+8,0):=HC (w:=8) zd h
theorem Mv {L:List Bool} {p:Nat} (h:¬p+8≤L.length):rX L p 8=(0,p,5):=zL (w:=8) zd h
theorem Mj {L:List Bool} {j i p a:Nat} (h:¬p+8≤L.length):F0 L (j+1) i p a=(0,p,5):=by
 have e:rX L p 8=(0,p,5):=zL (w:=8) zd h;unfold F0;rw[e]
 simp
theorem vq {L:List Bool} {j i p a x:Nat} (h:p+8≤L.length) (hx:numOf ((L.drop p).take 8)=x):F0 L (j+1) i p a=
 if (i=9∧1<x%128)∨(0<i∧x=0) then(0,p+8,4) else if x<128 then(a+x%128*2^(7*i),p+8,0) else F0 L j (i+1) (p+8) (a+x%128*2^(7*i)):=by
 have e:rX L p 8=(x,p+8,0):=by rw[←hx];exact HC (w:=8) zd h
 conv=>lhs;unfold F0
 rw[e]
 simp
theorem PU {x i:Nat} (hi:i≤9) (h9:i=9→x≤1) (hx:x<128):x*2^(7*i)<18446744073709551616∧x*2^(7*i)+2^(7*i)≤18446744073709551616:=by
 by_cases h:i=9
 · subst h
   have:=h9 rfl
   omega
 · have h1:2^(7*i)≤2^56:=ajv zd zo
   have h2:x*2^(7*i)≤127*2^56:=ajO zo h1;omega
theorem uS (i:Nat):2^(7*(i+1))=128*2^(7*i):=by
 rw[aj0,ako];omega
theorem QM {a x i:Nat} (ha:a<2^(7*i)) (hi:i≤9) (h9:i=9→x≤1) (hx:x<128):cv .or .u64 (a:Int) ((x*2^(7*i):Nat):Int)=((a+x*2^(7*i):Nat):Int):=by
 have h:=PU hi h9 hx;rw[iE zo zo];have e:=ale ha x;rw[ajJ x,Nat.or_comm,←e,akS]
theorem HD {x i:Nat} (hi:i≤9) (h9:i=9→x≤1) (hx:x<128):IntKind.u64.wrap ((x:Int)*2^(7*i))=((x*2^(7*i):Nat):Int):=by
 have h:=PU hi h9 hx;have e0:((x:Int)*2^(7*i))=((x*2^(7*i):Nat):Int):=by simp
 rw[e0];generalize x*2^(7*i)=y at*
 unfold IntKind.wrap;have e:IntKind.u64.bits=64:=rfl;have e2:IntKind.u64.signed=false:=rfl;rw[e,e2]
 simp
 omega
theorem gP (m:Nat):numBits 0 m=List.replicate m false:=by
 induction m with
 | zero=>rfl
 | succ m ih=>
   have e:numBits 0 (m+1)=decide (0/2^m%2=1)::numBits 0 m:=rfl;rw[e,ih,akF]
   simp
theorem P8 (k:Nat) (T:List Bool):zl (List.replicate k false++true::T)=k:=by
 induction k with
 | zero=>rfl
 | succ k ih=>rw[akF,List.cons_append];show zl _+1=_;rw[ih]
theorem w7 {n:Nat} (h0:n≠0):numBits n (bl n)=true::numBits n (bl n-1):=by
 have hb:=jH h0;have h1:=pd h0;have h2:=jY n;obtain ⟨k,hk⟩:∃k,bl n=k+1:=⟨bl n-1,by omega⟩;rw[hk] at h1 h2 ⊢;have e:numBits n (k+1)=decide (n/2^k%2=1)::numBits n k:=rfl;rw[e];simp only[akW] at h1 ⊢
 have hd:n/2^k=1:=by
  have hp:=ak9 k;have a1:=(akL hp).2 (show 1*2^k≤n by omega);have a2:=(ajX hp).2 (show n<2*2^k by rw[ajS] at h2;omega);omega
 rw[hd]
 rfl
theorem yX (A B:List Bool) (k:Nat):(A++B).drop (A.length+k)=B.drop k:=by
 rw[List.drop_append,List.drop_eq_nil_of_le zo];simp
theorem Cb {A T:List Bool} {n:Nat} (h0:n≠0) (hn:n<18446744073709551616):gX (A++(ai n++T)) A.length=(n,A.length+(ai n).length,0):=by
 have hb:=jH h0;have hb2:=bP (n:=n) (k:=64) hn;have h1:=pd h0;have h2:=jY n;have hgl:=mR h0
 have e:ai n++T=List.replicate (bl n-1) false++true::(numBits n (bl n-1)++T):=by
  unfold ai;rw[w7 h0,gP]
  simp
 have hz:zr (A++(ai n++T)) A.length=bl n-1:=by
  unfold zr;rw[alO,e,P8]
 have hlen:(A++(ai n++T)).length=A.length+(2*bl n-1+T.length):=by simp[hgl]
 rw[(Om hz zo (by rw[hlen];omega)).1]
 have hd:(A++(ai n++T)).drop (A.length+(bl n-1)+1)=numBits n (bl n-1)++T:=by
  rw[aj8,yX,e]
  have:(List.replicate (bl n-1) false).length=bl n-1:=by simp
  conv=>lhs;rw[show bl n-1+1=(List.replicate (bl n-1) false).length+1 by simp]
  rw[yX]
  rfl
 rw[hd,akv (aj _ _),aX]
 have hm:n%2^(bl n-1)=n-2^(bl n-1):=by
  obtain ⟨k,hk⟩:∃k,bl n=k+1:=⟨bl n-1,by omega⟩;rw[hk] at h1 h2 ⊢;simp only[akW] at h1 ⊢;rw[ajS] at h2;rw[Nat.mod_eq_sub_mod h1,ajL zo]
 rw[hm]
 congr 1
 · omega
 · congr 1;omega
theorem JE {T:List Bool}:∀(n j i:Nat) (A:List Bool) (a:Nat),j+i=10→n<2^(64-7*i)→(0<i→n≠0)→i≤9→
 F0 (A++(cZ n++T)) j i A.length a=(a+n*2^(7*i),A.length+(cZ n).length,0):=by
 intro n
 induction n using Nat.strongRecOn with
 | ind n ih=>
   intro j i A a hj hn h0 hi;obtain ⟨j,rfl⟩:∃j',j=j'+1:=⟨j-1,by omega⟩
   by_cases h:n<128
   · rw[B4 h]
     have hx:numOf (((A++(numBits n 8++T)).drop A.length).take 8)=n:=by
      rw[alO,akv (aj _ _),aX];omega
     rw[vq (by simp[aj]) hx,if_neg,if_pos h,ajL h,aj];rintro (⟨rfl,h1⟩ | ⟨h1,h2⟩)
     · rw[ajL h] at h1;omega
     · exact h0 h1 h2
   · rw[Cv h]
     have hi8:i≤8:=by
      by_cases h9:i=9
      · subst h9;omega
      · omega
     have hx:numOf (((A++(numBits (128+n%128) 8++cZ (n/128)++T)).drop A.length).take 8)=128+n%128:=by
      rw[alO,ajq,akv (aj _ _),aX];omega
     rw[vq (by simp[aj]) hx,if_neg zo,if_neg zo]
     have hn':n/128<2^(64-7*(i+1)):=by
      rw[ajX zd]
      have:2^(64-7*(i+1))*128=2^(64-7*i):=by
       rw[show(128:Nat)=2^7 from rfl,←ako]
       congr 1;omega
      omega
     have:=ih (n/128) zo j (i+1) (A++numBits (128+n%128) 8) (a+(128+n%128)%128*2^(7*i)) zo hn' (fun _=>by omega) zo
     rw[ajj,aj] at this;have e:A++(numBits (128+n%128) 8++cZ (n/128)++T)=A++numBits (128+n%128) 8++(cZ (n/128)++T):=by simp
     rw[e,this,ajj,aj];have hm:(128+n%128)%128=n%128:=by omega
     rw[hm,uS]
     have hmul:n%128*2^(7*i)+n/128*(128*2^(7*i))=n*2^(7*i):=by
      rw[←ajZ,←ajG]
      congr 1
      omega
     congr 1
     · omega
     · congr 1;omega
theorem vM {A T:List Bool} {n:Nat} (hn:n<18446744073709551616):vX (A++(cZ n++T)) A.length=(n,A.length+(cZ n).length,0):=by
 unfold vX;rw[JE n 10 0 A 0 rfl hn (fun h=>absurd h zd) zd]
 simp
def cat (f:Nat→List Bool):Nat→List Bool
 | 0=> []
 | i+1=>cat f i++f i
def piece (k:Int) (x:Nat):List Bool:=if k=0 then ai x else if k=1 then GN x else cZ x
end Go.Proofs.YtcnlmelpnflhnaaGreat
