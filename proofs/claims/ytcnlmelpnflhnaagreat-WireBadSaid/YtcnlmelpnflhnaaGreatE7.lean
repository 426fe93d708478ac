import Derived.Test.YtcnlmelpnflhnaaGreatE6
namespace Go.Proofs.YtcnlmelpnflhnaaGreat
open Go.Eng
set_option linter.unusedSimpArgs false
set_option linter.unusedVariables false
def mb (L:List Bool) (i:Nat):Nat:=(L.getD i false).toNat
theorem Bl (L:List Bool) (i:Nat):mb L i≤1:=by unfold mb;cases L.getD i false<;>simp
theorem nC {L:List Bool} {i:Nat} (h:L.length≤i):mb L i=0:=by
 unfold mb;rw[akf,alU h];rfl
theorem cF {L:List Bool} {i:Nat} (x:Bool) (h:i<L.length):mb (L++[x]) i=mb L i:=by
 unfold mb;rw[akf,akp h,←akf]
theorem pO (L:List Bool) (x:Bool):mb (L++[x]) L.length=x.toNat:=by
 unfold mb;simp
def dJ (L:List Bool) (k:Nat):Nat:=
 mb L (8*k)*128+mb L (8*k+1)*64+mb L (8*k+2)*32+mb L (8*k+3)*16+mb L (8*k+4)*8+mb L (8*k+5)*4+mb L (8*k+6)*2+mb L (8*k+7)
theorem iz (L:List Bool) (k:Nat):dJ L k<256:=by
 unfold dJ;have h:=Bl L;have h0:=h (8*k);have h1:=h (8*k+1);have h2:=h (8*k+2);have h3:=h (8*k+3);have h4:=h (8*k+4);have h5:=h (8*k+5);have h6:=h (8*k+6);have h7:=h (8*k+7);omega
theorem tK {L:List Bool} {k:Nat} (x:Bool) (h:k<L.length/8):dJ (L++[x]) k=dJ L k:=by
 unfold dJ;rw[cF x zo,cF x zo,cF x zo,cF x zo,cF x zo,cF x zo,cF x zo,cF x zo]
theorem m5 (L:List Bool) (x:Bool):dJ (L++[x]) (L.length/8)=dJ L (L.length/8)+x.toNat*2^(7-L.length%8)∧dJ L (L.length/8)%2^(8-L.length%8)=0:=by
 have hs:∀i,mb (L++[x]) i=if i<L.length then mb L i else if i=L.length then x.toNat else 0:=fun i=>by
  by_cases h:i<L.length
  · rw[if_pos h,cF x h]
  · rw[if_neg h]
    by_cases h':i=L.length
    · rw[if_pos h',h',pO]
    · rw[if_neg h',nC (by simp;omega)]
 have ho:∀i,L.length≤i→mb L i=0:=fun i h=>nC h;have hn:L.length=8*(L.length/8)+L.length%8:=(akO _ 8).symm;have hx:x.toNat≤1:=by cases x<;>simp
 unfold dJ;simp only[hs];generalize L.length/8=k at*
 have hr:L.length%8<8:=akD _ zo;generalize L.length%8=r at*
 rw[hn] at ho ⊢;have h:=Bl L;have h0:=h (8*k);have h1:=h (8*k+1);have h2:=h (8*k+2);have h3:=h (8*k+3);have h4:=h (8*k+4);have h5:=h (8*k+5);have h6:=h (8*k+6);have h7:=h (8*k+7);have o0:=ho (8*k);have o1:=ho (8*k+1);have o2:=ho (8*k+2);have o3:=ho (8*k+3);have o4:=ho (8*k+4);have o5:=ho (8*k+5);have o6:=ho (8*k+6);have o7:=ho (8*k+7);generalize mb L (8*k)=a0 at*
 generalize mb L (8*k+1)=a1 at*
 generalize mb L (8*k+2)=a2 at*
 generalize mb L (8*k+3)=a3 at*
 generalize mb L (8*k+4)=a4 at*
 generalize mb L (8*k+5)=a5 at*
 generalize mb L (8*k+6)=a6 at*
 generalize mb L (8*k+7)=a7 at*
 generalize x.toNat=q at*
 clear hs ho h hn;rcases (by omega:r=0∨r=1∨r=2∨r=3∨r=4∨r=5∨r=6∨r=7) with rfl | rfl | rfl | rfl | rfl | rfl | rfl | rfl<;>simp(disch:=omega) only[if_pos,if_neg, ↓reduceIte]<;>constructor<;>simp only[Nat.reducePow,Nat.reduceSub, ↓reduceIte]<;>omega
theorem Sx:∀r:Fin 8,∀y:Fin 256,y.val%2^(8-r.val)=0→y.val ||| 2^(7-r.val)=y.val+2^(7-r.val):=by decide+kernel
def kK (L:List Bool) (m:Nat):List Int:=(List.range m).map fun k=>(dJ L k:Int)
def pk (L:List Bool):List Int:=kK L ((L.length+7)/8)
theorem nR (L:List Bool) (m:Nat):(kK L m).length=m:=by simp[kK]
theorem k9 (L:List Bool):(pk L).length=(L.length+7)/8:=nR _ _
theorem zf (L:List Bool) (m i:Nat) (h:i<m):(kK L m).getD i 0=dJ L i:=by
 unfold kK;rw[akf,akX,amj h]
 rfl
theorem Il (L:List Bool) (x:Bool):kK (L++[x]) (L.length/8+1)=(kK L (L.length/8+1)).set (L.length/8) ((dJ L (L.length/8):Int)+(x.toNat*2^(7-L.length%8):Nat)):=by
 unfold kK;apply amy
 · simp
 · intro i h1 h2
   simp only[List.getElem_set,List.getElem_map,List.getElem_range];simp at h1
   by_cases h:L.length/8=i
   · subst h
     rw[if_pos rfl,(m5 L x).1]
     simp
   · rw[if_neg h,tK x zo]
theorem OR (L:List Bool) (x:Bool):pk (L++[x])=kK (L++[x]) (L.length/8+1):=by
 unfold pk
 congr 1
 simp
 omega
theorem tz (L:List Bool) (m:Nat):kK (L++[false]) m=kK L m:=by
 have h:∀i,mb (L++[false]) i=mb L i:=fun i=>by
  by_cases h:i<L.length
  · exact cF _ h
  · rw[nC (L:=L) zo]
    by_cases h':i=L.length
    · subst h';rw[pO];rfl
    · exact nC (by simp;omega)
 unfold kK dJ;simp only[h]
theorem FG (L:List Bool):kK L (L.length/8+1)=if L.length%8=0 then pk L++[0] else pk L:=by
 unfold pk
 by_cases h:L.length%8=0
 · rw[if_pos h,show(L.length+7)/8=L.length/8 by omega]
   unfold kK;rw[amY,alQ];have h2:=(m5 L false).2;rw[h,Nat.sub_zero] at h2
   have:=iz L (L.length/8)
   rw[show(2:Nat)^8=256 from rfl] at h2;simp[show dJ L (L.length/8)=0 by omega]
 · rw[if_neg h,show(L.length+7)/8=L.length/8+1 by omega]
def numBits (n:Nat):Nat→List Bool
 | 0=> []
 | m+1=>decide (n/2^m%2=1)::numBits n m
theorem aj (n:Nat):∀m,(numBits n m).length=m
 | 0=>rfl
 | m+1=>by simp[numBits,aj n m]
theorem i6 (n:Nat):∀(m i:Nat) (h:i<m),(numBits n m)[i]'(by rw[aj];exact h)=decide (n/2^(m-1-i)%2=1)
 | m+1,0,_=>by simp[numBits]
 | m+1,i+1,h=>by
   simp only[numBits,List.getElem_cons_succ];rw[i6 n m i zo]
   congr 5
   omega
theorem Fl (L:List Bool) (i:Nat):dJ L (i/8)/2^(7-i%8)%2=mb L i:=by
 have hr:i%8<8:=akD _ zo;have hi:i=8*(i/8)+i%8:=(akO _ 8).symm;generalize i/8=k at*
 generalize i%8=r at*
 subst hi;unfold dJ;have h:=Bl L;have h0:=h (8*k);have h1:=h (8*k+1);have h2:=h (8*k+2);have h3:=h (8*k+3);have h4:=h (8*k+4);have h5:=h (8*k+5);have h6:=h (8*k+6);have h7:=h (8*k+7);rcases (by omega:r=0∨r=1∨r=2∨r=3∨r=4∨r=5∨r=6∨r=7) with rfl | rfl | rfl | rfl | rfl | rfl | rfl | rfl<;>simp only[Nat.reduceSub,Nat.reducePow,alv]<;>omega
def numOf (l:List Bool):Nat:=l.foldl (fun n b=>2*n+b.toNat) 0
theorem uA:numOf []=0:=rfl
theorem qL (l:List Bool) (b:Bool):numOf (l++[b])=2*numOf l+b.toNat:=by simp[numOf]
theorem dw (l:List Bool):numOf l<2^l.length:=by
 have aux:∀(l:List Bool) (n:Nat),l.foldl (fun n b=>2*n+b.toNat) n<(n+1)*2^l.length:=by
  intro l
  induction l with
  | nil=>intro n;simp
  | cons b l ih=>
    intro n;have hb:b.toNat≤1:=by cases b<;>simp
    have:=ih (2*n+b.toNat)
    simp only[List.foldl_cons,akm];refine akT this ?_;rw[akM,akC (2^l.length) 2,←akS];exact akI _ zo
 simpa [numOf] using aux l 0
def yS (B:List Int) (p:Nat):Bool:=decide (B.getD (p/8) 0/2^(7-p%8)%2=1)
def bitsOf (B:List Int):List Bool:=(List.range (8*B.length)).map (yS B)
theorem aG (B:List Int):(bitsOf B).length=8*B.length:=by simp[bitsOf]
theorem rU (B:List Int) (p:Nat) (h:p<8*B.length):(bitsOf B).getD p false=yS B p:=by
 unfold bitsOf;rw[akf,akX,amj h]
 rfl
theorem SE (n:Nat) (b:Bool) (h:n<9223372036854775808):bS .or .u64 (IntKind.u64.wrap ((n:Int)*2)) (b.toNat:Int)=((2*n+b.toNat:Nat):Int):=by
 have hw:IntKind.u64.wrap ((n:Int)*2)=((2*n:Nat):Int):=by rw[wrap_u64 zo];omega
 rw[hw];show IntKind.u64.wrap ((BitVec.ofInt 64 ((2*n:Nat):Int) ||| BitVec.ofInt 64 (b.toNat:Int)).toNat:Int)=_
 have h1:(BitVec.ofInt 64 ((2*n:Nat):Int) ||| BitVec.ofInt 64 (b.toNat:Int)).toNat=2*n+b.toNat:=by
  rw[BitVec.toNat_or,BitVec.ofInt_natCast,BitVec.ofInt_natCast,BitVec.toNat_ofNat,BitVec.toNat_ofNat,akG zo,akG (by cases b<;>decide)]
  cases b with
  | false=>simp
  | true=>exact(ami (i:=1) (b:=1) zd n).symm
 rw[h1,wrap_u64 (by have:b.toNat≤1:=by cases b<;>simp
                    omega)]
theorem Dn (n:Nat) (b:Bool) (h:n<9223372036854775808):bS .or .u64 ((n:Int)*2) (b.toNat:Int)=((2*n+b.toNat:Nat):Int):=by
 rw[←SE n b h,wrap_u64 zo]
theorem jt {l:List Bool} {a w:Nat} (h:a+w<l.length):(l.drop a).take (w+1)=(l.drop a).take w++[l.getD (a+w) false]:=by
 rw[akL (by simp;omega),am1,akf,akh h]
 rfl
theorem XO (x:Int) (b:Bool) (h:b=decide (x%2=1)):x%2=(b.toNat:Int):=by
 subst h
 by_cases h:x%2=1
 · simp[h]
 · simp[h];omega
theorem pb (x y:List Bool):numOf (x++y)=numOf x*2^y.length+numOf y:=by
 have aux:∀(l:List Bool) (n:Nat),l.foldl (fun n b=>2*n+b.toNat) n=n*2^l.length+l.foldl (fun n b=>2*n+b.toNat) 0:=by
  intro l
  induction l with
  | nil=>intro n;simp
  | cons b l ih=>
    intro n;simp only[List.foldl_cons,akm];rw[ih (2*n+b.toNat),ih (2*0+b.toNat),akM,akA,amB,akP];rw[akC (2^l.length) 2,←akS,akC n 2];omega
 unfold numOf;rw[List.foldl_append,aux]
def rX (L:List Bool) (p:Nat) (w:Int):Nat×Nat×Int:=
 if 0≤w∧w≤64 then(if p+w.toNat≤L.length then(numOf ((L.drop p).take w.toNat),p+w.toNat,0) else(0,p,5)) else(0,p,2)
theorem ZE {L:List Bool} {p:Nat} {w:Int} (h:p≤L.length):(rX L p w).2.1≤L.length:=by
 unfold rX;split
 · split
   · assumption
   · exact h
 · exact h
def dE (L:List Bool) (p:Nat):Int:=if 8≤L.length-p then 4 else if (L.drop p).any id=true then 4 else 0
theorem AX {L:List Bool} {p i:Nat} (h:p+i<L.length) (hb:L.getD (p+i) false=true):(L.drop p).any id=true:=by
 rw[List.any_eq_true];refine⟨true,alH.2 ⟨i,by simp;omega,?_⟩,rfl⟩;rw[am1];rw[akf,akh h] at hb;exact hb
theorem J3 {L:List Bool} {p i:Nat} (h:p+i<L.length) (hb:L.getD (p+i) false=false) (ha:((L.drop p).take i).any id=false):((L.drop p).take (i+1)).any id=false:=by
 rw[jt h,List.any_append,ha,hb];rfl
structure PutN where
 n:Nat
 m:Int
instance:Inhabited PutN:=⟨⟨0,0⟩⟩
def Pf (x:PutN):Prop:=0≤x.m∧x.m≤64∧x.n<2^x.m.toNat
instance (x:PutN):Decidable (Pf x):=by unfold Pf;exact inferInstance
theorem ba (n:Nat):∀m,numOf (numBits n m)=n%2^m
 | 0=>by simp[numBits,numOf,Nat.mod_one]
 | m+1=>by
   have e:numBits n (m+1)=[decide (n/2^m%2=1)]++numBits n m:=rfl;rw[e,pb,ba n m,aj]
   have h1:numOf [decide (n/2^m%2=1)]=n/2^m%2:=by
    have:=akD (n/2^m) (show 0<2 by decide)
    unfold numOf
    by_cases h:n/2^m%2=1
    · simp[h]
    · simp[h];omega
   rw[h1,akM,Nat.mod_mul];rw[akC (2^m),alX]
def kb (K:List PutN):List Bool:=K.flatMap fun x=>numBits x.n x.m.toNat
theorem oU (L:List Bool):bitsOf (pk L)=L++List.replicate (8*((L.length+7)/8)-L.length) false:=by
 have hl:=aG (pk L);rw[k9] at hl;apply amy
 · rw[hl];simp;omega
 · intro i h1 h2
   have hi:i<8*(pk L).length:=by rw[k9];omega
   have e:=rU (pk L) i hi;rw[akf,akh h1] at e;simp only[amQ] at e;rw[e];unfold yS;have hg:(pk L).getD (i/8) 0=dJ L (i/8):=zf L _ _ (by rw[k9] at hi;omega);rw[hg]
   have hbit:decide (((dJ L (i/8):Nat):Int)/2^(7-i%8)%2=1)=decide (dJ L (i/8)/2^(7-i%8)%2=1):=by
    rw[decide_eq_decide]
    have:(((dJ L (i/8):Nat):Int)/2^(7-i%8)%2)=((dJ L (i/8)/2^(7-i%8)%2:Nat):Int):=by simp
    rw[this];omega
   rw[hbit,Fl L i]
   by_cases h:i<L.length
   · rw[List.getElem_append_left h]
     unfold mb;rw[akf,akh h];simp only[amQ]
     cases L[i]<;>simp
   · rw[List.getElem_append_right zo,List.getElem_replicate,nC zo]
     simp
def bl (n:Nat):Nat:=if n=0 then 0 else Nat.log2 n+1
theorem L2:bl 0=0:=rfl
theorem ko (n:Nat):n<2^bl n:=by
 unfold bl
 split
 · omega
 · exact Nat.lt_log2_self
theorem pC {n:Nat} (h:n≠0):2^(bl n-1)≤n:=by
 unfold bl;rw[if_neg h];exact Nat.log2_self_le h
theorem jV {n:Nat} (h:n≠0):0<bl n:=by unfold bl;rw[if_neg h];omega
theorem Pj {n k:Nat} (h1:2^k≤n) (h2:n<2^(k+1)):bl n=k+1:=by
 have hn:n≠0:=by have:=amd k;omega
 unfold bl;rw[if_neg hn];have a1:k≤Nat.log2 n:=(Nat.le_log2 hn).2 h1;have a2:Nat.log2 n<k+1:=(Nat.log2_lt hn).2 h2;omega
theorem bI {n k:Nat} (h:n<2^k):bl n≤k:=by
 by_cases hn:n=0
 · subst hn;simp[bl]
 · have h1:=pC hn
   have:2^(bl n-1)<2^k:=ak4 h1 h
   have:=(amS (show 1<2 by decide)).1 this
   omega
theorem mJ {n k:Nat} (h:2^k≤n):bl n=k+bl (n/2^k):=by
 have hp:=amd k
 have hq:n/2^k≠0:=by
  intro h0
  have:=(Nat.div_eq_zero_iff).1 h0
  omega
 have h1:=pC hq;have h2:=ko (n/2^k);have hb:=jV hq
 have e:bl n=(k+bl (n/2^k)-1)+1:=by
  apply Pj
  · rw[show k+bl (n/2^k)-1=(bl (n/2^k)-1)+k by omega,ale]
    exact(alL hp).1 h1
  · rw[show k+bl (n/2^k)-1+1=bl (n/2^k)+k by omega,ale]
    exact(akR hp).1 h2
 omega
def ay (n:Nat):List Bool:=numBits 0 (bl n-1)++numBits n (bl n)
def HD (n:Nat):List Bool:=ay (bl n)++numBits (n-2^(bl n-1)) (bl n-1)
def cR (n:Nat):List Bool:=if h:n<128 then numBits n 8 else numBits (128+n%128) 8++cR (n/128)
termination_by n
decreasing_by omega
theorem m6 {n:Nat} (h:n≠0):(ay n).length=2*bl n-1:=by
 have:=jV h
 simp only[ay,ake,aj];omega
theorem rF (n:Nat):(cR n).length=8*max 1 ((bl n+6)/7):=by
 induction n using Nat.strongRecOn with
 | ind n ih=>
   unfold cR
   by_cases h:n<128
   · rw[dif_pos h,aj]
     have:=bI (n:=n) (k:=7) h
     omega
   · rw[dif_neg h,ake,aj,ih _ zo]
     have e:=mJ (n:=n) (k:=7) zo;rw[show(2:Nat)^7=128 from rfl] at e
     have:0<bl (n/128):=jV zo
     omega
theorem Dj {k:Nat} (h:k<64):IntKind.u64.wrap (1*2^k)=((2^k:Nat):Int):=by
 have h1:2^k≤2^63:=ako zd zo;unfold IntKind.wrap;have h2:(1*2^k:Int)=((2^k:Nat):Int):=by simp
 rw[h2];generalize 2^k=x at*
 have e:IntKind.u64.bits=64:=rfl;have e2:IntKind.u64.signed=false:=rfl;rw[e,e2]
 simp
 omega
theorem Dx {x y:Nat} (hx:x<18446744073709551616) (hy:y<18446744073709551616):bS .andNot .u64 (x:Int) (y:Int)=((x^^^(x&&&y):Nat):Int):=by
 have e:(BitVec.ofInt IntKind.u64.bits (x:Int)&&& ~~~ BitVec.ofInt IntKind.u64.bits (y:Int)).toNat=x^^^(x&&&y):=by
  have e0:∀a b:BitVec IntKind.u64.bits,a&&& ~~~ b=a^^^(a&&&b):=by
   intro a b
   ext i hi
   simp
   cases a[i]<;>cases b[i]<;>rfl
  rw[e0,BitVec.toNat_xor,BitVec.toNat_and,BitVec.ofInt_natCast,BitVec.ofInt_natCast,BitVec.toNat_ofNat,BitVec.toNat_ofNat,show 2^IntKind.u64.bits=18446744073709551616 from rfl,akG hx,akG hy]
 show IntKind.u64.wrap ((BitVec.ofInt IntKind.u64.bits (x:Int)&&& ~~~ BitVec.ofInt IntKind.u64.bits (y:Int)).toNat:Int)=_;rw[e];have h2:x^^^(x&&&y)<2^64:=alC (by simpa using hx) (Nat.and_lt_two_pow _ (by simpa using hy));generalize x^^^(x&&&y)=z at*
 unfold IntKind.wrap;have e:IntKind.u64.bits=64:=rfl;have e2:IntKind.u64.signed=false:=rfl;rw[e,e2]
 simp
 omega
theorem Sd {k n:Nat} (hk:k<64) (h:n<2^k):bS .or .u64 ((2^k:Nat):Int) (n:Int)=((2^k+n:Nat):Int):=by
 have h1:2^k≤2^63:=ako zd zo;rw[iK zo zo];have e:=ami h 1;rw[al9] at e;rw[e]
theorem vJ {n:Nat} (h:n<128):cR n=numBits n 8:=by unfold cR;rw[dif_pos h]
theorem we {n:Nat} (h:¬n<128):cR n=numBits (128+n%128) 8++cR (n/128):=by conv=>lhs;unfold cR;rw[dif_neg h]
theorem Rx (n:Nat):bS .or .u64 ((n:Int)%128) 128=((128+n%128:Nat):Int):=by
 have h:n%128<128:=akD _ zd;rw[show(n:Int)%128=((n%128:Nat):Int) by omega];generalize n%128=r at*
 have e:=iK (x:=r) (y:=128) zo zo;rw[show((128:Nat):Int)=128 from rfl] at e;rw[e,Nat.or_comm];have e:=ami (i:=7) h 1;rw[←e]
def bTo (L:List Bool) (j:Nat):Nat→Nat
 | 0=>0
 | k+1=>2*bTo L j k+mb L (8*j+k)
def zl:List Bool→Nat
 | []=>0
 | true::_=>0
 | false::l=>zl l+1
theorem PF:∀l:List Bool,zl l≤l.length
 | []=>akk _
 | true::l=>akF _
 | false::l=>by have:=PF l;simp only[zl,akm];omega
theorem xu:∀(l:List Bool) (k:Nat),k<zl l→l.getD k false=false
 | [],k,h=>by simp[zl] at h
 | true::l,k,h=>by simp[zl] at h
 | false::l,0,h=>rfl
 | false::l,k+1,h=>by
   have:=xu l k (by simp only[zl] at h;omega)
   simpa using this
theorem wh:∀l:List Bool,zl l<l.length→l.getD (zl l) false=true
 | [],h=>by simp[zl] at h
 | true::l,h=>rfl
 | false::l,h=>by
   have:=wh l (by simp only[zl,akm] at h;omega)
   simpa [zl] using this
def zr (L:List Bool) (p:Nat):Nat:=zl (L.drop p)
theorem ni (L:List Bool) (p k:Nat):(L.drop p).getD k false=L.getD (p+k) false:=by
 simp[akf,ak8]
theorem PE {L:List Bool} {p:Nat} (h:p≤L.length):p+zr L p≤L.length:=by
 have:=PF (L.drop p)
 unfold zr;simp at this;omega
theorem Mm {L:List Bool} {p k:Nat} (h:p+k<L.length) (hk:k≤zr L p) (hb:L.getD (p+k) false=true):zr L p=k:=by
 by_cases h1:k<zr L p
 · have:=xu _ _ h1
   rw[ni,hb] at this
   cases this
 · omega
theorem Hu {L:List Bool} {p k:Nat} (h:p+k<L.length) (hk:k≤zr L p) (hb:L.getD (p+k) false=false):k+1≤zr L p:=by
 by_cases h1:k=zr L p
 · subst h1
   have:=wh (L.drop p) (by unfold zr at h;simp;omega)
   rw[ni] at this;unfold zr at hb;rw[hb] at this
   cases this
 · omega
theorem RJ {L:List Bool} {p k:Nat} (h:¬p+k<L.length) (hk:k≤zr L p) (hp:p≤L.length):zr L p=k:=by
 have:=PE hp
 omega
theorem As {L:List Bool} {p:Nat} (h:p<L.length):rX L p 1=((L.getD p false).toNat,p+1,0):=by
 unfold rX;rw[if_pos zo,if_pos (by simp;omega)]
 have e:(L.drop p).take 1=[L.getD p false]:=by
  have:=jt (l:=L) (a:=p) (w:=0) zo
  simpa using this
 simp only[Int.toNat_one,e]
 cases L.getD p false<;>rfl
theorem BB {L:List Bool} {p:Nat} (h:¬p<L.length):rX L p 1=(0,p,5):=by
 unfold rX;rw[if_pos zo,if_neg (by simp;omega)]
theorem IJ {L:List Bool} {p w:Nat} (hw:w≤64) (h:p+w≤L.length):rX L p w=(numOf ((L.drop p).take w),p+w,0):=by
 unfold rX;rw[if_pos zo,if_pos (by simpa using h)]
 simp
theorem Ae {L:List Bool} {p w:Nat} (hw:w≤64) (h:¬p+w≤L.length):rX L p w=(0,p,5):=by
 unfold rX;rw[if_pos zo,if_neg (by simpa using h)]
def gX (L:List Bool) (p:Nat):Nat×Nat×Int:=
 if 64≤zr L p then(0,p+64,4) else if L.length<p+2*zr L p+1 then(0,(if p+zr L p<L.length then p+zr L p+1 else p+zr L p),5)
 else(2^zr L p+numOf ((L.drop (p+zr L p+1)).take (zr L p)),p+2*zr L p+1,0)
def gR (L:List Bool) (p:Nat):Nat×Nat×Int:=
 if 64≤zr L p then(0,p+64,4) else if L.length<p+2*zr L p+1 then(0,p+zr L p,5)
 else(2^zr L p+numOf ((L.drop (p+zr L p+1)).take (zr L p)),p+2*zr L p+1,0)
theorem Kz {L:List Bool} {p:Nat} (h:p≤L.length):(gX L p).2.1≤L.length:=by
 have:=PE h
 unfold gX
 split
 · simp only;omega
 · split
   · simp only;split<;>omega
   · simp only;omega
theorem Hl {L:List Bool} {p:Nat}:(gX L p).1<18446744073709551616:=by
 unfold gX
 split
 · simp
 · split
   · simp
   · simp only
     have h1:2^zr L p≤2^63:=ako zd zo;have h2:=dw ((L.drop (p+zr L p+1)).take (zr L p));have h3:2^((L.drop (p+zr L p+1)).take (zr L p)).length≤2^63:=ako zd (by simp;omega);omega
theorem IE {L:List Bool} {p:Nat} (h:(gX L p).2.2=0):0<(gX L p).1:=by
 unfold gX at*
 split at h
 · cases h
 · split at h
   · cases h
   · rename_i h1 h2
     rw[if_neg h1,if_neg h2]
     have:=amd (zr L p)
     simp only;omega
theorem YQ (L:List Bool) (p:Nat):(gR L p).1=(gX L p).1∧(gR L p).2.2=(gX L p).2.2∧((gX L p).2.2=0→(gR L p).2.1=(gX L p).2.1)∧((gX L p).2.2=0∨(gX L p).2.2=4∨(gX L p).2.2=5):=by
 unfold gR gX
 split
 · simp
 · split<;>simp
theorem QM {L:List Bool} {p:Nat} (h:(gX L p).2.2≠0):(gX L p).1=0:=by
 unfold gX at*
 split
 · rfl
 · split
   · rfl
   · rename_i h1 h2
     rw[if_neg h1,if_neg h2] at h;exact absurd rfl h
theorem CG {L:List Bool} {p:Nat} (h:64≤zr L p):gX L p=(0,p+64,4)∧gR L p=(0,p+64,4):=by
 unfold gX gR;rw[if_pos h,if_pos h];exact⟨rfl,rfl⟩
theorem Bc {L:List Bool} {p k:Nat} (hz:zr L p=k) (h:k<64) (he:L.length<p+2*k+1):gX L p=(0,(if p+k<L.length then p+k+1 else p+k),5)∧gR L p=(0,p+k,5):=by
 subst hz;exact⟨by unfold gX;rw[if_neg zo,if_pos he],by unfold gR;rw[if_neg zo,if_pos he]⟩
theorem Jj {L:List Bool} {p k:Nat} (hz:zr L p=k) (h:k<64) (he:p+2*k+1≤L.length):gX L p=(2^k+numOf ((L.drop (p+k+1)).take k),p+2*k+1,0)∧gR L p=gX L p:=by
 subst hz;have e:gX L p=(2^zr L p+numOf ((L.drop (p+zr L p+1)).take (zr L p)),p+2*zr L p+1,0):=by unfold gX;rw[if_neg zo,if_neg zo]
 exact⟨e,by rw[e];unfold gR;rw[if_neg zo,if_neg zo]⟩
theorem Em {L:List Bool} {q k:Nat} (h:q+k<L.length) (hb:L.getD q false=true):numOf ((L.drop q).take (k+1))=2^k+numOf ((L.drop (q+1)).take k):=by
 have e:(L.drop q).take (k+1)=[L.getD q false]++(L.drop (q+1)).take k:=by
  rw[akf,akh zo,ak3 zo,List.take_succ_cons]
  rfl
 rw[e,pb,hb]
 have:((L.drop (q+1)).take k).length=k:=by simp;omega
 rw[this];simp[numOf]
def dX (L:List Bool) (p:Nat):Nat×Nat×Int:=
 if (gX L p).2.2=0 then(if 64<(gX L p).1 then(0,(gX L p).2.1,4) else
  if (gX L p).2.1+((gX L p).1-1)≤L.length then(2^((gX L p).1-1)+numOf ((L.drop (gX L p).2.1).take ((gX L p).1-1)),(gX L p).2.1+((gX L p).1-1),0)
  else(0,(gX L p).2.1,5)) else(0,(gX L p).2.1,(gX L p).2.2)
def dR (L:List Bool) (p:Nat):Nat×Nat×Int:=
 if (dX L p).2.2=0 then dX L p else(0,p,(dX L p).2.2)
def sX (L:List Bool):Nat→Nat→Nat→Nat→Nat×Nat×Int
 | 0,_,p,_=>(0,p,4)
 | j+1,i,p,a=>
   if (rX L p 8).2.2=0 then
    (if (i=9∧1<(rX L p 8).1%128)∨(0<i∧(rX L p 8).1=0) then(0,(rX L p 8).2.1,4)
     else if (rX L p 8).1<128 then(a+(rX L p 8).1%128*2^(7*i),(rX L p 8).2.1,0)
     else sX L j (i+1) (rX L p 8).2.1 (a+(rX L p 8).1%128*2^(7*i)))
   else(0,(rX L p 8).2.1,5)
def vX (L:List Bool) (p:Nat):Nat×Nat×Int:=sX L 10 0 p 0
theorem si {L:List Bool}:∀(j i p a:Nat),p≤L.length→(sX L j i p a).2.1≤L.length
 | 0,_,_,_,h=>h
 | j+1,i,p,a,h=>by
   have:=ZE (w:=8) h
   unfold sX
   split
   · split
     · exact this
     · split
       · exact this
       · exact si _ _ _ _ this
   · exact this
theorem DP {L:List Bool}:∀(j i p a:Nat),(sX L j i p a).2.2=0∨(sX L j i p a).2.2=4∨(sX L j i p a).2.2=5
 | 0,_,_,_=>by simp[sX]
 | j+1,i,p,a=>by
   unfold sX
   split
   · split
     · simp
     · split
       · simp
       · exact DP _ _ _ _
   · simp
theorem QN {L:List Bool} {p:Nat} (h:p+8≤L.length):rX L p 8=(numOf ((L.drop p).take 8),p+8,0):=IJ (w:=8) zd h
theorem NZ {L:List Bool} {p:Nat} (h:¬p+8≤L.length):rX L p 8=(0,p,5):=Ae (w:=8) zd h
theorem DB {L:List Bool} {j i p a:Nat} (h:¬p+8≤L.length):sX L (j+1) i p a=(0,p,5):=by
 have e:rX L p 8=(0,p,5):=Ae (w:=8) zd h;unfold sX;rw[e]
 simp
theorem rf {L:List Bool} {j i p a x:Nat} (h:p+8≤L.length) (hx:numOf ((L.drop p).take 8)=x):sX L (j+1) i p a=
 if (i=9∧1<x%128)∨(0<i∧x=0) then(0,p+8,4) else if x<128 then(a+x%128*2^(7*i),p+8,0) else sX L j (i+1) (p+8) (a+x%128*2^(7*i)):=by
 have e:rX L p 8=(x,p+8,0):=by rw[←hx];exact IJ (w:=8) zd h
 conv=>lhs;unfold sX
 rw[e]
 simp
theorem Rf {x i:Nat} (hi:i≤9) (h9:i=9→x≤1) (hx:x<128):x*2^(7*i)<18446744073709551616∧x*2^(7*i)+2^(7*i)≤18446744073709551616:=by
 by_cases h:i=9
 · subst h
   have:=h9 rfl
   omega
 · have h1:2^(7*i)≤2^56:=ako zd zo
   have h2:x*2^(7*i)≤127*2^56:=akH zo h1;omega
theorem px (i:Nat):2^(7*(i+1))=128*2^(7*i):=by
 rw[akU,ale];omega
theorem R8 {a x i:Nat} (ha:a<2^(7*i)) (hi:i≤9) (h9:i=9→x≤1) (hx:x<128):bS .or .u64 (a:Int) ((x*2^(7*i):Nat):Int)=((a+x*2^(7*i):Nat):Int):=by
 have h:=Rf hi h9 hx;rw[iK zo zo];have e:=ami ha x;rw[akC x,Nat.or_comm,←e,alX]
theorem IK {x i:Nat} (hi:i≤9) (h9:i=9→x≤1) (hx:x<128):IntKind.u64.wrap ((x:Int)*2^(7*i))=((x*2^(7*i):Nat):Int):=by
 have h:=Rf hi h9 hx;have e0:((x:Int)*2^(7*i))=((x*2^(7*i):Nat):Int):=by simp
 rw[e0];generalize x*2^(7*i)=y at*
 unfold IntKind.wrap;have e:IntKind.u64.bits=64:=rfl;have e2:IntKind.u64.signed=false:=rfl;rw[e,e2]
 simp
 omega
theorem fH (m:Nat):numBits 0 m=List.replicate m false:=by
 induction m with
 | zero=>rfl
 | succ m ih=>
   have e:numBits 0 (m+1)=decide (0/2^m%2=1)::numBits 0 m:=rfl;rw[e,ih,alE]
   simp
theorem Ru (k:Nat) (T:List Bool):zl (List.replicate k false++true::T)=k:=by
 induction k with
 | zero=>rfl
 | succ k ih=>rw[alE,List.cons_append];show zl _+1=_;rw[ih]
theorem xv {n:Nat} (h0:n≠0):numBits n (bl n)=true::numBits n (bl n-1):=by
 have hb:=jV h0;have h1:=pC h0;have h2:=ko n;obtain ⟨k,hk⟩:∃k,bl n=k+1:=⟨bl n-1,by omega⟩;rw[hk] at h1 h2 ⊢;have e:numBits n (k+1)=decide (n/2^k%2=1)::numBits n k:=rfl;rw[e];simp only[alJ] at h1 ⊢
 have hd:n/2^k=1:=by
  have hp:=amd k;have a1:=(alL hp).2 (show 1*2^k≤n by omega);have a2:=(akR hp).2 (show n<2*2^k by rw[akM] at h2;omega);omega
 rw[hd]
 rfl
theorem zq (A B:List Bool) (k:Nat):(A++B).drop (A.length+k)=B.drop k:=by
 rw[List.drop_append,List.drop_eq_nil_of_le zo];simp
theorem CM {A T:List Bool} {n:Nat} (h0:n≠0) (hn:n<18446744073709551616):gX (A++(ay n++T)) A.length=(n,A.length+(ay n).length,0):=by
 have hb:=jV h0;have hb2:=bI (n:=n) (k:=64) hn;have h1:=pC h0;have h2:=ko n;have hgl:=m6 h0
 have e:ay n++T=List.replicate (bl n-1) false++true::(numBits n (bl n-1)++T):=by
  unfold ay;rw[xv h0,fH]
  simp
 have hz:zr (A++(ay n++T)) A.length=bl n-1:=by
  unfold zr;rw[amM,e,Ru]
 have hlen:(A++(ay n++T)).length=A.length+(2*bl n-1+T.length):=by simp[hgl]
 rw[(Jj hz zo (by rw[hlen];omega)).1]
 have hd:(A++(ay n++T)).drop (A.length+(bl n-1)+1)=numBits n (bl n-1)++T:=by
  rw[alN,zq,e]
  have:(List.replicate (bl n-1) false).length=bl n-1:=by simp
  conv=>lhs;rw[show bl n-1+1=(List.replicate (bl n-1) false).length+1 by simp]
  rw[zq]
  rfl
 rw[hd,alo (aj _ _),ba]
 have hm:n%2^(bl n-1)=n-2^(bl n-1):=by
  obtain ⟨k,hk⟩:∃k,bl n=k+1:=⟨bl n-1,by omega⟩;rw[hk] at h1 h2 ⊢;simp only[alJ] at h1 ⊢;rw[akM] at h2;rw[Nat.mod_eq_sub_mod h1,akG zo]
 rw[hm]
 congr 1
 · omega
 · congr 1;omega
theorem K8 {T:List Bool}:∀(n j i:Nat) (A:List Bool) (a:Nat),j+i=10→n<2^(64-7*i)→(0<i→n≠0)→i≤9→
 sX (A++(cR n++T)) j i A.length a=(a+n*2^(7*i),A.length+(cR n).length,0):=by
 intro n
 induction n using Nat.strongRecOn with
 | ind n ih=>
   intro j i A a hj hn h0 hi;obtain ⟨j,rfl⟩:∃j',j=j'+1:=⟨j-1,by omega⟩
   by_cases h:n<128
   · rw[vJ h]
     have hx:numOf (((A++(numBits n 8++T)).drop A.length).take 8)=n:=by
      rw[amM,alo (aj _ _),ba];omega
     rw[rf (by simp[aj]) hx,if_neg,if_pos h,akG h,aj];rintro (⟨rfl,h1⟩ | ⟨h1,h2⟩)
     · rw[akG h] at h1;omega
     · exact h0 h1 h2
   · rw[we h]
     have hi8:i≤8:=by
      by_cases h9:i=9
      · subst h9;omega
      · omega
     have hx:numOf (((A++(numBits (128+n%128) 8++cR (n/128)++T)).drop A.length).take 8)=128+n%128:=by
      rw[amM,akl,alo (aj _ _),ba];omega
     rw[rf (by simp[aj]) hx,if_neg zo,if_neg zo]
     have hn':n/128<2^(64-7*(i+1)):=by
      rw[akR zd]
      have:2^(64-7*(i+1))*128=2^(64-7*i):=by
       rw[show(128:Nat)=2^7 from rfl,←ale]
       congr 1;omega
      omega
     have:=ih (n/128) zo j (i+1) (A++numBits (128+n%128) 8) (a+(128+n%128)%128*2^(7*i)) zo hn' (fun _=>by omega) zo
     rw[ake,aj] at this;have e:A++(numBits (128+n%128) 8++cR (n/128)++T)=A++numBits (128+n%128) 8++(cR (n/128)++T):=by simp
     rw[e,this,ake,aj];have hm:(128+n%128)%128=n%128:=by omega
     rw[hm,px]
     have hmul:n%128*2^(7*i)+n/128*(128*2^(7*i))=n*2^(7*i):=by
      rw[←akS,←akA]
      congr 1
      omega
     congr 1
     · omega
     · congr 1;omega
theorem wt {A T:List Bool} {n:Nat} (hn:n<18446744073709551616):vX (A++(cR n++T)) A.length=(n,A.length+(cR n).length,0):=by
 unfold vX;rw[K8 n 10 0 A 0 rfl hn (fun h=>absurd h zd) zd]
 simp
def cat (f:Nat→List Bool):Nat→List Bool
 | 0=> []
 | i+1=>cat f i++f i
def piece (k:Int) (x:Nat):List Bool:=if k=0 then ay x else if k=1 then HD x else cR x
end Go.Proofs.YtcnlmelpnflhnaaGreat
