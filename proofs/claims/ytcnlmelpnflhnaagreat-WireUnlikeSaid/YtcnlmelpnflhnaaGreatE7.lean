import Derived.Test.YtcnlmelpnflhnaaGreatE6
namespace Go.Proofs.YtcnlmelpnflhnaaGreat
open Go.Eng
set_option linter.unusedSimpArgs false
set_option linter.unusedVariables false
def kT (L:List Bool) (i:Nat):Nat:=(L.getD i false).toNat
theorem yw (L:List Bool) (i:Nat):kT L i≤1:=by unfold kT;cases L.getD i false<;>simp
theorem l6 {L:List Bool} {i:Nat} (h:L.length≤i):kT L i=0:=by
 unfold kT;rw[ago,ahS h];rfl
theorem cg {L:List Bool} {i:Nat} (x:Bool) (h:i<L.length):kT (L++[x]) i=kT L i:=by
 unfold kT;rw[ago,agx h,←ago]
theorem n6 (L:List Bool) (x:Bool):kT (L++[x]) L.length=x.toNat:=by
 unfold kT;simp
def dh (L:List Bool) (k:Nat):Nat:=
 kT L (8*k)*128+kT L (8*k+1)*64+kT L (8*k+2)*32+kT L (8*k+3)*16+kT L (8*k+4)*8+kT L (8*k+5)*4+kT L (8*k+6)*2+kT L (8*k+7)
theorem gE (L:List Bool) (k:Nat):dh L k<256:=by
 unfold dh;have h:=yw L;have h0:=h (8*k);have h1:=h (8*k+1);have h2:=h (8*k+2);have h3:=h (8*k+3);have h4:=h (8*k+4);have h5:=h (8*k+5);have h6:=h (8*k+6);have h7:=h (8*k+7);omega
theorem ru {L:List Bool} {k:Nat} (x:Bool) (h:k<L.length/8):dh (L++[x]) k=dh L k:=by
 unfold dh;rw[cg x zo,cg x zo,cg x zo,cg x zo,cg x zo,cg x zo,cg x zo,cg x zo]
theorem lJ (L:List Bool) (x:Bool):dh (L++[x]) (L.length/8)=dh L (L.length/8)+x.toNat*2^(7-L.length%8)∧dh L (L.length/8)%2^(8-L.length%8)=0:=by
 have hs:∀i,kT (L++[x]) i=if i<L.length then kT L i else if i=L.length then x.toNat else 0:=fun i=>by
  by_cases h:i<L.length
  · rw[if_pos h,cg x h]
  · rw[if_neg h]
    by_cases h':i=L.length
    · rw[if_pos h',h',n6]
    · rw[if_neg h',l6 (by simp;omega)]
 have ho:∀i,L.length≤i→kT L i=0:=fun i h=>l6 h;have hn:L.length=8*(L.length/8)+L.length%8:=(agT _ 8).symm;have hx:x.toNat≤1:=by cases x<;>simp
 unfold dh;simp only[hs];generalize L.length/8=k at*
 have hr:L.length%8<8:=agJ _ zo;generalize L.length%8=r at*
 rw[hn] at ho ⊢;have h:=yw L;have h0:=h (8*k);have h1:=h (8*k+1);have h2:=h (8*k+2);have h3:=h (8*k+3);have h4:=h (8*k+4);have h5:=h (8*k+5);have h6:=h (8*k+6);have h7:=h (8*k+7);have o0:=ho (8*k);have o1:=ho (8*k+1);have o2:=ho (8*k+2);have o3:=ho (8*k+3);have o4:=ho (8*k+4);have o5:=ho (8*k+5);have o6:=ho (8*k+6);have o7:=ho (8*k+7);generalize kT L (8*k)=a0 at*
 generalize kT L (8*k+1)=a1 at*
 generalize kT L (8*k+2)=a2 at*
 generalize kT L (8*k+3)=a3 at*
 generalize kT L (8*k+4)=a4 at*
 generalize kT L (8*k+5)=a5 at*
 generalize kT L (8*k+6)=a6 at*
 generalize kT L (8*k+7)=a7 at*
 generalize x.toNat=q at*
 clear hs ho h hn;rcases (by omega:r=0∨r=1∨r=2∨r=3∨r=4∨r=5∨r=6∨r=7) with rfl | rfl | rfl | rfl | rfl | rfl | rfl | rfl<;>simp(disch:=omega) only[if_pos,if_neg, ↓reduceIte]<;>constructor<;>simp only[Nat.reducePow,Nat.reduceSub, ↓reduceIte]<;>omega
theorem Og:∀r:Fin 8,∀y:Fin 256,y.val%2^(8-r.val)=0→y.val ||| 2^(7-r.val)=y.val+2^(7-r.val):=by decide+kernel
def jM (L:List Bool) (m:Nat):List Int:=(List.range m).map fun k=>(dh L k:Int)
def pk (L:List Bool):List Int:=jM L ((L.length+7)/8)
theorem mu (L:List Bool) (m:Nat):(jM L m).length=m:=by simp[jM]
theorem j1 (L:List Bool):(pk L).length=(L.length+7)/8:=mu _ _
theorem wK (L:List Bool) (m i:Nat) (h:i<m):(jM L m).getD i 0=dh L i:=by
 unfold jM;rw[ago,ag4,aih h]
 rfl
theorem Ff (L:List Bool) (x:Bool):jM (L++[x]) (L.length/8+1)=(jM L (L.length/8+1)).set (L.length/8) ((dh L (L.length/8):Int)+(x.toNat*2^(7-L.length%8):Nat)):=by
 unfold jM;apply aiu
 · simp
 · intro i h1 h2
   simp only[List.getElem_set,List.getElem_map,List.getElem_range];simp at h1
   by_cases h:L.length/8=i
   · subst h
     rw[if_pos rfl,(lJ L x).1]
     simp
   · rw[if_neg h,ru x zo]
theorem KY (L:List Bool) (x:Bool):pk (L++[x])=jM (L++[x]) (L.length/8+1):=by
 unfold pk
 congr 1
 simp
 omega
theorem qY (L:List Bool) (m:Nat):jM (L++[false]) m=jM L m:=by
 have h:∀i,kT (L++[false]) i=kT L i:=fun i=>by
  by_cases h:i<L.length
  · exact cg _ h
  · rw[l6 (L:=L) zo]
    by_cases h':i=L.length
    · subst h';rw[n6];rfl
    · exact l6 (by simp;omega)
 unfold jM dh;simp only[h]
theorem CI (L:List Bool):jM L (L.length/8+1)=if L.length%8=0 then pk L++[0] else pk L:=by
 unfold pk
 by_cases h:L.length%8=0
 · rw[if_pos h,show(L.length+7)/8=L.length/8 by omega]
   unfold jM;rw[aiZ,ah4];have h2:=(lJ L false).2;rw[h,Nat.sub_zero] at h2
   have:=gE L (L.length/8)
   rw[show(2:Nat)^8=256 from rfl] at h2;simp[show dh L (L.length/8)=0 by omega]
 · rw[if_neg h,show(L.length+7)/8=L.length/8+1 by omega]
def numBits (n:Nat):Nat→List Bool
 | 0=> []
 | m+1=>decide (n/2^m%2=1)::numBits n m
theorem ai (n:Nat):∀m,(numBits n m).length=m
 | 0=>rfl
 | m+1=>by simp[numBits,ai n m]
theorem ij (n:Nat):∀(m i:Nat) (h:i<m),(numBits n m)[i]'(by rw[ai];exact h)=decide (n/2^(m-1-i)%2=1)
 | m+1,0,_=>by simp[numBits]
 | m+1,i+1,h=>by
   simp only[numBits,List.getElem_cons_succ];rw[ij n m i zo]
   congr 5
   omega
theorem Cp (L:List Bool) (i:Nat):dh L (i/8)/2^(7-i%8)%2=kT L i:=by
 have hr:i%8<8:=agJ _ zo;have hi:i=8*(i/8)+i%8:=(agT _ 8).symm;generalize i/8=k at*
 generalize i%8=r at*
 subst hi;unfold dh;have h:=yw L;have h0:=h (8*k);have h1:=h (8*k+1);have h2:=h (8*k+2);have h3:=h (8*k+3);have h4:=h (8*k+4);have h5:=h (8*k+5);have h6:=h (8*k+6);have h7:=h (8*k+7);rcases (by omega:r=0∨r=1∨r=2∨r=3∨r=4∨r=5∨r=6∨r=7) with rfl | rfl | rfl | rfl | rfl | rfl | rfl | rfl<;>simp only[Nat.reduceSub,Nat.reducePow,ahA]<;>omega
def numOf (l:List Bool):Nat:=l.foldl (fun n b=>2*n+b.toNat) 0
theorem sd:numOf []=0:=rfl
theorem pb (l:List Bool) (b:Bool):numOf (l++[b])=2*numOf l+b.toNat:=by simp[numOf]
theorem fE (l:List Bool):numOf l<2^l.length:=by
 have aux:∀(l:List Bool) (n:Nat),l.foldl (fun n b=>2*n+b.toNat) n<(n+1)*2^l.length:=by
  intro l
  induction l with
  | nil=>intro n;simp
  | cons b l ih=>
    intro n;have hb:b.toNat≤1:=by cases b<;>simp
    have:=ih (2*n+b.toNat)
    simp only[List.foldl_cons,agu];refine ag6 this ?_;rw[agS,agK (2^l.length) 2,←agZ];exact agP _ zo
 simpa [numOf] using aux l 0
def J0 (B:List Int) (p:Nat):Bool:=decide (B.getD (p/8) 0/2^(7-p%8)%2=1)
def bitsOf (B:List Int):List Bool:=(List.range (8*B.length)).map (J0 B)
theorem jb (B:List Int):(bitsOf B).length=8*B.length:=by simp[bitsOf]
theorem p6 (B:List Int) (p:Nat) (h:p<8*B.length):(bitsOf B).getD p false=J0 B p:=by
 unfold bitsOf;rw[ago,ag4,aih h]
 rfl
theorem On (n:Nat) (b:Bool) (h:n<9223372036854775808):bY .or .u64 (IntKind.u64.wrap ((n:Int)*2)) (b.toNat:Int)=((2*n+b.toNat:Nat):Int):=by
 have hw:IntKind.u64.wrap ((n:Int)*2)=((2*n:Nat):Int):=by rw[wrap_u64 zo];omega
 rw[hw];show IntKind.u64.wrap ((BitVec.ofInt 64 ((2*n:Nat):Int) ||| BitVec.ofInt 64 (b.toNat:Int)).toNat:Int)=_
 have h1:(BitVec.ofInt 64 ((2*n:Nat):Int) ||| BitVec.ofInt 64 (b.toNat:Int)).toNat=2*n+b.toNat:=by
  rw[BitVec.toNat_or,BitVec.ofInt_natCast,BitVec.ofInt_natCast,BitVec.toNat_ofNat,BitVec.toNat_ofNat,agL zo,agL (by cases b<;>decide)]
  cases b with
  | false=>simp
  | true=>exact(Nat.two_pow_add_eq_or_of_lt (i:=1) (b:=1) zd n).symm
 rw[h1,wrap_u64 (by have:b.toNat≤1:=by cases b<;>simp
                    omega)]
theorem Ax (n:Nat) (b:Bool) (h:n<9223372036854775808):bY .or .u64 ((n:Int)*2) (b.toNat:Int)=((2*n+b.toNat:Nat):Int):=by
 rw[←On n b h,wrap_u64 zo]
theorem ko {l:List Bool} {a w:Nat} (h:a+w<l.length):(l.drop a).take (w+1)=(l.drop a).take w++[l.getD (a+w) false]:=by
 rw[agW (by simp;omega),List.getElem_drop,ago,agp h]
 rfl
theorem TB (x:Int) (b:Bool) (h:b=decide (x%2=1)):x%2=(b.toNat:Int):=by
 subst h
 by_cases h:x%2=1
 · simp[h]
 · simp[h];omega
theorem sx (x y:List Bool):numOf (x++y)=numOf x*2^y.length+numOf y:=by
 have aux:∀(l:List Bool) (n:Nat),l.foldl (fun n b=>2*n+b.toNat) n=n*2^l.length+l.foldl (fun n b=>2*n+b.toNat) 0:=by
  intro l
  induction l with
  | nil=>intro n;simp
  | cons b l ih=>
    intro n;simp only[List.foldl_cons,agu];rw[ih (2*n+b.toNat),ih (2*0+b.toNat),agS,agH,aiy,agU];rw[agK (2^l.length) 2,←agZ,agK n 2];omega
 unfold numOf;rw[List.foldl_append,aux]
def rX (L:List Bool) (p:Nat) (w:Int):Nat×Nat×Int:=
 if 0≤w∧w≤64 then(if p+w.toNat≤L.length then(numOf ((L.drop p).take w.toNat),p+w.toNat,0) else(0,p,5)) else(0,p,2)
def Gk (L:List Bool) (p:Nat):Int:=if 8≤L.length-p then 4 else if (L.drop p).any id=true then 4 else 0
structure PutN where
 n:Nat
 m:Int
instance:Inhabited PutN:=⟨⟨0,0⟩⟩
def Lk (x:PutN):Prop:=0≤x.m∧x.m≤64∧x.n<2^x.m.toNat
instance (x:PutN):Decidable (Lk x):=by unfold Lk;exact inferInstance
theorem aR (n:Nat):∀m,numOf (numBits n m)=n%2^m
 | 0=>by simp[numBits,numOf,Nat.mod_one]
 | m+1=>by
   have e:numBits n (m+1)=[decide (n/2^m%2=1)]++numBits n m:=rfl;rw[e,sx,aR n m,ai]
   have h1:numOf [decide (n/2^m%2=1)]=n/2^m%2:=by
    have:=agJ (n/2^m) (show 0<2 by decide)
    unfold numOf
    by_cases h:n/2^m%2=1
    · simp[h]
    · simp[h];omega
   rw[h1,agS,Nat.mod_mul];rw[agK (2^m),ah1]
def kb (K:List PutN):List Bool:=K.flatMap fun x=>numBits x.n x.m.toNat
theorem nu (L:List Bool):bitsOf (pk L)=L++List.replicate (8*((L.length+7)/8)-L.length) false:=by
 have hl:=jb (pk L);rw[j1] at hl;apply aiu
 · rw[hl];simp;omega
 · intro i h1 h2
   have hi:i<8*(pk L).length:=by rw[j1];omega
   have e:=p6 (pk L) i hi;rw[ago,agp h1] at e;simp only[aiQ] at e;rw[e];unfold J0;have hg:(pk L).getD (i/8) 0=dh L (i/8):=wK L _ _ (by rw[j1] at hi;omega);rw[hg]
   have hbit:decide (((dh L (i/8):Nat):Int)/2^(7-i%8)%2=1)=decide (dh L (i/8)/2^(7-i%8)%2=1):=by
    rw[decide_eq_decide]
    have:(((dh L (i/8):Nat):Int)/2^(7-i%8)%2)=((dh L (i/8)/2^(7-i%8)%2:Nat):Int):=by simp
    rw[this];omega
   rw[hbit,Cp L i]
   by_cases h:i<L.length
   · rw[List.getElem_append_left h]
     unfold kT;rw[ago,agp h];simp only[aiQ]
     cases L[i]<;>simp
   · rw[List.getElem_append_right zo,List.getElem_replicate,l6 zo]
     simp
def bl (n:Nat):Nat:=if n=0 then 0 else Nat.log2 n+1
theorem H9:bl 0=0:=rfl
theorem jr (n:Nat):n<2^bl n:=by
 unfold bl
 split
 · omega
 · exact Nat.lt_log2_self
theorem nT {n:Nat} (h:n≠0):2^(bl n-1)≤n:=by
 unfold bl;rw[if_neg h];exact Nat.log2_self_le h
theorem jc {n:Nat} (h:n≠0):0<bl n:=by unfold bl;rw[if_neg h];omega
theorem T0 {n k:Nat} (h1:2^k≤n) (h2:n<2^(k+1)):bl n=k+1:=by
 have hn:n≠0:=by have:=aif k;omega
 unfold bl;rw[if_neg hn];have a1:k≤Nat.log2 n:=(Nat.le_log2 hn).2 h1;have a2:Nat.log2 n<k+1:=(Nat.log2_lt hn).2 h2;omega
theorem bB {n k:Nat} (h:n<2^k):bl n≤k:=by
 by_cases hn:n=0
 · subst hn;simp[bl]
 · have h1:=nT hn
   have:2^(bl n-1)<2^k:=ahb h1 h
   have:=(aiS (show 1<2 by decide)).1 this
   omega
theorem lx {n k:Nat} (h:2^k≤n):bl n=k+bl (n/2^k):=by
 have hp:=aif k
 have hq:n/2^k≠0:=by
  intro h0
  have:=(Nat.div_eq_zero_iff).1 h0
  omega
 have h1:=nT hq;have h2:=jr (n/2^k);have hb:=jc hq
 have e:bl n=(k+bl (n/2^k)-1)+1:=by
  apply T0
  · rw[show k+bl (n/2^k)-1=(bl (n/2^k)-1)+k by omega,ahq]
    exact(ahL hp).1 h1
  · rw[show k+bl (n/2^k)-1+1=bl (n/2^k)+k by omega,ahq]
    exact(agY hp).1 h2
 omega
def aq (n:Nat):List Bool:=numBits 0 (bl n-1)++numBits n (bl n)
def ED (n:Nat):List Bool:=aq (bl n)++numBits (n-2^(bl n-1)) (bl n-1)
def cF (n:Nat):List Bool:=if h:n<128 then numBits n 8 else numBits (128+n%128) 8++cF (n/128)
termination_by n
decreasing_by omega
theorem lK {n:Nat} (h:n≠0):(aq n).length=2*bl n-1:=by
 have:=jc h
 simp only[aq,agn,ai];omega
theorem pM (n:Nat):(cF n).length=8*max 1 ((bl n+6)/7):=by
 induction n using Nat.strongRecOn with
 | ind n ih=>
   unfold cF
   by_cases h:n<128
   · rw[dif_pos h,ai]
     have:=bB (n:=n) (k:=7) h
     omega
   · rw[dif_neg h,agn,ai,ih _ zo]
     have e:=lx (n:=n) (k:=7) zo;rw[show(2:Nat)^7=128 from rfl] at e
     have:0<bl (n/128):=jc zo
     omega
theorem Jp {k:Nat} (h:k<64):IntKind.u64.wrap (1*2^k)=((2^k:Nat):Int):=by
 have h1:2^k≤2^63:=agA zd zo;unfold IntKind.wrap;have h2:(1*2^k:Int)=((2^k:Nat):Int):=by simp
 rw[h2];generalize 2^k=x at*
 have e:IntKind.u64.bits=64:=rfl;have e2:IntKind.u64.signed=false:=rfl;rw[e,e2]
 simp
 omega
theorem AE {x y:Nat} (hx:x<18446744073709551616) (hy:y<18446744073709551616):bY .andNot .u64 (x:Int) (y:Int)=((x^^^(x&&&y):Nat):Int):=by
 have e:(BitVec.ofInt IntKind.u64.bits (x:Int)&&& ~~~ BitVec.ofInt IntKind.u64.bits (y:Int)).toNat=x^^^(x&&&y):=by
  have e0:∀a b:BitVec IntKind.u64.bits,a&&& ~~~ b=a^^^(a&&&b):=by
   intro a b
   ext i hi
   simp
   cases a[i]<;>cases b[i]<;>rfl
  rw[e0,BitVec.toNat_xor,BitVec.toNat_and,BitVec.ofInt_natCast,BitVec.ofInt_natCast,BitVec.toNat_ofNat,BitVec.toNat_ofNat,show 2^IntKind.u64.bits=18446744073709551616 from rfl,agL hx,agL hy]
 show IntKind.u64.wrap ((BitVec.ofInt IntKind.u64.bits (x:Int)&&& ~~~ BitVec.ofInt IntKind.u64.bits (y:Int)).toNat:Int)=_;rw[e];have h2:x^^^(x&&&y)<2^64:=aiA (by simpa using hx) (Nat.and_lt_two_pow _ (by simpa using hy));generalize x^^^(x&&&y)=z at*
 unfold IntKind.wrap;have e:IntKind.u64.bits=64:=rfl;have e2:IntKind.u64.signed=false:=rfl;rw[e,e2]
 simp
 omega
theorem zO {n:Nat} (h:n<128):cF n=numBits n 8:=by unfold cF;rw[dif_pos h]
theorem Ai {n:Nat} (h:¬n<128):cF n=numBits (128+n%128) 8++cF (n/128):=by conv=>lhs;unfold cF;rw[dif_neg h]
theorem Nl (n:Nat):bY .or .u64 ((n:Int)%128) 128=((128+n%128:Nat):Int):=by
 have h:n%128<128:=agJ _ zd;rw[show(n:Int)%128=((n%128:Nat):Int) by omega];generalize n%128=r at*
 have e:=jo (x:=r) (y:=128) zo zo;rw[show((128:Nat):Int)=128 from rfl] at e;rw[e,Nat.or_comm];have e:=Nat.two_pow_add_eq_or_of_lt (i:=7) h 1;rw[←e]
def bTo (L:List Bool) (j:Nat):Nat→Nat
 | 0=>0
 | k+1=>2*bTo L j k+kT L (8*j+k)
def zl:List Bool→Nat
 | []=>0
 | true::_=>0
 | false::l=>zl l+1
theorem UU:∀l:List Bool,zl l≤l.length
 | []=>agt _
 | true::l=>agM _
 | false::l=>by have:=UU l;simp only[zl,agu];omega
theorem Jc:∀l:List Bool,zl l<l.length→l.getD (zl l) false=true
 | [],h=>by simp[zl] at h
 | true::l,h=>rfl
 | false::l,h=>by
   have:=Jc l (by simp only[zl,agu] at h;omega)
   simpa [zl] using this
def zr (L:List Bool) (p:Nat):Nat:=zl (L.drop p)
theorem M9 {L:List Bool} {p:Nat} (h:p<L.length):rX L p 1=((L.getD p false).toNat,p+1,0):=by
 unfold rX;rw[if_pos zo,if_pos (by simp;omega)]
 have e:(L.drop p).take 1=[L.getD p false]:=by
  have:=ko (l:=L) (a:=p) (w:=0) zo
  simpa using this
 simp only[Int.toNat_one,e]
 cases L.getD p false<;>rfl
theorem Uo {L:List Bool} {p w:Nat} (hw:w≤64) (h:p+w≤L.length):rX L p w=(numOf ((L.drop p).take w),p+w,0):=by
 unfold rX;rw[if_pos zo,if_pos (by simpa using h)]
 simp
def gX (L:List Bool) (p:Nat):Nat×Nat×Int:=
 if 64≤zr L p then(0,p+64,4) else if L.length<p+2*zr L p+1 then(0,(if p+zr L p<L.length then p+zr L p+1 else p+zr L p),5)
 else(2^zr L p+numOf ((L.drop (p+zr L p+1)).take (zr L p)),p+2*zr L p+1,0)
def gR (L:List Bool) (p:Nat):Nat×Nat×Int:=
 if 64≤zr L p then(0,p+64,4) else if L.length<p+2*zr L p+1 then(0,p+zr L p,5)
 else(2^zr L p+numOf ((L.drop (p+zr L p+1)).take (zr L p)),p+2*zr L p+1,0)
theorem U3 {L:List Bool} {p k:Nat} (hz:zr L p=k) (h:k<64) (he:p+2*k+1≤L.length):gX L p=(2^k+numOf ((L.drop (p+k+1)).take k),p+2*k+1,0)∧gR L p=gX L p:=by
 subst hz;have e:gX L p=(2^zr L p+numOf ((L.drop (p+zr L p+1)).take (zr L p)),p+2*zr L p+1,0):=by unfold gX;rw[if_neg zo,if_neg zo]
 exact⟨e,by rw[e];unfold gR;rw[if_neg zo,if_neg zo]⟩
def dX (L:List Bool) (p:Nat):Nat×Nat×Int:=
 if (gX L p).2.2=0 then(if 64<(gX L p).1 then(0,(gX L p).2.1,4) else
  if (gX L p).2.1+((gX L p).1-1)≤L.length then(2^((gX L p).1-1)+numOf ((L.drop (gX L p).2.1).take ((gX L p).1-1)),(gX L p).2.1+((gX L p).1-1),0)
  else(0,(gX L p).2.1,5)) else(0,(gX L p).2.1,(gX L p).2.2)
def dR (L:List Bool) (p:Nat):Nat×Nat×Int:=
 if (dX L p).2.2=0 then dX L p else(0,p,(dX L p).2.2)
def Rd (L:List Bool):Nat→Nat→Nat→Nat→Nat×Nat×Int
 | 0,_,p,_=>(0,p,4)
 | j+1,i,p,a=>
   if (rX L p 8).2.2=0 then
    (if (i=9∧1<(rX L p 8).1%128)∨(0<i∧(rX L p 8).1=0) then(0,(rX L p 8).2.1,4)
     else if (rX L p 8).1<128 then(a+(rX L p 8).1%128*2^(7*i),(rX L p 8).2.1,0)
     else Rd L j (i+1) (rX L p 8).2.1 (a+(rX L p 8).1%128*2^(7*i)))
   else(0,(rX L p 8).2.1,5)
def vX (L:List Bool) (p:Nat):Nat×Nat×Int:=Rd L 10 0 p 0
theorem EF {L:List Bool} {j i p a x:Nat} (h:p+8≤L.length) (hx:numOf ((L.drop p).take 8)=x):Rd L (j+1) i p a=
 if (i=9∧1<x%128)∨(0<i∧x=0) then(0,p+8,4) else if x<128 then(a+x%128*2^(7*i),p+8,0) else Rd L j (i+1) (p+8) (a+x%128*2^(7*i)):=by
 have e:rX L p 8=(x,p+8,0):=by rw[←hx];exact Uo (w:=8) zd h
 conv=>lhs;unfold Rd
 rw[e]
 simp
theorem Dw (i:Nat):2^(7*(i+1))=128*2^(7*i):=by
 rw[ag1,ahq];omega
theorem ga (m:Nat):numBits 0 m=List.replicate m false:=by
 induction m with
 | zero=>rfl
 | succ m ih=>
   have e:numBits 0 (m+1)=decide (0/2^m%2=1)::numBits 0 m:=rfl;rw[e,ih,ahN]
   simp
theorem Ni (k:Nat) (T:List Bool):zl (List.replicate k false++true::T)=k:=by
 induction k with
 | zero=>rfl
 | succ k ih=>rw[ahN,List.cons_append];show zl _+1=_;rw[ih]
theorem uO {n:Nat} (h0:n≠0):numBits n (bl n)=true::numBits n (bl n-1):=by
 have hb:=jc h0;have h1:=nT h0;have h2:=jr n;obtain ⟨k,hk⟩:∃k,bl n=k+1:=⟨bl n-1,by omega⟩;rw[hk] at h1 h2 ⊢;have e:numBits n (k+1)=decide (n/2^k%2=1)::numBits n k:=rfl;rw[e];simp only[ahX] at h1 ⊢
 have hd:n/2^k=1:=by
  have hp:=aif k;have a1:=(ahL hp).2 (show 1*2^k≤n by omega);have a2:=(agY hp).2 (show n<2*2^k by rw[agS] at h2;omega);omega
 rw[hd]
 rfl
theorem wW (A B:List Bool) (k:Nat):(A++B).drop (A.length+k)=B.drop k:=by
 rw[List.drop_append,List.drop_eq_nil_of_le zo];simp
theorem zV {A T:List Bool} {n:Nat} (h0:n≠0) (hn:n<18446744073709551616):gX (A++(aq n++T)) A.length=(n,A.length+(aq n).length,0):=by
 have hb:=jc h0;have hb2:=bB (n:=n) (k:=64) hn;have h1:=nT h0;have h2:=jr n;have hgl:=lK h0
 have e:aq n++T=List.replicate (bl n-1) false++true::(numBits n (bl n-1)++T):=by
  unfold aq;rw[uO h0,ga]
  simp
 have hz:zr (A++(aq n++T)) A.length=bl n-1:=by
  unfold zr;rw[aiN,e,Ni]
 have hlen:(A++(aq n++T)).length=A.length+(2*bl n-1+T.length):=by simp[hgl]
 rw[(U3 hz zo (by rw[hlen];omega)).1]
 have hd:(A++(aq n++T)).drop (A.length+(bl n-1)+1)=numBits n (bl n-1)++T:=by
  rw[ahQ,wW,e]
  have:(List.replicate (bl n-1) false).length=bl n-1:=by simp
  conv=>lhs;rw[show bl n-1+1=(List.replicate (bl n-1) false).length+1 by simp]
  rw[wW]
  rfl
 rw[hd,ahy (ai _ _),aR]
 have hm:n%2^(bl n-1)=n-2^(bl n-1):=by
  obtain ⟨k,hk⟩:∃k,bl n=k+1:=⟨bl n-1,by omega⟩;rw[hk] at h1 h2 ⊢;simp only[ahX] at h1 ⊢;rw[agS] at h2;rw[Nat.mod_eq_sub_mod h1,agL zo]
 rw[hm]
 congr 1
 · omega
 · congr 1;omega
theorem Hv {T:List Bool}:∀(n j i:Nat) (A:List Bool) (a:Nat),j+i=10→n<2^(64-7*i)→(0<i→n≠0)→i≤9→
 Rd (A++(cF n++T)) j i A.length a=(a+n*2^(7*i),A.length+(cF n).length,0):=by
 intro n
 induction n using Nat.strongRecOn with
 | ind n ih=>
   intro j i A a hj hn h0 hi;obtain ⟨j,rfl⟩:∃j',j=j'+1:=⟨j-1,by omega⟩
   by_cases h:n<128
   · rw[zO h]
     have hx:numOf (((A++(numBits n 8++T)).drop A.length).take 8)=n:=by
      rw[aiN,ahy (ai _ _),aR];omega
     rw[EF (by simp[ai]) hx,if_neg,if_pos h,agL h,ai];rintro (⟨rfl,h1⟩ | ⟨h1,h2⟩)
     · rw[agL h] at h1;omega
     · exact h0 h1 h2
   · rw[Ai h]
     have hi8:i≤8:=by
      by_cases h9:i=9
      · subst h9;omega
      · omega
     have hx:numOf (((A++(numBits (128+n%128) 8++cF (n/128)++T)).drop A.length).take 8)=128+n%128:=by
      rw[aiN,agw,ahy (ai _ _),aR];omega
     rw[EF (by simp[ai]) hx,if_neg zo,if_neg zo]
     have hn':n/128<2^(64-7*(i+1)):=by
      rw[agY zd]
      have:2^(64-7*(i+1))*128=2^(64-7*i):=by
       rw[show(128:Nat)=2^7 from rfl,←ahq]
       congr 1;omega
      omega
     have:=ih (n/128) zo j (i+1) (A++numBits (128+n%128) 8) (a+(128+n%128)%128*2^(7*i)) zo hn' (fun _=>by omega) zo
     rw[agn,ai] at this;have e:A++(numBits (128+n%128) 8++cF (n/128)++T)=A++numBits (128+n%128) 8++(cF (n/128)++T):=by simp
     rw[e,this,agn,ai];have hm:(128+n%128)%128=n%128:=by omega
     rw[hm,Dw]
     have hmul:n%128*2^(7*i)+n/128*(128*2^(7*i))=n*2^(7*i):=by
      rw[←agZ,←agH]
      congr 1
      omega
     congr 1
     · omega
     · congr 1;omega
theorem tP {A T:List Bool} {n:Nat} (hn:n<18446744073709551616):vX (A++(cF n++T)) A.length=(n,A.length+(cF n).length,0):=by
 unfold vX;rw[Hv n 10 0 A 0 rfl hn (fun h=>absurd h zd) zd]
 simp
def cat (f:Nat→List Bool):Nat→List Bool
 | 0=> []
 | i+1=>cat f i++f i
def piece (k:Int) (x:Nat):List Bool:=if k=0 then aq x else if k=1 then ED x else cF x
end Go.Proofs.YtcnlmelpnflhnaaGreat
