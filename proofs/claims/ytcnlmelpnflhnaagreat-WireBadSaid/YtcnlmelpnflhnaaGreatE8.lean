import Derived.Test.YtcnlmelpnflhnaaGreatE7
namespace Go.Proofs.YtcnlmelpnflhnaaGreat
open Go.Eng
set_option linter.unusedSimpArgs false
set_option linter.unusedVariables false
def bj (w:Nat):List Nat→Nat
 | []=>0
 | x::l=>x+2^w*bj w l
def words (m X:Nat):List Int:=(List.range m).map fun k=>((X/2^(64*k)%2^64:Nat):Int)
theorem aB (m X:Nat):(words m X).length=m:=by simp[words]
theorem lK {w:Nat} (hw:0<w):∀(l:List Nat) (j:Nat),(∀x∈l,x<2^w)→(bj w l).testBit j=(l.getD (j/w) 0).testBit (j%w)
 | [],j,_=>by simp[bj]
 | x::l,j,h=>by
   have hx:=h x (by simp);have ih:=lK hw l (j-w) (fun y hy=>h y (by simp[hy]))
   show(x+2^w*bj w l).testBit j=_
   rw[alX,Nat.testBit_two_pow_mul_add _ hx]
   by_cases hj:j<w
   · rw[if_pos hj,alx hj,akG hj];rfl
   · rw[if_neg hj,ih]
     have e1:j/w=(j-w)/w+1:=by rw[Nat.div_eq_sub_div hw zo]
     have e2:j%w=(j-w)%w:=by rw[Nat.mod_eq_sub_mod zo]
     rw[e1,e2,List.getD_cons_succ]
def cj (X k:Nat):Nat:=X/2^(64*k)%2^64
theorem dh (X k t:Nat):(cj X k).testBit t=(decide (t<64)&&X.testBit (64*k+t)):=by
 unfold cj;rw[alO,al4,alX]
theorem afa (X k b w:Nat) (hb:b<64) (hw:w≤32):
 (cj X k/2^b ||| (if 64<b+w then cj X (k+1)*2^(64-b)%2^64 else 0))%2^w=X/2^(64*k+b)%2^w:=by
 apply al5;intro j;rw[alO,alO,Nat.testBit_or,al4,al4,dh]
 by_cases hj:j<w
 · simp only[hj,decide_true,alB]
   by_cases h1:j+b<64
   · rw[show 64*k+(j+b)=j+(64*k+b) by omega]
     simp only[h1,decide_true,alB]
     split
     · rw[alO,amW]
       have:¬(64-b≤j):=by omega
       simp[this]
     · simp
   · rw[if_pos zo,alO,amW,dh]
     have h2:j<64:=by omega
     have h3:64-b≤j:=by omega
     have h4:j-(64-b)<64:=by omega
     rw[show 64*(k+1)+(j-(64-b))=j+(64*k+b) by omega];simp[h1,h2,h3,h4]
 · simp[hj]
def j6 (X Y p w n:Nat):Prop:=∀j,Y.testBit j=if p≤j∧j<p+w then n.testBit (j-p) else X.testBit j
theorem E3 {w i n:Nat} {l:List Nat} (hw:0<w) (hi:i<l.length) (hl:∀x∈l,x<2^w) (hn:n<2^w):j6 (bj w l) (bj w (l.set i n)) (i*w) w n:=by
 intro j
 have hl':∀x∈l.set i n,x<2^w:=fun x hx=>by
  rcases amb hx with h | h
  · exact hl x h
  · rw[h];exact hn
 rw[lK hw _ _ hl',lK hw _ _ hl]
 by_cases hj:j/w=i
 · have h1:i*w≤j∧j<i*w+w:=by
    subst hj;have a1:=akO j w;have a2:=akD j hw;rw[akC] at a1;omega
   rw[if_pos h1,hj];have e:(l.set i n).getD i 0=n:=by simp[akf,hi]
   rw[e]
   congr 1
   have a1:=akO j w;rw[hj,akC] at a1;omega
 · have h1:¬(i*w≤j∧j<i*w+w):=by
    rintro ⟨h1,h2⟩;apply hj;have a1:=(alL hw).2 h1;have a2:=(akR hw).2 (show j<(i+1)*w by rw[akA];omega);omega
   rw[if_neg h1]
   have e:(l.set i n).getD (j/w) 0=l.getD (j/w) 0:=by
    simp only[akf];rw[alr zo]
   rw[e]
theorem aaB {X Y k b w n:Nat} (hS:j6 X Y (64*k+b) w n) (hb:b<64) (hn:n<2^w):
 ((cj X k^^^(cj X k&&&((2^w-1)*2^b%2^64))) ||| (n*2^b%2^64))=cj Y k:=by
 apply al5;intro t;rw[Nat.testBit_or,Nat.testBit_xor,Nat.testBit_and,alO,alO,amW,amW,Nat.testBit_two_pow_sub_one,dh,dh,hS]
 by_cases ht:t<64
 · simp only[ht,decide_true,alB]
   by_cases h1:b≤t
   · have e:64*k+t-(64*k+b)=t-b:=by omega
     by_cases h2:t-b<w
     · rw[if_pos zo,e]
       simp[h1,h2]
     · rw[if_neg zo]
       have:n.testBit (t-b)=false:=alZ (akT hn (ako zd zo))
       simp[h1,h2,this]
   · rw[if_neg zo]
     simp[h1]
 · simp[ht]
theorem XQ {X Y k b w n:Nat} (hS:j6 X Y (64*k+b) w n) (hb:b<64) (hw:w≤32) (hbw:64<b+w) (hn:n<2^w):
 ((cj X (k+1)^^^(cj X (k+1)&&&((2^w-1)/2^(64-b)))) ||| (n/2^(64-b)))=cj Y (k+1):=by
 apply al5;intro t;rw[Nat.testBit_or,Nat.testBit_xor,Nat.testBit_and,al4,al4,Nat.testBit_two_pow_sub_one,dh,dh,hS]
 by_cases ht:t<64
 · simp only[ht,decide_true,alB]
   by_cases h2:t+(64-b)<w
   · rw[if_pos zo,show 64*(k+1)+t-(64*k+b)=t+(64-b) by omega]
     simp[h2]
   · rw[if_neg zo]
     have:n.testBit (t+(64-b))=false:=alZ (akT hn (ako zd zo))
     simp[h2,this]
 · have:n.testBit (t+(64-b))=false:=alZ (akT hn (ako zd zo))
   simp[ht,this]
theorem sk {X Y k b w n k':Nat} (hS:j6 X Y (64*k+b) w n) (hb:b<64) (hw:w≤32) (h1:k'≠k) (h2:64<b+w→k'≠k+1):cj Y k'=cj X k':=by
 apply al5;intro t;rw[dh,dh,hS]
 by_cases ht:t<64
 · rw[if_neg]
   rintro ⟨a1,a2⟩
   by_cases h3:k'=k+1
   · have:=fun h=>h2 h h3
     omega
   · omega
 · simp[ht]
theorem Bp (m:Nat):words m 0=List.replicate m 0:=by
 unfold words;apply amy
 · simp
 · intro i h1 h2
   simp
theorem ep {m X k:Nat} (h:k<m):(words m X).getD k 0=(cj X k:Int):=by
 unfold words;rw[akf,akX,amj h]
 rfl
theorem lO (X k:Nat):cj X k<18446744073709551616:=akD _ zd
theorem zD (y:Nat):IntKind.u64.wrap (y:Int)=((y%2^64:Nat):Int):=by
 unfold IntKind.wrap;have e:IntKind.u64.bits=64:=rfl;have e2:IntKind.u64.signed=false:=rfl;rw[e,e2]
 simp
theorem wrap_mul (x k:Nat):IntKind.u64.wrap ((x:Int)*2^k)=((x*2^k%2^64:Nat):Int):=by
 rw[show((x:Int)*2^k)=((x*2^k:Nat):Int) by simp,zD]
theorem hH (x k:Nat):(x:Int)/2^k=((x/2^k:Nat):Int):=by simp
theorem kJ (y:Nat):y%2^64<18446744073709551616:=akD _ zd
theorem ou {y k:Nat} (h:y<18446744073709551616):y/2^k<18446744073709551616:=ak4 (alq _ _) h
theorem Oq {x y:Nat} (hx:x<18446744073709551616) (hy:y<18446744073709551616):x ||| y<18446744073709551616:=Nat.or_lt_two_pow (n:=64) hx hy
theorem yg {x w:Nat} (hx:x<18446744073709551616) (hw:2^w≤4294967296):bS .and .u64 (x:Int) ((2^w-1:Nat):Int)=((x%2^w:Nat):Int):=by
 rw[MQ hx zo,Nat.and_two_pow_sub_one_eq_mod]
def nl (N:List Nat):List Int:=N.map fun n:Nat=>(n:Int)
theorem av (N:List Nat):(nl N).length=N.length:=by simp[nl]
theorem bt (N:List Nat) (i:Nat):(nl N).getD i 0=((N.getD i 0:Nat):Int):=by
 simp only[nl,akf,akX]
 cases N[i]? <;>rfl
theorem fJ (N:List Nat) (i x:Nat):(nl N).set i (x:Int)=nl (N.set i x):=by simp[nl,amD]
theorem mU {N M:List Nat}:nl N=nl M↔N=M:=by
 constructor
 · intro h
   have h2:(nl N).map Int.toNat=(nl M).map Int.toNat:=by rw[h]
   simpa [nl,List.map_map,Function.comp_def] using h2
 · rintro rfl;rfl
theorem mQ (n:Nat):List.replicate n (0:Int)=nl (List.replicate n 0):=by simp[nl]
theorem vO {w:Nat} {N:List Nat} (h:∀x∈N,x<2^w) (i:Nat):N.getD i 0<2^w:=by
 rw[akf]
 cases hx:N[i]? with
 | none=>exact amd w
 | some x=>exact h x (ak5 hx)
theorem py {w i:Nat} {l:List Nat} (hw:0<w) (hl:∀x∈l,x<2^w):bj w l/2^(i*w)%2^w=l.getD i 0:=by
 apply al5;intro j;rw[alO,al4,lK hw _ _ hl]
 by_cases hj:j<w
 · have e1:(j+i*w)/w=i:=by rw[Nat.add_mul_div_right _ _ hw,alx hj,akP]
   have e2:(j+i*w)%w=j:=by rw[Nat.add_mul_mod_self_right,akG hj]
   rw[e1,e2];simp[hj]
 · have:(l.getD i 0).testBit j=false:=alZ (akT (vO hl i) (ako zd zo))
   rw[this];simp[hj]
theorem qU {w:Nat}:∀{l:List Nat},(∀x∈l,x<2^w)→bj w l<2^(l.length*w)
 | [],_=>by simp[bj]
 | x::l,h=>by
   have ih:=qU (l:=l) (fun y hy=>h y (by simp[hy]));have hx:=h x (by simp);show x+2^w*bj w l<_;have e:2^((x::l).length*w)=2^w*2^(l.length*w):=by rw[←ale];congr 1;simp[akA];omega
   rw[e]
   have:2^w*(bj w l+1)≤2^w*2^(l.length*w):=alg _ ih
   rw[akU,al9] at this;omega
def bq (n w:Nat):Nat:=(n*w+63)/64
theorem F5 {m X Y:Nat} (hX:X<2^(64*m)) (hY:Y<2^(64*m)) (h:words m X=words m Y):X=Y:=by
 apply al5;intro j
 by_cases hj:j<64*m
 · have hk:j/64<m:=by omega
   have h1:(words m X).getD (j/64) 0=(words m Y).getD (j/64) 0:=by rw[h]
   rw[ep hk,ep hk] at h1;have h2:cj X (j/64)=cj Y (j/64):=by omega
   have h3:(cj X (j/64)).testBit (j%64)=(cj Y (j/64)).testBit (j%64):=by rw[h2]
   rw[dh,dh,akO] at h3;simpa [akD j (show 64>0 by decide)] using h3
 · have e:2^(64*m)≤2^j:=ako zd zo
   rw[alZ zo,alZ zo]
theorem H2 {n w:Nat} {N M:List Nat} (hw:0<w) (hN:N.length=n) (hM:M.length=n) (h1:∀x∈N,x<2^w) (h2:∀x∈M,x<2^w):words (bq n w) (bj w N)=words (bq n w) (bj w M)↔N=M:=by
 constructor
 · intro h
   have a1:=qU h1;have a2:=qU h2;have e:2^(n*w)≤2^(64*bq n w):=ako zd (by unfold bq;omega);rw[hN] at a1;rw[hM] at a2;have hp:=F5 zo zo h;apply amy zo;intro i b1 b2;have c1:=py (i:=i) hw h1;have c2:=py (i:=i) hw h2;rw[hp,c2] at c1;simpa [akf,b1,b2] using c1.symm
 · rintro rfl;rfl
theorem vC {m:Nat} {L:List Int} {Y:Nat} (hl:L.length=m) (h:∀k,k<m→L.getD k 0=(cj Y k:Int)):L=words m Y:=by
 apply amy (by rw[hl,aB]);intro i h1 h2
 have:=h i zo
 rw[←ep (m:=m) zo] at this;simpa [akf,h1,h2] using this
theorem kG {L:List Int} {k:Nat} {x:Int} (h:k<L.length):(L.set k x).getD k 0=x:=by simp[akf,h]
theorem getD_set_ne {L:List Int} {k j:Nat} {x:Int} (h:k≠j):(L.set k x).getD j 0=L.getD j 0:=by simp only[akf];rw[alr h]
theorem AS {m X Y k b w n:Nat} (hk:k<m) (hS:j6 X Y (64*k+b) w n) (hb:b<64) (hw:w≤32) (h:¬64<b+w):(words m X).set k (cj Y k:Int)=words m Y:=by
 apply vC (by rw[akJ,aB]);intro j hj
 by_cases e:k=j
 · subst e
   rw[kG (by rw[aB];exact hk)]
 · rw[getD_set_ne e,ep hj,sk hS hb hw zo (fun h'=>absurd h' h)]
theorem AV {m X Y k b w n:Nat} (hk:k+1<m) (hS:j6 X Y (64*k+b) w n) (hb:b<64) (hw:w≤32):((words m X).set k (cj Y k:Int)).set (k+1) (cj Y (k+1):Int)=words m Y:=by
 apply vC (by rw[akJ,akJ,aB]);intro j hj
 by_cases e:k+1=j
 · subst e
   rw[kG (by rw[akJ,aB];exact hk)]
 · rw[getD_set_ne e]
   by_cases e2:k=j
   · subst e2
     rw[kG (by rw[aB];omega)]
   · rw[getD_set_ne e2,ep hj,sk hS hb hw zo (fun _=>by omega)]
theorem xX {x y:Nat} (hx:x<18446744073709551616) (hy:y<18446744073709551616):x^^^(x&&&y)<18446744073709551616:=
 alC (n:=64) hx (ak4 Nat.and_le_left hx)
theorem Dv {n i w:Nat} (hi:i<n):i*w+w≤n*w:=by
 have:=akI w (show i+1≤n by omega)
 rw[akA,alG] at this;exact this
theorem rY {l m:List Int} {i:Nat} (h1:i<l.length) (h2:i<m.length):(l.take (i+1)=m.take (i+1))↔(l.take i=m.take i∧l.getD i 0=m.getD i 0):=by
 rw[ama,ama];simp only[akf,akh h1,akh h2,Option.toList_some,amQ];constructor
 · intro h
   have:=List.append_inj h (by simp;omega)
   simpa using this
 · rintro ⟨a,b⟩;rw[a,b]
theorem Q8 {w i x:Nat} {N:List Nat} (h:∀y∈N,y<2^w) (hx:x<2^w):∀y∈N.set i x,y<2^w:=fun y hy=>by
 rcases amb hy with h' | h'
 · exact h y h'
 · rw[h'];exact hx
def du (w:Nat) (N:List Nat):List Bool:=N.flatMap fun x=>numBits x w
theorem jm (w:Nat):∀N:List Nat,(du w N).length=N.length*w
 | []=>by simp[du]
 | x::N=>by
   have ih:=jm w N
   show(numBits x w++du w N).length=_
   rw[ake,aj,ih,akm,akA];omega
theorem E7 (w:Nat) (N M:List Nat):du w (N++M)=du w N++du w M:=by simp[du]
theorem gE {N:List Nat} {i:Nat} (h:i<N.length):N.take (i+1)=N.take i++[N.getD i 0]:=by
 rw[ama,akf,akh h];rfl
theorem BH {w i:Nat} {N:List Nat} (h:i<N.length):du w (N.take (i+1))=du w (N.take i)++numBits (N.getD i 0) w:=by
 rw[gE h,E7];simp[du]
theorem yP (a r m:Nat):numBits (a*2^m+r) m=numBits r m:=by
 apply amy (by rw[aj,aj]);intro i h1 h2;rw[aj] at h1;rw[i6 _ _ _ h1,i6 _ _ _ h1,decide_eq_decide]
 have e:a*2^m+r=r+2^(m-1-i)*(2^i*a*2):=by
  have:2^m=2^(m-1-i)*2^i*2:=by rw[←ale,←akM];congr 1;omega
  rw[this,alX]
  congr 1
  simp only[akS,akC,al0]
 rw[e,amu _ _ (amd _),Nat.add_mul_mod_self_right]
theorem jb:∀l:List Bool,numBits (numOf l) l.length=l
 | []=>rfl
 | x::l=>by
   have ih:=jb l;have hl:=dw l
   have e:numOf (x::l)=x.toNat*2^l.length+numOf l:=by
    have:=pb [x] l
    simpa [numOf] using this
   show decide (numOf (x::l)/2^l.length%2=1)::numBits (numOf (x::l)) l.length=x::l;rw[e,yP,ih]
   congr 1
   rw[akC,Nat.mul_add_div (amd _),alx hl]
   cases x<;>simp
def chunk (L:List Bool) (p w n:Nat):List Nat:=(List.range n).map fun i=>numOf ((L.drop (p+i*w)).take w)
theorem aL (L:List Bool) (w:Nat):numOf (L.take w)<2^w:=akT (dw _) (ako zd (by simp;omega))
theorem ij (w:Nat):∀n,bj w (List.replicate n 0)=0
 | 0=>rfl
 | n+1=>by
   show 0+2^w*bj w (List.replicate n 0)=0;rw[ij w n];simp
end Go.Proofs.YtcnlmelpnflhnaaGreat
