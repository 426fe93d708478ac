import Derived.Test.YtcnlmelpnflhnaaGreatE7
namespace Go.Proofs.YtcnlmelpnflhnaaGreat
open Go.Eng
set_option linter.unusedSimpArgs false
set_option linter.unusedVariables false
def bF (w:Nat):List Nat→Nat
 | []=>0
 | x::l=>x+2^w*bF w l
def words (m X:Nat):List Int:=(List.range m).map fun k=>((X/2^(64*k)%2^64:Nat):Int)
theorem ay (m X:Nat):(words m X).length=m:=by simp[words]
theorem ky {w:Nat} (hw:0<w):∀(l:List Nat) (j:Nat),(∀x∈l,x<2^w)→(bF w l).testBit j=(l.getD (j/w) 0).testBit (j%w)
 | [],j,_=>by simp[bF]
 | x::l,j,h=>by
   have hx:=h x (by simp);have ih:=ky hw l (j-w) (fun y hy=>h y (by simp[hy]))
   show(x+2^w*bF w l).testBit j=_
   rw[ah1,Nat.testBit_two_pow_mul_add _ hx]
   by_cases hj:j<w
   · rw[if_pos hj,ahG hj,agL hj];rfl
   · rw[if_neg hj,ih]
     have e1:j/w=(j-w)/w+1:=by rw[Nat.div_eq_sub_div hw zo]
     have e2:j%w=(j-w)%w:=by rw[Nat.mod_eq_sub_mod zo]
     rw[e1,e2,List.getD_cons_succ]
def bO (X k:Nat):Nat:=X/2^(64*k)%2^64
theorem cJ (X k t:Nat):(bO X k).testBit t=(decide (t<64)&&X.testBit (64*k+t)):=by
 unfold bO;rw[ahO,ah5,ah1]
theorem aaL (X k b w:Nat) (hb:b<64) (hw:w≤32):
 (bO X k/2^b ||| (if 64<b+w then bO X (k+1)*2^(64-b)%2^64 else 0))%2^w=X/2^(64*k+b)%2^w:=by
 apply ah6;intro j;rw[ahO,ahO,Nat.testBit_or,ah5,ah5,cJ]
 by_cases hj:j<w
 · simp only[hj,decide_true,ahE]
   by_cases h1:j+b<64
   · rw[show 64*k+(j+b)=j+(64*k+b) by omega]
     simp only[h1,decide_true,ahE]
     split
     · rw[ahO,aiX]
       have:¬(64-b≤j):=by omega
       simp[this]
     · simp
   · rw[if_pos zo,ahO,aiX,cJ]
     have h2:j<64:=by omega
     have h3:64-b≤j:=by omega
     have h4:j-(64-b)<64:=by omega
     rw[show 64*(k+1)+(j-(64-b))=j+(64*k+b) by omega];simp[h1,h2,h3,h4]
 · simp[hj]
def jg (X Y p w n:Nat):Prop:=∀j,Y.testBit j=if p≤j∧j<p+w then n.testBit (j-p) else X.testBit j
theorem B9 {w i n:Nat} {l:List Nat} (hw:0<w) (hi:i<l.length) (hl:∀x∈l,x<2^w) (hn:n<2^w):jg (bF w l) (bF w (l.set i n)) (i*w) w n:=by
 intro j
 have hl':∀x∈l.set i n,x<2^w:=fun x hx=>by
  rcases aiq hx with h | h
  · exact hl x h
  · rw[h];exact hn
 rw[ky hw _ _ hl',ky hw _ _ hl]
 by_cases hj:j/w=i
 · have h1:i*w≤j∧j<i*w+w:=by
    subst hj;have a1:=agT j w;have a2:=agJ j hw;rw[agK] at a1;omega
   rw[if_pos h1,hj];have e:(l.set i n).getD i 0=n:=by simp[ago,hi]
   rw[e]
   congr 1
   have a1:=agT j w;rw[hj,agK] at a1;omega
 · have h1:¬(i*w≤j∧j<i*w+w):=by
    rintro ⟨h1,h2⟩;apply hj;have a1:=(ahL hw).2 h1;have a2:=(agY hw).2 (show j<(i+1)*w by rw[agH];omega);omega
   rw[if_neg h1]
   have e:(l.set i n).getD (j/w) 0=l.getD (j/w) 0:=by
    simp only[ago];rw[ahw zo]
   rw[e]
theorem Wm {X Y k b w n:Nat} (hS:jg X Y (64*k+b) w n) (hb:b<64) (hn:n<2^w):
 ((bO X k^^^(bO X k&&&((2^w-1)*2^b%2^64))) ||| (n*2^b%2^64))=bO Y k:=by
 apply ah6;intro t;rw[Nat.testBit_or,Nat.testBit_xor,Nat.testBit_and,ahO,ahO,aiX,aiX,Nat.testBit_two_pow_sub_one,cJ,cJ,hS]
 by_cases ht:t<64
 · simp only[ht,decide_true,ahE]
   by_cases h1:b≤t
   · have e:64*k+t-(64*k+b)=t-b:=by omega
     by_cases h2:t-b<w
     · rw[if_pos zo,e]
       simp[h1,h2]
     · rw[if_neg zo]
       have:n.testBit (t-b)=false:=ahY (ag6 hn (agA zd zo))
       simp[h1,h2,this]
   · rw[if_neg zo]
     simp[h1]
 · simp[ht]
theorem TD {X Y k b w n:Nat} (hS:jg X Y (64*k+b) w n) (hb:b<64) (hw:w≤32) (hbw:64<b+w) (hn:n<2^w):
 ((bO X (k+1)^^^(bO X (k+1)&&&((2^w-1)/2^(64-b)))) ||| (n/2^(64-b)))=bO Y (k+1):=by
 apply ah6;intro t;rw[Nat.testBit_or,Nat.testBit_xor,Nat.testBit_and,ah5,ah5,Nat.testBit_two_pow_sub_one,cJ,cJ,hS]
 by_cases ht:t<64
 · simp only[ht,decide_true,ahE]
   by_cases h2:t+(64-b)<w
   · rw[if_pos zo,show 64*(k+1)+t-(64*k+b)=t+(64-b) by omega]
     simp[h2]
   · rw[if_neg zo]
     have:n.testBit (t+(64-b))=false:=ahY (ag6 hn (agA zd zo))
     simp[h2,this]
 · have:n.testBit (t+(64-b))=false:=ahY (ag6 hn (agA zd zo))
   simp[ht,this]
theorem qi {X Y k b w n k':Nat} (hS:jg X Y (64*k+b) w n) (hb:b<64) (hw:w≤32) (h1:k'≠k) (h2:64<b+w→k'≠k+1):bO Y k'=bO X k':=by
 apply ah6;intro t;rw[cJ,cJ,hS]
 by_cases ht:t<64
 · rw[if_neg]
   rintro ⟨a1,a2⟩
   by_cases h3:k'=k+1
   · have:=fun h=>h2 h h3
     omega
   · omega
 · simp[ht]
theorem yA (m:Nat):words m 0=List.replicate m 0:=by
 unfold words;apply aiu
 · simp
 · intro i h1 h2
   simp
theorem dL {m X k:Nat} (h:k<m):(words m X).getD k 0=(bO X k:Int):=by
 unfold words;rw[ago,ag4,aih h]
 rfl
theorem kC (X k:Nat):bO X k<18446744073709551616:=agJ _ zd
theorem w8 (y:Nat):IntKind.u64.wrap (y:Int)=((y%2^64:Nat):Int):=by
 unfold IntKind.wrap;have e:IntKind.u64.bits=64:=rfl;have e2:IntKind.u64.signed=false:=rfl;rw[e,e2]
 simp
theorem wrap_mul (x k:Nat):IntKind.u64.wrap ((x:Int)*2^k)=((x*2^k%2^64:Nat):Int):=by
 rw[show((x:Int)*2^k)=((x*2^k:Nat):Int) by simp,w8]
theorem gb (x k:Nat):(x:Int)/2^k=((x/2^k:Nat):Int):=by simp
theorem jL (y:Nat):y%2^64<18446744073709551616:=agJ _ zd
theorem mS {y k:Nat} (h:y<18446744073709551616):y/2^k<18446744073709551616:=ahb (ahv _ _) h
theorem Kn {x y:Nat} (hx:x<18446744073709551616) (hy:y<18446744073709551616):x ||| y<18446744073709551616:=Nat.or_lt_two_pow (n:=64) hx hy
theorem vG {x w:Nat} (hx:x<18446744073709551616) (hw:2^w≤4294967296):bY .and .u64 (x:Int) ((2^w-1:Nat):Int)=((x%2^w:Nat):Int):=by
 rw[I2 hx zo,Nat.and_two_pow_sub_one_eq_mod]
def nl (N:List Nat):List Int:=N.map fun n:Nat=>(n:Int)
theorem aD (N:List Nat):(nl N).length=N.length:=by simp[nl]
theorem bg (N:List Nat) (i:Nat):(nl N).getD i 0=((N.getD i 0:Nat):Int):=by
 simp only[nl,ago,ag4]
 cases N[i]? <;>rfl
theorem fv (N:List Nat) (i x:Nat):(nl N).set i (x:Int)=nl (N.set i x):=by simp[nl,List.map_set]
theorem NX {N M:List Nat}:nl N=nl M↔N=M:=by
 constructor
 · intro h
   have h2:(nl N).map Int.toNat=(nl M).map Int.toNat:=by rw[h]
   simpa [nl,List.map_map,Function.comp_def] using h2
 · rintro rfl;rfl
theorem lB (n:Nat):List.replicate n (0:Int)=nl (List.replicate n 0):=by simp[nl]
theorem tk {w:Nat} {N:List Nat} (h:∀x∈N,x<2^w) (i:Nat):N.getD i 0<2^w:=by
 rw[ago]
 cases hx:N[i]? with
 | none=>exact aif w
 | some x=>exact h x (ahc hx)
theorem nQ {w i:Nat} {l:List Nat} (hw:0<w) (hl:∀x∈l,x<2^w):bF w l/2^(i*w)%2^w=l.getD i 0:=by
 apply ah6;intro j;rw[ahO,ah5,ky hw _ _ hl]
 by_cases hj:j<w
 · have e1:(j+i*w)/w=i:=by rw[Nat.add_mul_div_right _ _ hw,ahG hj,agU]
   have e2:(j+i*w)%w=j:=by rw[Nat.add_mul_mod_self_right,agL hj]
   rw[e1,e2];simp[hj]
 · have:(l.getD i 0).testBit j=false:=ahY (ag6 (tk hl i) (agA zd zo))
   rw[this];simp[hj]
theorem pn {w:Nat}:∀{l:List Nat},(∀x∈l,x<2^w)→bF w l<2^(l.length*w)
 | [],_=>by simp[bF]
 | x::l,h=>by
   have ih:=pn (l:=l) (fun y hy=>h y (by simp[hy]));have hx:=h x (by simp);show x+2^w*bF w l<_;have e:2^((x::l).length*w)=2^w*2^(l.length*w):=by rw[←ahq];congr 1;simp[agH];omega
   rw[e]
   have:2^w*(bF w l+1)≤2^w*2^(l.length*w):=ahl _ ih
   rw[ag1,aid] at this;omega
def aZ (n w:Nat):Nat:=(n*w+63)/64
theorem C8 {m X Y:Nat} (hX:X<2^(64*m)) (hY:Y<2^(64*m)) (h:words m X=words m Y):X=Y:=by
 apply ah6;intro j
 by_cases hj:j<64*m
 · have hk:j/64<m:=by omega
   have h1:(words m X).getD (j/64) 0=(words m Y).getD (j/64) 0:=by rw[h]
   rw[dL hk,dL hk] at h1;have h2:bO X (j/64)=bO Y (j/64):=by omega
   have h3:(bO X (j/64)).testBit (j%64)=(bO Y (j/64)).testBit (j%64):=by rw[h2]
   rw[cJ,cJ,agT] at h3;simpa [agJ j (show 64>0 by decide)] using h3
 · have e:2^(64*m)≤2^j:=agA zd zo
   rw[ahY zo,ahY zo]
theorem EX {n w:Nat} {N M:List Nat} (hw:0<w) (hN:N.length=n) (hM:M.length=n) (h1:∀x∈N,x<2^w) (h2:∀x∈M,x<2^w):words (aZ n w) (bF w N)=words (aZ n w) (bF w M)↔N=M:=by
 constructor
 · intro h
   have a1:=pn h1;have a2:=pn h2;have e:2^(n*w)≤2^(64*aZ n w):=agA zd (by unfold aZ;omega);rw[hN] at a1;rw[hM] at a2;have hp:=C8 zo zo h;apply aiu zo;intro i b1 b2;have c1:=nQ (i:=i) hw h1;have c2:=nQ (i:=i) hw h2;rw[hp,c2] at c1;simpa [ago,b1,b2] using c1.symm
 · rintro rfl;rfl
theorem tb {m:Nat} {L:List Int} {Y:Nat} (hl:L.length=m) (h:∀k,k<m→L.getD k 0=(bO Y k:Int)):L=words m Y:=by
 apply aiu (by rw[hl,ay]);intro i h1 h2
 have:=h i zo
 rw[←dL (m:=m) zo] at this;simpa [ago,h1,h2] using this
theorem jJ {L:List Int} {k:Nat} {x:Int} (h:k<L.length):(L.set k x).getD k 0=x:=by simp[ago,h]
theorem getD_set_ne {L:List Int} {k j:Nat} {x:Int} (h:k≠j):(L.set k x).getD j 0=L.getD j 0:=by simp only[ago];rw[ahw h]
theorem yd {m X Y k b w n:Nat} (hk:k<m) (hS:jg X Y (64*k+b) w n) (hb:b<64) (hw:w≤32) (h:¬64<b+w):(words m X).set k (bO Y k:Int)=words m Y:=by
 apply tb (by rw[ag0,ay]);intro j hj
 by_cases e:k=j
 · subst e
   rw[jJ (by rw[ay];exact hk)]
 · rw[getD_set_ne e,dL hj,qi hS hb hw zo (fun h'=>absurd h' h)]
theorem yh {m X Y k b w n:Nat} (hk:k+1<m) (hS:jg X Y (64*k+b) w n) (hb:b<64) (hw:w≤32):((words m X).set k (bO Y k:Int)).set (k+1) (bO Y (k+1):Int)=words m Y:=by
 apply tb (by rw[ag0,ag0,ay]);intro j hj
 by_cases e:k+1=j
 · subst e
   rw[jJ (by rw[ag0,ay];exact hk)]
 · rw[getD_set_ne e]
   by_cases e2:k=j
   · subst e2
     rw[jJ (by rw[ay];omega)]
   · rw[getD_set_ne e2,dL hj,qi hS hb hw zo (fun _=>by omega)]
theorem vr {x y:Nat} (hx:x<18446744073709551616) (hy:y<18446744073709551616):x^^^(x&&&y)<18446744073709551616:=
 aiA (n:=64) hx (ahb Nat.and_le_left hx)
theorem AB {n i w:Nat} (hi:i<n):i*w+w≤n*w:=by
 have:=agP w (show i+1≤n by omega)
 rw[agH,ahH] at this;exact this
theorem yk {l m:List Int} {i:Nat} (h1:i<l.length) (h2:i<m.length):(l.take (i+1)=m.take (i+1))↔(l.take i=m.take i∧l.getD i 0=m.getD i 0):=by
 rw[ah9,ah9];simp only[ago,agp h1,agp h2,Option.toList_some,aiQ];constructor
 · intro h
   have:=List.append_inj h (by simp;omega)
   simpa using this
 · rintro ⟨a,b⟩;rw[a,b]
def cQ (w:Nat) (N:List Nat):List Bool:=N.flatMap fun x=>numBits x w
theorem iF (w:Nat):∀N:List Nat,(cQ w N).length=N.length*w
 | []=>by simp[cQ]
 | x::N=>by
   have ih:=iF w N
   show(numBits x w++cQ w N).length=_
   rw[agn,ai,ih,agu,agH];omega
theorem Cd (w:Nat) (N M:List Nat):cQ w (N++M)=cQ w N++cQ w M:=by simp[cQ]
theorem fG {N:List Nat} {i:Nat} (h:i<N.length):N.take (i+1)=N.take i++[N.getD i 0]:=by
 rw[ah9,ago,agp h];rfl
theorem yQ {w i:Nat} {N:List Nat} (h:i<N.length):cQ w (N.take (i+1))=cQ w (N.take i)++numBits (N.getD i 0) w:=by
 rw[fG h,Cd];simp[cQ]
theorem we (a r m:Nat):numBits (a*2^m+r) m=numBits r m:=by
 apply aiu (by rw[ai,ai]);intro i h1 h2;rw[ai] at h1;rw[ij _ _ _ h1,ij _ _ _ h1,decide_eq_decide]
 have e:a*2^m+r=r+2^(m-1-i)*(2^i*a*2):=by
  have:2^m=2^(m-1-i)*2^i*2:=by rw[←ahq,←agS];congr 1;omega
  rw[this,ah1]
  congr 1
  simp only[agZ,agK,ahZ]
 rw[e,air _ _ (aif _),Nat.add_mul_mod_self_right]
theorem lh:∀l:List Bool,numBits (numOf l) l.length=l
 | []=>rfl
 | x::l=>by
   have ih:=lh l;have hl:=fE l
   have e:numOf (x::l)=x.toNat*2^l.length+numOf l:=by
    have:=sx [x] l
    simpa [numOf] using this
   show decide (numOf (x::l)/2^l.length%2=1)::numBits (numOf (x::l)) l.length=x::l;rw[e,we,ih]
   congr 1
   rw[agK,Nat.mul_add_div (aif _),ahG hl]
   cases x<;>simp
def chunk (L:List Bool) (p w n:Nat):List Nat:=(List.range n).map fun i=>numOf ((L.drop (p+i*w)).take w)
theorem lg (L:List Bool) (w:Nat):numOf (L.take w)<2^w:=ag6 (fE _) (agA zd (by simp;omega))
theorem iN (w:Nat):∀n,bF w (List.replicate n 0)=0
 | 0=>rfl
 | n+1=>by
   show 0+2^w*bF w (List.replicate n 0)=0;rw[iN w n];simp
end Go.Proofs.YtcnlmelpnflhnaaGreat
