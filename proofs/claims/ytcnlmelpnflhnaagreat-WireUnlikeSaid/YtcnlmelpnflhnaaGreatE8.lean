import Derived.Test.YtcnlmelpnflhnaaGreatE7
import Derived.Test.YtcnlmelpnflhnaaGreatE6
namespace Go.Proofs.YtcnlmelpnflhnaaGreat
open Go.Eng
set_option linter.unusedSimpArgs false
set_option linter.unusedVariables false
def aV (w:Nat):List Nat→Nat
 | []=>0
 | x::l=>x+2^w*aV w l
def words (m X:Nat):List Int:=(List.range m).map fun k=>((X/2^(64*k)%2^64:Nat):Int)
theorem aq (m X:Nat):(words m X).length=m:=by simp[words]
theorem lD {w:Nat} (hw:0<w):∀(l:List Nat) (j:Nat),(∀x∈l,x<2^w)→(aV w l).testBit j=(l.getD (j/w) 0).testBit (j%w)
 | [],j,_=>by simp[aV]
 | x::l,j,h=>by
   have hx:=h x (by simp);have ih:=lD hw l (j-w) (fun y hy=>h y (by simp[hy]))
   show(x+2^w*aV w l).testBit j=_
   rw[akS,Nat.testBit_two_pow_mul_add _ hx]
   by_cases hj:j<w
   · rw[if_pos hj,akG hj,ajL hj];rfl
   · rw[if_neg hj,ih]
     have e1:j/w=(j-w)/w+1:=by rw[Nat.div_eq_sub_div hw zo]
     have e2:j%w=(j-w)%w:=by rw[Nat.mod_eq_sub_mod zo]
     rw[e1,e2,List.getD_cons_succ]
def cf (X k:Nat):Nat:=X/2^(64*k)%2^64
theorem dh (X k t:Nat):(cf X k).testBit t=(decide (t<64)&&X.testBit (64*k+t)):=by
 unfold cf;rw[akN,ak2,akS]
theorem ad6 (X k b w:Nat) (hb:b<64) (hw:w≤32):
 (cf X k/2^b ||| (if 64<b+w then cf X (k+1)*2^(64-b)%2^64 else 0))%2^w=X/2^(64*k+b)%2^w:=by
 apply ak3;intro j;rw[akN,akN,Nat.testBit_or,ak2,ak2,dh]
 by_cases hj:j<w
 · simp only[hj,decide_true,akD]
   by_cases h1:j+b<64
   · rw[show 64*k+(j+b)=j+(64*k+b) by omega]
     simp only[h1,decide_true,akD]
     split
     · rw[akN,alY]
       have:¬(64-b≤j):=by omega
       simp[this]
     · simp
   · rw[if_pos zo,akN,alY,dh]
     have h2:j<64:=by omega
     have h3:64-b≤j:=by omega
     have h4:j-(64-b)<64:=by omega
     rw[show 64*(k+1)+(j-(64-b))=j+(64*k+b) by omega];simp[h1,h2,h3,h4]
 · simp[hj]
def jN (X Y p w n:Nat):Prop:=∀j,Y.testBit j=if p≤j∧j<p+w then n.testBit (j-p) else X.testBit j
theorem En {w i n:Nat} {l:List Nat} (hw:0<w) (hi:i<l.length) (hl:∀x∈l,x<2^w) (hn:n<2^w):jN (aV w l) (aV w (l.set i n)) (i*w) w n:=by
 intro j
 have hl':∀x∈l.set i n,x<2^w:=fun x hx=>by
  rcases alq hx with h | h
  · exact hl x h
  · rw[h];exact hn
 rw[lD hw _ _ hl',lD hw _ _ hl]
 by_cases hj:j/w=i
 · have h1:i*w≤j∧j<i*w+w:=by
    subst hj;have a1:=ajT j w;have a2:=ajI j hw;rw[ajJ] at a1;omega
   rw[if_pos h1,hj];have e:(l.set i n).getD i 0=n:=by simp[ajk,hi]
   rw[e]
   congr 1
   have a1:=ajT j w;rw[hj,ajJ] at a1;omega
 · have h1:¬(i*w≤j∧j<i*w+w):=by
    rintro ⟨h1,h2⟩;apply hj;have a1:=(akL hw).2 h1;have a2:=(ajX hw).2 (show j<(i+1)*w by rw[ajG];omega);omega
   rw[if_neg h1]
   have e:(l.set i n).getD (j/w) 0=l.getD (j/w) 0:=by
    simp only[ajk];rw[akt zo]
   rw[e]
theorem Zy {X Y k b w n:Nat} (hS:jN X Y (64*k+b) w n) (hb:b<64) (hn:n<2^w):
 ((cf X k^^^(cf X k&&&((2^w-1)*2^b%2^64))) ||| (n*2^b%2^64))=cf Y k:=by
 apply ak3;intro t;rw[Nat.testBit_or,Nat.testBit_xor,Nat.testBit_and,akN,akN,alY,alY,Nat.testBit_two_pow_sub_one,dh,dh,hS]
 by_cases ht:t<64
 · simp only[ht,decide_true,akD]
   by_cases h1:b≤t
   · have e:64*k+t-(64*k+b)=t-b:=by omega
     by_cases h2:t-b<w
     · rw[if_pos zo,e]
       simp[h1,h2]
     · rw[if_neg zo]
       have:n.testBit (t-b)=false:=akY (aj2 hn (ajv zd zo))
       simp[h1,h2,this]
   · rw[if_neg zo]
     simp[h1]
 · simp[ht]
theorem Wv {X Y k b w n:Nat} (hS:jN X Y (64*k+b) w n) (hb:b<64) (hw:w≤32) (hbw:64<b+w) (hn:n<2^w):
 ((cf X (k+1)^^^(cf X (k+1)&&&((2^w-1)/2^(64-b)))) ||| (n/2^(64-b)))=cf Y (k+1):=by
 apply ak3;intro t;rw[Nat.testBit_or,Nat.testBit_xor,Nat.testBit_and,ak2,ak2,Nat.testBit_two_pow_sub_one,dh,dh,hS]
 by_cases ht:t<64
 · simp only[ht,decide_true,akD]
   by_cases h2:t+(64-b)<w
   · rw[if_pos zo,show 64*(k+1)+t-(64*k+b)=t+(64-b) by omega]
     simp[h2]
   · rw[if_neg zo]
     have:n.testBit (t+(64-b))=false:=akY (aj2 hn (ajv zd zo))
     simp[h2,this]
 · have:n.testBit (t+(64-b))=false:=akY (aj2 hn (ajv zd zo))
   simp[ht,this]
theorem rM {X Y k b w n k':Nat} (hS:jN X Y (64*k+b) w n) (hb:b<64) (hw:w≤32) (h1:k'≠k) (h2:64<b+w→k'≠k+1):cf Y k'=cf X k':=by
 apply ak3;intro t;rw[dh,dh,hS]
 by_cases ht:t<64
 · rw[if_neg]
   rintro ⟨a1,a2⟩
   by_cases h3:k'=k+1
   · have:=fun h=>h2 h h3
     omega
   · omega
 · simp[ht]
theorem AQ (m:Nat):words m 0=List.replicate m 0:=by
 unfold words;apply alx
 · simp
 · intro i h1 h2
   simp
theorem ek {m X k:Nat} (h:k<m):(words m X).getD k 0=(cf X k:Int):=by
 unfold words;rw[ajk,aj1,alf h]
 rfl
theorem lH (X k:Nat):cf X k<18446744073709551616:=ajI _ zd
theorem za (y:Nat):IntKind.u64.wrap (y:Int)=((y%2^64:Nat):Int):=by
 unfold IntKind.wrap;have e:IntKind.u64.bits=64:=rfl;have e2:IntKind.u64.signed=false:=rfl;rw[e,e2]
 simp
theorem wrap_mul (x k:Nat):IntKind.u64.wrap ((x:Int)*2^k)=((x*2^k%2^64:Nat):Int):=by
 rw[show((x:Int)*2^k)=((x*2^k:Nat):Int) by simp,za]
theorem gQ (x k:Nat):(x:Int)/2^k=((x/2^k:Nat):Int):=by simp
theorem ko (y:Nat):y%2^64<18446744073709551616:=ajI _ zd
theorem nZ {y k:Nat} (h:y<18446744073709551616):y/2^k<18446744073709551616:=aj9 (aks _ _) h
theorem MU {x y:Nat} (hx:x<18446744073709551616) (hy:y<18446744073709551616):x ||| y<18446744073709551616:=Nat.or_lt_two_pow (n:=64) hx hy
theorem xM {x w:Nat} (hx:x<18446744073709551616) (hw:2^w≤4294967296):cv .and .u64 (x:Int) ((2^w-1:Nat):Int)=((x%2^w:Nat):Int):=by
 rw[Lw hx zo,Nat.and_two_pow_sub_one_eq_mod]
def nl (N:List Nat):List Int:=N.map fun n:Nat=>(n:Int)
theorem ay (N:List Nat):(nl N).length=N.length:=by simp[nl]
theorem bD (N:List Nat) (i:Nat):(nl N).getD i 0=((N.getD i 0:Nat):Int):=by
 simp only[nl,ajk,aj1]
 cases N[i]? <;>rfl
theorem fT (N:List Nat) (i x:Nat):(nl N).set i (x:Int)=nl (N.set i x):=by simp[nl,alC]
theorem QR {N M:List Nat}:nl N=nl M↔N=M:=by
 constructor
 · intro h
   have h2:(nl N).map Int.toNat=(nl M).map Int.toNat:=by rw[h]
   simpa [nl,List.map_map,Function.comp_def] using h2
 · rintro rfl;rfl
theorem mI (n:Nat):List.replicate n (0:Int)=nl (List.replicate n 0):=by simp[nl]
theorem vi {w:Nat} {N:List Nat} (h:∀x∈N,x<2^w) (i:Nat):N.getD i 0<2^w:=by
 rw[ajk]
 cases hx:N[i]? with
 | none=>exact ak9 w
 | some x=>exact h x (aka hx)
theorem o9 {w i:Nat} {l:List Nat} (hw:0<w) (hl:∀x∈l,x<2^w):aV w l/2^(i*w)%2^w=l.getD i 0:=by
 apply ak3;intro j;rw[akN,ak2,lD hw _ _ hl]
 by_cases hj:j<w
 · have e1:(j+i*w)/w=i:=by rw[Nat.add_mul_div_right _ _ hw,akG hj,ajU]
   have e2:(j+i*w)%w=j:=by rw[Nat.add_mul_mod_self_right,ajL hj]
   rw[e1,e2];simp[hj]
 · have:(l.getD i 0).testBit j=false:=akY (aj2 (vi hl i) (ajv zd zo))
   rw[this];simp[hj]
theorem qz {w:Nat}:∀{l:List Nat},(∀x∈l,x<2^w)→aV w l<2^(l.length*w)
 | [],_=>by simp[aV]
 | x::l,h=>by
   have ih:=qz (l:=l) (fun y hy=>h y (by simp[hy]));have hx:=h x (by simp);show x+2^w*aV w l<_;have e:2^((x::l).length*w)=2^w*2^(l.length*w):=by rw[←ako];congr 1;simp[ajG];omega
   rw[e]
   have:2^w*(aV w l+1)≤2^w*2^(l.length*w):=akk _ ih
   rw[aj0,ak6] at this;omega
def aZ (n w:Nat):Nat:=(n*w+63)/64
theorem Fh {m X Y:Nat} (hX:X<2^(64*m)) (hY:Y<2^(64*m)) (h:words m X=words m Y):X=Y:=by
 apply ak3;intro j
 by_cases hj:j<64*m
 · have hk:j/64<m:=by omega
   have h1:(words m X).getD (j/64) 0=(words m Y).getD (j/64) 0:=by rw[h]
   rw[ek hk,ek hk] at h1;have h2:cf X (j/64)=cf Y (j/64):=by omega
   have h3:(cf X (j/64)).testBit (j%64)=(cf Y (j/64)).testBit (j%64):=by rw[h2]
   rw[dh,dh,ajT] at h3;simpa [ajI j (show 64>0 by decide)] using h3
 · have e:2^(64*m)≤2^j:=ajv zd zo
   rw[akY zo,akY zo]
theorem G7 {n w:Nat} {N M:List Nat} (hw:0<w) (hN:N.length=n) (hM:M.length=n) (h1:∀x∈N,x<2^w) (h2:∀x∈M,x<2^w):words (aZ n w) (aV w N)=words (aZ n w) (aV w M)↔N=M:=by
 constructor
 · intro h
   have a1:=qz h1;have a2:=qz h2;have e:2^(n*w)≤2^(64*aZ n w):=ajv zd (by unfold aZ;omega);rw[hN] at a1;rw[hM] at a2;have hp:=Fh zo zo h;apply alx zo;intro i b1 b2;have c1:=o9 (i:=i) hw h1;have c2:=o9 (i:=i) hw h2;rw[hp,c2] at c1;simpa [ajk,b1,b2] using c1.symm
 · rintro rfl;rfl
theorem uT {m:Nat} {L:List Int} {Y:Nat} (hl:L.length=m) (h:∀k,k<m→L.getD k 0=(cf Y k:Int)):L=words m Y:=by
 apply alx (by rw[hl,aq]);intro i h1 h2
 have:=h i zo
 rw[←ek (m:=m) zo] at this;simpa [ajk,h1,h2] using this
theorem kj {L:List Int} {k:Nat} {x:Int} (h:k<L.length):(L.set k x).getD k 0=x:=by simp[ajk,h]
theorem getD_set_ne {L:List Int} {k j:Nat} {x:Int} (h:k≠j):(L.set k x).getD j 0=L.getD j 0:=by simp only[ajk];rw[akt h]
theorem As {m X Y k b w n:Nat} (hk:k<m) (hS:jN X Y (64*k+b) w n) (hb:b<64) (hw:w≤32) (h:¬64<b+w):(words m X).set k (cf Y k:Int)=words m Y:=by
 apply uT (by rw[ajR,aq]);intro j hj
 by_cases e:k=j
 · subst e
   rw[kj (by rw[aq];exact hk)]
 · rw[getD_set_ne e,ek hj,rM hS hb hw zo (fun h'=>absurd h' h)]
theorem Aw {m X Y k b w n:Nat} (hk:k+1<m) (hS:jN X Y (64*k+b) w n) (hb:b<64) (hw:w≤32):((words m X).set k (cf Y k:Int)).set (k+1) (cf Y (k+1):Int)=words m Y:=by
 apply uT (by rw[ajR,ajR,aq]);intro j hj
 by_cases e:k+1=j
 · subst e
   rw[kj (by rw[ajR,aq];exact hk)]
 · rw[getD_set_ne e]
   by_cases e2:k=j
   · subst e2
     rw[kj (by rw[aq];omega)]
   · rw[getD_set_ne e2,ek hj,rM hS hb hw zo (fun _=>by omega)]
theorem xy {x y:Nat} (hx:x<18446744073709551616) (hy:y<18446744073709551616):x^^^(x&&&y)<18446744073709551616:=
 alD (n:=64) hx (aj9 Nat.and_le_left hx)
theorem CP {n i w:Nat} (hi:i<n):i*w+w≤n*w:=by
 have:=ajP w (show i+1≤n by omega)
 rw[ajG,akH] at this;exact this
theorem rA {l m:List Int} {i:Nat} (h1:i<l.length) (h2:i<m.length):(l.take (i+1)=m.take (i+1))↔(l.take i=m.take i∧l.getD i 0=m.getD i 0):=by
 rw[ak7,ak7];simp only[ajk,ajm h1,ajm h2,Option.toList_some,alR];constructor
 · intro h
   have:=List.append_inj h (by simp;omega)
   simpa using this
 · rintro ⟨a,b⟩;rw[a,b]
def cX (w:Nat) (N:List Nat):List Bool:=N.flatMap fun x=>numBits x w
theorem gU (w:Nat):∀N:List Nat,(cX w N).length=N.length*w
 | []=>by simp[cX]
 | x::N=>by
   have ih:=gU w N
   show(numBits x w++cX w N).length=_
   rw[ajj,aj,ih,ajr,ajG];omega
theorem Er (w:Nat) (N M:List Nat):cX w (N++M)=cX w N++cX w M:=by simp[cX]
theorem gk {N:List Nat} {i:Nat} (h:i<N.length):N.take (i+1)=N.take i++[N.getD i 0]:=by
 rw[ak7,ajk,ajm h];rfl
theorem Bj {w i:Nat} {N:List Nat} (h:i<N.length):cX w (N.take (i+1))=cX w (N.take i)++numBits (N.getD i 0) w:=by
 rw[gk h,Er];simp[cX]
theorem yu (a r m:Nat):numBits (a*2^m+r) m=numBits r m:=by
 apply alx (by rw[aj,aj]);intro i h1 h2;rw[aj] at h1;rw[iU _ _ _ h1,iU _ _ _ h1,decide_eq_decide]
 have e:a*2^m+r=r+2^(m-1-i)*(2^i*a*2):=by
  have:2^m=2^(m-1-i)*2^i*2:=by rw[←ako,←ajS];congr 1;omega
  rw[this,akS]
  congr 1
  simp only[ajZ,ajJ,akZ]
 rw[e,alr _ _ (ak9 _),Nat.add_mul_mod_self_right]
theorem mu:∀l:List Bool,numBits (numOf l) l.length=l
 | []=>rfl
 | x::l=>by
   have ih:=mu l;have hl:=dU l
   have e:numOf (x::l)=x.toNat*2^l.length+numOf l:=by
    have:=ub [x] l
    simpa [numOf] using this
   show decide (numOf (x::l)/2^l.length%2=1)::numBits (numOf (x::l)) l.length=x::l;rw[e,yu,ih]
   congr 1
   rw[ajJ,Nat.mul_add_div (ak9 _),akG hl]
   cases x<;>simp
def chunk (L:List Bool) (p w n:Nat):List Nat:=(List.range n).map fun i=>numOf ((L.drop (p+i*w)).take w)
theorem bd (L:List Bool) (w:Nat):numOf (L.take w)<2^w:=aj2 (dU _) (ajv zd (by simp;omega))
theorem gY (w:Nat):∀n,aV w (List.replicate n 0)=0
 | 0=>rfl
 | n+1=>by
   show 0+2^w*aV w (List.replicate n 0)=0;rw[gY w n];simp
open Go.Eng Go.Vx
set_option maxRecDepth 100000
theorem Py {s:ByteArray} {z:Nat} {F:Bool→V→Prop} (h:∀z:Fin 256,qL s z.val=bl z.val) (hs:s.size=256) (hz:z<256):
 pI Tryz.prog 9 (.lit (.string s)) (.lit (.int .u8 (z:Int))) F=F true (.lit (.int .u8 (bl z:Int))):=by
 rw[Ow zo,show((z:Nat):Int).toNat=z by omega,h ⟨z,hz⟩]
theorem kZ {n:Nat} (hn:n<18446744073709551616):aA Tryz.prog 96 [.lit (.int .u64 n)] [] (.lit (.int .i64 (bl n:Int))) []:=by
 refine zF pl Tryz.call96 Tryz.func96 [.tmp 2] fun Q hQ=>?_;obtain ⟨c,hc⟩:∃c:Int,c=bl n:=⟨_,rfl⟩;rw[←hc] at hQ
 by_cases h32:4294967296≤n
 case' pos=>
  have e1:=mE (n:=n) (k:=32) h32;refine ae ?_;rw[show(n:Int)/4294967296=((n/2^32:Nat):Int) by omega];have hx:n/2^32<4294967296:=by omega
  generalize n/2^32=x at*
 case' neg=>
  refine ae ?_;have hx:n<4294967296:=by omega
  have e1:bl n=0+bl n:=by omega
  obtain ⟨x,rfl⟩:∃x,x=n:=⟨_,rfl⟩
 all_goals
  by_cases h16:65536≤x
  case' pos=>
   have e2:=mE (n:=x) (k:=16) h16;refine ae ?_;rw[show(x:Int)/65536=((x/2^16:Nat):Int) by omega];have hy:x/2^16<65536:=by omega
   generalize x/2^16=y at*
  case' neg=>
   refine ae ?_;have hy:x<65536:=by omega
   have e2:bl x=0+bl x:=by omega
   obtain ⟨y,rfl⟩:∃y,y=x:=⟨_,rfl⟩
 all_goals
  by_cases h8:256≤y
  case' pos=>
   have e3:=mE (n:=y) (k:=8) h8;refine ae ?_;rw[show(y:Int)/256=((y/2^8:Nat):Int) by omega];have hz:y/2^8<256:=by omega
   generalize y/2^8=z at*
  case' neg=>
   refine ae ?_;have hz:y<256:=by omega
   have e3:bl y=0+bl y:=by omega
   obtain ⟨z,rfl⟩:∃z,z=y:=⟨_,rfl⟩
 all_goals
  have hb8:=bP (n:=z) (k:=8) hz;rw[Py (of_decide_eq_true zk) zk hz];exact zE [] hQ
theorem nL {n:Int}:aA Tryz.prog 87 [.lit (.int .i64 n)] [] (.lit (.bool (decide (0≤n∧n≤64)))) []:=by
 refine zF pl Tryz.call87 Tryz.func87 [.tmp 2] fun Q hQ=>?_
 by_cases h:0≤n
 · refine E6 ?_
   simp only[h,true_and] at hQ;exact ak [] hQ
 · refine JD ?_
   simp only[h,false_and,decide_false] at hQ;exact ak [] hQ
def jK (o:Nat) (L:List Bool):Ob:=.cells [.sl o 1 0 (pk L).length,.lit (.int .i64 (L.length:Int))]
def jy (L:List Bool):Ob:=.row 1 ((pk L).map (ie .u8))
attribute [go_sem] jK jy
theorem AA {L:List Bool} {x:Bool} (hm:L.length<1099511627776):aA Tryz.prog 89 [.ref 0 0 0 0,.lit (.bool x)] [some (jK 1 L),some (jy L)] (.tup []) [some (jK 2 (L++[x])),none,some (jy (L++[x]))]:=by
 refine zF Va Tryz.call89 Tryz.func89 [] fun Q hQ=>?_;have hpl:=kQ L;have hsn:=No L x;have hst:=Hm L x;have hnx:=EU L;have hlx:(pk (L++[x])).length=L.length/8+1:=by rw[hsn,nE]
 have hr8:L.length%8<8:=ajI _ zo;have hsb:=mQ L true;have hlt:=ir (L++[true]) (L.length/8);have hpw:(2:Nat)^(7-L.length%8)<256:=aj9 (ajv zo (show 7-L.length%8≤7 by omega)) zd
 have horv:cv .or .u8 ((dC L (L.length/8):Nat):Int) (IntKind.u8.wrap (1*2^(7-(L.length:Int)%8).toNat))=((dC L (L.length/8)+2^(7-L.length%8):Nat):Int):=by
  have e1:(1*2^(7-(L.length:Int)%8).toNat:Int)=((2^(7-L.length%8):Nat):Int):=by
   rw[show(7-(L.length:Int)%8).toNat=7-L.length%8 by omega,Int.one_mul]
   norm_cast
  rw[e1,wrap_u8 ⟨Int.natCast_nonneg _,by exact_mod_cast al5 hpw⟩,XM (ir _ _) hpw,Q7 ⟨L.length%8,hr8⟩ ⟨dC L (L.length/8),ir _ _⟩ hsb.2]
 have hdiv:((L.length:Int)/8).toNat=L.length/8:=by omega
 have hgt:=yP L (L.length/8+1) (L.length/8) zo;have hlen:((L.length:Int)+1)=(((L++[x]).length:Nat):Int):=by simp
 by_cases h8:L.length%8=0
 · rw[if_pos h8] at hnx
   cases x with
   | true=>
     refine ae ?_;refine lR [some 0,some 1,some 3] _ _ rfl ?_ ?_ hQ
     · refine MI ?_
       rw[hdiv,←hnx,hgt,horv,hsn,hst,hlen];refine⟨⟨?_,by simp⟩,by simp⟩;simp[nE];omega
     · exact FA
   | false=>
     refine ae ?_;refine lR [some 0,some 1,some 3] _ _ rfl ?_ ?_ hQ
     · refine MI ?_
       rw[←hnx,hsn,sP,hlen,nE];refine⟨⟨?_,by simp⟩,by simp⟩;omega
     · exact FA
 · rw[if_neg h8] at hnx
   cases x with
   | true=>
     refine ae ?_;refine lR [some 0,some 1,some 1] _ _ rfl ?_ ?_ hQ
     · refine MI ?_
       rw[hdiv,←hnx,hgt,horv,hsn,hst,hlen];refine⟨⟨?_,by simp⟩,by simp⟩
       simp
     · exact FA
   | false=>
     refine ae ?_;refine lR [some 0,some 1,some 1] _ _ rfl ?_ ?_ hQ
     · refine MI ?_
       rw[←hnx,hsn,sP,hlen];refine⟨⟨?_,by simp⟩,by simp⟩
       simp
     · exact FA
theorem Mg {n:Nat} {m:Int} (hn:n<18446744073709551616) (h0:0≤m) (h6:m≤64):aA Tryz.prog 88 [.lit (.int .u64 n),.lit (.int .i64 m)] [] (.lit (.bool (decide (n<2^m.toNat)))) []:=by
 refine zF pl Tryz.call88 Tryz.func88 [.tmp 4] fun Q hQ=>?_
 by_cases h:m=64
 · subst h
   refine E6 ?_;rw[aju (by rw[show Int.toNat 64=64 from rfl];omega)] at hQ;exact ak [] hQ
 · refine JD ?_
   have e:decide ((n:Int)/2^m.toNat=0)=decide (n<2^m.toNat):=by
    have hp:0<2^m.toNat:=ak9 _;rw[decide_eq_decide]
    have:((n:Int)/2^m.toNat)=((n/2^m.toNat:Nat):Int):=by simp
    rw[this];rw[show((n/2^m.toNat:Nat):Int)=0↔n/2^m.toNat=0 by omega,Nat.div_eq_zero_iff];omega
   rw[e];exact ak [] hQ
theorem cz {L:List Bool} {n:Nat} {m:Int} (hn:n<18446744073709551616) (hm:L.length<1099511627000) (h0:0≤m) (h6:m≤64) (hf:n<2^m.toNat):
 aA Tryz.prog 36 [.ref 0 0 0 0,.lit (.int .u64 n),.lit (.int .i64 m)] [some (jK 1 L),some (jy L)] (.lit (.int .i64 0)) [some (jK 2 (L++numBits n m.toNat)),none,some (jy (L++numBits n m.toNat))]:=by
 refine zF pl Tryz.call36 Tryz.func36 [.tmp 6] fun Q hQ=>?_;refine ae ?_;refine aB (nL) rfl rfl ?_;refine aeW h0 h6 ?_;refine aB (Mg hn h0 h6) rfl rfl ?_;refine W7 hf ?_;obtain ⟨M,rfl⟩:=alX h0;rw[aj6] at*
 refine aT (X:=Nat) (st:=fun i=>([(0,.ref 0 0 0 0),(1,.lit (.int .u64 n)),(2,.lit (.int .i64 M)),(17,.lit (.int .i64 M)),(18,.lit (.int .i64 (i:Int)))],[some (jK 2 (L++(numBits n M).take i)),none,some (jy (L++(numBits n M).take i))]))
  (inv:=fun i=>i≤M) (m:=fun i=>M-i) 0 [some 0,some 1,some 1] rfl (by simp(maxSteps:=1000000) (disch:=(first | omega | (simp only[cQ,ajl,ajo,true_and,and_true];(try omega);done) | fail)) only[go_sem,Int.reduceEq,Int.reduceToNat,Nat.reduceAdd,Nat.reduceMul,Nat.reduceEqDiff, ↓reduceIte];simp) (by simp(maxSteps:=1000000) (disch:=(first | omega | (simp only[cQ,ajl,ajo,true_and,and_true];(try omega);done) | fail)) only[go_sem,Int.reduceEq,Int.reduceToNat,Nat.reduceAdd,Nat.reduceMul,Nat.reduceEqDiff, ↓reduceIte];simp) (ajH _) ?_
 intro i hi;have hnl:=aj n M
 by_cases hil:i<M
 · refine ae ?_
   have hx:decide ((n:Int)/2^((M:Int)-1-i).toNat%2=1)=(numBits n M)[i]'zo:=by
    rw[iU n M i zo,decide_eq_decide,show((M:Int)-1-i).toNat=M-1-i by omega]
    have:((n:Int)/2^(M-1-i)%2)=((n/2^(M-1-i)%2:Nat):Int):=by simp
    rw[this];omega
   rw[hx];have htk:(numBits n M).take (i+1)=(numBits n M).take i++[(numBits n M)[i]'zo]:=ajN _;refine zW [some 0,some 2] [] (AA (L:=L++(numBits n M).take i) (x:=(numBits n M)[i]'zo) (by simp;omega)) ?_;refine aH (i+1) [some 0,some 1,some 3] rfl ?_ ?_ zo zo
   · dsimp only
     rw[htk,←ajq];exact agp
   · dsimp only
     refine Zj ?_
     simp
 · refine ae ?_
   obtain rfl:i=M:=by omega
   rw[ajy zo];exact ak [some 0,some 1,some 2] hQ
theorem DP {B:List Bool} (hB:B.length≤140737488355327):aA Tryz.prog 60 [.row 1 (B.map be)] [] (.row 1 (B.map be)) []:=by
 refine zF pl Tryz.call60 Tryz.func60 [.tmp 2] fun Q hQ=>?_
 by_cases h:B=[]
 · subst h
   refine Zu ?_;refine jn ?_ ?_
   · refine ae ?_
     exact ak [] hQ
   · refine ae ?_
     exact ak [] hQ
 · have he:(B.map be).isEmpty=false:=by simp[h]
   refine br he ?_;exact ak [] hQ
def bt (L:List Bool) (p:Nat) (d:Bool):Ob:=.cells [.lit (.int .i64 (p:Int)),.lit (.bool d),.row 1 (L.map be)]
def tpP (L:List Bool) (p:Nat) (d:Bool):V:=.rref 3 [[.lit (.int .i64 (p:Int)),.lit (.bool d),.row 1 (L.map be)]] 0 0
attribute [go_sem] bt tpP
theorem fY {L:List Bool} (hL:L.length≤1048576):aA Tryz.prog 15 [.row 1 (L.map be)] [] (.ref 0 0 0 0) [some (bt L 0 false)]:=by
 refine zF pl Tryz.call15 Tryz.func15 [.tmp 2] fun Q hQ=>?_;have hm:min (L.length:Int) 1048576=(L.length:Int):=by omega
 refine afy hm ?_;refine zC (DP (B:=L) zo) ?_;exact ak [some 0] hQ
theorem kq {L:List Bool} {p:Nat} {d:Bool}:aA Tryz.prog 21 [tpP L p d] [] (.lit (.int .i64 (p:Int))) []:=by
 refine zF pl Tryz.call21 Tryz.func21 [.tmp 2] fun Q hQ=>?_;exact zE [] hQ
theorem pQ {L:List Bool} {p:Nat} (hL:L.length≤1048576) (hp:p<L.length):aA Tryz.prog 142 [.ref 0 0 0 0] [some (bt L p false)] (.tup [.lit (.bool (L.getD p false)),.lit (.int .i64 0)]) [some (bt L (p+1) false)]:=by
 refine zF Dd Tryz.call142 Tryz.func142 [.tmp 2,.tmp 3] fun Q hQ=>?_;have hp1:(((p:Int)+1)-1).toNat=p:=by omega
 refine br hp1 ?_;exact ak [some 0] hQ
theorem gw {L:List Bool} {p:Nat} {d:Bool} (hL:L.length≤1048576) (h:d=true∨p=L.length):aA Tryz.prog 142 [.ref 0 0 0 0] [some (bt L p d)] (.tup [.lit (.bool false),.lit (.int .i64 8)]) [some (bt L p true)]:=by
 refine zF Dd Tryz.call142 Tryz.func142 [.tmp 2,.tmp 3] fun Q hQ=>?_
 cases d with
 | true=>
   exact zE [some 0] hQ
 | false=>
   obtain rfl:p=L.length:=by simpa using h
   exact zE [some 0] hQ
end Go.Proofs.YtcnlmelpnflhnaaGreat

namespace Go.Vx
open Go.Eng
set_option linter.unusedSimpArgs false
set_option linter.unusedVariables false
section
variable {P:Program}
def FnR (P:Program) (f:FuncId) (vs:List V) (σ:St) {X:Type} (R:X→Prop) (r:X→V) (s:X→St):Prop:=Fn P f vs σ fun u' s'=>∃x,R x∧u'=r x∧s'=s x
theorem CN {f:FuncId} {fn:Func} {c:Code} {vs:List V} {σ:St} {X:Type} {R:X→Prop} {r:X→V} {s:X→St} (pl:aI) (hm:P.follows .mixedOrders=true) (hcf:∀(args:Array Value) (w:World),(callFunc f args).run P w=.ok (.enter f args) w)
 (hf:P.funcs[f]? =some fn) (hb:fn.body=some c) (hc:nG fn.ntmps pl c=true) (hs:Nat.ble vs.length fn.ntmps=true) (rs:List ResultVar) (hr:fn.results.toList=rs)
 (h:∀Q:V→St→Prop,(∀x,R x→Q (r x) (s x))→ei true P σ.length pl c (Fs 0 vs) σ (qA P rs (te σ.length Q))):FnR P f vs σ R r s:=
 Ns pl hm hcf hf hb (ff hc) hs rs hr (h _ fun x hx=>⟨x,hx,rfl,rfl⟩)
theorem NZ {e:Bool} {f:FuncId} {vs vs₀:List V} {σ σ₀:St} {X:Type} {R:X→Prop} {r:X→V} {s:X→St} {K:KV} (π:Pi) (F:List Nat) (spec:FnR P f vs₀ σ₀ R r s)
 (hk:∀x,R x→K true (lY (wF (iZ σ.length π) (σ.length+j4 π)) (r x)) (r7 π F σ (s x)))
 (h1:(RX π&&π.all (fun p=>match p with | some p=>decide (p<σ.length)&&!F.contains p | none=>true))=true:=by rfl)
 (h2:nM F.contains π σ σ₀ π:=by simp(disch:=(first | omega | (simp only[ajj,ajR,ajr,ajA,ajF,ajt,ajY,ajl,ajo,true_and,and_true];(try omega);done) | fail)) only[go_sem,Int.reduceEq,Int.reduceToNat,Nat.reduceAdd,Nat.reduceMul,Nat.reduceEqDiff, ↓reduceIte,true_and,and_true,and_self,ajE,ajz,ajp,V.lit.injEq,Value.int.injEq,Value.bool.injEq];try (first | omega | (simp;done) | (simp;omega)))
 (h3:qn F.contains π σ vs₀ vs:=by simp(disch:=(first | omega | (simp only[ajj,ajR,ajr,ajA,ajF,ajt,ajY,ajl,ajo,true_and,and_true];(try omega);done) | fail)) only[go_sem,Int.reduceEq,Int.reduceToNat,Nat.reduceAdd,Nat.reduceMul,Nat.reduceEqDiff, ↓reduceIte,true_and,and_true,and_self,ajE,ajz,ajp,V.lit.injEq,Value.int.injEq,Value.bool.injEq];try (first | omega | (simp;done) | (simp;omega))) (he:e=true→σ₀=[]:=by simp):dB P e f vs σ K:=
 wL π F spec ⟨h1,h2,h3⟩ he fun u s ⟨x,hx,h4,h5⟩=>by rw[h4,h5];exact hk x hx
end
@[go_sem] theorem TH {l:List V}:Mf (.cells l)=(FR.pnL l=true):=(rfl)
end Go.Vx
