import Derived.Test.YtcnlmelpnflhnaaGreatFa
import Derived.Test.YtcnlmelpnflhnaaGreatAa
import Derived.Test.YtcnlmelpnflhnaaGreatIk
import Derived.Test.YtcnlmelpnflhnaaGreatAb
import Derived.Test.YtcnlmelpnflhnaaGreatLa
namespace Go.Proofs.YtcnlmelpnflhnaaGreat
open Go.Eng Go.Vx
set_option linter.unusedSimpArgs false
set_option linter.unusedVariables false
set_option maxRecDepth 100000
def Cu {α:Type} (g:α) (L:List Bool) (d:Bool) (o:Option (α×Nat)):α×Int×Nat×Bool:=match o with | some (a,q)=>(a,0,q,d) | none=>(g,8,L.length,true)
theorem FK {A k:Nat}:(A%2^k=0↔(((A:Int):Rat)/(((2^k:Nat):Int):Rat)).num.natAbs%(((A:Int):Rat)/(((2^k:Nat):Int):Rat)).den=0)∧(A%2^k=0→(((A:Int):Rat)/(((2^k:Nat):Int):Rat)).num.natAbs/(((A:Int):Rat)/(((2^k:Nat):Int):Rat)).den=A/2^k):=by
 have hB:2^k≠0:=Nat.ne_of_gt (agV zd);have h:=r7 (L:=[]) (A:=A) (B:=2^k) (p:=0) hB;have hpos:0<(((A:Int):Rat)/(((2^k:Nat):Int):Rat)).den:=ai0 (Rat.den_nz _);rw[vS (agM _)] at h;have he:=wU (L:=[]) (n:=A) (k:=k);rw[show([]:List Bool).length=0 from rfl] at he;rw[he] at h;generalize (((A:Int):Rat)/(((2^k:Nat):Int):Rat)).num.natAbs=n at*
 generalize (((A:Int):Rat)/(((2^k:Nat):Int):Rat)).den=d at*
 have hlt:=agJ n hpos;unfold ni eO at h;rw[if_neg zo] at h
 by_cases h1:A%2^k=0
 · rw[if_pos h1] at h
   by_cases h2:n%d=0
   · rw[if_pos h2] at h
     simp only[if_true,if_false,ahA,Prod.mk.injEq] at h;refine⟨⟨fun _=>h2,fun _=>h1⟩,fun _=>?_⟩;exact Int.ofNat.inj h.1
   · rw[if_neg h2,if_neg zo] at h
     simp[ng] at h
 · rw[if_neg h1] at h
   by_cases h2:n%d=0
   · rw[if_pos h2] at h
     simp at h
   · exact⟨⟨fun e=>absurd e h1,fun e=>absurd e h2⟩,fun e=>absurd e h1⟩
theorem AQ {n K:Nat} (hn:n≤1099511627776) (hK:K≤1099511627776):RS 100000 (((n:Int):Rat)/((K:Int):Rat)):=
 (NN (k:=1) (l:=1) zd (GN zo zo) (GN zo zo)).mono zd
theorem uY {L:List Bool} {n k p:Nat} (hL:L.length≤1048576) (hn:n≤1099511627776) (hk:k≤40):aC Tryz.prog 134 [.ref 0 0 0 0,RV (((n:Int):Rat)/(((2^k:Nat):Int):Rat))] [some (aX L p true)]
 (.tup [.lit (.int .i64 (if n%2^k=0 then((n/2^k:Nat):Int) else 0)),.lit (.int .i64 (if n%2^k=0 then 0 else 8))]) [some (aX L p true)]:=by
 have hB:2^k≠0:=Nat.ne_of_gt (agV zd);have hB2:2^k≤1099511627776:=agI (agA zd hk) zd;obtain ⟨b1,b2⟩:=nU hB hn;obtain ⟨f1,f2⟩:=FK (A:=n) (k:=k);have hs:=AQ hn hB2;generalize ((n:Int):Rat)/(((2^k:Nat):Int):Rat)=x at*
 have hx:=ka (Rat.not_lt.1 b1);have hrs:=Ab hs;have hre:=tI hx;have hpos:0<x.den:=ai0 (Rat.den_nz _);have hlt:=agJ x.num.natAbs hpos
 have hz:(x-((x.floor:Int):Rat)).num.natAbs=0↔x.num.natAbs%x.den=0:=by
  rw[hre,er x.den_nz,jQ];constructor
  · intro h
    have hd:=aiO (x.num.natAbs%x.den) x.den;have e:=Nat.div_mul_cancel hd;simp only[ahe] at h;rw[h,ahK] at e;exact e.symm
  · intro h
    simp[h]
 have hy1:(x-((x.floor:Int):Rat)).num.natAbs<(x-((x.floor:Int):Rat)).den:=by
  rw[hre,er x.den_nz,gI x.den_nz,jQ,ahe];have hg:0<Nat.gcd (x.num.natAbs%x.den) x.den:=Nat.gcd_pos_of_pos_right _ hpos;have e1:=Nat.div_mul_cancel (aiO (x.num.natAbs%x.den) x.den);have e2:=Nat.div_mul_cancel (Nat.gcd_dvd_right (x.num.natAbs%x.den) x.den);generalize Nat.gcd (x.num.natAbs%x.den) x.den=g at*
  refine Nat.lt_of_mul_lt_mul_right (a:=g) ?_;rw[e1,e2];exact hlt
 have hr:=s9 (L:=L) (P:=(x-((x.floor:Int):Rat)).num.natAbs) (D:=(x-((x.floor:Int):Rat)).den) (p:=p) hL zo zo (agI hrs.1 zd) (agI hrs.2 zd);have h:=pW (L:=L) (p:=p) (p':=p) hs b1 b2 hr
 by_cases h1:n%2^k=0
 · rw[if_pos h1,if_pos h1]
   have h2:=f1.1 h1;rw[if_pos (hz.2 h2),if_pos rfl,f2 h1] at h;exact h
 · rw[if_neg h1,if_neg h1]
   have h2:=fun e=>h1 (f1.2 e);rw[if_neg (fun e=>h2 (hz.1 e)),if_neg zd] at h;exact h
def fQ (L:List Bool) (d:Bool) (n k p:Nat):Nat×Int×Nat×Bool:=Cu 0 L d ((eI n k).run L p)
theorem yj {L:List Bool} {n k p:Nat} {d:Bool} (hL:L.length≤1048576) (hp:p≤L.length) (hd:d=true→p=L.length) (hn:n≤1099511627776) (hk:k≤40):aC Tryz.prog 134 [.ref 0 0 0 0,RV (((n:Int):Rat)/(((2^k:Nat):Int):Rat))] [some (aX L p d)]
 (.tup [.lit (.int .i64 ((fQ L d n k p).1:Int)),.lit (.int .i64 (fQ L d n k p).2.1)]) [some (aX L (fQ L d n k p).2.2.1 (fQ L d n k p).2.2.2)]:=by
 unfold fQ
 cases d with
 | true=>
   obtain rfl:=hd rfl;have h:=uY (L:=L) (n:=n) (k:=k) (p:=L.length) hL hn hk;rw[wU]
   by_cases h1:n%2^k=0
   · rw[if_pos h1] at h ⊢
     rw[if_pos h1] at h;exact h
   · rw[if_neg h1] at h ⊢
     rw[if_neg h1] at h;exact h
 | false=>
   have hB:2^k≠0:=Nat.ne_of_gt (agV zd);have hB2:2^k≤1099511627776:=agI (agA zd hk) zd;obtain ⟨b1,b2⟩:=nU hB hn;have hs:=AQ hn hB2;have h:=CQ (L:=L) (p:=p) hL hp hs b1 b2;rw[r7 hB,vS hp] at h
   cases hr:(eI n k).run L p with
   | none=>
     rw[hr] at h;exact h
   | some x=>
     rw[hr] at h;exact h
theorem nR {L:List Bool} {n k p:Nat} {d:Bool} (hL:L.length≤1048576) (hp:p≤L.length) (hd:d=true→p=L.length) (hn:n≤1099511627776) (hk:k≤40):aC Tryz.prog 73 [.ref 0 0 0 0,NV n,.lit (.int .i64 (k:Int))] [some (aX L p d)]
 (.tup [.lit (.int .i64 ((fQ L d n k p).1:Int)),.lit (.int .i64 (fQ L d n k p).2.1)]) [some (aX L (fQ L d n k p).2.2.1 (fQ L d n k p).2.2.2)]:=by
 have hB:2^k≠0:=Nat.ne_of_gt (agV zd);have hB2:2^k≤1099511627776:=agI (agA zd hk) zd;have o:=dV (x:=1) zd;have s:=tA (v:=1) (N:=k) zo (agI (cK zd) zd);rw[ahH] at s;rw[show((1:Nat):Int)=1 from rfl] at o;have r:=yj hL hp hd hn hk;generalize 2^k=K at*
 have w1:=cu (b:=false) (n:=n) (agI (cK zo) zd);have w2:=cu (b:=false) (n:=K) (agI (cK zo) zd);have f:=FD (p:=(n:Int)) (q:=(K:Int)) zo (agI (cK zo) zd) (agI (cK zo) zd);rw[show sg false n=(n:Int) from rfl] at w1;rw[show sg false K=(K:Int) from rfl] at w2;generalize fQ L d n k p=x at*
 generalize ((n:Int):Rat)/((K:Int):Rat)=y at*
 refine zF WH Tryz.call73 Tryz.func73 [.tmp 6,.tmp 7] fun Q hQ=>?_;refine ae ?_;refine zW [] [2] o ?_;refine zC s ?_;refine zC w1 ?_;refine zC w2 ?_;refine zC f ?_;refine zW [some 0] [] r ?_;exact ak [some 0] hQ
open Go.Eng
structure PW (P:SP):Prop extends PB P where
 m255:P.m≤255
 d3:P.d≤3
 s4:P.s≤4
theorem Fm {c:Cell} {s A:Nat} (hc:c.1≤A) (hm:c.2≤3) (hs:s≤4):gS c s≤A*4096:=by
 unfold gS;have h1:s*c.2≤4*3:=agQ hs hm;have h2:2^(s*c.2)≤2^12:=agA zd zo;exact agQ hc h2
theorem tK {P:SP} {v s:Nat}:ba P v s P.d 0≤P.d:=(jZ (P:=P) (v:=v) (s:=s) (f:=P.d) (m:=0) zo).1
theorem E0 {s m:Nat} (hs:s≤4) (hm:m≤3):s*m≤12:=by
 have:=agQ hs hm
 omega
theorem td {L:List Bool} {n k p a q:Nat} (h:(eI n k).run L p=some (a,q)):a≤n/2^k+1∧a≤n+1:=by
 have h1:=ig (qH n k) h
 have:=ahv n (2^k)
 omega
theorem run_map {α β:Type} {L:List Bool} {f:α→β} {t:DT α} {p:Nat}:(t.bind fun r=>DT.ret (f r)).run L p=(t.run L p).map (fun x=>(f x.1,x.2)):=by
 rw[run_bind]
 cases t.run L p with
 | none=>rfl
 | some x=>rfl
theorem AM {P:SP} {L:List Bool} {v s p:Nat}:(DR P v s).run L p=((eI v (s*ba P v s P.d 0)).run L p).map (fun r=>((r.1,ba P v s P.d 0),r.2)):=run_map
theorem Ag {L:List Bool} {c:Cell} {s p:Nat}:(Ee c s).run L p=((eI c.1 s).run L p).map (fun r=>((r.1,c.2+1),r.2)):=run_map
theorem KN {P:SP} {L:List Bool} {c:Cell} {w p:Nat}:(IQ P w c).run L p=match (DR P (gS c w) (w+1)).run L p with | some (c1,q)=>if P.m<c1.1 then(Ee c1 (w+1)).run L q else some (c1,q) | none=>none:=by
 unfold IQ;rw[run_bind]
 cases (DR P (gS c w) (w+1)).run L p with
 | none=>rfl
 | some x=>
   obtain ⟨c1,q⟩:=x
   show(if P.m<c1.1 then Ee c1 (w+1) else .ret c1).run L q=if P.m<c1.1 then(Ee c1 (w+1)).run L q else some (c1,q)
   split<;>rfl
theorem JM {P:SP} {L:List Bool} {w k p:Nat} {i:Int} {c own:Cell} {cs:List Cell} (hk:(k:Int)=i):(iD P w i (c::cs) k own).run L p=match (DR P (gS own w) (w+1)).run L p with | some (o,q)=>((iD P w i cs (k+1) o).run L q).map (fun r=>((c::r.1.1,r.1.2),r.2)) | none=>none:=by
 rw[iD.eq_2,if_pos hk,run_bind]
 cases (DR P (gS own w) (w+1)).run L p with
 | none=>rfl
 | some x=>exact run_map
theorem Di {P:SP} {L:List Bool} {w k p:Nat} {i:Int} {c own:Cell} {cs:List Cell} (hk:¬(k:Int)=i):(iD P w i (c::cs) k own).run L p=match (IQ P w c).run L p with | some (c1,q)=>((iD P w i cs (k+1) own).run L q).map (fun r=>((fT c1::r.1.1,r.1.2),r.2)) | none=>none:=by
 rw[iD.eq_2,if_neg hk,run_bind]
 cases (IQ P w c).run L p with
 | none=>rfl
 | some x=>exact run_map
theorem gn {α:Type} {L:List Bool} {t:DT α} {d:Bool} {p q:Nat} {a:α} (hp:p≤L.length) (hd:d=true→p=L.length) (h:t.run L p=some (a,q)):q≤L.length∧(d=true→q=L.length):=by
 have:=qx hp h
 refine⟨this.2,fun e=>?_⟩
 have:=hd e
 omega
def fm (L:List Bool) (N key:Nat):List (Nat×Nat)→Nat→Option (List (Nat×Nat)×Nat)
 | [],p=>some ([],p)
 | x::xs,p=>if (bP L N p).2.1=0 then(fm L N key xs (bP L N p).2.2.1).map fun r=>(LY key (bP L N p).1 x::r.1,r.2) else none
theorem s8 {L:List Bool} {n p:Nat} (hn:0<n) (h:(bP L n p).2.1=0):(bP L n p).2.2.2=false∧(bP L n p).1<n:=by
 rcases mK (L:=L) (p:=p) hn with e | ⟨x,q,hx,e⟩
 · rw[e] at h;exact absurd h (show¬(8:Int)=0 by decide)
 · rw[e];exact⟨rfl,hx⟩
theorem zb {L:List Bool} {n p:Nat} (hn:0<n) (h:(bP L n p).2.1≠0):bP L n p=(0,8,L.length,true):=by
 rcases mK (L:=L) (p:=p) hn with e | ⟨x,q,hx,e⟩
 · exact e
 · rw[e] at h;exact absurd rfl h
theorem Ih {L:List Bool} {N key:Nat}:∀{X:List (Nat×Nat)} {p:Nat} {X':List (Nat×Nat)} {q:Nat},p≤L.length→fm L N key X p=some (X',q)→p≤q∧q≤L.length∧X'.length=X.length:=by
 intro X
 induction X with
 | nil=>
   intro p X' q hp h;unfold fm at h
   cases h
   exact⟨agt _,hp,rfl⟩
 | cons x xs ih=>
   intro p X' q hp h;unfold fm at h
   split at h
   · rename_i h0
     obtain ⟨e1,e2⟩:=rj (L:=L) (n:=N) hp
     cases hr:fm L N key xs (bP L N p).2.2.1 with
     | none=>rw[hr] at h;cases h
     | some r=>
       obtain ⟨r1,r2⟩:=r;rw[hr] at h
       cases h
       obtain ⟨a,b,c⟩:=ih e2 hr;exact⟨by omega,b,by simp[c]⟩
   · cases h
theorem qL {L:List Bool} {N key:Nat} (hN:0<N) {A B:Nat×Nat→Prop} (hAB:∀x a,a<N→A x→B (LY key a x)):∀{X:List (Nat×Nat)} {p:Nat} {X':List (Nat×Nat)} {q:Nat},(∀x∈X,A x)→fm L N key X p=some (X',q)→∀x∈X',B x:=by
 intro X
 induction X with
 | nil=>
   intro p X' q _ h;unfold fm at h
   cases h
   exact fun x hx=>by cases hx
 | cons x xs ih=>
   intro p X' q hX h;unfold fm at h
   split at h
   · rename_i h0
     cases hr:fm L N key xs (bP L N p).2.2.1 with
     | none=>rw[hr] at h;cases h
     | some r=>
       obtain ⟨r1,r2⟩:=r;rw[hr] at h
       cases h
       intro y hy;rcases agG.1 hy with e | e
       · rw[e];exact hAB x _ (s8 hN h0).2 (hX x (by simp))
       · exact ih (fun z hz=>hX z (by simp[hz])) hr y e
   · cases h
def alone (key N:Nat) (x:Nat×Nat):Prop:=x.1=key∧1≤x.2∧x.2≤N
theorem Ki {L:List Bool} {N key B:Nat} {X X':List (Nat×Nat)} {p q:Nat} (hk:key<B) (hX:∀x∈X,x.1<B∧x.2≤N) (h:fm L (N+1) key X p=some (X',q)):∀x∈X',x.1<B∧x.2≤N+1:=by
 refine qL (aic N) (A:=fun x=>x.1<B∧x.2≤N) (fun x a ha hx=>?_) hX h;unfold LY
 split
 · exact⟨hk,by show 1≤N+1;omega⟩
 · split
   · exact⟨hx.1,by show x.2+1≤N+1;omega⟩
   · exact⟨hx.1,by omega⟩
end Go.Proofs.YtcnlmelpnflhnaaGreat
