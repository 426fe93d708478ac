import Derived.Test.YtcnlmelpnflhnaaGreatE6
import Derived.Test.YtcnlmelpnflhnaaGreatRa
import Derived.Test.YtcnlmelpnflhnaaGreatD1
import Derived.Test.YtcnlmelpnflhnaaGreatE7
import Derived.Test.YtcnlmelpnflhnaaGreatFb
import Derived.Test.YtcnlmelpnflhnaaGreatSf
namespace Go.Proofs.YtcnlmelpnflhnaaGreat
open Go.Eng Go.Vx
set_option linter.unusedSimpArgs false
set_option linter.unusedVariables false
set_option maxRecDepth 100000
def dg (n:Nat):List Nat:=l8 10000 n
def DV (n:Nat):V:=.row 1 ((nl (dg n)).map (ie .i64))
attribute [go_sem] DV
def wv (W:List Nat):Nat:=aE 18446744073709551616 W
open Go.Eng
def UW (K:Nat) (s:Nat×Nat):Nat×Nat:=if 2*K≤s.1*s.1/K then(s.1*s.1/K/2,2*s.2+1) else(s.1*s.1/K,2*s.2)
def Rm (K:Nat) (s:Nat×Nat):Nat→Nat×Nat
 | 0=>s
 | j+1=>UW K (Rm K s j)
theorem RO {K:Nat} {s:Nat×Nat} (hK:0<K) (h:K≤s.1∧s.1<2*K):K≤(UW K s).1∧(UW K s).1<2*K∧(UW K s).2≤2*s.2+1:=by
 have h1:K*K≤s.1*s.1:=akH h.1 h.1
 have h2:s.1*s.1<4*K*K:=by
  have:=Nat.mul_lt_mul'' h.2 h.2
  have e:2*K*(2*K)=4*K*K:=by rw[Nat.mul_mul_mul_comm,akS 4]
  omega
 have h3:K≤s.1*s.1/K:=(alL hK).2 h1;have h4:s.1*s.1/K<4*K:=(akR hK).2 h2;unfold UW
 split
 · simp only;omega
 · simp only;omega
theorem Q5 {K x o:Nat} (hK:0<K) (h:K≤x∧x<2*K):∀j,K≤(Rm K (x,o) j).1∧(Rm K (x,o) j).1<2*K∧(Rm K (x,o) j).2+1≤(o+1)*2^j
 | 0=>⟨h.1,h.2,by simp[Rm]⟩
 | j+1=>by
   obtain ⟨a,b,c⟩:=Q5 hK h j (o:=o)
   have:=RO hK ⟨a,b⟩
   refine⟨this.1,this.2.1,?_⟩;have h3:=this.2.2
   show(UW K (Rm K (x,o) j)).2+1≤_
   rw[akM,←akS];omega
def K62:Nat:=4611686018427387904
def lgN (n:Nat):Nat:=(Rm K62 (n*2^(62-(bl n-1)),bl n-1) 28).2
def D28:Nat:=268435456
@[go_sem] theorem agQ:pk []=[]:=(rfl)
theorem jB {B:List Int} {p w:Nat} (hI:gQ B) (hB:B.length≤1099511627776) (hw:w≤64) (hp:8*B.length<p+w) (hp2:p≤8*B.length):aA Tryz.prog 48 [.ref 0 0 0 0,.I w] [some (bU B p)] (.tup [.lit (.int .u64 0),.I 5]) [some (bU B p)]:=by
 refine zF pl Tryz.call48 Tryz.func48 [.tmp 4,.tmp 5] fun Q hQ=>?_;refine ae ?_;refine aC (nY) rfl rfl ?_;rw[aks (show(0:Int)≤(w:Int)∧(w:Int)≤64 by omega)];refine zq6 ?_;refine zW [some 0] [] (nX (p:=p) hB zo) ?_;exact ai [some 0] hQ
theorem La {B:List Int} {p:Nat} {w:Int} (hw:¬(0≤w∧w≤64)):aA Tryz.prog 48 [.ref 0 0 0 0,.I w] [some (bU B p)] (.tup [.lit (.int .u64 0),.I 2]) [some (bU B p)]:=by
 refine zF pl Tryz.call48 Tryz.func48 [.tmp 4,.tmp 5] fun Q hQ=>?_;refine ae ?_;refine aC (nY) rfl rfl ?_;rw[akg hw];exact zE [some 0] hQ
theorem rW {B:List Int} {p:Nat} {w:Int} (hI:gQ B) (hB:B.length≤1099511627776) (hp:p≤8*B.length):aA Tryz.prog 48 [.ref 0 0 0 0,.I w] [some (bU B p)]
 (.tup [.lit (.int .u64 ((rX (bitsOf B) p w).1:Int)),.I (rX (bitsOf B) p w).2.2]) [some (bU B (rX (bitsOf B) p w).2.1)]:=by
 unfold rX;have hbl:=aG B
 by_cases hw:0≤w∧w≤64
 · obtain ⟨m,rfl⟩:=al3 hw.1
   simp only[if_pos hw,ak0]
   by_cases h2:p+m≤(bitsOf B).length
   · simp only[if_pos h2]
     exact aP hI hB zo zo
   · simp only[if_neg h2]
     exact jB hI hB zo zo hp
 · simp only[if_neg hw]
   exact La hw
theorem eP {B:List Int} {p:Nat} (hI:gQ B) (hB:B.length≤1099511627776) (hp:p≤8*B.length):aA Tryz.prog 50 [.ref 0 0 0 0] [some (bU B p)] (.I (dE (bitsOf B) p)) [some (bU B p)]:=by
 refine zF pl Tryz.call50 Tryz.func50 [.tmp 2] fun Q hQ=>?_;have hbl:=aG B;unfold dE at hQ;refine ae ?_;refine aF [some 0] [] (nX (B:=B) (p:=p) hB hp) ?_
 by_cases h8:8≤(bitsOf B).length-p
 · rw[if_pos h8] at hQ
   exact zE [some 0] hQ
 · rw[if_neg h8] at hQ
   refine ae ?_
   refine aU (X:=Nat) (st:=fun i=>([(3,.ref 1 0 0 0)],[some (bU B p),some (bU B (p+i))]))
    (inv:=fun i=>p+i≤8*B.length∧(((bitsOf B).drop p).take i).any id=false) (m:=fun i=>8*B.length-p-i) 0 [some 0,some 1] ⟨by omega,by simp⟩ ?_
   rintro i ⟨hi,ha⟩;refine ae ?_;refine aF [some 1] [] (nX (B:=B) (p:=p+i) hB zo) ?_
   by_cases hil:p+i<8*B.length
   · refine ae ?_
     refine aF [some 1] [] (DL (B:=B) (p:=p+i) hI hB hil) ?_
     cases hb:(bitsOf B).getD (p+i) false with
     | true=>
       rw[if_pos (AX zo hb)] at hQ;refine afY hb ?_;exact ai [some 0] hQ
     | false=>
       refine ahn hb ?_;refine aR (i+1) [some 0,some 1] ⟨by omega,J3 zo hb ha⟩ zo
   · refine ae ?_
     rw[aku (by simp;omega)] at ha;rw[if_neg (by rw[ha];simp)] at hQ;exact ai [some 0] hQ
theorem rk {B:List Int} {p:Nat} (hI:gQ B) (hB:B.length≤1099511627776) (hp:p≤8*B.length):aA Tryz.prog 150 [.ref 0 0 0 0] [some (bU B p)]
 (.tup [.lit (.bool (decide ((rX (bitsOf B) p 1).1=1))),.I (rX (bitsOf B) p 1).2.2]) [some (bU B (rX (bitsOf B) p 1).2.1)]:=by
 refine zF pl Tryz.call150 Tryz.func150 [.tmp 2,.tmp 3] fun Q hQ=>?_;refine ae ?_;refine zW [some 0] [] (rW (B:=B) (p:=p) (w:=1) hI hB hp) ?_;rw[show decide (((rX (bitsOf B) p 1).1:Int)=1)=decide ((rX (bitsOf B) p 1).1=1) by rw[decide_eq_decide];omega];exact ai [some 0] hQ
theorem ye {A B:Nat} (hB:B≠0):¬(((A:Int):Rat)/((B:Int):Rat)).num<0:=by
 have h:=qt (p:=(A:Int)) (q:=(B:Int)) zo;rw[akg (show¬(A:Int)<0 by omega),akg (show¬(B:Int)<0 by omega)] at h;rw[←h];exact vm hB
theorem J7 {a:Int} (h0: -9223372036854775808≤a) (h1:a≤9223372036854775807):RS 1 (a:Rat):=te (Rw h0 h1) zd
def wrP (L:List Bool):V:=.rref 2 [[.row 1 ((pk L).map (ie .u8)),.I L.length]] 0 0
attribute [go_sem] wrP
theorem uU {L:List Bool} (hm:L.length<1099511627776):aA Tryz.prog 45 [wrP L] [] (.sl 0 1 0 (pk L).length) [some (jN L)]:=by
 refine zF pl Tryz.call45 Tryz.func45 [.tmp 2] fun Q hQ=>?_;have hpl:=k9 L;exact zE [some 0] hQ
structure PW (P:SP):Prop extends PB P where
 m255:P.m≤255
 d3:P.d≤3
 s4:P.s≤4
theorem Iw {c:Cell} {s A:Nat} (hc:c.1≤A) (hm:c.2≤3) (hs:s≤4):iN c s≤A*4096:=by
 unfold iN;have h1:s*c.2≤4*3:=akH hs hm;have h2:2^(s*c.2)≤2^12:=ako zd zo;exact akH hc h2
theorem wc {P:SP} {v s:Nat}:bu P v s P.d 0≤P.d:=(k8 (P:=P) (v:=v) (s:=s) (f:=P.d) (m:=0) zo).1
theorem H6 {s m:Nat} (hs:s≤4) (hm:m≤3):s*m≤12:=by
 have:=akH hs hm
 omega
theorem vF {L:List Bool} {n k p a q:Nat} (h:(fq n k).run L p=some (a,q)):a≤n/2^k+1∧a≤n+1:=by
 have h1:=i5 (sW n k) h
 have:=alq n (2^k)
 omega
theorem run_map {α β:Type} {L:List Bool} {f:α→β} {t:DT α} {p:Nat}:(t.bind fun r=>DT.ret (f r)).run L p=(t.run L p).map (fun x=>(f x.1,x.2)):=by
 rw[run_bind]
 cases t.run L p with
 | none=>rfl
 | some x=>rfl
theorem DG {P:SP} {L:List Bool} {v s p:Nat}:(GQ P v s).run L p=((fq v (s*bu P v s P.d 0)).run L p).map (fun r=>((r.1,bu P v s P.d 0),r.2)):=run_map
theorem C8 {L:List Bool} {c:Cell} {s p:Nat}:(Hc c s).run L p=((fq c.1 s).run L p).map (fun r=>((r.1,c.2+1),r.2)):=run_map
theorem OL {P:SP} {L:List Bool} {c:Cell} {w p:Nat}:(MG P w c).run L p=match (GQ P (iN c w) (w+1)).run L p with | some (c1,q)=>if P.m<c1.1 then(Hc c1 (w+1)).run L q else some (c1,q) | none=>none:=by
 unfold MG;rw[run_bind]
 cases (GQ P (iN c w) (w+1)).run L p with
 | none=>rfl
 | some x=>
   obtain ⟨c1,q⟩:=x
   show(if P.m<c1.1 then Hc c1 (w+1) else .ret c1).run L q=if P.m<c1.1 then(Hc c1 (w+1)).run L q else some (c1,q)
   split<;>rfl
theorem NJ {P:SP} {L:List Bool} {w k p:Nat} {i:Int} {c own:Cell} {cs:List Cell} (hk:(k:Int)=i):(jl P w i (c::cs) k own).run L p=match (GQ P (iN own w) (w+1)).run L p with | some (o,q)=>((jl P w i cs (k+1) o).run L q).map (fun r=>((c::r.1.1,r.1.2),r.2)) | none=>none:=by
 rw[jl.eq_2,if_pos hk,run_bind]
 cases (GQ P (iN own w) (w+1)).run L p with
 | none=>rfl
 | some x=>exact run_map
theorem Gf {P:SP} {L:List Bool} {w k p:Nat} {i:Int} {c own:Cell} {cs:List Cell} (hk:¬(k:Int)=i):(jl P w i (c::cs) k own).run L p=match (MG P w c).run L p with | some (c1,q)=>((jl P w i cs (k+1) own).run L q).map (fun r=>((gS c1::r.1.1,r.1.2),r.2)) | none=>none:=by
 rw[jl.eq_2,if_neg hk,run_bind]
 cases (MG P w c).run L p with
 | none=>rfl
 | some x=>exact run_map
theorem il {α:Type} {L:List Bool} {t:DT α} {d:Bool} {p q:Nat} {a:α} (hp:p≤L.length) (hd:d=true→p=L.length) (h:t.run L p=some (a,q)):q≤L.length∧(d=true→q=L.length):=by
 have:=sJ hp h
 refine⟨this.2,fun e=>?_⟩
 have:=hd e
 omega
def ahY (c bit:Nat):Nat:=if c%2=bit then c/2 else(c/2)^^^3988292384
def bst (x b k:Nat):Nat:=bX x k^^^(b/2^k)
end Go.Proofs.YtcnlmelpnflhnaaGreat
