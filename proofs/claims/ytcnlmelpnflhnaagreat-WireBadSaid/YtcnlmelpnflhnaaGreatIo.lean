import Derived.Test.YtcnlmelpnflhnaaGreatIn
namespace Go.Proofs.YtcnlmelpnflhnaaGreat
open Go.Eng Go.Vx
set_option linter.unusedSimpArgs false
set_option linter.unusedVariables false
set_option maxRecDepth 100000
theorem qQ {L:List Bool} {p:Nat} {e:Int} (h:1≤(eY L p e).1∧(eY L p e).1≤256):e=0∧(eY L p e).2.2=0:=by
 have hl:=Hl (L:=L) (p:=p);unfold eY at*
 split at h
 · rename_i h1
   refine⟨h1,?_⟩;rw[if_pos h1]
   split at h
   · rename_i h2
     rw[if_pos h2]
     split at h
     · rename_i h3
       exfalso;dsimp only at h
       have:IntKind.i64.wrap (((gX L p).1:Int)-1)=((gX L p).1:Int)-1∨IntKind.i64.wrap (((gX L p).1:Int)-1)=((gX L p).1:Int)-1-18446744073709551616:=by
        simp[IntKind.wrap,IntKind.bits,IntKind.signed];omega
       omega
     · rename_i h3
       rw[if_neg h3]
   · omega
 · omega
def p7 (t:Int):V:=.agg [.I t,.I 0,.I 0,.I 0,.I 0,.I 0,.lit (.bool false),.lit (.pointer none),.lit (.pointer none),.lit (.pointer none),.lit (.pointer none)]
def S5 (v:Nat):V:=.agg [.I 4,.I 0,.I 0,.I 0,.I 0,.I 0,.lit (.bool false),.lit (.pointer none),.lit (.pointer none),.ref v 0 0 0,.lit (.pointer none)]
attribute [go_sem] p7 S5
set_option maxHeartbeats 4000000 in
theorem mZ {B:List Int} {K A Z:Int} {p p1 q:Nat} {e1 er s1 s2:Int} {f:Bool} (hI:gQ B) (hB:B.length≤1099511627776) (hp:p≤8*B.length) (h1:xy (bitsOf B) p 0=((K,A,Z),p1,e1))
 (hr:aA Tryz.prog 105 [.agg [.I K,.I A,.I Z],.ref 0 0 0 0] [some (bU B p1)] (.tup [.agg [.I s1,.I s2,.lit (.bool f)],.I er]) [some (bU B q)]):
 aA Tryz.prog 49 [.ref 0 0 0 0,.I 1] [some (cE 1 0),some (bU B p)] (.agg [.I 1,.I K,.I A,.I Z,.I s1,.I s2,.lit (.bool f),.lit (.pointer none),.lit (.pointer none),.lit (.pointer none),.lit (.pointer none)])
  [some (cE 1 (if e1=0 then er else e1)),some (bU B q)]:=by
 have hbl:=aG B;have r1:=oz (p:=p) (e:=0) hI hB zo;have l1:=kN (L:=bitsOf B) (p:=p) (e:=0) zo;rw[h1] at r1 l1;dsimp only at r1 l1;refine zF mL Tryz.call49 Tryz.func49 [.cell 4 42] fun Q hQ=>?_
 by_cases he:e1=0
 · rw[if_pos he] at hQ
   subst he;refine ae ?_;refine zW [some 0,some 1] [] r1 ?_;refine zW [some 1] [] hr ?_;exact ai [some 0,some 1] hQ
 · rw[if_neg he] at hQ
   refine ae ?_;refine zW [some 0,some 1] [] r1 ?_;refine zW [some 1] [] hr ?_;exact ai [some 0,some 1] hQ
set_option maxHeartbeats 4000000 in
theorem pE {B:List Int} {K A Z n:Int} {p p1 p2 q:Nat} {e1 e2 er:Int} (hI:gQ B) (hB:B.length≤1099511627776) (hp:p≤8*B.length) (h1:xy (bitsOf B) p 0=((K,A,Z),p1,e1)) (h2:eY (bitsOf B) p1 e1=(n,p2,e2))
 (hr:aA Tryz.prog 106 [.ref 0 0 0 0,.agg [.I K,.I A,.I Z],.I n] [some (bU B p2)] (.tup [.lit (.pointer none),.I er]) [some (bU B q)]):
 aA Tryz.prog 49 [.ref 0 0 0 0,.I 2] [some (cE 1 0),some (bU B p)] (p7 2) [some (cE 1 (if e2=0 then er else e2)),some (bU B q)]:=by
 have hbl:=aG B;have r1:=oz (p:=p) (e:=0) hI hB zo;have l1:=kN (L:=bitsOf B) (p:=p) (e:=0) zo;rw[h1] at r1 l1;dsimp only at r1 l1;have r2:=cc (p:=p1) (e:=e1) hI hB zo;have l2:=bJ (L:=bitsOf B) (p:=p1) (e:=e1) l1;rw[h2] at r2 l2;dsimp only at r2 l2;refine zF mL Tryz.call49 Tryz.func49 [.cell 4 42] fun Q hQ=>?_
 by_cases he:e2=0
 · rw[if_pos he] at hQ
   subst he;refine ae ?_;refine aF [some 0,some 1] [] (r1) ?_;refine eT ?_
   repeat' refine And.intro ?_ ?_
   all_goals
    refine aF [some 0,some 1] [] (r2) ?_;refine eT ?_
    repeat' refine And.intro ?_ ?_
    all_goals
     refine zW [some 1] [] hr ?_;exact ai [some 0,some 1] hQ
 · rw[if_neg he] at hQ
   refine ae ?_;refine aF [some 0,some 1] [] (r1) ?_;refine eT ?_
   repeat' refine And.intro ?_ ?_
   all_goals
    refine aF [some 0,some 1] [] (r2) ?_;refine eT ?_
    repeat' refine And.intro ?_ ?_
    all_goals
     refine zW [some 1] [] hr ?_;exact ai [some 0,some 1] hQ
set_option maxHeartbeats 4000000 in
theorem BZ {B:List Int} {K A Z n:Int} {p p1 p2 q:Nat} {e1 e2:Int} {k a b n0:Nat} {l:List SR} (hI:gQ B) (hB:B.length≤1099511627776) (hp:p≤8*B.length) (h1:xy (bitsOf B) p 0=((K,A,Z),p1,e1)) (h2:eY (bitsOf B) p1 e1=(n,p2,e2))
 (hr:aA Tryz.prog 106 [.ref 0 0 0 0,.agg [.I K,.I A,.I Z],.I n] [some (bU B p2)] (.tup [.ref 1 0 0 0,.I 0]) [some (bU B q),some (cX 2 k a b),some (cI 3 n0 (wd k a b)),some (cx n0 (wd k a b) (bj (wd k a b) (l.map (iL k a b))))]):
 aA Tryz.prog 49 [.ref 0 0 0 0,.I 2] [some (cE 1 0),some (bU B p)] (itA 2) [some (cE 1 (if e2=0 then 0 else e2)),some (bU B q),some (cX 3 k a b),some (cI 4 n0 (wd k a b)),some (cx n0 (wd k a b) (bj (wd k a b) (l.map (iL k a b))))]:=by
 have hbl:=aG B;have r1:=oz (p:=p) (e:=0) hI hB zo;have l1:=kN (L:=bitsOf B) (p:=p) (e:=0) zo;rw[h1] at r1 l1;dsimp only at r1 l1;have r2:=cc (p:=p1) (e:=e1) hI hB zo;have l2:=bJ (L:=bitsOf B) (p:=p1) (e:=e1) l1;rw[h2] at r2 l2;dsimp only at r2 l2;refine zF mL Tryz.call49 Tryz.func49 [.cell 4 42] fun Q hQ=>?_
 by_cases he:e2=0
 · rw[if_pos he] at hQ
   subst he;refine ae ?_;refine aF [some 0,some 1] [] (r1) ?_;refine eT ?_
   repeat' refine And.intro ?_ ?_
   all_goals
    refine aF [some 0,some 1] [] (r2) ?_;refine eT ?_
    repeat' refine And.intro ?_ ?_
    all_goals
     refine zW [some 1] [] hr ?_;exact ai [some 0,some 1,some 4,some 5,some 6] hQ
 · rw[if_neg he] at hQ
   refine ae ?_;refine aF [some 0,some 1] [] (r1) ?_;refine eT ?_
   repeat' refine And.intro ?_ ?_
   all_goals
    refine aF [some 0,some 1] [] (r2) ?_;refine eT ?_
    repeat' refine And.intro ?_ ?_
    all_goals
     refine zW [some 1] [] hr ?_;exact ai [some 0,some 1,some 4,some 5,some 6] hQ
set_option maxHeartbeats 4000000 in
theorem pI {B:List Int} {M D S n:Int} {p p1 p2 p3 p4 q:Nat} {e1 e2 e3 e4 er:Int} (hI:gQ B) (hB:B.length≤1099511627776) (hp:p≤8*B.length) (h1:eY (bitsOf B) p 0=(M,p1,e1)) (h2:eY (bitsOf B) p1 e1=(D,p2,e2)) (h3:eY (bitsOf B) p2 e2=(S,p3,e3)) (h4:eY (bitsOf B) p3 e3=(n,p4,e4))
 (hr:aA Tryz.prog 108 [.ref 0 0 0 0,.agg [.I M,.I D,.I S],.I n] [some (bU B p4)] (.tup [.lit (.pointer none),.I er]) [some (bU B q)]):
 aA Tryz.prog 49 [.ref 0 0 0 0,.I 3] [some (cE 1 0),some (bU B p)] (p7 3) [some (cE 1 (if e4=0 then er else e4)),some (bU B q)]:=by
 have hbl:=aG B;have r1:=cc (p:=p) (e:=0) hI hB zo;have l1:=bJ (L:=bitsOf B) (p:=p) (e:=0) zo;rw[h1] at r1 l1;dsimp only at r1 l1;have r2:=cc (p:=p1) (e:=e1) hI hB zo;have l2:=bJ (L:=bitsOf B) (p:=p1) (e:=e1) l1;rw[h2] at r2 l2;dsimp only at r2 l2;have r3:=cc (p:=p2) (e:=e2) hI hB zo;have l3:=bJ (L:=bitsOf B) (p:=p2) (e:=e2) l2;rw[h3] at r3 l3;dsimp only at r3 l3;have r4:=cc (p:=p3) (e:=e3) hI hB zo;have l4:=bJ (L:=bitsOf B) (p:=p3) (e:=e3) l3;rw[h4] at r4 l4;dsimp only at r4 l4;refine zF mL Tryz.call49 Tryz.func49 [.cell 4 42] fun Q hQ=>?_
 by_cases he:e4=0
 · rw[if_pos he] at hQ
   subst he;refine ae ?_;refine zW [some 0,some 1] [] r1 ?_;refine zW [some 0,some 1] [] r2 ?_;refine aF [some 0,some 1] [] (r3) ?_;refine eT ?_
   repeat' refine And.intro ?_ ?_
   all_goals
    refine aF [some 0,some 1] [] (r4) ?_;refine eT ?_
    repeat' refine And.intro ?_ ?_
    all_goals
     refine zW [some 1] [] hr ?_;exact ai [some 0,some 1] hQ
 · rw[if_neg he] at hQ
   refine ae ?_;refine zW [some 0,some 1] [] r1 ?_;refine zW [some 0,some 1] [] r2 ?_;refine aF [some 0,some 1] [] (r3) ?_;refine eT ?_
   repeat' refine And.intro ?_ ?_
   all_goals
    refine aF [some 0,some 1] [] (r4) ?_;refine eT ?_
    repeat' refine And.intro ?_ ?_
    all_goals
     refine zW [some 1] [] hr ?_;exact ai [some 0,some 1] hQ
set_option maxHeartbeats 4000000 in
theorem Aq {B:List Int} {M D S n:Int} {p p1 p2 p3 p4 q:Nat} {e1 e2 e3 e4:Int} {m0 d0 s0:Nat} {st:SS} (hI:gQ B) (hB:B.length≤1099511627776) (hp:p≤8*B.length) (h1:eY (bitsOf B) p 0=(M,p1,e1)) (h2:eY (bitsOf B) p1 e1=(D,p2,e2)) (h3:eY (bitsOf B) p2 e2=(S,p3,e3)) (h4:eY (bitsOf B) p3 e3=(n,p4,e4))
 (hr:aA Tryz.prog 108 [.ref 0 0 0 0,.agg [.I M,.I D,.I S],.I n] [some (bU B p4)] (.tup [.ref 1 0 0 0,.I 0]) [some (bU B q),some (zG m0 d0 s0 st)]):
 aA Tryz.prog 49 [.ref 0 0 0 0,.I 3] [some (cE 1 0),some (bU B p)] (Za 2) [some (cE 1 (if e4=0 then 0 else e4)),some (bU B q),some (zG m0 d0 s0 st)]:=by
 have hbl:=aG B;have r1:=cc (p:=p) (e:=0) hI hB zo;have l1:=bJ (L:=bitsOf B) (p:=p) (e:=0) zo;rw[h1] at r1 l1;dsimp only at r1 l1;have r2:=cc (p:=p1) (e:=e1) hI hB zo;have l2:=bJ (L:=bitsOf B) (p:=p1) (e:=e1) l1;rw[h2] at r2 l2;dsimp only at r2 l2;have r3:=cc (p:=p2) (e:=e2) hI hB zo;have l3:=bJ (L:=bitsOf B) (p:=p2) (e:=e2) l2;rw[h3] at r3 l3;dsimp only at r3 l3;have r4:=cc (p:=p3) (e:=e3) hI hB zo;have l4:=bJ (L:=bitsOf B) (p:=p3) (e:=e3) l3;rw[h4] at r4 l4;dsimp only at r4 l4;refine zF mL Tryz.call49 Tryz.func49 [.cell 4 42] fun Q hQ=>?_
 by_cases he:e4=0
 · rw[if_pos he] at hQ
   subst he;refine ae ?_;refine zW [some 0,some 1] [] r1 ?_;refine zW [some 0,some 1] [] r2 ?_;refine aF [some 0,some 1] [] (r3) ?_;refine eT ?_
   repeat' refine And.intro ?_ ?_
   all_goals
    refine aF [some 0,some 1] [] (r4) ?_;refine eT ?_
    repeat' refine And.intro ?_ ?_
    all_goals
     refine zW [some 1] [] hr ?_;exact ai [some 0,some 1,some 4] hQ
 · rw[if_neg he] at hQ
   refine ae ?_;refine zW [some 0,some 1] [] r1 ?_;refine zW [some 0,some 1] [] r2 ?_;refine aF [some 0,some 1] [] (r3) ?_;refine eT ?_
   repeat' refine And.intro ?_ ?_
   all_goals
    refine aF [some 0,some 1] [] (r4) ?_;refine eT ?_
    repeat' refine And.intro ?_ ?_
    all_goals
     refine zW [some 1] [] hr ?_;exact ai [some 0,some 1,some 4] hQ
set_option maxHeartbeats 4000000 in
theorem pP {B:List Int} {R C K A Z:Int} {p p1 p2 p3 q:Nat} {e1 e2 e3 er:Int} (hI:gQ B) (hB:B.length≤1099511627776) (hp:p≤8*B.length) (h1:eY (bitsOf B) p 0=(R,p1,e1)) (h2:eY (bitsOf B) p1 e1=(C,p2,e2)) (h3:xy (bitsOf B) p2 e2=((K,A,Z),p3,e3))
 (hr:aA Tryz.prog 109 [.ref 0 0 0 0,.agg [.I R,.I C,.I K,.I A,.I Z]] [some (bU B p3)] (.tup [.lit (.pointer none),.I er]) [some (bU B q)]):
 aA Tryz.prog 49 [.ref 0 0 0 0,.I 4] [some (cE 1 0),some (bU B p)] (p7 4) [some (cE 1 (if e3=0 then er else e3)),some (bU B q)]:=by
 have hbl:=aG B;have r1:=cc (p:=p) (e:=0) hI hB zo;have l1:=bJ (L:=bitsOf B) (p:=p) (e:=0) zo;rw[h1] at r1 l1;dsimp only at r1 l1;have r2:=cc (p:=p1) (e:=e1) hI hB zo;have l2:=bJ (L:=bitsOf B) (p:=p1) (e:=e1) l1;rw[h2] at r2 l2;dsimp only at r2 l2;have r3:=oz (p:=p2) (e:=e2) hI hB zo;have l3:=kN (L:=bitsOf B) (p:=p2) (e:=e2) l2;rw[h3] at r3 l3;dsimp only at r3 l3;refine zF mL Tryz.call49 Tryz.func49 [.cell 4 42] fun Q hQ=>?_
 by_cases he:e3=0
 · rw[if_pos he] at hQ
   subst he;refine ae ?_;refine zW [some 0,some 1] [] r1 ?_;refine aF [some 0,some 1] [] (r2) ?_;refine eT ?_
   repeat' refine And.intro ?_ ?_
   all_goals
    refine aF [some 0,some 1] [] (r3) ?_;refine eT ?_
    repeat' refine And.intro ?_ ?_
    all_goals
     refine zW [some 1] [] hr ?_;exact ai [some 0,some 1] hQ
 · rw[if_neg he] at hQ
   refine ae ?_;refine zW [some 0,some 1] [] r1 ?_;refine aF [some 0,some 1] [] (r2) ?_;refine eT ?_
   repeat' refine And.intro ?_ ?_
   all_goals
    refine aF [some 0,some 1] [] (r3) ?_;refine eT ?_
    repeat' refine And.intro ?_ ?_
    all_goals
     refine zW [some 1] [] hr ?_;exact ai [some 0,some 1] hQ
set_option maxHeartbeats 4000000 in
theorem Cs {B:List Int} {R C K A Z:Int} {p p1 p2 p3 q:Nat} {e1 e2 e3:Int} {r0 c0 k a b T:Nat} {l:List RW} (hI:gQ B) (hB:B.length≤1099511627776) (hp:p≤8*B.length) (h1:eY (bitsOf B) p 0=(R,p1,e1)) (h2:eY (bitsOf B) p1 e1=(C,p2,e2)) (h3:xy (bitsOf B) p2 e2=((K,A,Z),p3,e3))
 (hr:aA Tryz.prog 109 [.ref 0 0 0 0,.agg [.I R,.I C,.I K,.I A,.I Z]] [some (bU B p3)] (.tup [.ref 1 0 0 0,.I 0]) [some (bU B q),some (jd r0 c0 k a b l T)]):
 aA Tryz.prog 49 [.ref 0 0 0 0,.I 4] [some (cE 1 0),some (bU B p)] (S5 2) [some (cE 1 (if e3=0 then 0 else e3)),some (bU B q),some (jd r0 c0 k a b l T)]:=by
 have hbl:=aG B;have r1:=cc (p:=p) (e:=0) hI hB zo;have l1:=bJ (L:=bitsOf B) (p:=p) (e:=0) zo;rw[h1] at r1 l1;dsimp only at r1 l1;have r2:=cc (p:=p1) (e:=e1) hI hB zo;have l2:=bJ (L:=bitsOf B) (p:=p1) (e:=e1) l1;rw[h2] at r2 l2;dsimp only at r2 l2;have r3:=oz (p:=p2) (e:=e2) hI hB zo;have l3:=kN (L:=bitsOf B) (p:=p2) (e:=e2) l2;rw[h3] at r3 l3;dsimp only at r3 l3;refine zF mL Tryz.call49 Tryz.func49 [.cell 4 42] fun Q hQ=>?_
 by_cases he:e3=0
 · rw[if_pos he] at hQ
   subst he;refine ae ?_;refine zW [some 0,some 1] [] r1 ?_;refine aF [some 0,some 1] [] (r2) ?_;refine eT ?_
   repeat' refine And.intro ?_ ?_
   all_goals
    refine aF [some 0,some 1] [] (r3) ?_;refine eT ?_
    repeat' refine And.intro ?_ ?_
    all_goals
     refine zW [some 1] [] hr ?_;exact ai [some 0,some 1,some 4] hQ
 · rw[if_neg he] at hQ
   refine ae ?_;refine zW [some 0,some 1] [] r1 ?_;refine aF [some 0,some 1] [] (r2) ?_;refine eT ?_
   repeat' refine And.intro ?_ ?_
   all_goals
    refine aF [some 0,some 1] [] (r3) ?_;refine eT ?_
    repeat' refine And.intro ?_ ?_
    all_goals
     refine zW [some 1] [] hr ?_;exact ai [some 0,some 1,some 4] hQ
set_option maxHeartbeats 4000000 in
theorem pL {B:List Int} {K P C:Int} {p p1 p2 p3 q:Nat} {e1 e2 e3 er:Int} (hI:gQ B) (hB:B.length≤1099511627776) (hp:p≤8*B.length) (h1:eY (bitsOf B) p 0=(K,p1,e1)) (h2:eY (bitsOf B) p1 e1=(P,p2,e2)) (h3:eY (bitsOf B) p2 e2=(C,p3,e3))
 (hr:aA Tryz.prog 110 [.ref 0 0 0 0,.agg [.I K,.I P,.I C]] [some (bU B p3)] (.tup [.lit (.pointer none),.I er]) [some (bU B q)]):
 aA Tryz.prog 49 [.ref 0 0 0 0,.I 5] [some (cE 1 0),some (bU B p)] (p7 5) [some (cE 1 (if e3=0 then er else e3)),some (bU B q)]:=by
 have hbl:=aG B;have r1:=cc (p:=p) (e:=0) hI hB zo;have l1:=bJ (L:=bitsOf B) (p:=p) (e:=0) zo;rw[h1] at r1 l1;dsimp only at r1 l1;have r2:=cc (p:=p1) (e:=e1) hI hB zo;have l2:=bJ (L:=bitsOf B) (p:=p1) (e:=e1) l1;rw[h2] at r2 l2;dsimp only at r2 l2;have r3:=cc (p:=p2) (e:=e2) hI hB zo;have l3:=bJ (L:=bitsOf B) (p:=p2) (e:=e2) l2;rw[h3] at r3 l3;dsimp only at r3 l3;refine zF mL Tryz.call49 Tryz.func49 [.cell 4 42] fun Q hQ=>?_
 by_cases he:e3=0
 · rw[if_pos he] at hQ
   subst he;refine ae ?_;refine zW [some 0,some 1] [] r1 ?_;refine aF [some 0,some 1] [] (r2) ?_;refine eT ?_
   repeat' refine And.intro ?_ ?_
   all_goals
    refine aF [some 0,some 1] [] (r3) ?_;refine eT ?_
    repeat' refine And.intro ?_ ?_
    all_goals
     refine zW [some 1] [] hr ?_;exact ai [some 0,some 1] hQ
 · rw[if_neg he] at hQ
   refine ae ?_;refine zW [some 0,some 1] [] r1 ?_;refine aF [some 0,some 1] [] (r2) ?_;refine eT ?_
   repeat' refine And.intro ?_ ?_
   all_goals
    refine aF [some 0,some 1] [] (r3) ?_;refine eT ?_
    repeat' refine And.intro ?_ ?_
    all_goals
     refine zW [some 1] [] hr ?_;exact ai [some 0,some 1] hQ
set_option maxHeartbeats 4000000 in
theorem BE {B:List Int} {K P C:Int} {p p1 p2 p3 q:Nat} {e1 e2 e3:Int} {X:List (Nat×Nat)} {T:Nat} (hI:gQ B) (hB:B.length≤1099511627776) (hp:p≤8*B.length) (h1:eY (bitsOf B) p 0=(K,p1,e1)) (h2:eY (bitsOf B) p1 e1=(P,p2,e2)) (h3:eY (bitsOf B) p2 e2=(C,p3,e3))
 (hr:aA Tryz.prog 110 [.ref 0 0 0 0,.agg [.I K,.I P,.I C]] [some (bU B p3)] (.tup [.ref 1 0 0 0,.I 0]) [some (bU B q),some (oH K P C X T)]):
 aA Tryz.prog 49 [.ref 0 0 0 0,.I 5] [some (cE 1 0),some (bU B p)] (Yl 2) [some (cE 1 (if e3=0 then 0 else e3)),some (bU B q),some (oH K P C X T)]:=by
 have hbl:=aG B;have r1:=cc (p:=p) (e:=0) hI hB zo;have l1:=bJ (L:=bitsOf B) (p:=p) (e:=0) zo;rw[h1] at r1 l1;dsimp only at r1 l1;have r2:=cc (p:=p1) (e:=e1) hI hB zo;have l2:=bJ (L:=bitsOf B) (p:=p1) (e:=e1) l1;rw[h2] at r2 l2;dsimp only at r2 l2;have r3:=cc (p:=p2) (e:=e2) hI hB zo;have l3:=bJ (L:=bitsOf B) (p:=p2) (e:=e2) l2;rw[h3] at r3 l3;dsimp only at r3 l3;refine zF mL Tryz.call49 Tryz.func49 [.cell 4 42] fun Q hQ=>?_
 by_cases he:e3=0
 · rw[if_pos he] at hQ
   subst he;refine ae ?_;refine zW [some 0,some 1] [] r1 ?_;refine aF [some 0,some 1] [] (r2) ?_;refine eT ?_
   repeat' refine And.intro ?_ ?_
   all_goals
    refine aF [some 0,some 1] [] (r3) ?_;refine eT ?_
    repeat' refine And.intro ?_ ?_
    all_goals
     refine zW [some 1] [] hr ?_;exact ai [some 0,some 1,some 4] hQ
 · rw[if_neg he] at hQ
   refine ae ?_;refine zW [some 0,some 1] [] r1 ?_;refine aF [some 0,some 1] [] (r2) ?_;refine eT ?_
   repeat' refine And.intro ?_ ?_
   all_goals
    refine aF [some 0,some 1] [] (r3) ?_;refine eT ?_
    repeat' refine And.intro ?_ ?_
    all_goals
     refine zW [some 1] [] hr ?_;exact ai [some 0,some 1,some 4] hQ
theorem Ii {B:List Int} {p:Nat} {t:Int} (h:t≠1∧t≠2∧t≠3∧t≠4∧t≠5):aA Tryz.prog 49 [.ref 0 0 0 0,.I t] [some (cE 1 0),some (bU B p)] (p7 t) [some (cE 1 13),some (bU B p)]:=by
 obtain ⟨h1,h2,h3,h4,h5⟩:=h;refine zF mL Tryz.call49 Tryz.func49 [.cell 4 42] fun Q hQ=>?_;exact zE [some 0,some 1] hQ
end Go.Proofs.YtcnlmelpnflhnaaGreat
