import Derived.Test.YtcnlmelpnflhnaaGreatIn
namespace Go.Proofs.YtcnlmelpnflhnaaGreat
open Go.Eng Go.Vx
set_option linter.unusedSimpArgs false
set_option linter.unusedVariables false
set_option maxRecDepth 100000
def itN (t:Int):V:=.agg [.lit (.int .i64 t),.lit (.int .i64 0),.lit (.int .i64 0),.lit (.int .i64 0),.lit (.int .i64 0),.lit (.int .i64 0),.lit (.bool false),.lit (.pointer none),.lit (.pointer none),.lit (.pointer none),.lit (.pointer none)]
def FL (v:Nat):V:=.agg [.lit (.int .i64 4),.lit (.int .i64 0),.lit (.int .i64 0),.lit (.int .i64 0),.lit (.int .i64 0),.lit (.int .i64 0),.lit (.bool false),.lit (.pointer none),.lit (.pointer none),.ref v 0 0 0,.lit (.pointer none)]
attribute [go_sem] itN FL
set_option maxHeartbeats 4000000 in
theorem Bl {B:List Int} {K A Z:Int} {p p1 q:Nat} {e1 er s1 s2:Int} {f:Bool} (hI:ke B) (hB:B.length≤1099511627776) (hp:p≤8*B.length) (h1:FO (bitsOf B) p 0=((K,A,Z),p1,e1))
 (hr:aA Tryz.prog 105 [.agg [.lit (.int .i64 K),.lit (.int .i64 A),.lit (.int .i64 Z)],.ref 0 0 0 0] [some (dk B p1)] (.tup [.agg [.lit (.int .i64 s1),.lit (.int .i64 s2),.lit (.bool f)],.lit (.int .i64 er)]) [some (dk B q)]):
 aA Tryz.prog 49 [.ref 0 0 0 0,.lit (.int .i64 1)] [some (gz 1 0),some (dk B p)] (.agg [.lit (.int .i64 1),.lit (.int .i64 K),.lit (.int .i64 A),.lit (.int .i64 Z),.lit (.int .i64 s1),.lit (.int .i64 s2),.lit (.bool f),.lit (.pointer none),.lit (.pointer none),.lit (.pointer none),.lit (.pointer none)])
  [some (gz 1 (if e1=0 then er else e1)),some (dk B q)]:=by
 have hbl:=ba B;have r1:=wx (p:=p) (e:=0) hI hB zo;have l1:=z5 (L:=bitsOf B) (p:=p) (e:=0) zo;rw[h1] at r1 l1;dsimp only at r1 l1;refine zF tg Tryz.call49 Tryz.func49 [.cell 4 42] fun Q hQ=>?_
 by_cases he:e1=0
 · rw[if_pos he] at hQ
   subst he;refine ae ?_;refine zW [some 0,some 1] [] r1 ?_;refine zW [some 1] [] hr ?_;exact ak [some 0,some 1] hQ
 · rw[if_neg he] at hQ
   refine ae ?_;refine zW [some 0,some 1] [] r1 ?_;refine zW [some 1] [] hr ?_;exact ak [some 0,some 1] hQ
set_option maxHeartbeats 4000000 in
theorem By {B:List Int} {K A Z n:Int} {p p1 p2 q:Nat} {e1 e2:Int} {k a b n0:Nat} {l:List SR} (hI:ke B) (hB:B.length≤1099511627776) (hp:p≤8*B.length) (h1:FO (bitsOf B) p 0=((K,A,Z),p1,e1)) (h2:jE (bitsOf B) p1 e1=(n,p2,e2))
 (hr:aA Tryz.prog 106 [.ref 0 0 0 0,.agg [.lit (.int .i64 K),.lit (.int .i64 A),.lit (.int .i64 Z)],.lit (.int .i64 n)] [some (dk B p2)] (.tup [.ref 1 0 0 0,.lit (.int .i64 0)]) [some (dk B q),some (cP 2 k a b),some (cC 3 n0 (wd k a b)),some (ch n0 (wd k a b) (aV (wd k a b) (l.map (fj k a b))))]):
 aA Tryz.prog 49 [.ref 0 0 0 0,.lit (.int .i64 2)] [some (gz 1 0),some (dk B p)] (OR 2) [some (gz 1 (if e2=0 then 0 else e2)),some (dk B q),some (cP 3 k a b),some (cC 4 n0 (wd k a b)),some (ch n0 (wd k a b) (aV (wd k a b) (l.map (fj k a b))))]:=by
 have hbl:=ba B;have r1:=wx (p:=p) (e:=0) hI hB zo;have l1:=z5 (L:=bitsOf B) (p:=p) (e:=0) zo;rw[h1] at r1 l1;dsimp only at r1 l1;have r2:=eC (p:=p1) (e:=e1) hI hB zo;have l2:=eU (L:=bitsOf B) (p:=p1) (e:=e1) l1;rw[h2] at r2 l2;dsimp only at r2 l2;refine zF tg Tryz.call49 Tryz.func49 [.cell 4 42] fun Q hQ=>?_
 by_cases he:e2=0
 · rw[if_pos he] at hQ
   subst he;refine ae ?_;refine aF [some 0,some 1] [] (r1) ?_;refine pS ?_
   repeat' refine And.intro ?_ ?_
   all_goals
    refine aF [some 0,some 1] [] (r2) ?_;refine pS ?_
    repeat' refine And.intro ?_ ?_
    all_goals
     refine zW [some 1] [] hr ?_;exact ak [some 0,some 1,some 4,some 5,some 6] hQ
 · rw[if_neg he] at hQ
   refine ae ?_;refine aF [some 0,some 1] [] (r1) ?_;refine pS ?_
   repeat' refine And.intro ?_ ?_
   all_goals
    refine aF [some 0,some 1] [] (r2) ?_;refine pS ?_
    repeat' refine And.intro ?_ ?_
    all_goals
     refine zW [some 1] [] hr ?_;exact ak [some 0,some 1,some 4,some 5,some 6] hQ
set_option maxHeartbeats 4000000 in
theorem zX {B:List Int} {M D S n:Int} {p p1 p2 p3 p4 q:Nat} {e1 e2 e3 e4:Int} {m0 d0 s0:Nat} {st:SS} (hI:ke B) (hB:B.length≤1099511627776) (hp:p≤8*B.length) (h1:jE (bitsOf B) p 0=(M,p1,e1)) (h2:jE (bitsOf B) p1 e1=(D,p2,e2)) (h3:jE (bitsOf B) p2 e2=(S,p3,e3)) (h4:jE (bitsOf B) p3 e3=(n,p4,e4))
 (hr:aA Tryz.prog 108 [.ref 0 0 0 0,.agg [.lit (.int .i64 M),.lit (.int .i64 D),.lit (.int .i64 S)],.lit (.int .i64 n)] [some (dk B p4)] (.tup [.ref 1 0 0 0,.lit (.int .i64 0)]) [some (dk B q),some (tJ m0 d0 s0 st)]):
 aA Tryz.prog 49 [.ref 0 0 0 0,.lit (.int .i64 3)] [some (gz 1 0),some (dk B p)] (Oe 2) [some (gz 1 (if e4=0 then 0 else e4)),some (dk B q),some (tJ m0 d0 s0 st)]:=by
 have hbl:=ba B;have r1:=eC (p:=p) (e:=0) hI hB zo;have l1:=eU (L:=bitsOf B) (p:=p) (e:=0) zo;rw[h1] at r1 l1;dsimp only at r1 l1;have r2:=eC (p:=p1) (e:=e1) hI hB zo;have l2:=eU (L:=bitsOf B) (p:=p1) (e:=e1) l1;rw[h2] at r2 l2;dsimp only at r2 l2;have r3:=eC (p:=p2) (e:=e2) hI hB zo;have l3:=eU (L:=bitsOf B) (p:=p2) (e:=e2) l2;rw[h3] at r3 l3;dsimp only at r3 l3;have r4:=eC (p:=p3) (e:=e3) hI hB zo;have l4:=eU (L:=bitsOf B) (p:=p3) (e:=e3) l3;rw[h4] at r4 l4;dsimp only at r4 l4;refine zF tg Tryz.call49 Tryz.func49 [.cell 4 42] fun Q hQ=>?_
 by_cases he:e4=0
 · rw[if_pos he] at hQ
   subst he;refine ae ?_;refine zW [some 0,some 1] [] r1 ?_;refine zW [some 0,some 1] [] r2 ?_;refine aF [some 0,some 1] [] (r3) ?_;refine pS ?_
   repeat' refine And.intro ?_ ?_
   all_goals
    refine aF [some 0,some 1] [] (r4) ?_;refine pS ?_
    repeat' refine And.intro ?_ ?_
    all_goals
     refine zW [some 1] [] hr ?_;exact ak [some 0,some 1,some 4] hQ
 · rw[if_neg he] at hQ
   refine ae ?_;refine zW [some 0,some 1] [] r1 ?_;refine zW [some 0,some 1] [] r2 ?_;refine aF [some 0,some 1] [] (r3) ?_;refine pS ?_
   repeat' refine And.intro ?_ ?_
   all_goals
    refine aF [some 0,some 1] [] (r4) ?_;refine pS ?_
    repeat' refine And.intro ?_ ?_
    all_goals
     refine zW [some 1] [] hr ?_;exact ak [some 0,some 1,some 4] hQ
set_option maxHeartbeats 4000000 in
theorem BP {B:List Int} {R C K A Z:Int} {p p1 p2 p3 q:Nat} {e1 e2 e3:Int} {r0 c0 k a b T:Nat} {l:List RW} (hI:ke B) (hB:B.length≤1099511627776) (hp:p≤8*B.length) (h1:jE (bitsOf B) p 0=(R,p1,e1)) (h2:jE (bitsOf B) p1 e1=(C,p2,e2)) (h3:FO (bitsOf B) p2 e2=((K,A,Z),p3,e3))
 (hr:aA Tryz.prog 109 [.ref 0 0 0 0,.agg [.lit (.int .i64 R),.lit (.int .i64 C),.lit (.int .i64 K),.lit (.int .i64 A),.lit (.int .i64 Z)]] [some (dk B p3)] (.tup [.ref 1 0 0 0,.lit (.int .i64 0)]) [some (dk B q),some (fy r0 c0 k a b l T)]):
 aA Tryz.prog 49 [.ref 0 0 0 0,.lit (.int .i64 4)] [some (gz 1 0),some (dk B p)] (FL 2) [some (gz 1 (if e3=0 then 0 else e3)),some (dk B q),some (fy r0 c0 k a b l T)]:=by
 have hbl:=ba B;have r1:=eC (p:=p) (e:=0) hI hB zo;have l1:=eU (L:=bitsOf B) (p:=p) (e:=0) zo;rw[h1] at r1 l1;dsimp only at r1 l1;have r2:=eC (p:=p1) (e:=e1) hI hB zo;have l2:=eU (L:=bitsOf B) (p:=p1) (e:=e1) l1;rw[h2] at r2 l2;dsimp only at r2 l2;have r3:=wx (p:=p2) (e:=e2) hI hB zo;have l3:=z5 (L:=bitsOf B) (p:=p2) (e:=e2) l2;rw[h3] at r3 l3;dsimp only at r3 l3;refine zF tg Tryz.call49 Tryz.func49 [.cell 4 42] fun Q hQ=>?_
 by_cases he:e3=0
 · rw[if_pos he] at hQ
   subst he;refine ae ?_;refine zW [some 0,some 1] [] r1 ?_;refine aF [some 0,some 1] [] (r2) ?_;refine pS ?_
   repeat' refine And.intro ?_ ?_
   all_goals
    refine aF [some 0,some 1] [] (r3) ?_;refine pS ?_
    repeat' refine And.intro ?_ ?_
    all_goals
     refine zW [some 1] [] hr ?_;exact ak [some 0,some 1,some 4] hQ
 · rw[if_neg he] at hQ
   refine ae ?_;refine zW [some 0,some 1] [] r1 ?_;refine aF [some 0,some 1] [] (r2) ?_;refine pS ?_
   repeat' refine And.intro ?_ ?_
   all_goals
    refine aF [some 0,some 1] [] (r3) ?_;refine pS ?_
    repeat' refine And.intro ?_ ?_
    all_goals
     refine zW [some 1] [] hr ?_;exact ak [some 0,some 1,some 4] hQ
set_option maxHeartbeats 4000000 in
theorem Bg {B:List Int} {K P C:Int} {p p1 p2 p3 q:Nat} {e1 e2 e3:Int} {X:List (Nat×Nat)} {T:Nat} (hI:ke B) (hB:B.length≤1099511627776) (hp:p≤8*B.length) (h1:jE (bitsOf B) p 0=(K,p1,e1)) (h2:jE (bitsOf B) p1 e1=(P,p2,e2)) (h3:jE (bitsOf B) p2 e2=(C,p3,e3))
 (hr:aA Tryz.prog 110 [.ref 0 0 0 0,.agg [.lit (.int .i64 K),.lit (.int .i64 P),.lit (.int .i64 C)]] [some (dk B p3)] (.tup [.ref 1 0 0 0,.lit (.int .i64 0)]) [some (dk B q),some (mr K P C X T)]):
 aA Tryz.prog 49 [.ref 0 0 0 0,.lit (.int .i64 5)] [some (gz 1 0),some (dk B p)] (NW 2) [some (gz 1 (if e3=0 then 0 else e3)),some (dk B q),some (mr K P C X T)]:=by
 have hbl:=ba B;have r1:=eC (p:=p) (e:=0) hI hB zo;have l1:=eU (L:=bitsOf B) (p:=p) (e:=0) zo;rw[h1] at r1 l1;dsimp only at r1 l1;have r2:=eC (p:=p1) (e:=e1) hI hB zo;have l2:=eU (L:=bitsOf B) (p:=p1) (e:=e1) l1;rw[h2] at r2 l2;dsimp only at r2 l2;have r3:=eC (p:=p2) (e:=e2) hI hB zo;have l3:=eU (L:=bitsOf B) (p:=p2) (e:=e2) l2;rw[h3] at r3 l3;dsimp only at r3 l3;refine zF tg Tryz.call49 Tryz.func49 [.cell 4 42] fun Q hQ=>?_
 by_cases he:e3=0
 · rw[if_pos he] at hQ
   subst he;refine ae ?_;refine zW [some 0,some 1] [] r1 ?_;refine aF [some 0,some 1] [] (r2) ?_;refine pS ?_
   repeat' refine And.intro ?_ ?_
   all_goals
    refine aF [some 0,some 1] [] (r3) ?_;refine pS ?_
    repeat' refine And.intro ?_ ?_
    all_goals
     refine zW [some 1] [] hr ?_;exact ak [some 0,some 1,some 4] hQ
 · rw[if_neg he] at hQ
   refine ae ?_;refine zW [some 0,some 1] [] r1 ?_;refine aF [some 0,some 1] [] (r2) ?_;refine pS ?_
   repeat' refine And.intro ?_ ?_
   all_goals
    refine aF [some 0,some 1] [] (r3) ?_;refine pS ?_
    repeat' refine And.intro ?_ ?_
    all_goals
     refine zW [some 1] [] hr ?_;exact ak [some 0,some 1,some 4] hQ
theorem iW {l:List Nat} (hl:∀x∈l,x<256):ke (nl l):=fun x hx=>by
 obtain ⟨y,hy,rfl⟩:=akh.1 hx
 have:=hl y hy
 omega
def dS (l:List Nat):List Nat:=l.take (l.length-4)
theorem MX {l:List Nat} (hl:∀x∈l,x<256) (h4:4≤l.length) (hm:l.length≤4096) (hs:bV (l.take (l.length-4))=l) (h0:4<l.length) (hv:numOf ((bitsOf (nl (dS l))).take 4)=1) (ht:numOf (((bitsOf (nl (dS l))).drop 4).take 3)=1) {k a b:Nat} {s:Nat×Nat×Bool} {q n0:Nat} {E:List Nat} (gd:aL k a b) (w:aP k a b s) (hq:q≤8*(l.length-4)) (hc:jR (bitsOf (nl (dS l))) q=0) (hb:aA Tryz.prog 49 [.ref 0 0 0 0,.lit (.int .i64 (1:Int))] [some (gz 1 0),some (dk (nl (dS l)) 7)] (uw k a b s) [some (gz 1 0),some (dk (nl (dS l)) q)]) (en:aA Tryz.prog 10 [uw k a b s] [] (.tup [.sl 0 1 0 n0,.lit (.int .i64 0)]) [some (.row 1 ((nl E).map (ie .u8)))]) (hE:E.length=n0) (hE2:n0≤1000000) (hne:nl E=nl l):aA Tryz.prog 11 [.row 1 ((nl l).map (ie .u8))] [] (.tup [uw k a b s,.lit (.int .i64 0)]) []:=by
 have op:=oa hl zo h4 hs;have hIB:ke (nl (dS l)):=iW fun x hx=>hl x (ajM hx);have hlb:(nl (dS l)).length=l.length-4:=by rw[ay];unfold dS;simp
 change aA _ _ _ _ (.tup [.row 1 ((nl (dS l)).map (ie .u8)),_]) _ at op;have hnl:=ay l;generalize nl (dS l)=B at*
 generalize nl l=N at*
 have hbl:=ba B;have rd:=jM (B:=B) zo;have n4:=bN (B:=B) (p:=0) (w:=4) hIB zo zd zo;have n3:=bN (B:=B) (p:=4) (w:=3) hIB zo zd zo;rw[show((4:Nat):Int)=4 from rfl] at n4;rw[show((3:Nat):Int)=3 from rfl] at n3;rw[ajE] at n4;have ht7:=bd ((bitsOf B).drop 4) 3;rw[hv] at n4;rw[ht] at n3;rw[show((1:Nat):Int)=1 from rfl] at n3;have cl:=kP (B:=B) (p:=q) hIB zo zo;have ck:=kF gd w;have hEl:=ay E;have eq:=gT (A:=nl E) (B:=N) zo zo;rw[aju hne] at eq;rw[hc] at cl;refine zF pl Tryz.call11 Tryz.func11 [.cell 2 42,.tmp 3] fun Q hQ=>?_;refine ae ?_;refine zC op ?_;refine zW [] [] rd ?_;refine zW [some 1] [] n4 ?_;refine zW [some 1] [] n3 ?_;refine zW [some 2,some 1] [] hb ?_;refine zW [some 1] [] cl ?_;refine zC ck ?_;refine bI (en) ?_;refine ae ?_;refine aW (eq) ?_;exact zE [] hQ
theorem K7 {l:List Nat} (hl:∀x∈l,x<256) (h4:4≤l.length) (hm:l.length≤4096) (hs:bV (l.take (l.length-4))=l) (h0:4<l.length) (hv:numOf ((bitsOf (nl (dS l))).take 4)=1) (ht:numOf (((bitsOf (nl (dS l))).drop 4).take 3)=2) {k a b n:Nat} {m:List SR} {q n0:Nat} {E:List Nat} (hq:q≤8*(l.length-4)) (hc:jR (bitsOf (nl (dS l))) q=0) (hb:aA Tryz.prog 49 [.ref 0 0 0 0,.lit (.int .i64 (2:Int))] [some (gz 1 0),some (dk (nl (dS l)) 7)] (OR 2) [some (gz 1 0),some (dk (nl (dS l)) q),some (cP 3 k a b),some (cC 4 n (wd k a b)),some (ch n (wd k a b) (aV (wd k a b) (m.map (fj k a b))))]) (en:aA Tryz.prog 10 [jz k a b n m] [] (.tup [.sl 0 1 0 n0,.lit (.int .i64 0)]) [some (.row 1 ((nl E).map (ie .u8)))]) (hE:E.length=n0) (hE2:n0≤1000000) (hne:nl E=nl l):aA Tryz.prog 11 [.row 1 ((nl l).map (ie .u8))] [] (.tup [OR 0,.lit (.int .i64 0)]) [some (cP 1 k a b),some (cC 2 n (wd k a b)),some (ch n (wd k a b) (aV (wd k a b) (m.map (fj k a b))))]:=by
 have op:=oa hl zo h4 hs;have hIB:ke (nl (dS l)):=iW fun x hx=>hl x (ajM hx);have hlb:(nl (dS l)).length=l.length-4:=by rw[ay];unfold dS;simp
 change aA _ _ _ _ (.tup [.row 1 ((nl (dS l)).map (ie .u8)),_]) _ at op;have hnl:=ay l;generalize nl (dS l)=B at*
 generalize nl l=N at*
 have hbl:=ba B;have rd:=jM (B:=B) zo;have n4:=bN (B:=B) (p:=0) (w:=4) hIB zo zd zo;have n3:=bN (B:=B) (p:=4) (w:=3) hIB zo zd zo;rw[show((4:Nat):Int)=4 from rfl] at n4;rw[show((3:Nat):Int)=3 from rfl] at n3;rw[ajE] at n4;have ht7:=bd ((bitsOf B).drop 4) 3;rw[hv] at n4;rw[ht] at n3;rw[show((2:Nat):Int)=2 from rfl] at n3;have cl:=kP (B:=B) (p:=q) hIB zo zo;have ck:=wt (k:=k) (a:=a) (b:=b) (n:=n) (l:=m);have hlw:=aq (aZ n (wd k a b)) (aV (wd k a b) (m.map (fj k a b)));have hEl:=ay E;have eq:=gT (A:=nl E) (B:=N) zo zo;rw[aju hne] at eq;rw[hc] at cl;refine zF pl Tryz.call11 Tryz.func11 [.cell 2 42,.tmp 3] fun Q hQ=>?_;refine ae ?_;refine zC op ?_;refine zW [] [] rd ?_;refine zW [some 1] [] n4 ?_;refine zW [some 1] [] n3 ?_;refine zW [some 2,some 1] [] hb ?_;refine zW [some 1] [] cl ?_;refine aW (ck) ?_;refine ae ?_;refine bI (en) ?_;refine ae ?_;refine aW (eq) ?_;exact zE [some 3,some 4,some 5] hQ
theorem MK {l:List Nat} (hl:∀x∈l,x<256) (h4:4≤l.length) (hm:l.length≤4096) (hs:bV (l.take (l.length-4))=l) (h0:4<l.length) (hv:numOf ((bitsOf (nl (dS l))).take 4)=1) (ht:numOf (((bitsOf (nl (dS l))).drop 4).take 3)=3) {M D S:Nat} {st:SS} {q n0:Nat} {E:List Nat} (hq:q≤8*(l.length-4)) (hc:jR (bitsOf (nl (dS l))) q=0) (hb:aA Tryz.prog 49 [.ref 0 0 0 0,.lit (.int .i64 (3:Int))] [some (gz 1 0),some (dk (nl (dS l)) 7)] (Oe 2) [some (gz 1 0),some (dk (nl (dS l)) q),some (tJ M D S st)]) (en:aA Tryz.prog 10 [l6 M D S st] [] (.tup [.sl 0 1 0 n0,.lit (.int .i64 0)]) [some (.row 1 ((nl E).map (ie .u8)))]) (hE:E.length=n0) (hE2:n0≤1000000) (hne:nl E=nl l):aA Tryz.prog 11 [.row 1 ((nl l).map (ie .u8))] [] (.tup [Oe 0,.lit (.int .i64 0)]) [some (tJ M D S st)]:=by
 have op:=oa hl zo h4 hs;have hIB:ke (nl (dS l)):=iW fun x hx=>hl x (ajM hx);have hlb:(nl (dS l)).length=l.length-4:=by rw[ay];unfold dS;simp
 change aA _ _ _ _ (.tup [.row 1 ((nl (dS l)).map (ie .u8)),_]) _ at op;have hnl:=ay l;generalize nl (dS l)=B at*
 generalize nl l=N at*
 have hbl:=ba B;have rd:=jM (B:=B) zo;have n4:=bN (B:=B) (p:=0) (w:=4) hIB zo zd zo;have n3:=bN (B:=B) (p:=4) (w:=3) hIB zo zd zo;rw[show((4:Nat):Int)=4 from rfl] at n4;rw[show((3:Nat):Int)=3 from rfl] at n3;rw[ajE] at n4;have ht7:=bd ((bitsOf B).drop 4) 3;rw[hv] at n4;rw[ht] at n3;rw[show((3:Nat):Int)=3 from rfl] at n3;have cl:=kP (B:=B) (p:=q) hIB zo zo;have ck:=uV (M:=M) (D:=D) (S:=S) (st:=st);have hEl:=ay E;have eq:=gT (A:=nl E) (B:=N) zo zo;rw[aju hne] at eq;rw[hc] at cl;refine zF pl Tryz.call11 Tryz.func11 [.cell 2 42,.tmp 3] fun Q hQ=>?_;refine ae ?_;refine zC op ?_;refine zW [] [] rd ?_;refine zW [some 1] [] n4 ?_;refine zW [some 1] [] n3 ?_;refine zW [some 2,some 1] [] hb ?_;refine zW [some 1] [] cl ?_;refine aW (ck) ?_;refine ae ?_;refine bI (en) ?_;refine ae ?_;refine aW (eq) ?_;exact zE [some 3] hQ
theorem Le {l:List Nat} (hl:∀x∈l,x<256) (h4:4≤l.length) (hm:l.length≤4096) (hs:bV (l.take (l.length-4))=l) (h0:4<l.length) (hv:numOf ((bitsOf (nl (dS l))).take 4)=1) (ht:numOf (((bitsOf (nl (dS l))).drop 4).take 3)=4) {r0 c0 k a b T:Nat} {m:List RW} {q n0:Nat} {E:List Nat} (hq:q≤8*(l.length-4)) (hc:jR (bitsOf (nl (dS l))) q=0) (hb:aA Tryz.prog 49 [.ref 0 0 0 0,.lit (.int .i64 (4:Int))] [some (gz 1 0),some (dk (nl (dS l)) 7)] (FL 2) [some (gz 1 0),some (dk (nl (dS l)) q),some (fy r0 c0 k a b m T)]) (en:aA Tryz.prog 10 [dP r0 c0 k a b m T] [] (.tup [.sl 0 1 0 n0,.lit (.int .i64 0)]) [some (.row 1 ((nl E).map (ie .u8)))]) (hE:E.length=n0) (hE2:n0≤1000000) (hne:nl E=nl l):aA Tryz.prog 11 [.row 1 ((nl l).map (ie .u8))] [] (.tup [FL 0,.lit (.int .i64 0)]) [some (fy r0 c0 k a b m T)]:=by
 have op:=oa hl zo h4 hs;have hIB:ke (nl (dS l)):=iW fun x hx=>hl x (ajM hx);have hlb:(nl (dS l)).length=l.length-4:=by rw[ay];unfold dS;simp
 change aA _ _ _ _ (.tup [.row 1 ((nl (dS l)).map (ie .u8)),_]) _ at op;have hnl:=ay l;generalize nl (dS l)=B at*
 generalize nl l=N at*
 have hbl:=ba B;have rd:=jM (B:=B) zo;have n4:=bN (B:=B) (p:=0) (w:=4) hIB zo zd zo;have n3:=bN (B:=B) (p:=4) (w:=3) hIB zo zd zo;rw[show((4:Nat):Int)=4 from rfl] at n4;rw[show((3:Nat):Int)=3 from rfl] at n3;rw[ajE] at n4;have ht7:=bd ((bitsOf B).drop 4) 3;rw[hv] at n4;rw[ht] at n3;rw[show((4:Nat):Int)=4 from rfl] at n3;have cl:=kP (B:=B) (p:=q) hIB zo zo;have ck:=vZ (R:=r0) (C:=c0) (k:=k) (a:=a) (b:=b) (T:=T) (l:=m);have hEl:=ay E;have eq:=gT (A:=nl E) (B:=N) zo zo;rw[aju hne] at eq;rw[hc] at cl;refine zF pl Tryz.call11 Tryz.func11 [.cell 2 42,.tmp 3] fun Q hQ=>?_;refine ae ?_;refine zC op ?_;refine zW [] [] rd ?_;refine zW [some 1] [] n4 ?_;refine zW [some 1] [] n3 ?_;refine zW [some 2,some 1] [] hb ?_;refine zW [some 1] [] cl ?_;refine aW (ck) ?_;refine ae ?_;refine bI (en) ?_;refine ae ?_;refine aW (eq) ?_;exact zE [some 3] hQ
theorem MD {l:List Nat} (hl:∀x∈l,x<256) (h4:4≤l.length) (hm:l.length≤4096) (hs:bV (l.take (l.length-4))=l) (h0:4<l.length) (hv:numOf ((bitsOf (nl (dS l))).take 4)=1) (ht:numOf (((bitsOf (nl (dS l))).drop 4).take 3)=5) {K P C T:Nat} {X:List (Nat×Nat)} {q n0:Nat} {E:List Nat} (hq:q≤8*(l.length-4)) (hc:jR (bitsOf (nl (dS l))) q=0) (hb:aA Tryz.prog 49 [.ref 0 0 0 0,.lit (.int .i64 (5:Int))] [some (gz 1 0),some (dk (nl (dS l)) 7)] (NW 2) [some (gz 1 0),some (dk (nl (dS l)) q),some (mr (K:Int) (P:Int) (C:Int) X T)]) (en:aA Tryz.prog 10 [lW K P C X T] [] (.tup [.sl 0 1 0 n0,.lit (.int .i64 0)]) [some (.row 1 ((nl E).map (ie .u8)))]) (hE:E.length=n0) (hE2:n0≤1000000) (hne:nl E=nl l):aA Tryz.prog 11 [.row 1 ((nl l).map (ie .u8))] [] (.tup [NW 0,.lit (.int .i64 0)]) [some (mr (K:Int) (P:Int) (C:Int) X T)]:=by
 have op:=oa hl zo h4 hs;have hIB:ke (nl (dS l)):=iW fun x hx=>hl x (ajM hx);have hlb:(nl (dS l)).length=l.length-4:=by rw[ay];unfold dS;simp
 change aA _ _ _ _ (.tup [.row 1 ((nl (dS l)).map (ie .u8)),_]) _ at op;have hnl:=ay l;generalize nl (dS l)=B at*
 generalize nl l=N at*
 have hbl:=ba B;have rd:=jM (B:=B) zo;have n4:=bN (B:=B) (p:=0) (w:=4) hIB zo zd zo;have n3:=bN (B:=B) (p:=4) (w:=3) hIB zo zd zo;rw[show((4:Nat):Int)=4 from rfl] at n4;rw[show((3:Nat):Int)=3 from rfl] at n3;rw[ajE] at n4;have ht7:=bd ((bitsOf B).drop 4) 3;rw[hv] at n4;rw[ht] at n3;rw[show((5:Nat):Int)=5 from rfl] at n3;have cl:=kP (B:=B) (p:=q) hIB zo zo;have ck:=vj (K:=K) (P:=P) (C:=C) (T:=T) (X:=X);have hEl:=ay E;have eq:=gT (A:=nl E) (B:=N) zo zo;rw[aju hne] at eq;rw[hc] at cl;refine zF pl Tryz.call11 Tryz.func11 [.cell 2 42,.tmp 3] fun Q hQ=>?_;refine ae ?_;refine zC op ?_;refine zW [] [] rd ?_;refine zW [some 1] [] n4 ?_;refine zW [some 1] [] n3 ?_;refine zW [some 2,some 1] [] hb ?_;refine zW [some 1] [] cl ?_;refine aW (ck) ?_;refine ae ?_;refine bI (en) ?_;refine ae ?_;refine aW (eq) ?_;exact zE [some 3] hQ
end Go.Proofs.YtcnlmelpnflhnaaGreat
