import Derived.Test.YtcnlmelpnflhnaaGreatBv
import Derived.Test.YtcnlmelpnflhnaaGreatCj
import Derived.Test.YtcnlmelpnflhnaaGreatE8
namespace Go.Proofs.YtcnlmelpnflhnaaGreat
open Go.Eng Go.Vx
set_option linter.unusedSimpArgs false
set_option linter.unusedVariables false
set_option maxRecDepth 100000
set_option maxHeartbeats 8000000 in
theorem Ar {Kd kk aa bb:Int} {S:List (Int×Int×Bool)} {M D Sc R C ck ca cb:Int} {W Ky:List Nat} {L0 B:List Bool} (hB:B.length≤9223372036854775807) {m g s:Nat} {st:SS} (hwb:WB m g s) (h1:1≤st.1.length) (h5:st.1.length≤5) (hok:SOk (cR m g s) st)
 (it:aA Tryz.prog 8 [.agg (pN Kd kk aa bb S M D Sc R C ck ca cb W Ky L0)] [] (.tup [Oe 0,.lit (.bool true)]) [some (tJ m g s st)]):aA Tryz.prog 6 [.agg (pN Kd kk aa bb S M D Sc R C ck ca cb W Ky L0),.row 1 (B.map be)] [] (.lit (.bool true)) []:=by
 have hL1:(B.take 300).length≤300:=by rw[ajt];omega
 have hns:¬300<B.length→B.take 300=B:=fun h=>ajy zo;generalize hL:B.take 300=L at*
 have nt:=fY (L:=L) zo;have rd:=fun p d=>kq (L:=L) (p:=p) (d:=d);have hx:(Itm.sc m g s st).ok:=⟨hwb.good,by omega,vU hok⟩;obtain ⟨e,st',q,d',a1,a2,a3,a4,ad⟩:=Dj (p:=0) (i:=0) (n:=77) (d:=false) (L:=L) hwb zo zo (fun h=>by cases h) zo zo hok zd;have hy:(Itm.sc m g s st').ok:=⟨hwb.good,by omega,vU a1⟩;have en:aA Tryz.prog 10 [(Itm.sc m g s st).v] [] (.tup [.sl 0 1 0 (nl (Itm.sc m g s st).E).length,.lit (.int .i64 0)]) [some (.row 1 ((nl (Itm.sc m g s st).E).map (ie .u8)))]:=by rw[ay];exact(Itm.enc hx).2
 have en':aA Tryz.prog 10 [(Itm.sc m g s st').v] [] (.tup [.sl 0 1 0 (nl (Itm.sc m g s st').E).length,.lit (.int .i64 0)]) [some (.row 1 ((nl (Itm.sc m g s st').E).map (ie .u8)))]:=by rw[ay];exact(Itm.enc hy).2
 have dc:=uf hwb.good zo (vU hok) (by have h1:=hok.s2;have h2:s≤4:=hwb.s4;exact ajD h1 (ajD h2 zd)) (Itm.len hx);have cl:=yF (M:=m) (D:=g) (S:=s) (st:=st) zo (fun e=>absurd h1 (by rw[e];decide));have sm:=Itm.same hx hx;have sm':=Itm.same hy hy;rw[aju rfl] at sm sm';have hE:(nl (Itm.sc m g s st).E).length≤1200:=by rw[ay];exact(Itm.enc hx).1
 have hE':(nl (Itm.sc m g s st').E).length≤1200:=by rw[ay];exact(Itm.enc hy).1
 change aA _ _ [.row 1 ((nl (Itm.sc m g s st).E).map (ie .u8))] _ _ _ at dc;generalize nl (Itm.sc m g s st).E=E1 at*
 generalize nl (Itm.sc m g s st').E=E2 at*
 have rq:=rd q d';clear hx hy hok a1 hwb rd;simp only[Itm.v] at en en' sm sm';refine zF Ka Tryz.call6 Tryz.func6 [.tmp 4] fun Q hQ=>?_
 by_cases h1:300<B.length
 case' pos=>
  refine Jf hL ?_
 case' neg=>
  have hBB:=hns h1;subst hBB;refine ae ?_
 all_goals
  refine zW [] [] it ?_;refine CO (.tup [.row 1 (E1.map (ie .u8)),.lit (.int .i64 0)]) en ?_;refine ae ?_;refine zW [] [] dc ?_;refine aW (sm) ?_;refine ae ?_;refine zW [] [] nt ?_;refine zW [] [] nt ?_;refine aF [some 1] [] (cl) ?_;refine pS ?_;refine⟨?_,?_⟩
  all_goals
   refine aF [some 1,some 5] [] (ad) ?_;refine pS ?_;refine zW [some 3,some 6] [] ad ?_;refine bI (en') ?_;refine ae ?_;refine bI (en') ?_;refine ae ?_;refine bI (en) ?_;refine ae ?_;refine aW (rq) ?_;refine ae ?_;refine aW (rq) ?_;refine ae ?_;refine aW (sm') ?_;refine VA ?_;exact ak [] hQ
set_option maxHeartbeats 8000000 in
theorem AP {Kd kk aa bb:Int} {S:List (Int×Int×Bool)} {M D Sc R C ck ca cb:Int} {W Ky:List Nat} {L0 B:List Bool} (hB:B.length≤9223372036854775807) {K P n T:Nat} {X:List (Nat×Nat)} (hg:rF (K:Int) (P:Int) (n:Int)) (h5:n≤5) (hok:Sb n X T) (hT:T≤12)
 (it:aA Tryz.prog 8 [.agg (pN Kd kk aa bb S M D Sc R C ck ca cb W Ky L0)] [] (.tup [NW 0,.lit (.bool true)]) [some (mr (K:Int) (P:Int) (n:Int) X T)]):aA Tryz.prog 6 [.agg (pN Kd kk aa bb S M D Sc R C ck ca cb W Ky L0),.row 1 (B.map be)] [] (.lit (.bool true)) []:=by
 have hL1:(B.take 300).length≤300:=by rw[ajt];omega
 have hns:¬300<B.length→B.take 300=B:=fun h=>ajy zo;generalize hL:B.take 300=L at*
 have nt:=fY (L:=L) zo;have rd:=fun p d=>kq (L:=L) (p:=p) (d:=d);have hn1:=hg.2.1;have hXl:=hok.1;have hx:(Itm.sm K P n T X).ok:=⟨hg,hok.1,by omega,hok.2.1,hok.2.2⟩;obtain ⟨e,X',T',q,d',a1,a2,a3,a4,ad⟩:=uZ (K:=(K:Int)) (P:=(P:Int)) (key:=5) (p:=0) (d:=false) (L:=L) zo hok zd zo (fun h=>by cases h) zo zo;have hy:(Itm.sm K P n T' X').ok:=⟨hg,a1.1,by omega,a1.2.1,a1.2.2⟩;have en:aA Tryz.prog 10 [(Itm.sm K P n T X).v] [] (.tup [.sl 0 1 0 (nl (Itm.sm K P n T X).E).length,.lit (.int .i64 0)]) [some (.row 1 ((nl (Itm.sm K P n T X).E).map (ie .u8)))]:=by rw[ay];exact(Itm.enc hx).2
 have en':aA Tryz.prog 10 [(Itm.sm K P n T' X').v] [] (.tup [.sl 0 1 0 (nl (Itm.sm K P n T' X').E).length,.lit (.int .i64 0)]) [some (.row 1 ((nl (Itm.sm K P n T' X').E).map (ie .u8)))]:=by rw[ay];exact(Itm.enc hy).2
 have dc:=uM hx.1 hx.2 (Itm.len hx);have cl:=xm (K:=K) (P:=P) (C:=n) (T:=T) (X:=X) zo (fun e=>by rw[e] at hXl;simp at hXl;omega);have sm:=Itm.same hx hx;have sm':=Itm.same hy hy;rw[aju rfl] at sm sm';have hE:(nl (Itm.sm K P n T X).E).length≤1200:=by rw[ay];exact(Itm.enc hx).1
 have hE':(nl (Itm.sm K P n T' X').E).length≤1200:=by rw[ay];exact(Itm.enc hy).1
 change aA _ _ [.row 1 ((nl (Itm.sm K P n T X).E).map (ie .u8))] _ _ _ at dc;generalize nl (Itm.sm K P n T X).E=E1 at*
 generalize nl (Itm.sm K P n T' X').E=E2 at*
 have rq:=rd q d';clear hx hy hok a1 hg rd;simp only[Itm.v] at en en' sm sm';refine zF Ka Tryz.call6 Tryz.func6 [.tmp 4] fun Q hQ=>?_
 by_cases h1:300<B.length
 case' pos=>
  refine Jf hL ?_
 case' neg=>
  have hBB:=hns h1;subst hBB;refine ae ?_
 all_goals
  refine zW [] [] it ?_;refine CO (.tup [.row 1 (E1.map (ie .u8)),.lit (.int .i64 0)]) en ?_;refine ae ?_;refine zW [] [] dc ?_;refine aW (sm) ?_;refine ae ?_;refine zW [] [] nt ?_;refine zW [] [] nt ?_;refine aF [some 1] [] (cl) ?_;refine pS ?_;refine⟨?_,?_⟩
  all_goals
   refine aF [some 1,some 5] [] (ad) ?_;refine pS ?_;refine zW [some 3,some 6] [] ad ?_;refine bI (en') ?_;refine ae ?_;refine bI (en') ?_;refine ae ?_;refine bI (en) ?_;refine ae ?_;refine aW (rq) ?_;refine ae ?_;refine aW (rq) ?_;refine ae ?_;refine aW (sm') ?_;refine VA ?_;exact ak [] hQ
set_option maxHeartbeats 8000000 in
theorem zV {Kd kk aa bb:Int} {S:List (Int×Int×Bool)} {M D Sc R C ck ca cb:Int} {W Ky:List Nat} {L0 B:List Bool} (hB:B.length≤9223372036854775807) {Rn Cn k a b T:Nat} {l:List RW} (hsm:GW k a b) (hR:1≤Rn∧Rn≤4) (hC:1≤Cn∧Cn≤64) (hl:l.length=Rn) (hr:∀r∈l,bC k a b Cn r) (hT:T≤100)
 (it:aA Tryz.prog 8 [.agg (pN Kd kk aa bb S M D Sc R C ck ca cb W Ky L0)] [] (.tup [FL 0,.lit (.bool true)]) [some (fy Rn Cn k a b l T)]):aA Tryz.prog 6 [.agg (pN Kd kk aa bb S M D Sc R C ck ca cb W Ky L0),.row 1 (B.map be)] [] (.lit (.bool true)) []:=by
 have hL1:(B.take 300).length≤300:=by rw[ajt];omega
 have hns:¬300<B.length→B.take 300=B:=fun h=>ajy zo;generalize hL:B.take 300=L at*
 have nt:=fY (L:=L) zo;have rd:=fun p d=>kq (L:=L) (p:=p) (d:=d);have hx:(Itm.ct Rn Cn k a b T l).ok:=⟨bO hsm,hC,hR,hl,by omega,hr⟩;obtain ⟨e,l',T',q,d',a1,a2,a3,a4,ad⟩:=BY (T:=T) (n:=3) (key:=5) (p:=0) (d:=false) (L:=L) zo (lx hsm) hC zo zo zd zo hl hR hr;have hy:(Itm.ct Rn Cn k a b T' l').ok:=⟨bO hsm,hC,hR,a1,by omega,a2⟩;have en:aA Tryz.prog 10 [(Itm.ct Rn Cn k a b T l).v] [] (.tup [.sl 0 1 0 (nl (Itm.ct Rn Cn k a b T l).E).length,.lit (.int .i64 0)]) [some (.row 1 ((nl (Itm.ct Rn Cn k a b T l).E).map (ie .u8)))]:=by rw[ay];exact(Itm.enc hx).2
 have en':aA Tryz.prog 10 [(Itm.ct Rn Cn k a b T' l').v] [] (.tup [.sl 0 1 0 (nl (Itm.ct Rn Cn k a b T' l').E).length,.lit (.int .i64 0)]) [some (.row 1 ((nl (Itm.ct Rn Cn k a b T' l').E).map (ie .u8)))]:=by rw[ay];exact(Itm.enc hy).2
 have dc:=tG (bO hsm) hC hR hl zo hr (Itm.len hx);have cl:=wZ (C:=Cn) (k:=k) (a:=a) (b:=b) (T:=T) (bO hsm) zo hl hR;have sm:=Itm.same hx hx;have sm':=Itm.same hy hy;rw[aju rfl] at sm sm';have hE:(nl (Itm.ct Rn Cn k a b T l).E).length≤1200:=by rw[ay];exact(Itm.enc hx).1
 have hE':(nl (Itm.ct Rn Cn k a b T' l').E).length≤1200:=by rw[ay];exact(Itm.enc hy).1
 change aA _ _ [.row 1 ((nl (Itm.ct Rn Cn k a b T l).E).map (ie .u8))] _ _ _ at dc;generalize nl (Itm.ct Rn Cn k a b T l).E=E1 at*
 generalize nl (Itm.ct Rn Cn k a b T' l').E=E2 at*
 have rq:=rd q d';clear hx hy hr a2 hsm rd;simp only[Itm.v] at en en' sm sm';refine zF Ka Tryz.call6 Tryz.func6 [.tmp 4] fun Q hQ=>?_
 by_cases h1:300<B.length
 case' pos=>
  refine Jf hL ?_
 case' neg=>
  have hBB:=hns h1;subst hBB;refine ae ?_
 all_goals
  refine zW [] [] it ?_;refine CO (.tup [.row 1 (E1.map (ie .u8)),.lit (.int .i64 0)]) en ?_;refine ae ?_;refine zW [] [] dc ?_;refine aW (sm) ?_;refine ae ?_;refine zW [] [] nt ?_;refine zW [] [] nt ?_;refine aF [some 1] [] (cl) ?_;refine pS ?_;refine⟨?_,?_⟩
  all_goals
   refine aF [some 1,some 5] [] (ad) ?_;refine pS ?_;refine zW [some 3,some 6] [] ad ?_;refine bI (en') ?_;refine ae ?_;refine bI (en') ?_;refine ae ?_;refine bI (en) ?_;refine ae ?_;refine aW (rq) ?_;refine ae ?_;refine aW (rq) ?_;refine ae ?_;refine aW (sm') ?_;refine VA ?_;exact ak [] hQ
set_option maxHeartbeats 8000000 in
theorem AE {Kd kk aa bb:Int} {S:List (Int×Int×Bool)} {M D Sc R C ck ca cb:Int} {W Ky:List Nat} {L0 B:List Bool} (hB:B.length≤9223372036854775807) {k a b n:Nat} {l:List SR} (hsm:GW k a b) (hn:1≤n∧n≤8) (hl:l.length=n) (hr:∀s∈l,aP k a b s)
 (it:aA Tryz.prog 8 [.agg (pN Kd kk aa bb S M D Sc R C ck ca cb W Ky L0)] [] (.tup [OR 0,.lit (.bool true)]) [some (cP 1 k a b),some (cC 2 n (wd k a b)),some (ch n (wd k a b) (bg k a b l))]):aA Tryz.prog 6 [.agg (pN Kd kk aa bb S M D Sc R C ck ca cb W Ky L0),.row 1 (B.map be)] [] (.lit (.bool true)) []:=by
 have hL1:(B.take 300).length≤300:=by rw[ajt];omega
 have hns:¬300<B.length→B.take 300=B:=fun h=>ajy zo;generalize hL:B.take 300=L at*
 have nt:=fY (L:=L) zo;have rd:=fun p d=>kq (L:=L) (p:=p) (d:=d);have hx:(Itm.ar k a b l).ok:=⟨bO hsm,by omega,hr⟩;obtain ⟨e,l',q,d',a1,a2,a3,ad⟩:=eh (n:=n) (m:=3) (i:=0) (p:=0) (d:=false) (L:=L) zo (lx hsm) zo zo zo hl hr zo;have hy:(Itm.ar k a b l').ok:=⟨bO hsm,by omega,a2⟩;have en:aA Tryz.prog 10 [(Itm.ar k a b l).v] [] (.tup [.sl 0 1 0 (nl (Itm.ar k a b l).E).length,.lit (.int .i64 0)]) [some (.row 1 ((nl (Itm.ar k a b l).E).map (ie .u8)))]:=by rw[ay];exact(Itm.enc hx).2
 have en':aA Tryz.prog 10 [(Itm.ar k a b l').v] [] (.tup [.sl 0 1 0 (nl (Itm.ar k a b l').E).length,.lit (.int .i64 0)]) [some (.row 1 ((nl (Itm.ar k a b l').E).map (ie .u8)))]:=by rw[ay];exact(Itm.enc hy).2
 have dc:=tZ (bO hsm) zo rfl hr;have cl:=yD (k:=k) (a:=a) (b:=b) (n:=n) (l:=l) (bO hsm) zo;have sm:=Itm.same hx hx;have sm':=Itm.same hy hy;rw[aju rfl] at sm sm';have hE:(nl (Itm.ar k a b l).E).length≤1200:=by rw[ay];exact(Itm.enc hx).1
 have hE':(nl (Itm.ar k a b l').E).length≤1200:=by rw[ay];exact(Itm.enc hy).1
 change aA _ _ [.row 1 ((nl (Itm.ar k a b l).E).map (ie .u8))] _ _ _ at dc;generalize nl (Itm.ar k a b l).E=E1 at*
 generalize nl (Itm.ar k a b l').E=E2 at*
 have rq:=rd q d';clear hx hy hr a2 hsm rd;simp only[Itm.v] at en en' sm sm';rw[hl] at en sm dc;rw[a1] at en' sm';unfold bg at it dc ad;simp only[jz] at en en' sm sm' cl;generalize aV (wd k a b) (l.map (fj k a b))=X1 at*
 generalize aV (wd k a b) (l'.map (fj k a b))=X2 at*
 generalize wd k a b=w at*
 have hlw:=aq (aZ n w) X1;have hlw':=aq (aZ n w) X2;refine zF Ka Tryz.call6 Tryz.func6 [.tmp 4] fun Q hQ=>?_
 by_cases h1:300<B.length
 case' pos=>
  refine Jf hL ?_
 case' neg=>
  have hBB:=hns h1;subst hBB;refine ae ?_
 all_goals
  refine zW [] [] it ?_;refine CO (.tup [.row 1 (E1.map (ie .u8)),.lit (.int .i64 0)]) en ?_;refine ae ?_;refine zW [] [] dc ?_;refine aW (sm) ?_;refine ae ?_;refine zW [] [] nt ?_;refine zW [] [] nt ?_;refine aF [some 1,some 2,some 3] [] (cl) ?_;refine pS ?_;refine⟨?_,?_⟩
  all_goals
   refine aF [some 1,some 2,some 3,some 9] [] (ad) ?_;refine pS ?_;refine zW [some 5,some 6,some 7,some 10] [] ad ?_;refine bI (en') ?_;refine ae ?_;refine bI (en') ?_;refine ae ?_;refine bI (en) ?_;refine ae ?_;refine aW (rq) ?_;refine ae ?_;refine aW (rq) ?_;refine ae ?_;refine aW (sm') ?_;refine VA ?_;exact ak [] hQ
set_option maxHeartbeats 8000000 in
theorem zu {Kd kk aa bb:Int} {S:List (Int×Int×Bool)} {M D Sc R C ck ca cb:Int} {W Ky:List Nat} {L0 B:List Bool} (hB:B.length≤9223372036854775807) {k a b:Nat} {s:SR} (hsm:GW k a b) (hr:aP k a b s)
 (it:aA Tryz.prog 8 [.agg (pN Kd kk aa bb S M D Sc R C ck ca cb W Ky L0)] [] (.tup [uw k a b s,.lit (.bool true)]) []):aA Tryz.prog 6 [.agg (pN Kd kk aa bb S M D Sc R C ck ca cb W Ky L0),.row 1 (B.map be)] [] (.lit (.bool true)) []:=by
 have hL1:(B.take 300).length≤300:=by rw[ajt];omega
 have hns:¬300<B.length→B.take 300=B:=fun h=>ajy zo;generalize hL:B.take 300=L at*
 have nt:=fY (L:=L) zo;have rd:=fun p d=>kq (L:=L) (p:=p) (d:=d);have hx:(Itm.rg k a b s).ok:=⟨bO hsm,hr⟩;obtain ⟨e,s',q,d',a1,a2,ad⟩:=Co (n:=3) (p:=0) (d:=false) (L:=L) zo (lx hsm) zo hr zo;have hy:(Itm.rg k a b s').ok:=⟨bO hsm,a1⟩;have en:=(Itm.enc hx).row;have en':=(Itm.enc hy).row;have dc:=tN (bO hsm) hr;have cl:=rP (bO hsm) hr;have sm:=Itm.same hx hx;have sm':=Itm.same hy hy;rw[aju rfl] at sm sm';have hE:(nl (Itm.rg k a b s).E).length≤1200:=by rw[ay];exact(Itm.enc hx).1
 have hE':(nl (Itm.rg k a b s').E).length≤1200:=by rw[ay];exact(Itm.enc hy).1
 change aA _ _ [.row 1 ((nl (Itm.rg k a b s).E).map (ie .u8))] _ _ _ at dc;generalize nl (Itm.rg k a b s).E=E1 at*
 generalize nl (Itm.rg k a b s').E=E2 at*
 have rq:=rd q d';clear hx hy hr a1 hsm rd;simp only[Itm.v] at en en' sm sm';refine zF Ka Tryz.call6 Tryz.func6 [.tmp 4] fun Q hQ=>?_
 by_cases h1:300<B.length
 case' pos=>
  refine Jf hL ?_
 case' neg=>
  have hBB:=hns h1;subst hBB;refine ae ?_
 all_goals
  refine zC it ?_;refine zC en ?_;refine zC dc ?_;refine zC sm ?_;refine zW [] [] nt ?_;refine zW [] [] nt ?_;refine zC cl ?_;refine zW [some 3] [] ad ?_;refine zW [some 4] [] ad ?_;refine zC en' ?_;refine zC en' ?_;refine zC en ?_;refine aW (rq) ?_;refine ae ?_;refine aW (rq) ?_;refine ae ?_;refine aB (sm') rfl rfl ?_;refine VA ?_;exact ak [] hQ
theorem sa {Kd kk aa bb:Int} {S:List (Int×Int×Bool)} {M D Sc R C ck ca cb:Int} {W Ky:List Nat} {L0 B:List Bool} (hS:S.length≤9223372036854775807) (hL0:L0.length≤9223372036854775807) (hW:W.length≤9223372036854775807) (hw:∀x∈W,x<18446744073709551616) (hKy:Ky.length≤9223372036854775807) (hky:∀x∈Ky,x<18446744073709551616) (hB:B.length≤9223372036854775807):
 aA Tryz.prog 6 [.agg (pN Kd kk aa bb S M D Sc R C ck ca cb W Ky L0),.row 1 (B.map be)] [] (.lit (.bool true)) []:=by
 by_cases t0:(Kd.tmod 5+5)%5=0
 · obtain ⟨k,a,b,s,hsm,hwl,fn⟩:=ya (kk:=kk) (aa:=aa) (bb:=bb) (S:=S) (M:=M) (D:=D) (Sc:=Sc) (R:=R) (C:=C) (ck:=ck) (ca:=ca) (cb:=cb) (W:=W) (Ky:=Ky) t0 hS hL0
   exact zu hB hsm hwl fn
 by_cases t1:(Kd.tmod 5+5)%5=1
 · obtain ⟨k,a,b,n,l,hsm,h1,h8,hl,hwl,hd⟩:=yk (kk:=kk) (aa:=aa) (bb:=bb) (S:=S) (M:=M) (D:=D) (Sc:=Sc) (R:=R) (C:=C) (ck:=ck) (ca:=ca) (cb:=cb) (W:=W) (Ky:=Ky) t1 hS hL0
   exact AE hB hsm ⟨h1,h8⟩ hl hwl hd
 by_cases t2:(Kd.tmod 5+5)%5=2
 · obtain ⟨m,g,s,n,st,hwb,hm4,hs3,h1,h5,hl,hok,hd⟩:=xY (kk:=kk) (aa:=aa) (bb:=bb) (S:=S) (M:=M) (D:=D) (Sc:=Sc) (R:=R) (C:=C) (ck:=ck) (ca:=ca) (cb:=cb) (W:=W) (Ky:=Ky) t2 hS hL0 hKy hky
   exact Ar hB hwb zo zo hok hd
 by_cases t3:(Kd.tmod 5+5)%5=3
 · obtain ⟨Rn,Cn,k,a,b,T,l,hsm,h1,h2,h3,h4,hl,hr,hT,hd⟩:=yq (kk:=kk) (aa:=aa) (bb:=bb) (S:=S) (M:=M) (D:=D) (Sc:=Sc) (R:=R) (C:=C) (ck:=ck) (ca:=ca) (cb:=cb) (W:=W) (Ky:=Ky) t3 hS hL0 hW hw hKy hky
   exact zV hB hsm ⟨h1,h2⟩ ⟨h3,h4⟩ hl hr hT hd
 · have t4:(Kd.tmod 5+5)%5=4:=by omega
   obtain ⟨K,P,n,T,X,hg,h1,h2,ho,hT,hd⟩:=yV (kk:=kk) (aa:=aa) (bb:=bb) (S:=S) (M:=M) (D:=D) (Sc:=Sc) (R:=R) (C:=C) (ck:=ck) (ca:=ca) (cb:=cb) (W:=W) (Ky:=Ky) t4 hS hL0 hKy hky;exact AP hB hg zo ho hT hd
end Go.Proofs.YtcnlmelpnflhnaaGreat
