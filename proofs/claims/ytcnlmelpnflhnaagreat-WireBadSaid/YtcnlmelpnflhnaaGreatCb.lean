import Derived.Test.YtcnlmelpnflhnaaGreatBx
namespace Go.Proofs.YtcnlmelpnflhnaaGreat
open Go.Eng Go.Vx
set_option linter.unusedSimpArgs false
set_option linter.unusedVariables false
set_option maxRecDepth 100000
def BJ (l:List Nat):Prop:=∃y:Itm,y.ok∧y.E=l
theorem tj {x:V} {E:List Nat} (en:mB x E) (y:Itm) (h:y.ok) (e:y.E=E):BJ E:=⟨y,h,e⟩
theorem M5 {l:List Nat} (hl:∀x∈l,x<256) (h4:4≤l.length) (hm:l.length≤4096) (hs:aT (l.take (l.length-4))=l) (h0:4<l.length) (hv:numOf ((bitsOf (nl (aO l))).take 4)=1) (ht:numOf (((bitsOf (nl (aO l))).drop 4).take 3)=1):tU l∨BJ l:=by
 have hI:gQ (nl (aO l)):=dx fun x hx=>hl x (akt hx);have hlb:(nl (aO l)).length=l.length-4:=by rw[av];unfold aO;simp
 have hbl:=aG (nl (aO l));obtain ⟨⟨⟨K,A,Z⟩,p1,e1⟩,h1⟩:∃v,xy (bitsOf (nl (aO l))) 7 0=v:=⟨_,rfl⟩;have l1:=kN (L:=bitsOf (nl (aO l))) (p:=7) (e:=0) zo;rw[h1] at l1;dsimp only at l1
 by_cases hg:mD K A Z
 · obtain ⟨k,a,b,rfl,rfl,rfl,hg⟩:=hg
   have hr:=qS (p:=p1) hg hI zo zo;have l2:=Cj (L:=bitsOf (nl (aO l))) (k:=k) (a:=a) (b:=b) l1;have er:=qx (L:=bitsOf (nl (aO l))) (k:=k) (a:=a) (b:=b) (p:=p1);obtain ⟨⟨o,q,er'⟩,h2⟩:∃v,uS (bitsOf (nl (aO l))) k a b p1=v:=⟨_,rfl⟩;rw[h2] at hr l2 er;dsimp only at hr l2 er
   cases o with
   | none=>
     have he:=er.1 rfl;have hb:=mZ hI zo zo h1 hr;exact .inl (td hl h4 hm hs h0 hv ht (by split<;>assumption) hb)
   | some s=>
     obtain ⟨rfl,hw⟩:=er.2 s rfl;have hb:=mZ hI zo zo h1 hr
     by_cases he1:e1=0
     · rw[if_pos he1] at hb
       by_cases hc:dE (bitsOf (nl (aO l))) q=0
       · have en:=Dm hg hw
         rw[akl] at en;have yw:=tj en (.rg k a b s) ⟨hg,hw⟩ rfl;generalize aT _=E at en yw
         by_cases hne:nl E=nl l
         · obtain rfl:=mU.1 hne
           exact .inr yw
         · exact .inl (At hl h4 hm hs h0 hv ht hg hw zo hc hb en.2 rfl (by have:=en.1;omega) hne)
       · exact .inl (B5 hl h4 hm hs h0 hv ht hg hw zo hc hb)
     · rw[if_neg he1] at hb
       exact .inl (td hl h4 hm hs h0 hv ht he1 hb)
 · have hr:=EF (p:=p1) (B:=nl (aO l)) hg
   have hb:=mZ hI zo zo h1 hr;exact .inl (td hl h4 hm hs h0 hv ht (by split;decide;assumption) hb)
theorem Mv {l:List Nat} (hl:∀x∈l,x<256) (h4:4≤l.length) (hm:l.length≤4096) (hs:aT (l.take (l.length-4))=l) (h0:4<l.length) (hv:numOf ((bitsOf (nl (aO l))).take 4)=1) (ht:numOf (((bitsOf (nl (aO l))).drop 4).take 3)=2):tU l∨BJ l:=by
 have hI:gQ (nl (aO l)):=dx fun x hx=>hl x (akt hx);have hlb:(nl (aO l)).length=l.length-4:=by rw[av];unfold aO;simp
 have hbl:=aG (nl (aO l));obtain ⟨⟨⟨K,A,Z⟩,p1,e1⟩,h1⟩:∃v,xy (bitsOf (nl (aO l))) 7 0=v:=⟨_,rfl⟩;have l1:=kN (L:=bitsOf (nl (aO l))) (p:=7) (e:=0) zo;rw[h1] at l1;dsimp only at l1;obtain ⟨⟨n,p2,e2⟩,h2⟩:∃v,eY (bitsOf (nl (aO l))) p1 e1=v:=⟨_,rfl⟩;have l2:=bJ (L:=bitsOf (nl (aO l))) (p:=p1) (e:=e1) l1;rw[h2] at l2;dsimp only at l2
 by_cases hg:mD K A Z∧1≤n∧n≤256
 · have ng:=qQ (L:=bitsOf (nl (aO l))) (p:=p1) (e:=e1) (by rw[h2];exact hg.2)
   rw[h2] at ng;obtain ⟨rfl,ng2⟩:=ng;dsimp only at ng2;subst ng2;obtain ⟨⟨k,a,b,rfl,rfl,rfl,hg⟩,hn1,hn2⟩:=hg;obtain ⟨n,rfl⟩:=Int.eq_ofNat_of_zero_le (show 0≤n by omega);have hr:=yx (n:=n) (p:=p2) hg zo hI zo zo;have l3:=wL (L:=bitsOf (nl (aO l))) (k:=k) (a:=a) (b:=b) (n:=n) l2;have er:=fun m=>sy (L:=bitsOf (nl (aO l))) (k:=k) (a:=a) (b:=b) (n:=n) (p:=p2) (l:=m);have en0:=n6 (L:=bitsOf (nl (aO l))) (k:=k) (a:=a) (b:=b) (n:=n) (p:=p2);obtain ⟨⟨o,q,er'⟩,h3⟩:∃v,nE (bitsOf (nl (aO l))) k a b n p2=v:=⟨_,rfl⟩;rw[h3] at hr l3 er en0;dsimp only at l3 er en0
   cases o with
   | none=>
     have he:=en0 rfl;unfold TC Vn at hr;dsimp only at hr;have hb:=pE hI zo zo h1 h2 hr;exact .inl (fy hl h4 hm hs h0 hv ht (by rw[if_pos rfl];exact he) hb)
   | some m=>
     obtain ⟨rfl,hml,hmw⟩:=er m rfl;unfold TC Vn at hr;dsimp only at hr;have hb:=BZ hI zo zo h1 h2 hr;rw[if_pos rfl] at hb
     by_cases hc:dE (bitsOf (nl (aO l))) q=0
     · have en:=CO (n:=n) hg zo hml
       rw[List.append_assoc] at en;have yw:=tj en (.ar k a b m) ⟨hg,by omega,hmw⟩ (by unfold Itm.E Itm.b;dsimp only[Itm.t];rw[hml]);generalize aT _=E at en yw
       by_cases hne:nl E=nl l
       · obtain rfl:=mU.1 hne
         exact .inr yw
       · exact .inl (Aw hl h4 hm hs h0 hv ht zo hc hb en.2 rfl (by have:=en.1;omega) hne)
     · exact .inl (Ap hl h4 hm hs h0 hv ht zo hc hb)
 · have hr:=Ga (p:=p2) (B:=nl (aO l)) hg
   have hb:=pE hI zo zo h1 h2 hr;exact .inl (fy hl h4 hm hs h0 hv ht (by split;decide;assumption) hb)
theorem NP {l:List Nat} (hl:∀x∈l,x<256) (h4:4≤l.length) (hm:l.length≤4096) (hs:aT (l.take (l.length-4))=l) (h0:4<l.length) (hv:numOf ((bitsOf (nl (aO l))).take 4)=1) (ht:numOf (((bitsOf (nl (aO l))).drop 4).take 3)=3):tU l∨BJ l:=by
 have hI:gQ (nl (aO l)):=dx fun x hx=>hl x (akt hx);have hlb:(nl (aO l)).length=l.length-4:=by rw[av];unfold aO;simp
 have hbl:=aG (nl (aO l));obtain ⟨⟨M,p1,e1⟩,h1⟩:∃v,eY (bitsOf (nl (aO l))) 7 0=v:=⟨_,rfl⟩;have l1:=bJ (L:=bitsOf (nl (aO l))) (p:=7) (e:=0) zo;rw[h1] at l1;dsimp only at l1;obtain ⟨⟨D,p2,e2⟩,h2⟩:∃v,eY (bitsOf (nl (aO l))) p1 e1=v:=⟨_,rfl⟩;have l2:=bJ (L:=bitsOf (nl (aO l))) (p:=p1) (e:=e1) l1;rw[h2] at l2;dsimp only at l2;obtain ⟨⟨S,p3,e3⟩,h3⟩:∃v,eY (bitsOf (nl (aO l))) p2 e2=v:=⟨_,rfl⟩;have l3:=bJ (L:=bitsOf (nl (aO l))) (p:=p2) (e:=e2) l2;rw[h3] at l3;dsimp only at l3;obtain ⟨⟨n,p4,e4⟩,h4'⟩:∃v,eY (bitsOf (nl (aO l))) p3 e3=v:=⟨_,rfl⟩;have l4:=bJ (L:=bitsOf (nl (aO l))) (p:=p3) (e:=e3) l3;rw[h4'] at l4;dsimp only at l4
 by_cases hg:mj M D S∧1≤n∧n≤256
 · have ng:=qQ (L:=bitsOf (nl (aO l))) (p:=p3) (e:=e3) (by rw[h4'];exact hg.2)
   rw[h4'] at ng;obtain ⟨rfl,ng2⟩:=ng;dsimp only at ng2;subst ng2;obtain ⟨hg,hn1,hn2⟩:=hg;have hg':=hg;obtain ⟨⟨a1,a2⟩,⟨a3,a4⟩,a5,a6⟩:=hg';obtain ⟨M,rfl⟩:=Int.eq_ofNat_of_zero_le (show 0≤M by omega);obtain ⟨D,rfl⟩:=Int.eq_ofNat_of_zero_le (show 0≤D by omega);obtain ⟨S,rfl⟩:=Int.eq_ofNat_of_zero_le (show 0≤S by omega);obtain ⟨n,rfl⟩:=Int.eq_ofNat_of_zero_le (show 0≤n by omega);have hr:=KE (n:=n) (p:=p4) hg zo hI zo zo;have l5:=Q2 (L:=bitsOf (nl (aO l))) (M:=M) (D:=D) (S:=S) (n:=n) l4;have er:=fun m=>NM (L:=bitsOf (nl (aO l))) (M:=M) (D:=D) (S:=S) (n:=n) (p:=p4) (st:=m) l4;have en0:=Iu (L:=bitsOf (nl (aO l))) (M:=M) (D:=D) (S:=S) (n:=n) (p:=p4);obtain ⟨⟨o,q,er'⟩,h5⟩:∃v,vf (bitsOf (nl (aO l))) M D S n p4=v:=⟨_,rfl⟩;rw[h5] at hr l5 er en0;dsimp only at l5 er en0
   cases o with
   | none=>
     have he:=en0 rfl;unfold GF GC at hr;dsimp only at hr;have hb:=pI hI zo zo h1 h2 h3 h4' hr;exact .inl (fy hl h4 hm hs h0 hv ht (by rw[if_pos rfl];omega) hb)
   | some m=>
     obtain ⟨-,rfl,⟨k1,k2,k3,k4,k5⟩,-⟩:=er m rfl;unfold GF GC at hr;dsimp only at hr;have hb:=Aq hI zo zo h1 h2 h3 h4' hr;rw[if_pos rfl] at hb
     by_cases hc:dE (bitsOf (nl (aO l))) q=0
     · have en:=Dz (M:=M) (D:=D) (S:=S) (st:=m) zo zo zo zo (fun c hc=>⟨(k2 c hc).1,(k2 c hc).2.1⟩) ⟨k3,by omega⟩
       rw[akl] at en;have yw:=tj en (.sc M D S m) ⟨hg,by omega,by rw[k1];exact⟨k1,k2,k3,k4,k5⟩⟩ rfl;generalize aT _=E at en yw
       by_cases hne:nl E=nl l
       · obtain rfl:=mU.1 hne
         exact .inr yw
       · exact .inl (BL hl h4 hm hs h0 hv ht zo hc hb en.2 rfl (by have:=en.1;omega) hne)
     · exact .inl (B9 hl h4 hm hs h0 hv ht zo hc hb)
 · have hr:=FY (p:=p4) (B:=nl (aO l)) hg
   have hb:=pI hI zo zo h1 h2 h3 h4' hr;exact .inl (fy hl h4 hm hs h0 hv ht (by split;decide;assumption) hb)
theorem Np {l:List Nat} (hl:∀x∈l,x<256) (h4:4≤l.length) (hm:l.length≤4096) (hs:aT (l.take (l.length-4))=l) (h0:4<l.length) (hv:numOf ((bitsOf (nl (aO l))).take 4)=1) (ht:numOf (((bitsOf (nl (aO l))).drop 4).take 3)=4):tU l∨BJ l:=by
 have hI:gQ (nl (aO l)):=dx fun x hx=>hl x (akt hx);have hlb:(nl (aO l)).length=l.length-4:=by rw[av];unfold aO;simp
 have hbl:=aG (nl (aO l));obtain ⟨⟨R,p1,e1⟩,h1⟩:∃v,eY (bitsOf (nl (aO l))) 7 0=v:=⟨_,rfl⟩;have l1:=bJ (L:=bitsOf (nl (aO l))) (p:=7) (e:=0) zo;rw[h1] at l1;dsimp only at l1;obtain ⟨⟨C,p2,e2⟩,h2⟩:∃v,eY (bitsOf (nl (aO l))) p1 e1=v:=⟨_,rfl⟩;have l2:=bJ (L:=bitsOf (nl (aO l))) (p:=p1) (e:=e1) l1;rw[h2] at l2;dsimp only at l2;obtain ⟨⟨⟨K,A,Z⟩,p3,e3⟩,h3⟩:∃v,xy (bitsOf (nl (aO l))) p2 e2=v:=⟨_,rfl⟩;have l3:=kN (L:=bitsOf (nl (aO l))) (p:=p2) (e:=e2) l2;rw[h3] at l3;dsimp only at l3
 by_cases hg:Iq R C K A Z
 · obtain ⟨⟨a1,a2,a3,a4⟩,k,a,b,rfl,rfl,rfl,hg⟩:=hg
   obtain ⟨R,rfl⟩:=Int.eq_ofNat_of_zero_le (show 0≤R by omega);obtain ⟨C,rfl⟩:=Int.eq_ofNat_of_zero_le (show 0≤C by omega);have hr:=EK (R:=R) (C:=C) (p:=p3) zo zo hg hI zo zo;have l5:=RC (L:=bitsOf (nl (aO l))) (R:=R) (C:=C) (k:=k) (a:=a) (b:=b) l3;have er:=fun m=>Jq (L:=bitsOf (nl (aO l))) (R:=R) (C:=C) (k:=k) (a:=a) (b:=b) (p:=p3) (x:=m);have en0:=IB (L:=bitsOf (nl (aO l))) (R:=R) (C:=C) (k:=k) (a:=a) (b:=b) (p:=p3);obtain ⟨⟨o,q,er'⟩,h5⟩:∃v,D4 (bitsOf (nl (aO l))) R C k a b p3=v:=⟨_,rfl⟩;rw[h5] at hr l5 er en0;dsimp only at l5 er en0
   cases o with
   | none=>
     have he:=en0 rfl;unfold Lu LH at hr;dsimp only at hr;have hb:=pP hI zo zo h1 h2 h3 hr;exact .inl (fy hl h4 hm hs h0 hv ht (by split<;>assumption) hb)
   | some m=>
     obtain ⟨rfl,k1,k2,k3⟩:=er m rfl;obtain ⟨m,T⟩:=m;dsimp only at k1 k2 k3;unfold Lu LH at hr;dsimp only at hr;have hb:=Cs hI zo zo h1 h2 h3 hr
     by_cases he3:e3=0
     · rw[if_pos he3] at hb
       by_cases hc:dE (bitsOf (nl (aO l))) q=0
       · have en:=DM (R:=R) (C:=C) (l:=m) (T:=T) hg zo zo zo k3 k2
         rw[akl] at en;have yw:=tj en (.ct R C k a b T m) ⟨hg,by omega,by omega,k1,k2,k3⟩ rfl;generalize aT _=E at en yw
         by_cases hne:nl E=nl l
         · obtain rfl:=mU.1 hne
           exact .inr yw
         · exact .inl (BF hl h4 hm hs h0 hv ht zo hc hb en.2 rfl (by have:=en.1;omega) hne)
       · exact .inl (zT hl h4 hm hs h0 hv ht zo hc hb)
     · rw[if_neg he3] at hb
       exact .inl (H4 hl h4 hm hs h0 hv ht he3 hb)
 · have hr:=z5 (p:=p3) (B:=nl (aO l)) hg
   have hb:=pP hI zo zo h1 h2 h3 hr;exact .inl (fy hl h4 hm hs h0 hv ht (by split;decide;assumption) hb)
theorem Nq {l:List Nat} (hl:∀x∈l,x<256) (h4:4≤l.length) (hm:l.length≤4096) (hs:aT (l.take (l.length-4))=l) (h0:4<l.length) (hv:numOf ((bitsOf (nl (aO l))).take 4)=1) (ht:numOf (((bitsOf (nl (aO l))).drop 4).take 3)=5):tU l∨BJ l:=by
 have hI:gQ (nl (aO l)):=dx fun x hx=>hl x (akt hx);have hlb:(nl (aO l)).length=l.length-4:=by rw[av];unfold aO;simp
 have hbl:=aG (nl (aO l));obtain ⟨⟨K,p1,e1⟩,h1⟩:∃v,eY (bitsOf (nl (aO l))) 7 0=v:=⟨_,rfl⟩;have l1:=bJ (L:=bitsOf (nl (aO l))) (p:=7) (e:=0) zo;rw[h1] at l1;dsimp only at l1;obtain ⟨⟨P,p2,e2⟩,h2⟩:∃v,eY (bitsOf (nl (aO l))) p1 e1=v:=⟨_,rfl⟩;have l2:=bJ (L:=bitsOf (nl (aO l))) (p:=p1) (e:=e1) l1;rw[h2] at l2;dsimp only at l2;obtain ⟨⟨C,p3,e3⟩,h3⟩:∃v,eY (bitsOf (nl (aO l))) p2 e2=v:=⟨_,rfl⟩;have l3:=bJ (L:=bitsOf (nl (aO l))) (p:=p2) (e:=e2) l2;rw[h3] at l3;dsimp only at l3
 by_cases hg:mz K P C
 · have hg':=hg
   obtain ⟨hKP,hC1,hC2⟩:=hg';have ng:=qQ (L:=bitsOf (nl (aO l))) (p:=p2) (e:=e2) (by rw[h3];exact⟨hC1,by dsimp only;omega⟩);rw[h3] at ng;obtain ⟨rfl,ng2⟩:=ng;dsimp only at ng2;subst ng2;obtain ⟨K,rfl⟩:=Int.eq_ofNat_of_zero_le (show 0≤K by omega);obtain ⟨P,rfl⟩:=Int.eq_ofNat_of_zero_le (show 0≤P by omega);obtain ⟨C,rfl⟩:=Int.eq_ofNat_of_zero_le (show 0≤C by omega);have hr:=JK (p:=p3) hg hI zo zo;have l5:=Sv (L:=bitsOf (nl (aO l))) (C:=C) l3;have er:=fun X T=>MV (L:=bitsOf (nl (aO l))) (C:=C) (p:=p3) (X:=X) (N:=T) l3;have en0:=KA (L:=bitsOf (nl (aO l))) (C:=C) (p:=p3);obtain ⟨⟨o,q,er'⟩,h5⟩:∃v,tE (bitsOf (nl (aO l))) C p3=v:=⟨_,rfl⟩;rw[h5] at hr l5 er en0;dsimp only at l5 er en0
   cases o with
   | none=>
     have he:=en0 rfl;unfold KT HH at hr;dsimp only at hr;have hb:=pL hI zo zo h1 h2 h3 hr;exact .inl (fy hl h4 hm hs h0 hv ht (by rw[if_pos rfl];omega) hb)
   | some m=>
     obtain ⟨X,T⟩:=m;obtain ⟨-,rfl,⟨k1,k2,k3,k4⟩,-⟩:=er X T rfl;unfold KT HH at hr;dsimp only at hr;have hb:=BE hI zo zo h1 h2 h3 hr;rw[if_pos rfl] at hb
     by_cases hc:dE (bitsOf (nl (aO l))) q=0
     · have en:=C6 (K:=K) (P:=P) (C:=C) (X:=X) (T:=T) zo zo zo zo (fun x hx=>⟨(k3 x hx).1,by have:=(k3 x hx).2;omega⟩) (k4.elim (fun h=>.inr h.2) (fun h=>.inl h.1)) k2
       rw[akl] at en;have yw:=tj en (.sm K P C T X) ⟨hg,k1,k2,k3,k4⟩ rfl;generalize aT _=E at en yw
       by_cases hne:nl E=nl l
       · obtain rfl:=mU.1 hne
         exact .inr yw
       · exact .inl (Bd hl h4 hm hs h0 hv ht zo hc hb en.2 rfl (by have:=en.1;omega) hne)
     · exact .inl (Az hl h4 hm hs h0 hv ht zo hc hb)
 · have hr:=FB (p:=p3) (B:=nl (aO l)) hg
   have hb:=pL hI zo zo h1 h2 h3 hr;exact .inl (fy hl h4 hm hs h0 hv ht (by split;decide;assumption) hb)
theorem Qs {l:List Nat} (hl:∀x∈l,x<256) (hm:l.length<1000000):tU l∨BJ l:=by
 by_cases h1:4096<l.length
 · exact .inl (HY h1 hm)
 have hm:l.length≤4096:=by omega
 by_cases h4:l.length<4
 · exact .inl (tc hm zd (Ju h4))
 have h4:4≤l.length:=by omega
 by_cases hs:aT (l.take (l.length-4))=l
 · by_cases h0:l.length=4
   · exact .inl (Gx hl h4 hm hs h0)
   have h0:4<l.length:=by omega
   by_cases hv:numOf ((bitsOf (nl (aO l))).take 4)=1
   · by_cases t1:numOf (((bitsOf (nl (aO l))).drop 4).take 3)=1
     · exact M5 hl h4 hm hs h0 hv t1
     by_cases t2:numOf (((bitsOf (nl (aO l))).drop 4).take 3)=2
     · exact Mv hl h4 hm hs h0 hv t2
     by_cases t3:numOf (((bitsOf (nl (aO l))).drop 4).take 3)=3
     · exact NP hl h4 hm hs h0 hv t3
     by_cases t4:numOf (((bitsOf (nl (aO l))).drop 4).take 3)=4
     · exact Np hl h4 hm hs h0 hv t4
     by_cases t5:numOf (((bitsOf (nl (aO l))).drop 4).take 3)=5
     · exact Nq hl h4 hm hs h0 hv t5
     exact .inl (fy hl h4 hm hs h0 hv rfl zd (Ii ⟨by omega,by omega,by omega,by omega,by omega⟩))
   · exact .inl (x6 hl h4 hm hs h0 hv)
 · exact .inl (tc hm zd (xA hl zo h4 hs))
end Go.Proofs.YtcnlmelpnflhnaaGreat
