import Derived.Test.YtcnlmelpnflhnaaGreatBj
import Derived.Test.YtcnlmelpnflhnaaGreatHa
namespace Go.Proofs.YtcnlmelpnflhnaaGreat
open Go.Eng Go.Vx
set_option linter.unusedSimpArgs false
set_option linter.unusedVariables false
set_option maxRecDepth 100000
attribute [local go_sem] List.take_succ_cons List.take_zero List.drop_succ_cons List.drop_zero
set_option maxHeartbeats 4000000 in
theorem HC {C k a b T n p key:Nat} {r0:RW} {L:List Bool} {d:Bool} (hL:L.length≤1048576) (hs:jU k a b) (hC:1≤C∧C≤64) (hn:n≤100) (hT:T≤1000) (hkey:key<2305843009213693951) (hp:p≤L.length) (k0:bB k a b C r0):
 ∃(e:Int) (l':List RW) (T' q:Nat) (d':Bool),l'.length=1∧(∀r∈l',bB k a b C r)∧T'≤T+n∧q≤L.length∧
 aA Tryz.prog 19 [.ref 0 0 0 0,.ref 1 0 0 0,.lit (.int .u64 key),.I n] [some (jd 1 C k a b [r0] T),some (bm L p d)] (.I e) [some (jd 1 C k a b l' T'),some (bm L q d')]:=by
 have h:=fm hs;have hw:=ff h;have cl:=xJ (T:=T) (r0:=r0) (C:=C) h zo;obtain ⟨A0,B0,m0⟩:=r0;obtain ⟨ka0,kb0,kl0,kw0⟩:=k0;dsimp only at ka0 kb0 kl0 kw0;have o0:=ja (k:=key) (c:=C) ka0 kb0 hkey hC;have oc0:(A0*key+B0)%pr%C<C:=Nat.mod_lt _ zo;generalize (A0*key+B0)%pr%C=i0 at*
 obtain ⟨e0,n0,q0,d0,nl0,nw0,g0,u0⟩:=eS (d:=d) (p:=p) hL hs hn (show C≤256 by omega) oc0 kl0 kw0 hp
 obtain ⟨res,okl,f0,f1⟩:∃res:Int×List RW×Nat×Nat×Bool,(res.2.1.length=1∧(∀r∈res.2.1,bB k a b C r)∧res.2.2.1≤T+n∧res.2.2.2.1≤L.length)∧(e0≠0→res=(e0,[(A0,B0,m0)],T,q0,d0))∧(e0=0→res=(0,[(A0,B0,n0)],T+n,q0,d0)):=by
  have ho:∀r∈([(A0,B0,m0)]:List RW),bB k a b C r:=by
   intro r hr;simp only[aky,ak6,or_false] at hr;rcases hr with rfl
   · exact⟨ka0,kb0,kl0,kw0⟩
  have hnw:∀r∈([(A0,B0,n0)]:List RW),bB k a b C r:=by
   intro r hr;simp only[aky,ak6,or_false] at hr;rcases hr with rfl
   · exact⟨ka0,kb0,nl0,nw0⟩
  by_cases y0:e0≠0
  · exact⟨_,⟨rfl,ho,alz _ _,g0⟩,fun _=>rfl,fun h=>absurd h y0⟩
  have z0:e0=0:=Classical.not_not.1 y0;exact⟨_,⟨rfl,hnw,akk _,g0⟩,fun h=>absurd z0 h,fun _=>rfl⟩
 refine⟨res.1,res.2.1,res.2.2.1,res.2.2.2.1,res.2.2.2.2,okl.1,okl.2.1,okl.2.2.1,okl.2.2.2,?_⟩;clear okl;dsimp only at*
 have l0:=aB (bq C (wd k a b)) (bV k a b m0);have v0:=aB (bq C (wd k a b)) (bV k a b n0);simp only[jd,tQ,akK,akV,iM,m9] at cl f0 f1 ⊢;generalize hX0:bV k a b m0=X0 at*
 generalize hY0:bV k a b n0=Y0 at*
 generalize hw':wd k a b=w at*
 refine zF I5 Tryz.call19 Tryz.func19 [.tmp 8] fun Q hQ=>?_;refine ae ?_;refine dk (cl) ?_;refine ae ?_
 refine aW (X:=Nat) (st:=fun i=>([(0,.ref 0 0 0 0),(1,.ref 1 0 0 0),(2,.lit (.int .u64 key)),(3,.I n),(9,.ref 2 0 0 0),(39,.sl 3 3 0 1),(40,.I 1),(41,.I i)],
  match i with
  | 0=> [some (.cells [.I 1,.I C,.I k,.I a,.I b,.row 3 [[.lit (.int .u64 A0),.lit (.int .u64 B0),.ptr 4 [[.ptr 3 [[.row 1 ((words (bq C w) X0).map (ie .u64)),.I C,.I w]] 0 0,.I k,.I a,.I b]] 0 0]],.I T]),
    some (bm L p d),
    some (.cells [.I 1,.I C,.I k,.I a,.I b,.sl 3 3 0 1,.I T]),
    some (.cells [.lit (.int .u64 A0),.lit (.int .u64 B0),.ref 4 0 0 0]),
    some (cX 5 k a b),
    some (cI 6 C w),
    some (cx C w X0)]
  | _=> [some (.cells [.I 1,.I C,.I k,.I a,.I b,.row 3 [[.lit (.int .u64 A0),.lit (.int .u64 B0),.ptr 4 [[.ptr 3 [[.row 1 ((words (bq C w) X0).map (ie .u64)),.I C,.I w]] 0 0,.I k,.I a,.I b]] 0 0]],.I T]),
    some (bm L q0 d0),
    some (.cells [.I 1,.I C,.I k,.I a,.I b,.sl 3 3 0 1,.I T]),
    some (.cells [.lit (.int .u64 A0),.lit (.int .u64 B0),.ref 4 0 0 0]),
    some (cX 5 k a b),
    some (cI 6 C w),
    some (cx C w Y0)]))
  (inv:=fun i=>(i=0)∨(i=1∧e0=0)) (m:=fun i=>1-i) 0 [some 0,some 1,some 2,some 3,some 4,some 5,some 6] rfl (by dsimp only;exact zM) (by dsimp only;exact zM) (.inl rfl) ?_
 rintro i (rfl | ⟨rfl,z0⟩)
 · dsimp only
   refine ae ?_;refine zC o0 ?_;refine aF [some 4,some 5,some 6,some 1] [] (u0) ?_
   by_cases z0:e0=0
   · subst z0
     refine ae ?_;refine aI 1 [some 0,some 1,some 2,some 3,some 4,some 5,some 6] rfl (by dsimp only;exact zM) (by dsimp only;exact zM) (by simp[]) zd
   · rw[f0 z0] at hQ
     simp only[jd,akK,akV,iM,m9,hX0,hY0,hw',show((1:Nat):Int)=1 from rfl] at hQ;exact zE [some 0,some 1] hQ
 · dsimp only
   rw[f1 z0] at hQ;simp only[jd,akK,akV,iM,m9,hX0,hY0,hw',show((1:Nat):Int)=1 from rfl] at hQ;have hTn:((T+n:Nat):Int)=(T:Int)+(n:Int):=by omega
   rw[hTn] at hQ;exact zE [some 0,some 1] hQ
set_option maxHeartbeats 4000000 in
theorem J6 {C k a b T n p key:Nat} {r0 r1:RW} {L:List Bool} {d:Bool} (hL:L.length≤1048576) (hs:jU k a b) (hC:1≤C∧C≤64) (hn:n≤100) (hT:T≤1000) (hkey:key<2305843009213693951) (hp:p≤L.length) (k0:bB k a b C r0) (k1:bB k a b C r1):
 ∃(e:Int) (l':List RW) (T' q:Nat) (d':Bool),l'.length=2∧(∀r∈l',bB k a b C r)∧T'≤T+n∧q≤L.length∧
 aA Tryz.prog 19 [.ref 0 0 0 0,.ref 1 0 0 0,.lit (.int .u64 key),.I n] [some (jd 2 C k a b [r0,r1] T),some (bm L p d)] (.I e) [some (jd 2 C k a b l' T'),some (bm L q d')]:=by
 have h:=fm hs;have hw:=ff h;have cl:=ze (T:=T) (r0:=r0) (r1:=r1) (C:=C) h zo;obtain ⟨A0,B0,m0⟩:=r0;obtain ⟨ka0,kb0,kl0,kw0⟩:=k0;dsimp only at ka0 kb0 kl0 kw0;have o0:=ja (k:=key) (c:=C) ka0 kb0 hkey hC;have oc0:(A0*key+B0)%pr%C<C:=Nat.mod_lt _ zo;generalize (A0*key+B0)%pr%C=i0 at*
 obtain ⟨e0,n0,q0,d0,nl0,nw0,g0,u0⟩:=eS (d:=d) (p:=p) hL hs hn (show C≤256 by omega) oc0 kl0 kw0 hp;obtain ⟨A1,B1,m1⟩:=r1;obtain ⟨ka1,kb1,kl1,kw1⟩:=k1;dsimp only at ka1 kb1 kl1 kw1;have o1:=ja (k:=key) (c:=C) ka1 kb1 hkey hC;have oc1:(A1*key+B1)%pr%C<C:=Nat.mod_lt _ zo;generalize (A1*key+B1)%pr%C=i1 at*
 obtain ⟨e1,n1,q1,d1,nl1,nw1,g1,u1⟩:=eS (d:=d0) (p:=q0) hL hs hn (show C≤256 by omega) oc1 kl1 kw1 g0
 obtain ⟨res,okl,f0,f1,f2⟩:∃res:Int×List RW×Nat×Nat×Bool,(res.2.1.length=2∧(∀r∈res.2.1,bB k a b C r)∧res.2.2.1≤T+n∧res.2.2.2.1≤L.length)∧(e0≠0→res=(e0,[(A0,B0,m0),(A1,B1,m1)],T,q0,d0))∧(e0=0→e1≠0→res=(e1,[(A0,B0,m0),(A1,B1,m1)],T,q1,d1))∧(e0=0→e1=0→res=(0,[(A0,B0,n0),(A1,B1,n1)],T+n,q1,d1)):=by
  have ho:∀r∈([(A0,B0,m0),(A1,B1,m1)]:List RW),bB k a b C r:=by
   intro r hr;simp only[aky,ak6,or_false] at hr;rcases hr with rfl | rfl
   · exact⟨ka0,kb0,kl0,kw0⟩
   · exact⟨ka1,kb1,kl1,kw1⟩
  have hnw:∀r∈([(A0,B0,n0),(A1,B1,n1)]:List RW),bB k a b C r:=by
   intro r hr;simp only[aky,ak6,or_false] at hr;rcases hr with rfl | rfl
   · exact⟨ka0,kb0,nl0,nw0⟩
   · exact⟨ka1,kb1,nl1,nw1⟩
  by_cases y0:e0≠0
  · exact⟨_,⟨rfl,ho,alz _ _,g0⟩,fun _=>rfl,fun h _=>absurd h y0,fun h _=>absurd h y0⟩
  have z0:e0=0:=Classical.not_not.1 y0
  by_cases y1:e1≠0
  · exact⟨_,⟨rfl,ho,alz _ _,g1⟩,fun h=>absurd z0 h,fun _ _=>rfl,fun _ h=>absurd h y1⟩
  have z1:e1=0:=Classical.not_not.1 y1;exact⟨_,⟨rfl,hnw,akk _,g1⟩,fun h=>absurd z0 h,fun _ h=>absurd z1 h,fun _ _=>rfl⟩
 refine⟨res.1,res.2.1,res.2.2.1,res.2.2.2.1,res.2.2.2.2,okl.1,okl.2.1,okl.2.2.1,okl.2.2.2,?_⟩;clear okl;dsimp only at*
 have l0:=aB (bq C (wd k a b)) (bV k a b m0);have v0:=aB (bq C (wd k a b)) (bV k a b n0);have l1:=aB (bq C (wd k a b)) (bV k a b m1);have v1:=aB (bq C (wd k a b)) (bV k a b n1);simp only[jd,tQ,akK,akV,iM,m9] at cl f0 f1 f2 ⊢;generalize hX0:bV k a b m0=X0 at*
 generalize hY0:bV k a b n0=Y0 at*
 generalize hX1:bV k a b m1=X1 at*
 generalize hY1:bV k a b n1=Y1 at*
 generalize hw':wd k a b=w at*
 refine zF I5 Tryz.call19 Tryz.func19 [.tmp 8] fun Q hQ=>?_;refine ae ?_;refine dk (cl) ?_;refine ae ?_
 refine aW (X:=Nat) (st:=fun i=>([(0,.ref 0 0 0 0),(1,.ref 1 0 0 0),(2,.lit (.int .u64 key)),(3,.I n),(9,.ref 2 0 0 0),(39,.sl 3 3 0 2),(40,.I 2),(41,.I i)],
  match i with
  | 0=> [some (.cells [.I 2,.I C,.I k,.I a,.I b,.row 3 [[.lit (.int .u64 A0),.lit (.int .u64 B0),.ptr 4 [[.ptr 3 [[.row 1 ((words (bq C w) X0).map (ie .u64)),.I C,.I w]] 0 0,.I k,.I a,.I b]] 0 0],[.lit (.int .u64 A1),.lit (.int .u64 B1),.ptr 4 [[.ptr 3 [[.row 1 ((words (bq C w) X1).map (ie .u64)),.I C,.I w]] 0 0,.I k,.I a,.I b]] 0 0]],.I T]),
    some (bm L p d),
    some (.cells [.I 2,.I C,.I k,.I a,.I b,.sl 3 3 0 2,.I T]),
    some (.cells [.lit (.int .u64 A0),.lit (.int .u64 B0),.ref 4 0 0 0,.lit (.int .u64 A1),.lit (.int .u64 B1),.ref 7 0 0 0]),
    some (cX 5 k a b),
    some (cI 6 C w),
    some (cx C w X0),
    some (cX 8 k a b),
    some (cI 9 C w),
    some (cx C w X1)]
  | 1=> [some (.cells [.I 2,.I C,.I k,.I a,.I b,.row 3 [[.lit (.int .u64 A0),.lit (.int .u64 B0),.ptr 4 [[.ptr 3 [[.row 1 ((words (bq C w) X0).map (ie .u64)),.I C,.I w]] 0 0,.I k,.I a,.I b]] 0 0],[.lit (.int .u64 A1),.lit (.int .u64 B1),.ptr 4 [[.ptr 3 [[.row 1 ((words (bq C w) X1).map (ie .u64)),.I C,.I w]] 0 0,.I k,.I a,.I b]] 0 0]],.I T]),
    some (bm L q0 d0),
    some (.cells [.I 2,.I C,.I k,.I a,.I b,.sl 3 3 0 2,.I T]),
    some (.cells [.lit (.int .u64 A0),.lit (.int .u64 B0),.ref 4 0 0 0,.lit (.int .u64 A1),.lit (.int .u64 B1),.ref 7 0 0 0]),
    some (cX 5 k a b),
    some (cI 6 C w),
    some (cx C w Y0),
    some (cX 8 k a b),
    some (cI 9 C w),
    some (cx C w X1)]
  | _=> [some (.cells [.I 2,.I C,.I k,.I a,.I b,.row 3 [[.lit (.int .u64 A0),.lit (.int .u64 B0),.ptr 4 [[.ptr 3 [[.row 1 ((words (bq C w) X0).map (ie .u64)),.I C,.I w]] 0 0,.I k,.I a,.I b]] 0 0],[.lit (.int .u64 A1),.lit (.int .u64 B1),.ptr 4 [[.ptr 3 [[.row 1 ((words (bq C w) X1).map (ie .u64)),.I C,.I w]] 0 0,.I k,.I a,.I b]] 0 0]],.I T]),
    some (bm L q1 d1),
    some (.cells [.I 2,.I C,.I k,.I a,.I b,.sl 3 3 0 2,.I T]),
    some (.cells [.lit (.int .u64 A0),.lit (.int .u64 B0),.ref 4 0 0 0,.lit (.int .u64 A1),.lit (.int .u64 B1),.ref 7 0 0 0]),
    some (cX 5 k a b),
    some (cI 6 C w),
    some (cx C w Y0),
    some (cX 8 k a b),
    some (cI 9 C w),
    some (cx C w Y1)]))
  (inv:=fun i=>(i=0)∨(i=1∧e0=0)∨(i=2∧e0=0∧e1=0)) (m:=fun i=>2-i) 0 [some 0,some 1,some 2,some 3,some 4,some 5,some 6,some 7,some 8,some 9] rfl (by dsimp only;exact zM) (by dsimp only;exact zM) (.inl rfl) ?_
 rintro i (rfl | ⟨rfl,z0⟩ | ⟨rfl,z0,z1⟩)
 · dsimp only
   refine ae ?_;refine zC o0 ?_;refine aF [some 4,some 5,some 6,some 1] [] (u0) ?_
   by_cases z0:e0=0
   · subst z0
     refine ae ?_;refine aI 1 [some 0,some 1,some 2,some 3,some 4,some 5,some 6,some 7,some 8,some 9] rfl (by dsimp only;exact zM) (by dsimp only;exact zM) (by simp[]) zd
   · rw[f0 z0] at hQ
     simp only[jd,akK,akV,iM,m9,hX0,hY0,hX1,hY1,hw',show((2:Nat):Int)=2 from rfl] at hQ;exact zE [some 0,some 1] hQ
 · dsimp only
   refine ae ?_;refine zC o1 ?_;refine aF [some 7,some 8,some 9,some 1] [] (u1) ?_
   by_cases z1:e1=0
   · subst z1
     refine ae ?_;refine aI 2 [some 0,some 1,some 2,some 3,some 4,some 5,some 6,some 7,some 8,some 9] rfl (by dsimp only;exact zM) (by dsimp only;exact zM) (by simp[z0]) zd
   · rw[f1 z0 z1] at hQ
     simp only[jd,akK,akV,iM,m9,hX0,hY0,hX1,hY1,hw',show((2:Nat):Int)=2 from rfl] at hQ;exact zE [some 0,some 1] hQ
 · dsimp only
   rw[f2 z0 z1] at hQ;simp only[jd,akK,akV,iM,m9,hX0,hY0,hX1,hY1,hw',show((2:Nat):Int)=2 from rfl] at hQ;have hTn:((T+n:Nat):Int)=(T:Int)+(n:Int):=by omega
   rw[hTn] at hQ;exact zE [some 0,some 1] hQ
set_option maxHeartbeats 4000000 in
theorem Jr {C k a b T n p key:Nat} {r0 r1 r2:RW} {L:List Bool} {d:Bool} (hL:L.length≤1048576) (hs:jU k a b) (hC:1≤C∧C≤64) (hn:n≤100) (hT:T≤1000) (hkey:key<2305843009213693951) (hp:p≤L.length) (k0:bB k a b C r0) (k1:bB k a b C r1) (k2:bB k a b C r2):
 ∃(e:Int) (l':List RW) (T' q:Nat) (d':Bool),l'.length=3∧(∀r∈l',bB k a b C r)∧T'≤T+n∧q≤L.length∧
 aA Tryz.prog 19 [.ref 0 0 0 0,.ref 1 0 0 0,.lit (.int .u64 key),.I n] [some (jd 3 C k a b [r0,r1,r2] T),some (bm L p d)] (.I e) [some (jd 3 C k a b l' T'),some (bm L q d')]:=by
 have h:=fm hs;have hw:=ff h;have cl:=xh (T:=T) (r0:=r0) (r1:=r1) (r2:=r2) (C:=C) h zo;obtain ⟨A0,B0,m0⟩:=r0;obtain ⟨ka0,kb0,kl0,kw0⟩:=k0;dsimp only at ka0 kb0 kl0 kw0;have o0:=ja (k:=key) (c:=C) ka0 kb0 hkey hC;have oc0:(A0*key+B0)%pr%C<C:=Nat.mod_lt _ zo;generalize (A0*key+B0)%pr%C=i0 at*
 obtain ⟨e0,n0,q0,d0,nl0,nw0,g0,u0⟩:=eS (d:=d) (p:=p) hL hs hn (show C≤256 by omega) oc0 kl0 kw0 hp;obtain ⟨A1,B1,m1⟩:=r1;obtain ⟨ka1,kb1,kl1,kw1⟩:=k1;dsimp only at ka1 kb1 kl1 kw1;have o1:=ja (k:=key) (c:=C) ka1 kb1 hkey hC;have oc1:(A1*key+B1)%pr%C<C:=Nat.mod_lt _ zo;generalize (A1*key+B1)%pr%C=i1 at*
 obtain ⟨e1,n1,q1,d1,nl1,nw1,g1,u1⟩:=eS (d:=d0) (p:=q0) hL hs hn (show C≤256 by omega) oc1 kl1 kw1 g0;obtain ⟨A2,B2,m2⟩:=r2;obtain ⟨ka2,kb2,kl2,kw2⟩:=k2;dsimp only at ka2 kb2 kl2 kw2;have o2:=ja (k:=key) (c:=C) ka2 kb2 hkey hC;have oc2:(A2*key+B2)%pr%C<C:=Nat.mod_lt _ zo;generalize (A2*key+B2)%pr%C=i2 at*
 obtain ⟨e2,n2,q2,d2,nl2,nw2,g2,u2⟩:=eS (d:=d1) (p:=q1) hL hs hn (show C≤256 by omega) oc2 kl2 kw2 g1
 obtain ⟨res,okl,f0,f1,f2,f3⟩:∃res:Int×List RW×Nat×Nat×Bool,(res.2.1.length=3∧(∀r∈res.2.1,bB k a b C r)∧res.2.2.1≤T+n∧res.2.2.2.1≤L.length)∧(e0≠0→res=(e0,[(A0,B0,m0),(A1,B1,m1),(A2,B2,m2)],T,q0,d0))∧(e0=0→e1≠0→res=(e1,[(A0,B0,m0),(A1,B1,m1),(A2,B2,m2)],T,q1,d1))∧(e0=0→e1=0→e2≠0→res=(e2,[(A0,B0,m0),(A1,B1,m1),(A2,B2,m2)],T,q2,d2))∧(e0=0→e1=0→e2=0→res=(0,[(A0,B0,n0),(A1,B1,n1),(A2,B2,n2)],T+n,q2,d2)):=by
  have ho:∀r∈([(A0,B0,m0),(A1,B1,m1),(A2,B2,m2)]:List RW),bB k a b C r:=by
   intro r hr;simp only[aky,ak6,or_false] at hr;rcases hr with rfl | rfl | rfl
   · exact⟨ka0,kb0,kl0,kw0⟩
   · exact⟨ka1,kb1,kl1,kw1⟩
   · exact⟨ka2,kb2,kl2,kw2⟩
  have hnw:∀r∈([(A0,B0,n0),(A1,B1,n1),(A2,B2,n2)]:List RW),bB k a b C r:=by
   intro r hr;simp only[aky,ak6,or_false] at hr;rcases hr with rfl | rfl | rfl
   · exact⟨ka0,kb0,nl0,nw0⟩
   · exact⟨ka1,kb1,nl1,nw1⟩
   · exact⟨ka2,kb2,nl2,nw2⟩
  by_cases y0:e0≠0
  · exact⟨_,⟨rfl,ho,alz _ _,g0⟩,fun _=>rfl,fun h _=>absurd h y0,fun h _ _=>absurd h y0,fun h _ _=>absurd h y0⟩
  have z0:e0=0:=Classical.not_not.1 y0
  by_cases y1:e1≠0
  · exact⟨_,⟨rfl,ho,alz _ _,g1⟩,fun h=>absurd z0 h,fun _ _=>rfl,fun _ h _=>absurd h y1,fun _ h _=>absurd h y1⟩
  have z1:e1=0:=Classical.not_not.1 y1
  by_cases y2:e2≠0
  · exact⟨_,⟨rfl,ho,alz _ _,g2⟩,fun h=>absurd z0 h,fun _ h=>absurd z1 h,fun _ _ _=>rfl,fun _ _ h=>absurd h y2⟩
  have z2:e2=0:=Classical.not_not.1 y2;exact⟨_,⟨rfl,hnw,akk _,g2⟩,fun h=>absurd z0 h,fun _ h=>absurd z1 h,fun _ _ h=>absurd z2 h,fun _ _ _=>rfl⟩
 refine⟨res.1,res.2.1,res.2.2.1,res.2.2.2.1,res.2.2.2.2,okl.1,okl.2.1,okl.2.2.1,okl.2.2.2,?_⟩;clear okl;dsimp only at*
 have l0:=aB (bq C (wd k a b)) (bV k a b m0);have v0:=aB (bq C (wd k a b)) (bV k a b n0);have l1:=aB (bq C (wd k a b)) (bV k a b m1);have v1:=aB (bq C (wd k a b)) (bV k a b n1);have l2:=aB (bq C (wd k a b)) (bV k a b m2);have v2:=aB (bq C (wd k a b)) (bV k a b n2);simp only[jd,tQ,akK,akV,iM,m9] at cl f0 f1 f2 f3 ⊢;generalize hX0:bV k a b m0=X0 at*
 generalize hY0:bV k a b n0=Y0 at*
 generalize hX1:bV k a b m1=X1 at*
 generalize hY1:bV k a b n1=Y1 at*
 generalize hX2:bV k a b m2=X2 at*
 generalize hY2:bV k a b n2=Y2 at*
 generalize hw':wd k a b=w at*
 refine zF I5 Tryz.call19 Tryz.func19 [.tmp 8] fun Q hQ=>?_;refine ae ?_;refine dk (cl) ?_;refine ae ?_
 refine aW (X:=Nat) (st:=fun i=>([(0,.ref 0 0 0 0),(1,.ref 1 0 0 0),(2,.lit (.int .u64 key)),(3,.I n),(9,.ref 2 0 0 0),(39,.sl 3 3 0 3),(40,.I 3),(41,.I i)],
  match i with
  | 0=> [some (.cells [.I 3,.I C,.I k,.I a,.I b,.row 3 [[.lit (.int .u64 A0),.lit (.int .u64 B0),.ptr 4 [[.ptr 3 [[.row 1 ((words (bq C w) X0).map (ie .u64)),.I C,.I w]] 0 0,.I k,.I a,.I b]] 0 0],[.lit (.int .u64 A1),.lit (.int .u64 B1),.ptr 4 [[.ptr 3 [[.row 1 ((words (bq C w) X1).map (ie .u64)),.I C,.I w]] 0 0,.I k,.I a,.I b]] 0 0],[.lit (.int .u64 A2),.lit (.int .u64 B2),.ptr 4 [[.ptr 3 [[.row 1 ((words (bq C w) X2).map (ie .u64)),.I C,.I w]] 0 0,.I k,.I a,.I b]] 0 0]],.I T]),
    some (bm L p d),
    some (.cells [.I 3,.I C,.I k,.I a,.I b,.sl 3 3 0 3,.I T]),
    some (.cells [.lit (.int .u64 A0),.lit (.int .u64 B0),.ref 4 0 0 0,.lit (.int .u64 A1),.lit (.int .u64 B1),.ref 7 0 0 0,.lit (.int .u64 A2),.lit (.int .u64 B2),.ref 10 0 0 0]),
    some (cX 5 k a b),
    some (cI 6 C w),
    some (cx C w X0),
    some (cX 8 k a b),
    some (cI 9 C w),
    some (cx C w X1),
    some (cX 11 k a b),
    some (cI 12 C w),
    some (cx C w X2)]
  | 1=> [some (.cells [.I 3,.I C,.I k,.I a,.I b,.row 3 [[.lit (.int .u64 A0),.lit (.int .u64 B0),.ptr 4 [[.ptr 3 [[.row 1 ((words (bq C w) X0).map (ie .u64)),.I C,.I w]] 0 0,.I k,.I a,.I b]] 0 0],[.lit (.int .u64 A1),.lit (.int .u64 B1),.ptr 4 [[.ptr 3 [[.row 1 ((words (bq C w) X1).map (ie .u64)),.I C,.I w]] 0 0,.I k,.I a,.I b]] 0 0],[.lit (.int .u64 A2),.lit (.int .u64 B2),.ptr 4 [[.ptr 3 [[.row 1 ((words (bq C w) X2).map (ie .u64)),.I C,.I w]] 0 0,.I k,.I a,.I b]] 0 0]],.I T]),
    some (bm L q0 d0),
    some (.cells [.I 3,.I C,.I k,.I a,.I b,.sl 3 3 0 3,.I T]),
    some (.cells [.lit (.int .u64 A0),.lit (.int .u64 B0),.ref 4 0 0 0,.lit (.int .u64 A1),.lit (.int .u64 B1),.ref 7 0 0 0,.lit (.int .u64 A2),.lit (.int .u64 B2),.ref 10 0 0 0]),
    some (cX 5 k a b),
    some (cI 6 C w),
    some (cx C w Y0),
    some (cX 8 k a b),
    some (cI 9 C w),
    some (cx C w X1),
    some (cX 11 k a b),
    some (cI 12 C w),
    some (cx C w X2)]
  | 2=> [some (.cells [.I 3,.I C,.I k,.I a,.I b,.row 3 [[.lit (.int .u64 A0),.lit (.int .u64 B0),.ptr 4 [[.ptr 3 [[.row 1 ((words (bq C w) X0).map (ie .u64)),.I C,.I w]] 0 0,.I k,.I a,.I b]] 0 0],[.lit (.int .u64 A1),.lit (.int .u64 B1),.ptr 4 [[.ptr 3 [[.row 1 ((words (bq C w) X1).map (ie .u64)),.I C,.I w]] 0 0,.I k,.I a,.I b]] 0 0],[.lit (.int .u64 A2),.lit (.int .u64 B2),.ptr 4 [[.ptr 3 [[.row 1 ((words (bq C w) X2).map (ie .u64)),.I C,.I w]] 0 0,.I k,.I a,.I b]] 0 0]],.I T]),
    some (bm L q1 d1),
    some (.cells [.I 3,.I C,.I k,.I a,.I b,.sl 3 3 0 3,.I T]),
    some (.cells [.lit (.int .u64 A0),.lit (.int .u64 B0),.ref 4 0 0 0,.lit (.int .u64 A1),.lit (.int .u64 B1),.ref 7 0 0 0,.lit (.int .u64 A2),.lit (.int .u64 B2),.ref 10 0 0 0]),
    some (cX 5 k a b),
    some (cI 6 C w),
    some (cx C w Y0),
    some (cX 8 k a b),
    some (cI 9 C w),
    some (cx C w Y1),
    some (cX 11 k a b),
    some (cI 12 C w),
    some (cx C w X2)]
  | _=> [some (.cells [.I 3,.I C,.I k,.I a,.I b,.row 3 [[.lit (.int .u64 A0),.lit (.int .u64 B0),.ptr 4 [[.ptr 3 [[.row 1 ((words (bq C w) X0).map (ie .u64)),.I C,.I w]] 0 0,.I k,.I a,.I b]] 0 0],[.lit (.int .u64 A1),.lit (.int .u64 B1),.ptr 4 [[.ptr 3 [[.row 1 ((words (bq C w) X1).map (ie .u64)),.I C,.I w]] 0 0,.I k,.I a,.I b]] 0 0],[.lit (.int .u64 A2),.lit (.int .u64 B2),.ptr 4 [[.ptr 3 [[.row 1 ((words (bq C w) X2).map (ie .u64)),.I C,.I w]] 0 0,.I k,.I a,.I b]] 0 0]],.I T]),
    some (bm L q2 d2),
    some (.cells [.I 3,.I C,.I k,.I a,.I b,.sl 3 3 0 3,.I T]),
    some (.cells [.lit (.int .u64 A0),.lit (.int .u64 B0),.ref 4 0 0 0,.lit (.int .u64 A1),.lit (.int .u64 B1),.ref 7 0 0 0,.lit (.int .u64 A2),.lit (.int .u64 B2),.ref 10 0 0 0]),
    some (cX 5 k a b),
    some (cI 6 C w),
    some (cx C w Y0),
    some (cX 8 k a b),
    some (cI 9 C w),
    some (cx C w Y1),
    some (cX 11 k a b),
    some (cI 12 C w),
    some (cx C w Y2)]))
  (inv:=fun i=>(i=0)∨(i=1∧e0=0)∨(i=2∧e0=0∧e1=0)∨(i=3∧e0=0∧e1=0∧e2=0)) (m:=fun i=>3-i) 0 [some 0,some 1,some 2,some 3,some 4,some 5,some 6,some 7,some 8,some 9,some 10,some 11,some 12] rfl (by dsimp only;exact zM) (by dsimp only;exact zM) (.inl rfl) ?_
 rintro i (rfl | ⟨rfl,z0⟩ | ⟨rfl,z0,z1⟩ | ⟨rfl,z0,z1,z2⟩)
 · dsimp only
   refine ae ?_;refine zC o0 ?_;refine aF [some 4,some 5,some 6,some 1] [] (u0) ?_
   by_cases z0:e0=0
   · subst z0
     refine ae ?_;refine aI 1 [some 0,some 1,some 2,some 3,some 4,some 5,some 6,some 7,some 8,some 9,some 10,some 11,some 12] rfl (by dsimp only;exact zM) (by dsimp only;exact zM) (by simp[]) zd
   · rw[f0 z0] at hQ
     simp only[jd,akK,akV,iM,m9,hX0,hY0,hX1,hY1,hX2,hY2,hw',show((3:Nat):Int)=3 from rfl] at hQ;exact zE [some 0,some 1] hQ
 · dsimp only
   refine ae ?_;refine zC o1 ?_;refine aF [some 7,some 8,some 9,some 1] [] (u1) ?_
   by_cases z1:e1=0
   · subst z1
     refine ae ?_;refine aI 2 [some 0,some 1,some 2,some 3,some 4,some 5,some 6,some 7,some 8,some 9,some 10,some 11,some 12] rfl (by dsimp only;exact zM) (by dsimp only;exact zM) (by simp[z0]) zd
   · rw[f1 z0 z1] at hQ
     simp only[jd,akK,akV,iM,m9,hX0,hY0,hX1,hY1,hX2,hY2,hw',show((3:Nat):Int)=3 from rfl] at hQ;exact zE [some 0,some 1] hQ
 · dsimp only
   refine ae ?_;refine zC o2 ?_;refine aF [some 10,some 11,some 12,some 1] [] (u2) ?_
   by_cases z2:e2=0
   · subst z2
     refine ae ?_;refine aI 3 [some 0,some 1,some 2,some 3,some 4,some 5,some 6,some 7,some 8,some 9,some 10,some 11,some 12] rfl (by dsimp only;exact zM) (by dsimp only;exact zM) (by simp[z0,z1]) zd
   · rw[f2 z0 z1 z2] at hQ
     simp only[jd,akK,akV,iM,m9,hX0,hY0,hX1,hY1,hX2,hY2,hw',show((3:Nat):Int)=3 from rfl] at hQ;exact zE [some 0,some 1] hQ
 · dsimp only
   rw[f3 z0 z1 z2] at hQ;simp only[jd,akK,akV,iM,m9,hX0,hY0,hX1,hY1,hX2,hY2,hw',show((3:Nat):Int)=3 from rfl] at hQ;have hTn:((T+n:Nat):Int)=(T:Int)+(n:Int):=by omega
   rw[hTn] at hQ;exact zE [some 0,some 1] hQ
set_option maxHeartbeats 4000000 in
theorem JL {C k a b T n p key:Nat} {r0 r1 r2 r3:RW} {L:List Bool} {d:Bool} (hL:L.length≤1048576) (hs:jU k a b) (hC:1≤C∧C≤64) (hn:n≤100) (hT:T≤1000) (hkey:key<2305843009213693951) (hp:p≤L.length) (k0:bB k a b C r0) (k1:bB k a b C r1) (k2:bB k a b C r2) (k3:bB k a b C r3):
 ∃(e:Int) (l':List RW) (T' q:Nat) (d':Bool),l'.length=4∧(∀r∈l',bB k a b C r)∧T'≤T+n∧q≤L.length∧
 aA Tryz.prog 19 [.ref 0 0 0 0,.ref 1 0 0 0,.lit (.int .u64 key),.I n] [some (jd 4 C k a b [r0,r1,r2,r3] T),some (bm L p d)] (.I e) [some (jd 4 C k a b l' T'),some (bm L q d')]:=by
 have h:=fm hs;have hw:=ff h;have cl:=xo (T:=T) (r0:=r0) (r1:=r1) (r2:=r2) (r3:=r3) (C:=C) h zo;obtain ⟨A0,B0,m0⟩:=r0;obtain ⟨ka0,kb0,kl0,kw0⟩:=k0;dsimp only at ka0 kb0 kl0 kw0;have o0:=ja (k:=key) (c:=C) ka0 kb0 hkey hC;have oc0:(A0*key+B0)%pr%C<C:=Nat.mod_lt _ zo;generalize (A0*key+B0)%pr%C=i0 at*
 obtain ⟨e0,n0,q0,d0,nl0,nw0,g0,u0⟩:=eS (d:=d) (p:=p) hL hs hn (show C≤256 by omega) oc0 kl0 kw0 hp;obtain ⟨A1,B1,m1⟩:=r1;obtain ⟨ka1,kb1,kl1,kw1⟩:=k1;dsimp only at ka1 kb1 kl1 kw1;have o1:=ja (k:=key) (c:=C) ka1 kb1 hkey hC;have oc1:(A1*key+B1)%pr%C<C:=Nat.mod_lt _ zo;generalize (A1*key+B1)%pr%C=i1 at*
 obtain ⟨e1,n1,q1,d1,nl1,nw1,g1,u1⟩:=eS (d:=d0) (p:=q0) hL hs hn (show C≤256 by omega) oc1 kl1 kw1 g0;obtain ⟨A2,B2,m2⟩:=r2;obtain ⟨ka2,kb2,kl2,kw2⟩:=k2;dsimp only at ka2 kb2 kl2 kw2;have o2:=ja (k:=key) (c:=C) ka2 kb2 hkey hC;have oc2:(A2*key+B2)%pr%C<C:=Nat.mod_lt _ zo;generalize (A2*key+B2)%pr%C=i2 at*
 obtain ⟨e2,n2,q2,d2,nl2,nw2,g2,u2⟩:=eS (d:=d1) (p:=q1) hL hs hn (show C≤256 by omega) oc2 kl2 kw2 g1;obtain ⟨A3,B3,m3⟩:=r3;obtain ⟨ka3,kb3,kl3,kw3⟩:=k3;dsimp only at ka3 kb3 kl3 kw3;have o3:=ja (k:=key) (c:=C) ka3 kb3 hkey hC;have oc3:(A3*key+B3)%pr%C<C:=Nat.mod_lt _ zo;generalize (A3*key+B3)%pr%C=i3 at*
 obtain ⟨e3,n3,q3,d3,nl3,nw3,g3,u3⟩:=eS (d:=d2) (p:=q2) hL hs hn (show C≤256 by omega) oc3 kl3 kw3 g2
 obtain ⟨res,okl,f0,f1,f2,f3,f4⟩:∃res:Int×List RW×Nat×Nat×Bool,(res.2.1.length=4∧(∀r∈res.2.1,bB k a b C r)∧res.2.2.1≤T+n∧res.2.2.2.1≤L.length)∧(e0≠0→res=(e0,[(A0,B0,m0),(A1,B1,m1),(A2,B2,m2),(A3,B3,m3)],T,q0,d0))∧(e0=0→e1≠0→res=(e1,[(A0,B0,m0),(A1,B1,m1),(A2,B2,m2),(A3,B3,m3)],T,q1,d1))∧(e0=0→e1=0→e2≠0→res=(e2,[(A0,B0,m0),(A1,B1,m1),(A2,B2,m2),(A3,B3,m3)],T,q2,d2))∧(e0=0→e1=0→e2=0→e3≠0→res=(e3,[(A0,B0,m0),(A1,B1,m1),(A2,B2,m2),(A3,B3,m3)],T,q3,d3))∧(e0=0→e1=0→e2=0→e3=0→res=(0,[(A0,B0,n0),(A1,B1,n1),(A2,B2,n2),(A3,B3,n3)],T+n,q3,d3)):=by
  have ho:∀r∈([(A0,B0,m0),(A1,B1,m1),(A2,B2,m2),(A3,B3,m3)]:List RW),bB k a b C r:=by
   intro r hr;simp only[aky,ak6,or_false] at hr;rcases hr with rfl | rfl | rfl | rfl
   · exact⟨ka0,kb0,kl0,kw0⟩
   · exact⟨ka1,kb1,kl1,kw1⟩
   · exact⟨ka2,kb2,kl2,kw2⟩
   · exact⟨ka3,kb3,kl3,kw3⟩
  have hnw:∀r∈([(A0,B0,n0),(A1,B1,n1),(A2,B2,n2),(A3,B3,n3)]:List RW),bB k a b C r:=by
   intro r hr;simp only[aky,ak6,or_false] at hr;rcases hr with rfl | rfl | rfl | rfl
   · exact⟨ka0,kb0,nl0,nw0⟩
   · exact⟨ka1,kb1,nl1,nw1⟩
   · exact⟨ka2,kb2,nl2,nw2⟩
   · exact⟨ka3,kb3,nl3,nw3⟩
  by_cases y0:e0≠0
  · exact⟨_,⟨rfl,ho,alz _ _,g0⟩,fun _=>rfl,fun h _=>absurd h y0,fun h _ _=>absurd h y0,fun h _ _ _=>absurd h y0,fun h _ _ _=>absurd h y0⟩
  have z0:e0=0:=Classical.not_not.1 y0
  by_cases y1:e1≠0
  · exact⟨_,⟨rfl,ho,alz _ _,g1⟩,fun h=>absurd z0 h,fun _ _=>rfl,fun _ h _=>absurd h y1,fun _ h _ _=>absurd h y1,fun _ h _ _=>absurd h y1⟩
  have z1:e1=0:=Classical.not_not.1 y1
  by_cases y2:e2≠0
  · exact⟨_,⟨rfl,ho,alz _ _,g2⟩,fun h=>absurd z0 h,fun _ h=>absurd z1 h,fun _ _ _=>rfl,fun _ _ h _=>absurd h y2,fun _ _ h _=>absurd h y2⟩
  have z2:e2=0:=Classical.not_not.1 y2
  by_cases y3:e3≠0
  · exact⟨_,⟨rfl,ho,alz _ _,g3⟩,fun h=>absurd z0 h,fun _ h=>absurd z1 h,fun _ _ h=>absurd z2 h,fun _ _ _ _=>rfl,fun _ _ _ h=>absurd h y3⟩
  have z3:e3=0:=Classical.not_not.1 y3;exact⟨_,⟨rfl,hnw,akk _,g3⟩,fun h=>absurd z0 h,fun _ h=>absurd z1 h,fun _ _ h=>absurd z2 h,fun _ _ _ h=>absurd z3 h,fun _ _ _ _=>rfl⟩
 refine⟨res.1,res.2.1,res.2.2.1,res.2.2.2.1,res.2.2.2.2,okl.1,okl.2.1,okl.2.2.1,okl.2.2.2,?_⟩;clear okl;dsimp only at*
 have l0:=aB (bq C (wd k a b)) (bV k a b m0);have v0:=aB (bq C (wd k a b)) (bV k a b n0);have l1:=aB (bq C (wd k a b)) (bV k a b m1);have v1:=aB (bq C (wd k a b)) (bV k a b n1);have l2:=aB (bq C (wd k a b)) (bV k a b m2);have v2:=aB (bq C (wd k a b)) (bV k a b n2);have l3:=aB (bq C (wd k a b)) (bV k a b m3);have v3:=aB (bq C (wd k a b)) (bV k a b n3);simp only[jd,tQ,akK,akV,iM,m9] at cl f0 f1 f2 f3 f4 ⊢;generalize hX0:bV k a b m0=X0 at*
 generalize hY0:bV k a b n0=Y0 at*
 generalize hX1:bV k a b m1=X1 at*
 generalize hY1:bV k a b n1=Y1 at*
 generalize hX2:bV k a b m2=X2 at*
 generalize hY2:bV k a b n2=Y2 at*
 generalize hX3:bV k a b m3=X3 at*
 generalize hY3:bV k a b n3=Y3 at*
 generalize hw':wd k a b=w at*
 refine zF I5 Tryz.call19 Tryz.func19 [.tmp 8] fun Q hQ=>?_;refine ae ?_;refine dk (cl) ?_;refine ae ?_
 refine aW (X:=Nat) (st:=fun i=>([(0,.ref 0 0 0 0),(1,.ref 1 0 0 0),(2,.lit (.int .u64 key)),(3,.I n),(9,.ref 2 0 0 0),(39,.sl 3 3 0 4),(40,.I 4),(41,.I i)],
  match i with
  | 0=> [some (.cells [.I 4,.I C,.I k,.I a,.I b,.row 3 [[.lit (.int .u64 A0),.lit (.int .u64 B0),.ptr 4 [[.ptr 3 [[.row 1 ((words (bq C w) X0).map (ie .u64)),.I C,.I w]] 0 0,.I k,.I a,.I b]] 0 0],[.lit (.int .u64 A1),.lit (.int .u64 B1),.ptr 4 [[.ptr 3 [[.row 1 ((words (bq C w) X1).map (ie .u64)),.I C,.I w]] 0 0,.I k,.I a,.I b]] 0 0],[.lit (.int .u64 A2),.lit (.int .u64 B2),.ptr 4 [[.ptr 3 [[.row 1 ((words (bq C w) X2).map (ie .u64)),.I C,.I w]] 0 0,.I k,.I a,.I b]] 0 0],[.lit (.int .u64 A3),.lit (.int .u64 B3),.ptr 4 [[.ptr 3 [[.row 1 ((words (bq C w) X3).map (ie .u64)),.I C,.I w]] 0 0,.I k,.I a,.I b]] 0 0]],.I T]),
    some (bm L p d),
    some (.cells [.I 4,.I C,.I k,.I a,.I b,.sl 3 3 0 4,.I T]),
    some (.cells [.lit (.int .u64 A0),.lit (.int .u64 B0),.ref 4 0 0 0,.lit (.int .u64 A1),.lit (.int .u64 B1),.ref 7 0 0 0,.lit (.int .u64 A2),.lit (.int .u64 B2),.ref 10 0 0 0,.lit (.int .u64 A3),.lit (.int .u64 B3),.ref 13 0 0 0]),
    some (cX 5 k a b),
    some (cI 6 C w),
    some (cx C w X0),
    some (cX 8 k a b),
    some (cI 9 C w),
    some (cx C w X1),
    some (cX 11 k a b),
    some (cI 12 C w),
    some (cx C w X2),
    some (cX 14 k a b),
    some (cI 15 C w),
    some (cx C w X3)]
  | 1=> [some (.cells [.I 4,.I C,.I k,.I a,.I b,.row 3 [[.lit (.int .u64 A0),.lit (.int .u64 B0),.ptr 4 [[.ptr 3 [[.row 1 ((words (bq C w) X0).map (ie .u64)),.I C,.I w]] 0 0,.I k,.I a,.I b]] 0 0],[.lit (.int .u64 A1),.lit (.int .u64 B1),.ptr 4 [[.ptr 3 [[.row 1 ((words (bq C w) X1).map (ie .u64)),.I C,.I w]] 0 0,.I k,.I a,.I b]] 0 0],[.lit (.int .u64 A2),.lit (.int .u64 B2),.ptr 4 [[.ptr 3 [[.row 1 ((words (bq C w) X2).map (ie .u64)),.I C,.I w]] 0 0,.I k,.I a,.I b]] 0 0],[.lit (.int .u64 A3),.lit (.int .u64 B3),.ptr 4 [[.ptr 3 [[.row 1 ((words (bq C w) X3).map (ie .u64)),.I C,.I w]] 0 0,.I k,.I a,.I b]] 0 0]],.I T]),
    some (bm L q0 d0),
    some (.cells [.I 4,.I C,.I k,.I a,.I b,.sl 3 3 0 4,.I T]),
    some (.cells [.lit (.int .u64 A0),.lit (.int .u64 B0),.ref 4 0 0 0,.lit (.int .u64 A1),.lit (.int .u64 B1),.ref 7 0 0 0,.lit (.int .u64 A2),.lit (.int .u64 B2),.ref 10 0 0 0,.lit (.int .u64 A3),.lit (.int .u64 B3),.ref 13 0 0 0]),
    some (cX 5 k a b),
    some (cI 6 C w),
    some (cx C w Y0),
    some (cX 8 k a b),
    some (cI 9 C w),
    some (cx C w X1),
    some (cX 11 k a b),
    some (cI 12 C w),
    some (cx C w X2),
    some (cX 14 k a b),
    some (cI 15 C w),
    some (cx C w X3)]
  | 2=> [some (.cells [.I 4,.I C,.I k,.I a,.I b,.row 3 [[.lit (.int .u64 A0),.lit (.int .u64 B0),.ptr 4 [[.ptr 3 [[.row 1 ((words (bq C w) X0).map (ie .u64)),.I C,.I w]] 0 0,.I k,.I a,.I b]] 0 0],[.lit (.int .u64 A1),.lit (.int .u64 B1),.ptr 4 [[.ptr 3 [[.row 1 ((words (bq C w) X1).map (ie .u64)),.I C,.I w]] 0 0,.I k,.I a,.I b]] 0 0],[.lit (.int .u64 A2),.lit (.int .u64 B2),.ptr 4 [[.ptr 3 [[.row 1 ((words (bq C w) X2).map (ie .u64)),.I C,.I w]] 0 0,.I k,.I a,.I b]] 0 0],[.lit (.int .u64 A3),.lit (.int .u64 B3),.ptr 4 [[.ptr 3 [[.row 1 ((words (bq C w) X3).map (ie .u64)),.I C,.I w]] 0 0,.I k,.I a,.I b]] 0 0]],.I T]),
    some (bm L q1 d1),
    some (.cells [.I 4,.I C,.I k,.I a,.I b,.sl 3 3 0 4,.I T]),
    some (.cells [.lit (.int .u64 A0),.lit (.int .u64 B0),.ref 4 0 0 0,.lit (.int .u64 A1),.lit (.int .u64 B1),.ref 7 0 0 0,.lit (.int .u64 A2),.lit (.int .u64 B2),.ref 10 0 0 0,.lit (.int .u64 A3),.lit (.int .u64 B3),.ref 13 0 0 0]),
    some (cX 5 k a b),
    some (cI 6 C w),
    some (cx C w Y0),
    some (cX 8 k a b),
    some (cI 9 C w),
    some (cx C w Y1),
    some (cX 11 k a b),
    some (cI 12 C w),
    some (cx C w X2),
    some (cX 14 k a b),
    some (cI 15 C w),
    some (cx C w X3)]
  | 3=> [some (.cells [.I 4,.I C,.I k,.I a,.I b,.row 3 [[.lit (.int .u64 A0),.lit (.int .u64 B0),.ptr 4 [[.ptr 3 [[.row 1 ((words (bq C w) X0).map (ie .u64)),.I C,.I w]] 0 0,.I k,.I a,.I b]] 0 0],[.lit (.int .u64 A1),.lit (.int .u64 B1),.ptr 4 [[.ptr 3 [[.row 1 ((words (bq C w) X1).map (ie .u64)),.I C,.I w]] 0 0,.I k,.I a,.I b]] 0 0],[.lit (.int .u64 A2),.lit (.int .u64 B2),.ptr 4 [[.ptr 3 [[.row 1 ((words (bq C w) X2).map (ie .u64)),.I C,.I w]] 0 0,.I k,.I a,.I b]] 0 0],[.lit (.int .u64 A3),.lit (.int .u64 B3),.ptr 4 [[.ptr 3 [[.row 1 ((words (bq C w) X3).map (ie .u64)),.I C,.I w]] 0 0,.I k,.I a,.I b]] 0 0]],.I T]),
    some (bm L q2 d2),
    some (.cells [.I 4,.I C,.I k,.I a,.I b,.sl 3 3 0 4,.I T]),
    some (.cells [.lit (.int .u64 A0),.lit (.int .u64 B0),.ref 4 0 0 0,.lit (.int .u64 A1),.lit (.int .u64 B1),.ref 7 0 0 0,.lit (.int .u64 A2),.lit (.int .u64 B2),.ref 10 0 0 0,.lit (.int .u64 A3),.lit (.int .u64 B3),.ref 13 0 0 0]),
    some (cX 5 k a b),
    some (cI 6 C w),
    some (cx C w Y0),
    some (cX 8 k a b),
    some (cI 9 C w),
    some (cx C w Y1),
    some (cX 11 k a b),
    some (cI 12 C w),
    some (cx C w Y2),
    some (cX 14 k a b),
    some (cI 15 C w),
    some (cx C w X3)]
  | _=> [some (.cells [.I 4,.I C,.I k,.I a,.I b,.row 3 [[.lit (.int .u64 A0),.lit (.int .u64 B0),.ptr 4 [[.ptr 3 [[.row 1 ((words (bq C w) X0).map (ie .u64)),.I C,.I w]] 0 0,.I k,.I a,.I b]] 0 0],[.lit (.int .u64 A1),.lit (.int .u64 B1),.ptr 4 [[.ptr 3 [[.row 1 ((words (bq C w) X1).map (ie .u64)),.I C,.I w]] 0 0,.I k,.I a,.I b]] 0 0],[.lit (.int .u64 A2),.lit (.int .u64 B2),.ptr 4 [[.ptr 3 [[.row 1 ((words (bq C w) X2).map (ie .u64)),.I C,.I w]] 0 0,.I k,.I a,.I b]] 0 0],[.lit (.int .u64 A3),.lit (.int .u64 B3),.ptr 4 [[.ptr 3 [[.row 1 ((words (bq C w) X3).map (ie .u64)),.I C,.I w]] 0 0,.I k,.I a,.I b]] 0 0]],.I T]),
    some (bm L q3 d3),
    some (.cells [.I 4,.I C,.I k,.I a,.I b,.sl 3 3 0 4,.I T]),
    some (.cells [.lit (.int .u64 A0),.lit (.int .u64 B0),.ref 4 0 0 0,.lit (.int .u64 A1),.lit (.int .u64 B1),.ref 7 0 0 0,.lit (.int .u64 A2),.lit (.int .u64 B2),.ref 10 0 0 0,.lit (.int .u64 A3),.lit (.int .u64 B3),.ref 13 0 0 0]),
    some (cX 5 k a b),
    some (cI 6 C w),
    some (cx C w Y0),
    some (cX 8 k a b),
    some (cI 9 C w),
    some (cx C w Y1),
    some (cX 11 k a b),
    some (cI 12 C w),
    some (cx C w Y2),
    some (cX 14 k a b),
    some (cI 15 C w),
    some (cx C w Y3)]))
  (inv:=fun i=>(i=0)∨(i=1∧e0=0)∨(i=2∧e0=0∧e1=0)∨(i=3∧e0=0∧e1=0∧e2=0)∨(i=4∧e0=0∧e1=0∧e2=0∧e3=0)) (m:=fun i=>4-i) 0 [some 0,some 1,some 2,some 3,some 4,some 5,some 6,some 7,some 8,some 9,some 10,some 11,some 12,some 13,some 14,some 15] rfl (by dsimp only;exact zM) (by dsimp only;exact zM) (.inl rfl) ?_
 rintro i (rfl | ⟨rfl,z0⟩ | ⟨rfl,z0,z1⟩ | ⟨rfl,z0,z1,z2⟩ | ⟨rfl,z0,z1,z2,z3⟩)
 · dsimp only
   refine ae ?_;refine zC o0 ?_;refine aF [some 4,some 5,some 6,some 1] [] (u0) ?_
   by_cases z0:e0=0
   · subst z0
     refine ae ?_;refine aI 1 [some 0,some 1,some 2,some 3,some 4,some 5,some 6,some 7,some 8,some 9,some 10,some 11,some 12,some 13,some 14,some 15] rfl (by dsimp only;exact zM) (by dsimp only;exact zM) (by simp[]) zd
   · rw[f0 z0] at hQ
     simp only[jd,akK,akV,iM,m9,hX0,hY0,hX1,hY1,hX2,hY2,hX3,hY3,hw',show((4:Nat):Int)=4 from rfl] at hQ;exact zE [some 0,some 1] hQ
 · dsimp only
   refine ae ?_;refine zC o1 ?_;refine aF [some 7,some 8,some 9,some 1] [] (u1) ?_
   by_cases z1:e1=0
   · subst z1
     refine ae ?_;refine aI 2 [some 0,some 1,some 2,some 3,some 4,some 5,some 6,some 7,some 8,some 9,some 10,some 11,some 12,some 13,some 14,some 15] rfl (by dsimp only;exact zM) (by dsimp only;exact zM) (by simp[z0]) zd
   · rw[f1 z0 z1] at hQ
     simp only[jd,akK,akV,iM,m9,hX0,hY0,hX1,hY1,hX2,hY2,hX3,hY3,hw',show((4:Nat):Int)=4 from rfl] at hQ;exact zE [some 0,some 1] hQ
 · dsimp only
   refine ae ?_;refine zC o2 ?_;refine aF [some 10,some 11,some 12,some 1] [] (u2) ?_
   by_cases z2:e2=0
   · subst z2
     refine ae ?_;refine aI 3 [some 0,some 1,some 2,some 3,some 4,some 5,some 6,some 7,some 8,some 9,some 10,some 11,some 12,some 13,some 14,some 15] rfl (by dsimp only;exact zM) (by dsimp only;exact zM) (by simp[z0,z1]) zd
   · rw[f2 z0 z1 z2] at hQ
     simp only[jd,akK,akV,iM,m9,hX0,hY0,hX1,hY1,hX2,hY2,hX3,hY3,hw',show((4:Nat):Int)=4 from rfl] at hQ;exact zE [some 0,some 1] hQ
 · dsimp only
   refine ae ?_;refine zC o3 ?_;refine aF [some 13,some 14,some 15,some 1] [] (u3) ?_
   by_cases z3:e3=0
   · subst z3
     refine ae ?_;refine aI 4 [some 0,some 1,some 2,some 3,some 4,some 5,some 6,some 7,some 8,some 9,some 10,some 11,some 12,some 13,some 14,some 15] rfl (by dsimp only;exact zM) (by dsimp only;exact zM) (by simp[z0,z1,z2]) zd
   · rw[f3 z0 z1 z2 z3] at hQ
     simp only[jd,akK,akV,iM,m9,hX0,hY0,hX1,hY1,hX2,hY2,hX3,hY3,hw',show((4:Nat):Int)=4 from rfl] at hQ;exact zE [some 0,some 1] hQ
 · dsimp only
   rw[f4 z0 z1 z2 z3] at hQ;simp only[jd,akK,akV,iM,m9,hX0,hY0,hX1,hY1,hX2,hY2,hX3,hY3,hw',show((4:Nat):Int)=4 from rfl] at hQ;have hTn:((T+n:Nat):Int)=(T:Int)+(n:Int):=by omega
   rw[hTn] at hQ;exact zE [some 0,some 1] hQ
end Go.Proofs.YtcnlmelpnflhnaaGreat
