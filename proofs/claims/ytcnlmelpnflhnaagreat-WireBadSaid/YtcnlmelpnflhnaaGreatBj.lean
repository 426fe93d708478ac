import Derived.Test.YtcnlmelpnflhnaaGreatBh
namespace Go.Proofs.YtcnlmelpnflhnaaGreat
open Go.Eng Go.Vx
set_option linter.unusedSimpArgs false
set_option linter.unusedVariables false
set_option maxRecDepth 100000
theorem lT {k a b C:Nat} {l:List RW} (hX:l.length≤256) (h:l≠ []):aA Tryz.prog 113 [.row 3 (l.map (iM k a b C))] [] (.sl 0 3 0 l.length) [some (.row 3 (l.map (iM k a b C)))]:=by
 refine zF pl Tryz.call113 Tryz.func113 [.tmp 2] fun Q hQ=>?_;have he:(l.map (iM k a b C)).isEmpty=false:=by simp[h]
 refine bg he ?_;exact ai [some 1] hQ
theorem xJ {C k a b T:Nat} {r0:RW} (h:aX k a b) (hC:C≤256):aA Tryz.prog 54 [tQ 1 C k a b [r0] T] [] (.ref 0 0 0 0)
 [some (.cells [.I 1,.I C,.I k,.I a,.I b,.sl 1 3 0 1,.I T]),
  some (.cells [.lit (.int .u64 r0.1),.lit (.int .u64 r0.2.1),.ref 2 0 0 0]),
  some (cX 3 k a b),
  some (cI 4 C (wd k a b)),
  some (cx C (wd k a b) (bV k a b r0.2.2))]:=by
 have hw:=ff h;have cl:=lT (k:=k) (a:=a) (b:=b) (C:=C) (l:=[r0]) (by simp) (by simp);have c0:=dL (k:=k) (a:=a) (b:=b) (n:=C) (w:=wd k a b) (X:=bV k a b r0.2.2) hC ⟨hw.1,by omega⟩;have l0:=aB (bq C (wd k a b)) (bV k a b r0.2.2);obtain ⟨A0,B0,m0⟩:=r0;dsimp only at*
 simp only[akK,akV,iM,m9,akm,akz,akP,Nat.reduceAdd] at cl;simp only[tQ,akK,akV,iM,m9];generalize bV k a b m0=X0 at*
 generalize wd k a b=w at*
 refine zF JB Tryz.call54 Tryz.func54 [.tmp 2] fun Q hQ=>?_;refine ae ?_;refine zW [] [] cl ?_
 refine aW (X:=Nat) (st:=fun i=>([(3,.ref 0 0 0 0),(18,.row 3 [[.lit (.int .u64 A0),.lit (.int .u64 B0),.ptr 4 [[.ptr 3 [[.row 1 ((words (bq C w) X0).map (ie .u64)),.I C,.I w]] 0 0,.I k,.I a,.I b]] 0 0]]),(19,.I 1),(20,.I i)],
  match i with
  | 0=> [some (.cells [.I 1,.I C,.I k,.I a,.I b,.sl 1 3 0 1,.I T]),
  some (.cells [.lit (.int .u64 A0),.lit (.int .u64 B0),kO k a b C w X0])]
  | _=> [some (.cells [.I 1,.I C,.I k,.I a,.I b,.sl 1 3 0 1,.I T]),
  some (.cells [.lit (.int .u64 A0),.lit (.int .u64 B0),.ref 2 0 0 0]),
  some (cX 3 k a b),
  some (cI 4 C w),
  some (cx C w X0)]))
  (inv:=fun i=>i=0∨i=1) (m:=fun i=>1-i) 0 [some 0,some 1] rfl (by dsimp only;(simp(disch:=(first | omega | (simp only[cS,List.length_map,List.length_range,true_and,and_true];(try omega);done) | fail)) only[go_sem,Int.reduceEq,Int.reduceToNat,Nat.reduceAdd,Nat.reduceMul,Nat.reduceEqDiff, ↓reduceIte,true_and,and_true,and_self,List.drop_zero,List.take_length,Nat.le_refl,V.lit.injEq,Value.int.injEq,Value.bool.injEq];try (first | omega | (simp;done) | (simp;omega)));exact⟨rfl,by simp,rfl⟩) (by dsimp only;exact zM) (.inl rfl) ?_
 rintro i (rfl | rfl)
 · dsimp only
   refine ae ?_;refine zW [] [] c0 ?_;refine aI 1 [some 0,some 1,some 3,some 4,some 5] rfl (by dsimp only;exact zM) (by dsimp only;exact zM) (.inr (rfl)) zd
 · dsimp only
   exact zE [some 0,some 1,some 2,some 3,some 4] hQ
theorem ze {C k a b T:Nat} {r0 r1:RW} (h:aX k a b) (hC:C≤256):aA Tryz.prog 54 [tQ 2 C k a b [r0,r1] T] [] (.ref 0 0 0 0)
 [some (.cells [.I 2,.I C,.I k,.I a,.I b,.sl 1 3 0 2,.I T]),
  some (.cells [.lit (.int .u64 r0.1),.lit (.int .u64 r0.2.1),.ref 2 0 0 0,.lit (.int .u64 r1.1),.lit (.int .u64 r1.2.1),.ref 5 0 0 0]),
  some (cX 3 k a b),
  some (cI 4 C (wd k a b)),
  some (cx C (wd k a b) (bV k a b r0.2.2)),
  some (cX 6 k a b),
  some (cI 7 C (wd k a b)),
  some (cx C (wd k a b) (bV k a b r1.2.2))]:=by
 have hw:=ff h;have cl:=lT (k:=k) (a:=a) (b:=b) (C:=C) (l:=[r0,r1]) (by simp) (by simp);have c0:=dL (k:=k) (a:=a) (b:=b) (n:=C) (w:=wd k a b) (X:=bV k a b r0.2.2) hC ⟨hw.1,by omega⟩;have l0:=aB (bq C (wd k a b)) (bV k a b r0.2.2);obtain ⟨A0,B0,m0⟩:=r0;have c1:=dL (k:=k) (a:=a) (b:=b) (n:=C) (w:=wd k a b) (X:=bV k a b r1.2.2) hC ⟨hw.1,by omega⟩;have l1:=aB (bq C (wd k a b)) (bV k a b r1.2.2);obtain ⟨A1,B1,m1⟩:=r1;dsimp only at*
 simp only[akK,akV,iM,m9,akm,akz,akP,Nat.reduceAdd] at cl;simp only[tQ,akK,akV,iM,m9];generalize bV k a b m0=X0 at*
 generalize bV k a b m1=X1 at*
 generalize wd k a b=w at*
 refine zF JB Tryz.call54 Tryz.func54 [.tmp 2] fun Q hQ=>?_;refine ae ?_;refine zW [] [] cl ?_
 refine aW (X:=Nat) (st:=fun i=>([(3,.ref 0 0 0 0),(18,.row 3 [[.lit (.int .u64 A0),.lit (.int .u64 B0),.ptr 4 [[.ptr 3 [[.row 1 ((words (bq C w) X0).map (ie .u64)),.I C,.I w]] 0 0,.I k,.I a,.I b]] 0 0],[.lit (.int .u64 A1),.lit (.int .u64 B1),.ptr 4 [[.ptr 3 [[.row 1 ((words (bq C w) X1).map (ie .u64)),.I C,.I w]] 0 0,.I k,.I a,.I b]] 0 0]]),(19,.I 2),(20,.I i)],
  match i with
  | 0=> [some (.cells [.I 2,.I C,.I k,.I a,.I b,.sl 1 3 0 2,.I T]),
  some (.cells [.lit (.int .u64 A0),.lit (.int .u64 B0),kO k a b C w X0,.lit (.int .u64 A1),.lit (.int .u64 B1),kO k a b C w X1])]
  | 1=> [some (.cells [.I 2,.I C,.I k,.I a,.I b,.sl 1 3 0 2,.I T]),
  some (.cells [.lit (.int .u64 A0),.lit (.int .u64 B0),.ref 2 0 0 0,.lit (.int .u64 A1),.lit (.int .u64 B1),kO k a b C w X1]),
  some (cX 3 k a b),
  some (cI 4 C w),
  some (cx C w X0)]
  | _=> [some (.cells [.I 2,.I C,.I k,.I a,.I b,.sl 1 3 0 2,.I T]),
  some (.cells [.lit (.int .u64 A0),.lit (.int .u64 B0),.ref 2 0 0 0,.lit (.int .u64 A1),.lit (.int .u64 B1),.ref 5 0 0 0]),
  some (cX 3 k a b),
  some (cI 4 C w),
  some (cx C w X0),
  some (cX 6 k a b),
  some (cI 7 C w),
  some (cx C w X1)]))
  (inv:=fun i=>i=0∨i=1∨i=2) (m:=fun i=>2-i) 0 [some 0,some 1] rfl (by dsimp only;(simp(disch:=(first | omega | (simp only[cS,List.length_map,List.length_range,true_and,and_true];(try omega);done) | fail)) only[go_sem,Int.reduceEq,Int.reduceToNat,Nat.reduceAdd,Nat.reduceMul,Nat.reduceEqDiff, ↓reduceIte,true_and,and_true,and_self,List.drop_zero,List.take_length,Nat.le_refl,V.lit.injEq,Value.int.injEq,Value.bool.injEq];try (first | omega | (simp;done) | (simp;omega)));exact⟨rfl,by simp,rfl⟩) (by dsimp only;exact zM) (.inl rfl) ?_
 rintro i (rfl | rfl | rfl)
 · dsimp only
   refine ae ?_;refine zW [] [] c0 ?_;refine aI 1 [some 0,some 1,some 3,some 4,some 5] rfl (by dsimp only;exact zM) (by dsimp only;exact zM) (.inr (.inl rfl)) zd
 · dsimp only
   refine ae ?_;refine zW [] [] c1 ?_;refine aI 2 [some 0,some 1,some 2,some 3,some 4,some 6,some 7,some 8] rfl (by dsimp only;exact zM) (by dsimp only;exact zM) (.inr (.inr (rfl))) zd
 · dsimp only
   exact zE [some 0,some 1,some 2,some 3,some 4,some 5,some 6,some 7] hQ
theorem xh {C k a b T:Nat} {r0 r1 r2:RW} (h:aX k a b) (hC:C≤256):aA Tryz.prog 54 [tQ 3 C k a b [r0,r1,r2] T] [] (.ref 0 0 0 0)
 [some (.cells [.I 3,.I C,.I k,.I a,.I b,.sl 1 3 0 3,.I T]),
  some (.cells [.lit (.int .u64 r0.1),.lit (.int .u64 r0.2.1),.ref 2 0 0 0,.lit (.int .u64 r1.1),.lit (.int .u64 r1.2.1),.ref 5 0 0 0,.lit (.int .u64 r2.1),.lit (.int .u64 r2.2.1),.ref 8 0 0 0]),
  some (cX 3 k a b),
  some (cI 4 C (wd k a b)),
  some (cx C (wd k a b) (bV k a b r0.2.2)),
  some (cX 6 k a b),
  some (cI 7 C (wd k a b)),
  some (cx C (wd k a b) (bV k a b r1.2.2)),
  some (cX 9 k a b),
  some (cI 10 C (wd k a b)),
  some (cx C (wd k a b) (bV k a b r2.2.2))]:=by
 have hw:=ff h;have cl:=lT (k:=k) (a:=a) (b:=b) (C:=C) (l:=[r0,r1,r2]) (by simp) (by simp);have c0:=dL (k:=k) (a:=a) (b:=b) (n:=C) (w:=wd k a b) (X:=bV k a b r0.2.2) hC ⟨hw.1,by omega⟩;have l0:=aB (bq C (wd k a b)) (bV k a b r0.2.2);obtain ⟨A0,B0,m0⟩:=r0;have c1:=dL (k:=k) (a:=a) (b:=b) (n:=C) (w:=wd k a b) (X:=bV k a b r1.2.2) hC ⟨hw.1,by omega⟩;have l1:=aB (bq C (wd k a b)) (bV k a b r1.2.2);obtain ⟨A1,B1,m1⟩:=r1;have c2:=dL (k:=k) (a:=a) (b:=b) (n:=C) (w:=wd k a b) (X:=bV k a b r2.2.2) hC ⟨hw.1,by omega⟩;have l2:=aB (bq C (wd k a b)) (bV k a b r2.2.2);obtain ⟨A2,B2,m2⟩:=r2;dsimp only at*
 simp only[akK,akV,iM,m9,akm,akz,akP,Nat.reduceAdd] at cl;simp only[tQ,akK,akV,iM,m9];generalize bV k a b m0=X0 at*
 generalize bV k a b m1=X1 at*
 generalize bV k a b m2=X2 at*
 generalize wd k a b=w at*
 refine zF JB Tryz.call54 Tryz.func54 [.tmp 2] fun Q hQ=>?_;refine ae ?_;refine zW [] [] cl ?_
 refine aW (X:=Nat) (st:=fun i=>([(3,.ref 0 0 0 0),(18,.row 3 [[.lit (.int .u64 A0),.lit (.int .u64 B0),.ptr 4 [[.ptr 3 [[.row 1 ((words (bq C w) X0).map (ie .u64)),.I C,.I w]] 0 0,.I k,.I a,.I b]] 0 0],[.lit (.int .u64 A1),.lit (.int .u64 B1),.ptr 4 [[.ptr 3 [[.row 1 ((words (bq C w) X1).map (ie .u64)),.I C,.I w]] 0 0,.I k,.I a,.I b]] 0 0],[.lit (.int .u64 A2),.lit (.int .u64 B2),.ptr 4 [[.ptr 3 [[.row 1 ((words (bq C w) X2).map (ie .u64)),.I C,.I w]] 0 0,.I k,.I a,.I b]] 0 0]]),(19,.I 3),(20,.I i)],
  match i with
  | 0=> [some (.cells [.I 3,.I C,.I k,.I a,.I b,.sl 1 3 0 3,.I T]),
  some (.cells [.lit (.int .u64 A0),.lit (.int .u64 B0),kO k a b C w X0,.lit (.int .u64 A1),.lit (.int .u64 B1),kO k a b C w X1,.lit (.int .u64 A2),.lit (.int .u64 B2),kO k a b C w X2])]
  | 1=> [some (.cells [.I 3,.I C,.I k,.I a,.I b,.sl 1 3 0 3,.I T]),
  some (.cells [.lit (.int .u64 A0),.lit (.int .u64 B0),.ref 2 0 0 0,.lit (.int .u64 A1),.lit (.int .u64 B1),kO k a b C w X1,.lit (.int .u64 A2),.lit (.int .u64 B2),kO k a b C w X2]),
  some (cX 3 k a b),
  some (cI 4 C w),
  some (cx C w X0)]
  | 2=> [some (.cells [.I 3,.I C,.I k,.I a,.I b,.sl 1 3 0 3,.I T]),
  some (.cells [.lit (.int .u64 A0),.lit (.int .u64 B0),.ref 2 0 0 0,.lit (.int .u64 A1),.lit (.int .u64 B1),.ref 5 0 0 0,.lit (.int .u64 A2),.lit (.int .u64 B2),kO k a b C w X2]),
  some (cX 3 k a b),
  some (cI 4 C w),
  some (cx C w X0),
  some (cX 6 k a b),
  some (cI 7 C w),
  some (cx C w X1)]
  | _=> [some (.cells [.I 3,.I C,.I k,.I a,.I b,.sl 1 3 0 3,.I T]),
  some (.cells [.lit (.int .u64 A0),.lit (.int .u64 B0),.ref 2 0 0 0,.lit (.int .u64 A1),.lit (.int .u64 B1),.ref 5 0 0 0,.lit (.int .u64 A2),.lit (.int .u64 B2),.ref 8 0 0 0]),
  some (cX 3 k a b),
  some (cI 4 C w),
  some (cx C w X0),
  some (cX 6 k a b),
  some (cI 7 C w),
  some (cx C w X1),
  some (cX 9 k a b),
  some (cI 10 C w),
  some (cx C w X2)]))
  (inv:=fun i=>i=0∨i=1∨i=2∨i=3) (m:=fun i=>3-i) 0 [some 0,some 1] rfl (by dsimp only;(simp(disch:=(first | omega | (simp only[cS,List.length_map,List.length_range,true_and,and_true];(try omega);done) | fail)) only[go_sem,Int.reduceEq,Int.reduceToNat,Nat.reduceAdd,Nat.reduceMul,Nat.reduceEqDiff, ↓reduceIte,true_and,and_true,and_self,List.drop_zero,List.take_length,Nat.le_refl,V.lit.injEq,Value.int.injEq,Value.bool.injEq];try (first | omega | (simp;done) | (simp;omega)));exact⟨rfl,by simp,rfl⟩) (by dsimp only;exact zM) (.inl rfl) ?_
 rintro i (rfl | rfl | rfl | rfl)
 · dsimp only
   refine ae ?_;refine zW [] [] c0 ?_;refine aI 1 [some 0,some 1,some 3,some 4,some 5] rfl (by dsimp only;exact zM) (by dsimp only;exact zM) (.inr (.inl rfl)) zd
 · dsimp only
   refine ae ?_;refine zW [] [] c1 ?_;refine aI 2 [some 0,some 1,some 2,some 3,some 4,some 6,some 7,some 8] rfl (by dsimp only;exact zM) (by dsimp only;exact zM) (.inr (.inr (.inl rfl))) zd
 · dsimp only
   refine ae ?_;refine zW [] [] c2 ?_;refine aI 3 [some 0,some 1,some 2,some 3,some 4,some 5,some 6,some 7,some 9,some 10,some 11] rfl (by dsimp only;exact zM) (by dsimp only;exact zM) (.inr (.inr (.inr (rfl)))) zd
 · dsimp only
   exact zE [some 0,some 1,some 2,some 3,some 4,some 5,some 6,some 7,some 8,some 9,some 10] hQ
theorem xo {C k a b T:Nat} {r0 r1 r2 r3:RW} (h:aX k a b) (hC:C≤256):aA Tryz.prog 54 [tQ 4 C k a b [r0,r1,r2,r3] T] [] (.ref 0 0 0 0)
 [some (.cells [.I 4,.I C,.I k,.I a,.I b,.sl 1 3 0 4,.I T]),
  some (.cells [.lit (.int .u64 r0.1),.lit (.int .u64 r0.2.1),.ref 2 0 0 0,.lit (.int .u64 r1.1),.lit (.int .u64 r1.2.1),.ref 5 0 0 0,.lit (.int .u64 r2.1),.lit (.int .u64 r2.2.1),.ref 8 0 0 0,.lit (.int .u64 r3.1),.lit (.int .u64 r3.2.1),.ref 11 0 0 0]),
  some (cX 3 k a b),
  some (cI 4 C (wd k a b)),
  some (cx C (wd k a b) (bV k a b r0.2.2)),
  some (cX 6 k a b),
  some (cI 7 C (wd k a b)),
  some (cx C (wd k a b) (bV k a b r1.2.2)),
  some (cX 9 k a b),
  some (cI 10 C (wd k a b)),
  some (cx C (wd k a b) (bV k a b r2.2.2)),
  some (cX 12 k a b),
  some (cI 13 C (wd k a b)),
  some (cx C (wd k a b) (bV k a b r3.2.2))]:=by
 have hw:=ff h;have cl:=lT (k:=k) (a:=a) (b:=b) (C:=C) (l:=[r0,r1,r2,r3]) (by simp) (by simp);have c0:=dL (k:=k) (a:=a) (b:=b) (n:=C) (w:=wd k a b) (X:=bV k a b r0.2.2) hC ⟨hw.1,by omega⟩;have l0:=aB (bq C (wd k a b)) (bV k a b r0.2.2);obtain ⟨A0,B0,m0⟩:=r0;have c1:=dL (k:=k) (a:=a) (b:=b) (n:=C) (w:=wd k a b) (X:=bV k a b r1.2.2) hC ⟨hw.1,by omega⟩;have l1:=aB (bq C (wd k a b)) (bV k a b r1.2.2);obtain ⟨A1,B1,m1⟩:=r1;have c2:=dL (k:=k) (a:=a) (b:=b) (n:=C) (w:=wd k a b) (X:=bV k a b r2.2.2) hC ⟨hw.1,by omega⟩;have l2:=aB (bq C (wd k a b)) (bV k a b r2.2.2);obtain ⟨A2,B2,m2⟩:=r2;have c3:=dL (k:=k) (a:=a) (b:=b) (n:=C) (w:=wd k a b) (X:=bV k a b r3.2.2) hC ⟨hw.1,by omega⟩;have l3:=aB (bq C (wd k a b)) (bV k a b r3.2.2);obtain ⟨A3,B3,m3⟩:=r3;dsimp only at*
 simp only[akK,akV,iM,m9,akm,akz,akP,Nat.reduceAdd] at cl;simp only[tQ,akK,akV,iM,m9];generalize bV k a b m0=X0 at*
 generalize bV k a b m1=X1 at*
 generalize bV k a b m2=X2 at*
 generalize bV k a b m3=X3 at*
 generalize wd k a b=w at*
 refine zF JB Tryz.call54 Tryz.func54 [.tmp 2] fun Q hQ=>?_;refine ae ?_;refine zW [] [] cl ?_
 refine aW (X:=Nat) (st:=fun i=>([(3,.ref 0 0 0 0),(18,.row 3 [[.lit (.int .u64 A0),.lit (.int .u64 B0),.ptr 4 [[.ptr 3 [[.row 1 ((words (bq C w) X0).map (ie .u64)),.I C,.I w]] 0 0,.I k,.I a,.I b]] 0 0],[.lit (.int .u64 A1),.lit (.int .u64 B1),.ptr 4 [[.ptr 3 [[.row 1 ((words (bq C w) X1).map (ie .u64)),.I C,.I w]] 0 0,.I k,.I a,.I b]] 0 0],[.lit (.int .u64 A2),.lit (.int .u64 B2),.ptr 4 [[.ptr 3 [[.row 1 ((words (bq C w) X2).map (ie .u64)),.I C,.I w]] 0 0,.I k,.I a,.I b]] 0 0],[.lit (.int .u64 A3),.lit (.int .u64 B3),.ptr 4 [[.ptr 3 [[.row 1 ((words (bq C w) X3).map (ie .u64)),.I C,.I w]] 0 0,.I k,.I a,.I b]] 0 0]]),(19,.I 4),(20,.I i)],
  match i with
  | 0=> [some (.cells [.I 4,.I C,.I k,.I a,.I b,.sl 1 3 0 4,.I T]),
  some (.cells [.lit (.int .u64 A0),.lit (.int .u64 B0),kO k a b C w X0,.lit (.int .u64 A1),.lit (.int .u64 B1),kO k a b C w X1,.lit (.int .u64 A2),.lit (.int .u64 B2),kO k a b C w X2,.lit (.int .u64 A3),.lit (.int .u64 B3),kO k a b C w X3])]
  | 1=> [some (.cells [.I 4,.I C,.I k,.I a,.I b,.sl 1 3 0 4,.I T]),
  some (.cells [.lit (.int .u64 A0),.lit (.int .u64 B0),.ref 2 0 0 0,.lit (.int .u64 A1),.lit (.int .u64 B1),kO k a b C w X1,.lit (.int .u64 A2),.lit (.int .u64 B2),kO k a b C w X2,.lit (.int .u64 A3),.lit (.int .u64 B3),kO k a b C w X3]),
  some (cX 3 k a b),
  some (cI 4 C w),
  some (cx C w X0)]
  | 2=> [some (.cells [.I 4,.I C,.I k,.I a,.I b,.sl 1 3 0 4,.I T]),
  some (.cells [.lit (.int .u64 A0),.lit (.int .u64 B0),.ref 2 0 0 0,.lit (.int .u64 A1),.lit (.int .u64 B1),.ref 5 0 0 0,.lit (.int .u64 A2),.lit (.int .u64 B2),kO k a b C w X2,.lit (.int .u64 A3),.lit (.int .u64 B3),kO k a b C w X3]),
  some (cX 3 k a b),
  some (cI 4 C w),
  some (cx C w X0),
  some (cX 6 k a b),
  some (cI 7 C w),
  some (cx C w X1)]
  | 3=> [some (.cells [.I 4,.I C,.I k,.I a,.I b,.sl 1 3 0 4,.I T]),
  some (.cells [.lit (.int .u64 A0),.lit (.int .u64 B0),.ref 2 0 0 0,.lit (.int .u64 A1),.lit (.int .u64 B1),.ref 5 0 0 0,.lit (.int .u64 A2),.lit (.int .u64 B2),.ref 8 0 0 0,.lit (.int .u64 A3),.lit (.int .u64 B3),kO k a b C w X3]),
  some (cX 3 k a b),
  some (cI 4 C w),
  some (cx C w X0),
  some (cX 6 k a b),
  some (cI 7 C w),
  some (cx C w X1),
  some (cX 9 k a b),
  some (cI 10 C w),
  some (cx C w X2)]
  | _=> [some (.cells [.I 4,.I C,.I k,.I a,.I b,.sl 1 3 0 4,.I T]),
  some (.cells [.lit (.int .u64 A0),.lit (.int .u64 B0),.ref 2 0 0 0,.lit (.int .u64 A1),.lit (.int .u64 B1),.ref 5 0 0 0,.lit (.int .u64 A2),.lit (.int .u64 B2),.ref 8 0 0 0,.lit (.int .u64 A3),.lit (.int .u64 B3),.ref 11 0 0 0]),
  some (cX 3 k a b),
  some (cI 4 C w),
  some (cx C w X0),
  some (cX 6 k a b),
  some (cI 7 C w),
  some (cx C w X1),
  some (cX 9 k a b),
  some (cI 10 C w),
  some (cx C w X2),
  some (cX 12 k a b),
  some (cI 13 C w),
  some (cx C w X3)]))
  (inv:=fun i=>i=0∨i=1∨i=2∨i=3∨i=4) (m:=fun i=>4-i) 0 [some 0,some 1] rfl (by dsimp only;(simp(disch:=(first | omega | (simp only[cS,List.length_map,List.length_range,true_and,and_true];(try omega);done) | fail)) only[go_sem,Int.reduceEq,Int.reduceToNat,Nat.reduceAdd,Nat.reduceMul,Nat.reduceEqDiff, ↓reduceIte,true_and,and_true,and_self,List.drop_zero,List.take_length,Nat.le_refl,V.lit.injEq,Value.int.injEq,Value.bool.injEq];try (first | omega | (simp;done) | (simp;omega)));exact⟨rfl,by simp,rfl⟩) (by dsimp only;exact zM) (.inl rfl) ?_
 rintro i (rfl | rfl | rfl | rfl | rfl)
 · dsimp only
   refine ae ?_;refine zW [] [] c0 ?_;refine aI 1 [some 0,some 1,some 3,some 4,some 5] rfl (by dsimp only;exact zM) (by dsimp only;exact zM) (.inr (.inl rfl)) zd
 · dsimp only
   refine ae ?_;refine zW [] [] c1 ?_;refine aI 2 [some 0,some 1,some 2,some 3,some 4,some 6,some 7,some 8] rfl (by dsimp only;exact zM) (by dsimp only;exact zM) (.inr (.inr (.inl rfl))) zd
 · dsimp only
   refine ae ?_;refine zW [] [] c2 ?_;refine aI 3 [some 0,some 1,some 2,some 3,some 4,some 5,some 6,some 7,some 9,some 10,some 11] rfl (by dsimp only;exact zM) (by dsimp only;exact zM) (.inr (.inr (.inr (.inl rfl)))) zd
 · dsimp only
   refine ae ?_;refine zW [] [] c3 ?_;refine aI 4 [some 0,some 1,some 2,some 3,some 4,some 5,some 6,some 7,some 8,some 9,some 10,some 12,some 13,some 14] rfl (by dsimp only;exact zM) (by dsimp only;exact zM) (.inr (.inr (.inr (.inr (rfl))))) zd
 · dsimp only
   exact zE [some 0,some 1,some 2,some 3,some 4,some 5,some 6,some 7,some 8,some 9,some 10,some 11,some 12,some 13] hQ
end Go.Proofs.YtcnlmelpnflhnaaGreat
