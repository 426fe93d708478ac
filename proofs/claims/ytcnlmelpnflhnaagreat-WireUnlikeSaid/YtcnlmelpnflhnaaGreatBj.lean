import Derived.Test.YtcnlmelpnflhnaaGreatBi
namespace Go.Proofs.YtcnlmelpnflhnaaGreat
open Go.Eng Go.Vx
set_option linter.unusedSimpArgs false
set_option linter.unusedVariables false
set_option maxRecDepth 100000
theorem lM {k a b C:Nat} {l:List RW} (hX:l.length≤256) (h:l≠ []):aA Tryz.prog 113 [.row 3 (l.map (fW k a b C))] [] (.sl 0 3 0 l.length) [some (.row 3 (l.map (fW k a b C)))]:=by
 refine zF pl Tryz.call113 Tryz.func113 [.tmp 2] fun Q hQ=>?_;have he:(l.map (fW k a b C)).isEmpty=false:=by simp[h]
 refine br he ?_;exact ak [some 1] hQ
theorem kr {C k a b T:Nat} {r0:RW} (h:aL k a b) (hC:C≤256):aA Tryz.prog 54 [nk 1 C k a b [r0] T] [] (.ref 0 0 0 0)
 [some (.cells [.lit (.int .i64 1),.lit (.int .i64 (C:Int)),.lit (.int .i64 (k:Int)),.lit (.int .i64 (a:Int)),.lit (.int .i64 (b:Int)),.sl 1 3 0 1,.lit (.int .i64 (T:Int))]),
  some (.cells [.lit (.int .u64 (r0.1:Int)),.lit (.int .u64 (r0.2.1:Int)),.ref 2 0 0 0]),
  some (cP 3 k a b),
  some (cC 4 C (wd k a b)),
  some (ch C (wd k a b) (bg k a b r0.2.2))]:=by
 have hw:=dN h;have cl:=lM (k:=k) (a:=a) (b:=b) (C:=C) (l:=[r0]) (by simp) (by simp);have c0:=cU (k:=k) (a:=a) (b:=b) (n:=C) (w:=wd k a b) (X:=bg k a b r0.2.2) hC ⟨hw.1,by omega⟩;have l0:=aq (aZ C (wd k a b)) (bg k a b r0.2.2);obtain ⟨A0,B0,m0⟩:=r0;dsimp only at*
 simp only[ajK,ajQ,fW,jV,ajr,ajA,ajU,Nat.reduceAdd] at cl;simp only[nk,ajK,ajQ,fW,jV];generalize bg k a b m0=X0 at*
 generalize wd k a b=w at*
 refine zF Ij Tryz.call54 Tryz.func54 [.tmp 2] fun Q hQ=>?_;refine ae ?_;refine zW [] [] cl ?_
 refine aT (X:=Nat) (st:=fun i=>([(3,.ref 0 0 0 0),(18,.row 3 [[.lit (.int .u64 (A0:Int)),.lit (.int .u64 (B0:Int)),.ptr 4 [[.ptr 3 [[.row 1 ((words (aZ C w) X0).map (ie .u64)),.lit (.int .i64 (C:Int)),.lit (.int .i64 (w:Int))]] 0 0,.lit (.int .i64 (k:Int)),.lit (.int .i64 (a:Int)),.lit (.int .i64 (b:Int))]] 0 0]]),(19,.lit (.int .i64 1)),(20,.lit (.int .i64 (i:Int)))],
  match i with
  | 0=> [some (.cells [.lit (.int .i64 1),.lit (.int .i64 (C:Int)),.lit (.int .i64 (k:Int)),.lit (.int .i64 (a:Int)),.lit (.int .i64 (b:Int)),.sl 1 3 0 1,.lit (.int .i64 (T:Int))]),
  some (.cells [.lit (.int .u64 (A0:Int)),.lit (.int .u64 (B0:Int)),kA k a b C w X0])]
  | _=> [some (.cells [.lit (.int .i64 1),.lit (.int .i64 (C:Int)),.lit (.int .i64 (k:Int)),.lit (.int .i64 (a:Int)),.lit (.int .i64 (b:Int)),.sl 1 3 0 1,.lit (.int .i64 (T:Int))]),
  some (.cells [.lit (.int .u64 (A0:Int)),.lit (.int .u64 (B0:Int)),.ref 2 0 0 0]),
  some (cP 3 k a b),
  some (cC 4 C w),
  some (ch C w X0)]))
  (inv:=fun i=>i=0∨i=1) (m:=fun i=>1-i) 0 [some 0,some 1] rfl (by dsimp only;(simp(disch:=(first | omega | (simp only[cQ,List.length_map,List.length_range,true_and,and_true];(try omega);done) | fail)) only[go_sem,Int.reduceEq,Int.reduceToNat,Nat.reduceAdd,Nat.reduceMul,Nat.reduceEqDiff, ↓reduceIte,true_and,and_true,and_self,List.drop_zero,List.take_length,Nat.le_refl,V.lit.injEq,Value.int.injEq,Value.bool.injEq];try (first | omega | (simp;done) | (simp;omega)));exact⟨rfl,by simp,rfl⟩) (by dsimp only;exact zM) (.inl rfl) ?_
 rintro i (rfl | rfl)
 · dsimp only
   refine ae ?_;refine zW [] [] c0 ?_;refine aH 1 [some 0,some 1,some 3,some 4,some 5] rfl (by dsimp only;exact zM) (by dsimp only;exact zM) (.inr (rfl)) zd
 · dsimp only
   exact zE [some 0,some 1,some 2,some 3,some 4] hQ
theorem k7 {C k a b T:Nat} {r0 r1:RW} (h:aL k a b) (hC:C≤256):aA Tryz.prog 54 [nk 2 C k a b [r0,r1] T] [] (.ref 0 0 0 0)
 [some (.cells [.lit (.int .i64 2),.lit (.int .i64 (C:Int)),.lit (.int .i64 (k:Int)),.lit (.int .i64 (a:Int)),.lit (.int .i64 (b:Int)),.sl 1 3 0 2,.lit (.int .i64 (T:Int))]),
  some (.cells [.lit (.int .u64 (r0.1:Int)),.lit (.int .u64 (r0.2.1:Int)),.ref 2 0 0 0,.lit (.int .u64 (r1.1:Int)),.lit (.int .u64 (r1.2.1:Int)),.ref 5 0 0 0]),
  some (cP 3 k a b),
  some (cC 4 C (wd k a b)),
  some (ch C (wd k a b) (bg k a b r0.2.2)),
  some (cP 6 k a b),
  some (cC 7 C (wd k a b)),
  some (ch C (wd k a b) (bg k a b r1.2.2))]:=by
 have hw:=dN h;have cl:=lM (k:=k) (a:=a) (b:=b) (C:=C) (l:=[r0,r1]) (by simp) (by simp);have c0:=cU (k:=k) (a:=a) (b:=b) (n:=C) (w:=wd k a b) (X:=bg k a b r0.2.2) hC ⟨hw.1,by omega⟩;have l0:=aq (aZ C (wd k a b)) (bg k a b r0.2.2);obtain ⟨A0,B0,m0⟩:=r0;have c1:=cU (k:=k) (a:=a) (b:=b) (n:=C) (w:=wd k a b) (X:=bg k a b r1.2.2) hC ⟨hw.1,by omega⟩;have l1:=aq (aZ C (wd k a b)) (bg k a b r1.2.2);obtain ⟨A1,B1,m1⟩:=r1;dsimp only at*
 simp only[ajK,ajQ,fW,jV,ajr,ajA,ajU,Nat.reduceAdd] at cl;simp only[nk,ajK,ajQ,fW,jV];generalize bg k a b m0=X0 at*
 generalize bg k a b m1=X1 at*
 generalize wd k a b=w at*
 refine zF Ij Tryz.call54 Tryz.func54 [.tmp 2] fun Q hQ=>?_;refine ae ?_;refine zW [] [] cl ?_
 refine aT (X:=Nat) (st:=fun i=>([(3,.ref 0 0 0 0),(18,.row 3 [[.lit (.int .u64 (A0:Int)),.lit (.int .u64 (B0:Int)),.ptr 4 [[.ptr 3 [[.row 1 ((words (aZ C w) X0).map (ie .u64)),.lit (.int .i64 (C:Int)),.lit (.int .i64 (w:Int))]] 0 0,.lit (.int .i64 (k:Int)),.lit (.int .i64 (a:Int)),.lit (.int .i64 (b:Int))]] 0 0],[.lit (.int .u64 (A1:Int)),.lit (.int .u64 (B1:Int)),.ptr 4 [[.ptr 3 [[.row 1 ((words (aZ C w) X1).map (ie .u64)),.lit (.int .i64 (C:Int)),.lit (.int .i64 (w:Int))]] 0 0,.lit (.int .i64 (k:Int)),.lit (.int .i64 (a:Int)),.lit (.int .i64 (b:Int))]] 0 0]]),(19,.lit (.int .i64 2)),(20,.lit (.int .i64 (i:Int)))],
  match i with
  | 0=> [some (.cells [.lit (.int .i64 2),.lit (.int .i64 (C:Int)),.lit (.int .i64 (k:Int)),.lit (.int .i64 (a:Int)),.lit (.int .i64 (b:Int)),.sl 1 3 0 2,.lit (.int .i64 (T:Int))]),
  some (.cells [.lit (.int .u64 (A0:Int)),.lit (.int .u64 (B0:Int)),kA k a b C w X0,.lit (.int .u64 (A1:Int)),.lit (.int .u64 (B1:Int)),kA k a b C w X1])]
  | 1=> [some (.cells [.lit (.int .i64 2),.lit (.int .i64 (C:Int)),.lit (.int .i64 (k:Int)),.lit (.int .i64 (a:Int)),.lit (.int .i64 (b:Int)),.sl 1 3 0 2,.lit (.int .i64 (T:Int))]),
  some (.cells [.lit (.int .u64 (A0:Int)),.lit (.int .u64 (B0:Int)),.ref 2 0 0 0,.lit (.int .u64 (A1:Int)),.lit (.int .u64 (B1:Int)),kA k a b C w X1]),
  some (cP 3 k a b),
  some (cC 4 C w),
  some (ch C w X0)]
  | _=> [some (.cells [.lit (.int .i64 2),.lit (.int .i64 (C:Int)),.lit (.int .i64 (k:Int)),.lit (.int .i64 (a:Int)),.lit (.int .i64 (b:Int)),.sl 1 3 0 2,.lit (.int .i64 (T:Int))]),
  some (.cells [.lit (.int .u64 (A0:Int)),.lit (.int .u64 (B0:Int)),.ref 2 0 0 0,.lit (.int .u64 (A1:Int)),.lit (.int .u64 (B1:Int)),.ref 5 0 0 0]),
  some (cP 3 k a b),
  some (cC 4 C w),
  some (ch C w X0),
  some (cP 6 k a b),
  some (cC 7 C w),
  some (ch C w X1)]))
  (inv:=fun i=>i=0∨i=1∨i=2) (m:=fun i=>2-i) 0 [some 0,some 1] rfl (by dsimp only;(simp(disch:=(first | omega | (simp only[cQ,List.length_map,List.length_range,true_and,and_true];(try omega);done) | fail)) only[go_sem,Int.reduceEq,Int.reduceToNat,Nat.reduceAdd,Nat.reduceMul,Nat.reduceEqDiff, ↓reduceIte,true_and,and_true,and_self,List.drop_zero,List.take_length,Nat.le_refl,V.lit.injEq,Value.int.injEq,Value.bool.injEq];try (first | omega | (simp;done) | (simp;omega)));exact⟨rfl,by simp,rfl⟩) (by dsimp only;exact zM) (.inl rfl) ?_
 rintro i (rfl | rfl | rfl)
 · dsimp only
   refine ae ?_;refine zW [] [] c0 ?_;refine aH 1 [some 0,some 1,some 3,some 4,some 5] rfl (by dsimp only;exact zM) (by dsimp only;exact zM) (.inr (.inl rfl)) zd
 · dsimp only
   refine ae ?_;refine zW [] [] c1 ?_;refine aH 2 [some 0,some 1,some 2,some 3,some 4,some 6,some 7,some 8] rfl (by dsimp only;exact zM) (by dsimp only;exact zM) (.inr (.inr (rfl))) zd
 · dsimp only
   exact zE [some 0,some 1,some 2,some 3,some 4,some 5,some 6,some 7] hQ
theorem ki {C k a b T:Nat} {r0 r1 r2:RW} (h:aL k a b) (hC:C≤256):aA Tryz.prog 54 [nk 3 C k a b [r0,r1,r2] T] [] (.ref 0 0 0 0)
 [some (.cells [.lit (.int .i64 3),.lit (.int .i64 (C:Int)),.lit (.int .i64 (k:Int)),.lit (.int .i64 (a:Int)),.lit (.int .i64 (b:Int)),.sl 1 3 0 3,.lit (.int .i64 (T:Int))]),
  some (.cells [.lit (.int .u64 (r0.1:Int)),.lit (.int .u64 (r0.2.1:Int)),.ref 2 0 0 0,.lit (.int .u64 (r1.1:Int)),.lit (.int .u64 (r1.2.1:Int)),.ref 5 0 0 0,.lit (.int .u64 (r2.1:Int)),.lit (.int .u64 (r2.2.1:Int)),.ref 8 0 0 0]),
  some (cP 3 k a b),
  some (cC 4 C (wd k a b)),
  some (ch C (wd k a b) (bg k a b r0.2.2)),
  some (cP 6 k a b),
  some (cC 7 C (wd k a b)),
  some (ch C (wd k a b) (bg k a b r1.2.2)),
  some (cP 9 k a b),
  some (cC 10 C (wd k a b)),
  some (ch C (wd k a b) (bg k a b r2.2.2))]:=by
 have hw:=dN h;have cl:=lM (k:=k) (a:=a) (b:=b) (C:=C) (l:=[r0,r1,r2]) (by simp) (by simp);have c0:=cU (k:=k) (a:=a) (b:=b) (n:=C) (w:=wd k a b) (X:=bg k a b r0.2.2) hC ⟨hw.1,by omega⟩;have l0:=aq (aZ C (wd k a b)) (bg k a b r0.2.2);obtain ⟨A0,B0,m0⟩:=r0;have c1:=cU (k:=k) (a:=a) (b:=b) (n:=C) (w:=wd k a b) (X:=bg k a b r1.2.2) hC ⟨hw.1,by omega⟩;have l1:=aq (aZ C (wd k a b)) (bg k a b r1.2.2);obtain ⟨A1,B1,m1⟩:=r1;have c2:=cU (k:=k) (a:=a) (b:=b) (n:=C) (w:=wd k a b) (X:=bg k a b r2.2.2) hC ⟨hw.1,by omega⟩;have l2:=aq (aZ C (wd k a b)) (bg k a b r2.2.2);obtain ⟨A2,B2,m2⟩:=r2;dsimp only at*
 simp only[ajK,ajQ,fW,jV,ajr,ajA,ajU,Nat.reduceAdd] at cl;simp only[nk,ajK,ajQ,fW,jV];generalize bg k a b m0=X0 at*
 generalize bg k a b m1=X1 at*
 generalize bg k a b m2=X2 at*
 generalize wd k a b=w at*
 refine zF Ij Tryz.call54 Tryz.func54 [.tmp 2] fun Q hQ=>?_;refine ae ?_;refine zW [] [] cl ?_
 refine aT (X:=Nat) (st:=fun i=>([(3,.ref 0 0 0 0),(18,.row 3 [[.lit (.int .u64 (A0:Int)),.lit (.int .u64 (B0:Int)),.ptr 4 [[.ptr 3 [[.row 1 ((words (aZ C w) X0).map (ie .u64)),.lit (.int .i64 (C:Int)),.lit (.int .i64 (w:Int))]] 0 0,.lit (.int .i64 (k:Int)),.lit (.int .i64 (a:Int)),.lit (.int .i64 (b:Int))]] 0 0],[.lit (.int .u64 (A1:Int)),.lit (.int .u64 (B1:Int)),.ptr 4 [[.ptr 3 [[.row 1 ((words (aZ C w) X1).map (ie .u64)),.lit (.int .i64 (C:Int)),.lit (.int .i64 (w:Int))]] 0 0,.lit (.int .i64 (k:Int)),.lit (.int .i64 (a:Int)),.lit (.int .i64 (b:Int))]] 0 0],[.lit (.int .u64 (A2:Int)),.lit (.int .u64 (B2:Int)),.ptr 4 [[.ptr 3 [[.row 1 ((words (aZ C w) X2).map (ie .u64)),.lit (.int .i64 (C:Int)),.lit (.int .i64 (w:Int))]] 0 0,.lit (.int .i64 (k:Int)),.lit (.int .i64 (a:Int)),.lit (.int .i64 (b:Int))]] 0 0]]),(19,.lit (.int .i64 3)),(20,.lit (.int .i64 (i:Int)))],
  match i with
  | 0=> [some (.cells [.lit (.int .i64 3),.lit (.int .i64 (C:Int)),.lit (.int .i64 (k:Int)),.lit (.int .i64 (a:Int)),.lit (.int .i64 (b:Int)),.sl 1 3 0 3,.lit (.int .i64 (T:Int))]),
  some (.cells [.lit (.int .u64 (A0:Int)),.lit (.int .u64 (B0:Int)),kA k a b C w X0,.lit (.int .u64 (A1:Int)),.lit (.int .u64 (B1:Int)),kA k a b C w X1,.lit (.int .u64 (A2:Int)),.lit (.int .u64 (B2:Int)),kA k a b C w X2])]
  | 1=> [some (.cells [.lit (.int .i64 3),.lit (.int .i64 (C:Int)),.lit (.int .i64 (k:Int)),.lit (.int .i64 (a:Int)),.lit (.int .i64 (b:Int)),.sl 1 3 0 3,.lit (.int .i64 (T:Int))]),
  some (.cells [.lit (.int .u64 (A0:Int)),.lit (.int .u64 (B0:Int)),.ref 2 0 0 0,.lit (.int .u64 (A1:Int)),.lit (.int .u64 (B1:Int)),kA k a b C w X1,.lit (.int .u64 (A2:Int)),.lit (.int .u64 (B2:Int)),kA k a b C w X2]),
  some (cP 3 k a b),
  some (cC 4 C w),
  some (ch C w X0)]
  | 2=> [some (.cells [.lit (.int .i64 3),.lit (.int .i64 (C:Int)),.lit (.int .i64 (k:Int)),.lit (.int .i64 (a:Int)),.lit (.int .i64 (b:Int)),.sl 1 3 0 3,.lit (.int .i64 (T:Int))]),
  some (.cells [.lit (.int .u64 (A0:Int)),.lit (.int .u64 (B0:Int)),.ref 2 0 0 0,.lit (.int .u64 (A1:Int)),.lit (.int .u64 (B1:Int)),.ref 5 0 0 0,.lit (.int .u64 (A2:Int)),.lit (.int .u64 (B2:Int)),kA k a b C w X2]),
  some (cP 3 k a b),
  some (cC 4 C w),
  some (ch C w X0),
  some (cP 6 k a b),
  some (cC 7 C w),
  some (ch C w X1)]
  | _=> [some (.cells [.lit (.int .i64 3),.lit (.int .i64 (C:Int)),.lit (.int .i64 (k:Int)),.lit (.int .i64 (a:Int)),.lit (.int .i64 (b:Int)),.sl 1 3 0 3,.lit (.int .i64 (T:Int))]),
  some (.cells [.lit (.int .u64 (A0:Int)),.lit (.int .u64 (B0:Int)),.ref 2 0 0 0,.lit (.int .u64 (A1:Int)),.lit (.int .u64 (B1:Int)),.ref 5 0 0 0,.lit (.int .u64 (A2:Int)),.lit (.int .u64 (B2:Int)),.ref 8 0 0 0]),
  some (cP 3 k a b),
  some (cC 4 C w),
  some (ch C w X0),
  some (cP 6 k a b),
  some (cC 7 C w),
  some (ch C w X1),
  some (cP 9 k a b),
  some (cC 10 C w),
  some (ch C w X2)]))
  (inv:=fun i=>i=0∨i=1∨i=2∨i=3) (m:=fun i=>3-i) 0 [some 0,some 1] rfl (by dsimp only;(simp(disch:=(first | omega | (simp only[cQ,List.length_map,List.length_range,true_and,and_true];(try omega);done) | fail)) only[go_sem,Int.reduceEq,Int.reduceToNat,Nat.reduceAdd,Nat.reduceMul,Nat.reduceEqDiff, ↓reduceIte,true_and,and_true,and_self,List.drop_zero,List.take_length,Nat.le_refl,V.lit.injEq,Value.int.injEq,Value.bool.injEq];try (first | omega | (simp;done) | (simp;omega)));exact⟨rfl,by simp,rfl⟩) (by dsimp only;exact zM) (.inl rfl) ?_
 rintro i (rfl | rfl | rfl | rfl)
 · dsimp only
   refine ae ?_;refine zW [] [] c0 ?_;refine aH 1 [some 0,some 1,some 3,some 4,some 5] rfl (by dsimp only;exact zM) (by dsimp only;exact zM) (.inr (.inl rfl)) zd
 · dsimp only
   refine ae ?_;refine zW [] [] c1 ?_;refine aH 2 [some 0,some 1,some 2,some 3,some 4,some 6,some 7,some 8] rfl (by dsimp only;exact zM) (by dsimp only;exact zM) (.inr (.inr (.inl rfl))) zd
 · dsimp only
   refine ae ?_;refine zW [] [] c2 ?_;refine aH 3 [some 0,some 1,some 2,some 3,some 4,some 5,some 6,some 7,some 9,some 10,some 11] rfl (by dsimp only;exact zM) (by dsimp only;exact zM) (.inr (.inr (.inr (rfl)))) zd
 · dsimp only
   exact zE [some 0,some 1,some 2,some 3,some 4,some 5,some 6,some 7,some 8,some 9,some 10] hQ
theorem km {C k a b T:Nat} {r0 r1 r2 r3:RW} (h:aL k a b) (hC:C≤256):aA Tryz.prog 54 [nk 4 C k a b [r0,r1,r2,r3] T] [] (.ref 0 0 0 0)
 [some (.cells [.lit (.int .i64 4),.lit (.int .i64 (C:Int)),.lit (.int .i64 (k:Int)),.lit (.int .i64 (a:Int)),.lit (.int .i64 (b:Int)),.sl 1 3 0 4,.lit (.int .i64 (T:Int))]),
  some (.cells [.lit (.int .u64 (r0.1:Int)),.lit (.int .u64 (r0.2.1:Int)),.ref 2 0 0 0,.lit (.int .u64 (r1.1:Int)),.lit (.int .u64 (r1.2.1:Int)),.ref 5 0 0 0,.lit (.int .u64 (r2.1:Int)),.lit (.int .u64 (r2.2.1:Int)),.ref 8 0 0 0,.lit (.int .u64 (r3.1:Int)),.lit (.int .u64 (r3.2.1:Int)),.ref 11 0 0 0]),
  some (cP 3 k a b),
  some (cC 4 C (wd k a b)),
  some (ch C (wd k a b) (bg k a b r0.2.2)),
  some (cP 6 k a b),
  some (cC 7 C (wd k a b)),
  some (ch C (wd k a b) (bg k a b r1.2.2)),
  some (cP 9 k a b),
  some (cC 10 C (wd k a b)),
  some (ch C (wd k a b) (bg k a b r2.2.2)),
  some (cP 12 k a b),
  some (cC 13 C (wd k a b)),
  some (ch C (wd k a b) (bg k a b r3.2.2))]:=by
 have hw:=dN h;have cl:=lM (k:=k) (a:=a) (b:=b) (C:=C) (l:=[r0,r1,r2,r3]) (by simp) (by simp);have c0:=cU (k:=k) (a:=a) (b:=b) (n:=C) (w:=wd k a b) (X:=bg k a b r0.2.2) hC ⟨hw.1,by omega⟩;have l0:=aq (aZ C (wd k a b)) (bg k a b r0.2.2);obtain ⟨A0,B0,m0⟩:=r0;have c1:=cU (k:=k) (a:=a) (b:=b) (n:=C) (w:=wd k a b) (X:=bg k a b r1.2.2) hC ⟨hw.1,by omega⟩;have l1:=aq (aZ C (wd k a b)) (bg k a b r1.2.2);obtain ⟨A1,B1,m1⟩:=r1;have c2:=cU (k:=k) (a:=a) (b:=b) (n:=C) (w:=wd k a b) (X:=bg k a b r2.2.2) hC ⟨hw.1,by omega⟩;have l2:=aq (aZ C (wd k a b)) (bg k a b r2.2.2);obtain ⟨A2,B2,m2⟩:=r2;have c3:=cU (k:=k) (a:=a) (b:=b) (n:=C) (w:=wd k a b) (X:=bg k a b r3.2.2) hC ⟨hw.1,by omega⟩;have l3:=aq (aZ C (wd k a b)) (bg k a b r3.2.2);obtain ⟨A3,B3,m3⟩:=r3;dsimp only at*
 simp only[ajK,ajQ,fW,jV,ajr,ajA,ajU,Nat.reduceAdd] at cl;simp only[nk,ajK,ajQ,fW,jV];generalize bg k a b m0=X0 at*
 generalize bg k a b m1=X1 at*
 generalize bg k a b m2=X2 at*
 generalize bg k a b m3=X3 at*
 generalize wd k a b=w at*
 refine zF Ij Tryz.call54 Tryz.func54 [.tmp 2] fun Q hQ=>?_;refine ae ?_;refine zW [] [] cl ?_
 refine aT (X:=Nat) (st:=fun i=>([(3,.ref 0 0 0 0),(18,.row 3 [[.lit (.int .u64 (A0:Int)),.lit (.int .u64 (B0:Int)),.ptr 4 [[.ptr 3 [[.row 1 ((words (aZ C w) X0).map (ie .u64)),.lit (.int .i64 (C:Int)),.lit (.int .i64 (w:Int))]] 0 0,.lit (.int .i64 (k:Int)),.lit (.int .i64 (a:Int)),.lit (.int .i64 (b:Int))]] 0 0],[.lit (.int .u64 (A1:Int)),.lit (.int .u64 (B1:Int)),.ptr 4 [[.ptr 3 [[.row 1 ((words (aZ C w) X1).map (ie .u64)),.lit (.int .i64 (C:Int)),.lit (.int .i64 (w:Int))]] 0 0,.lit (.int .i64 (k:Int)),.lit (.int .i64 (a:Int)),.lit (.int .i64 (b:Int))]] 0 0],[.lit (.int .u64 (A2:Int)),.lit (.int .u64 (B2:Int)),.ptr 4 [[.ptr 3 [[.row 1 ((words (aZ C w) X2).map (ie .u64)),.lit (.int .i64 (C:Int)),.lit (.int .i64 (w:Int))]] 0 0,.lit (.int .i64 (k:Int)),.lit (.int .i64 (a:Int)),.lit (.int .i64 (b:Int))]] 0 0],[.lit (.int .u64 (A3:Int)),.lit (.int .u64 (B3:Int)),.ptr 4 [[.ptr 3 [[.row 1 ((words (aZ C w) X3).map (ie .u64)),.lit (.int .i64 (C:Int)),.lit (.int .i64 (w:Int))]] 0 0,.lit (.int .i64 (k:Int)),.lit (.int .i64 (a:Int)),.lit (.int .i64 (b:Int))]] 0 0]]),(19,.lit (.int .i64 4)),(20,.lit (.int .i64 (i:Int)))],
  match i with
  | 0=> [some (.cells [.lit (.int .i64 4),.lit (.int .i64 (C:Int)),.lit (.int .i64 (k:Int)),.lit (.int .i64 (a:Int)),.lit (.int .i64 (b:Int)),.sl 1 3 0 4,.lit (.int .i64 (T:Int))]),
  some (.cells [.lit (.int .u64 (A0:Int)),.lit (.int .u64 (B0:Int)),kA k a b C w X0,.lit (.int .u64 (A1:Int)),.lit (.int .u64 (B1:Int)),kA k a b C w X1,.lit (.int .u64 (A2:Int)),.lit (.int .u64 (B2:Int)),kA k a b C w X2,.lit (.int .u64 (A3:Int)),.lit (.int .u64 (B3:Int)),kA k a b C w X3])]
  | 1=> [some (.cells [.lit (.int .i64 4),.lit (.int .i64 (C:Int)),.lit (.int .i64 (k:Int)),.lit (.int .i64 (a:Int)),.lit (.int .i64 (b:Int)),.sl 1 3 0 4,.lit (.int .i64 (T:Int))]),
  some (.cells [.lit (.int .u64 (A0:Int)),.lit (.int .u64 (B0:Int)),.ref 2 0 0 0,.lit (.int .u64 (A1:Int)),.lit (.int .u64 (B1:Int)),kA k a b C w X1,.lit (.int .u64 (A2:Int)),.lit (.int .u64 (B2:Int)),kA k a b C w X2,.lit (.int .u64 (A3:Int)),.lit (.int .u64 (B3:Int)),kA k a b C w X3]),
  some (cP 3 k a b),
  some (cC 4 C w),
  some (ch C w X0)]
  | 2=> [some (.cells [.lit (.int .i64 4),.lit (.int .i64 (C:Int)),.lit (.int .i64 (k:Int)),.lit (.int .i64 (a:Int)),.lit (.int .i64 (b:Int)),.sl 1 3 0 4,.lit (.int .i64 (T:Int))]),
  some (.cells [.lit (.int .u64 (A0:Int)),.lit (.int .u64 (B0:Int)),.ref 2 0 0 0,.lit (.int .u64 (A1:Int)),.lit (.int .u64 (B1:Int)),.ref 5 0 0 0,.lit (.int .u64 (A2:Int)),.lit (.int .u64 (B2:Int)),kA k a b C w X2,.lit (.int .u64 (A3:Int)),.lit (.int .u64 (B3:Int)),kA k a b C w X3]),
  some (cP 3 k a b),
  some (cC 4 C w),
  some (ch C w X0),
  some (cP 6 k a b),
  some (cC 7 C w),
  some (ch C w X1)]
  | 3=> [some (.cells [.lit (.int .i64 4),.lit (.int .i64 (C:Int)),.lit (.int .i64 (k:Int)),.lit (.int .i64 (a:Int)),.lit (.int .i64 (b:Int)),.sl 1 3 0 4,.lit (.int .i64 (T:Int))]),
  some (.cells [.lit (.int .u64 (A0:Int)),.lit (.int .u64 (B0:Int)),.ref 2 0 0 0,.lit (.int .u64 (A1:Int)),.lit (.int .u64 (B1:Int)),.ref 5 0 0 0,.lit (.int .u64 (A2:Int)),.lit (.int .u64 (B2:Int)),.ref 8 0 0 0,.lit (.int .u64 (A3:Int)),.lit (.int .u64 (B3:Int)),kA k a b C w X3]),
  some (cP 3 k a b),
  some (cC 4 C w),
  some (ch C w X0),
  some (cP 6 k a b),
  some (cC 7 C w),
  some (ch C w X1),
  some (cP 9 k a b),
  some (cC 10 C w),
  some (ch C w X2)]
  | _=> [some (.cells [.lit (.int .i64 4),.lit (.int .i64 (C:Int)),.lit (.int .i64 (k:Int)),.lit (.int .i64 (a:Int)),.lit (.int .i64 (b:Int)),.sl 1 3 0 4,.lit (.int .i64 (T:Int))]),
  some (.cells [.lit (.int .u64 (A0:Int)),.lit (.int .u64 (B0:Int)),.ref 2 0 0 0,.lit (.int .u64 (A1:Int)),.lit (.int .u64 (B1:Int)),.ref 5 0 0 0,.lit (.int .u64 (A2:Int)),.lit (.int .u64 (B2:Int)),.ref 8 0 0 0,.lit (.int .u64 (A3:Int)),.lit (.int .u64 (B3:Int)),.ref 11 0 0 0]),
  some (cP 3 k a b),
  some (cC 4 C w),
  some (ch C w X0),
  some (cP 6 k a b),
  some (cC 7 C w),
  some (ch C w X1),
  some (cP 9 k a b),
  some (cC 10 C w),
  some (ch C w X2),
  some (cP 12 k a b),
  some (cC 13 C w),
  some (ch C w X3)]))
  (inv:=fun i=>i=0∨i=1∨i=2∨i=3∨i=4) (m:=fun i=>4-i) 0 [some 0,some 1] rfl (by dsimp only;(simp(disch:=(first | omega | (simp only[cQ,List.length_map,List.length_range,true_and,and_true];(try omega);done) | fail)) only[go_sem,Int.reduceEq,Int.reduceToNat,Nat.reduceAdd,Nat.reduceMul,Nat.reduceEqDiff, ↓reduceIte,true_and,and_true,and_self,List.drop_zero,List.take_length,Nat.le_refl,V.lit.injEq,Value.int.injEq,Value.bool.injEq];try (first | omega | (simp;done) | (simp;omega)));exact⟨rfl,by simp,rfl⟩) (by dsimp only;exact zM) (.inl rfl) ?_
 rintro i (rfl | rfl | rfl | rfl | rfl)
 · dsimp only
   refine ae ?_;refine zW [] [] c0 ?_;refine aH 1 [some 0,some 1,some 3,some 4,some 5] rfl (by dsimp only;exact zM) (by dsimp only;exact zM) (.inr (.inl rfl)) zd
 · dsimp only
   refine ae ?_;refine zW [] [] c1 ?_;refine aH 2 [some 0,some 1,some 2,some 3,some 4,some 6,some 7,some 8] rfl (by dsimp only;exact zM) (by dsimp only;exact zM) (.inr (.inr (.inl rfl))) zd
 · dsimp only
   refine ae ?_;refine zW [] [] c2 ?_;refine aH 3 [some 0,some 1,some 2,some 3,some 4,some 5,some 6,some 7,some 9,some 10,some 11] rfl (by dsimp only;exact zM) (by dsimp only;exact zM) (.inr (.inr (.inr (.inl rfl)))) zd
 · dsimp only
   refine ae ?_;refine zW [] [] c3 ?_;refine aH 4 [some 0,some 1,some 2,some 3,some 4,some 5,some 6,some 7,some 8,some 9,some 10,some 12,some 13,some 14] rfl (by dsimp only;exact zM) (by dsimp only;exact zM) (.inr (.inr (.inr (.inr (rfl))))) zd
 · dsimp only
   exact zE [some 0,some 1,some 2,some 3,some 4,some 5,some 6,some 7,some 8,some 9,some 10,some 11,some 12,some 13] hQ
end Go.Proofs.YtcnlmelpnflhnaaGreat
