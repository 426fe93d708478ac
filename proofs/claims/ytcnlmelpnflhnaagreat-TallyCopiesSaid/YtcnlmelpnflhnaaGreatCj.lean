import Derived.Test.YtcnlmelpnflhnaaGreatBl
import Derived.Test.YtcnlmelpnflhnaaGreatIo
import Derived.Test.YtcnlmelpnflhnaaGreatVFacts
import Derived.Test.YtcnlmelpnflhnaaGreatE6
namespace Go.Proofs.YtcnlmelpnflhnaaGreat
open Go.Eng Go.Vx
set_option linter.unusedSimpArgs false
set_option linter.unusedVariables false
set_option maxRecDepth 100000
attribute [local go_sem] List.take_succ_cons List.take_zero List.drop_succ_cons List.drop_zero
theorem yD {k a b n:Nat} {l:List SR} (h:aL k a b) (hn:n≤256):aA Tryz.prog 12 [OR 0] [some (cP 1 k a b),some (cC 2 n (wd k a b)),some (ch n (wd k a b) (aV (wd k a b) (l.map (fj k a b))))] (jz k a b n l) [some (cP 1 k a b),some (cC 2 n (wd k a b)),some (ch n (wd k a b) (aV (wd k a b) (l.map (fj k a b))))]:=by
 have g:=sO (k:=k) (a:=a) (b:=b) (n:=n) (l:=l);have hw:=dN h;have hlw:=aq (aZ n (wd k a b)) (aV (wd k a b) (l.map (fj k a b)));have c:=cU (k:=k) (a:=a) (b:=b) (n:=n) (w:=wd k a b) (X:=aV (wd k a b) (l.map (fj k a b))) hn ⟨hw.1,by omega⟩;simp only[jz] at g ⊢;generalize aV (wd k a b) (l.map (fj k a b))=X at*
 generalize wd k a b=w at*
 refine zF lZ Tryz.call12 Tryz.func12 [.cell 2 42] fun Q hQ=>?_;refine ae ?_;refine aW (g) ?_;refine ae ?_;refine bI (c) ?_;exact zE [some 0,some 1,some 2] hQ
theorem yF {M D S:Nat} {st:SS} (hX:st.1.length≤256) (h:st.1≠ []):aA Tryz.prog 12 [Oe 0] [some (tJ M D S st)] (l6 M D S st) [some (tJ M D S st)]:=by
 have g:=sS (M:=M) (D:=D) (S:=S) (st:=st);have c:=oR (M:=M) (D:=D) (S:=S) hX h;refine zF lZ Tryz.call12 Tryz.func12 [.cell 2 42] fun Q hQ=>?_;refine ae ?_;refine aW (g) ?_;refine ae ?_;refine bI (c) ?_;exact zE [some 0] hQ
theorem xm {K P C T:Nat} {X:List (Nat×Nat)} (hX:X.length≤1000000) (h:X≠ []):aA Tryz.prog 12 [NW 0] [some (mr (K:Int) (P:Int) (C:Int) X T)] (lW K P C X T) [some (mr (K:Int) (P:Int) (C:Int) X T)]:=by
 have g:=qv (K:=K) (P:=P) (C:=C) (X:=X) (T:=T);have c:=lQ (K:=(K:Int)) (P:=(P:Int)) (C:=(C:Int)) (N:=T) hX h;refine zF lZ Tryz.call12 Tryz.func12 [.cell 2 42] fun Q hQ=>?_;refine ae ?_;refine aW (g) ?_;refine ae ?_;refine bI (c) ?_;exact zE [some 0] hQ
theorem vO {C k a b T:Nat} {r0:RW} (h:aL k a b) (hC:C≤256):aA Tryz.prog 12 [FL 0] [some (fy 1 C k a b [r0] T)] (dP 1 C k a b [r0] T) [some (fy 1 C k a b [r0] T)]:=by
 have g:=ib (R:=1) (C:=C) (k:=k) (a:=a) (b:=b) (l:=[r0]) (T:=T);have c:=kr (C:=C) (T:=T) (r0:=r0) h hC;have l0:=aq (aZ C (wd k a b)) (bg k a b r0.2.2);obtain ⟨A0,B0,m0⟩:=r0;dsimp only at*
 simp only[dP,nk,fy,ajK,ajQ,fW,jV] at g c ⊢;generalize bg k a b m0=X0 at*
 generalize wd k a b=w at*
 refine zF lZ Tryz.call12 Tryz.func12 [.cell 2 42] fun Q hQ=>?_;refine ae ?_;refine aW (g) ?_;refine ae ?_;refine bI (c) ?_;exact zE [some 0] hQ
theorem wj {C k a b T:Nat} {r0 r1:RW} (h:aL k a b) (hC:C≤256):aA Tryz.prog 12 [FL 0] [some (fy 2 C k a b [r0,r1] T)] (dP 2 C k a b [r0,r1] T) [some (fy 2 C k a b [r0,r1] T)]:=by
 have g:=ib (R:=2) (C:=C) (k:=k) (a:=a) (b:=b) (l:=[r0,r1]) (T:=T);have c:=k7 (C:=C) (T:=T) (r0:=r0) (r1:=r1) h hC;have l0:=aq (aZ C (wd k a b)) (bg k a b r0.2.2);have l1:=aq (aZ C (wd k a b)) (bg k a b r1.2.2);obtain ⟨A0,B0,m0⟩:=r0;obtain ⟨A1,B1,m1⟩:=r1;dsimp only at*
 simp only[dP,nk,fy,ajK,ajQ,fW,jV] at g c ⊢;generalize bg k a b m0=X0 at*
 generalize bg k a b m1=X1 at*
 generalize wd k a b=w at*
 refine zF lZ Tryz.call12 Tryz.func12 [.cell 2 42] fun Q hQ=>?_;refine ae ?_;refine aW (g) ?_;refine ae ?_;refine bI (c) ?_;exact zE [some 0] hQ
theorem wC {C k a b T:Nat} {r0 r1 r2:RW} (h:aL k a b) (hC:C≤256):aA Tryz.prog 12 [FL 0] [some (fy 3 C k a b [r0,r1,r2] T)] (dP 3 C k a b [r0,r1,r2] T) [some (fy 3 C k a b [r0,r1,r2] T)]:=by
 have g:=ib (R:=3) (C:=C) (k:=k) (a:=a) (b:=b) (l:=[r0,r1,r2]) (T:=T);have c:=ki (C:=C) (T:=T) (r0:=r0) (r1:=r1) (r2:=r2) h hC;have l0:=aq (aZ C (wd k a b)) (bg k a b r0.2.2);have l1:=aq (aZ C (wd k a b)) (bg k a b r1.2.2);have l2:=aq (aZ C (wd k a b)) (bg k a b r2.2.2);obtain ⟨A0,B0,m0⟩:=r0;obtain ⟨A1,B1,m1⟩:=r1;obtain ⟨A2,B2,m2⟩:=r2;dsimp only at*
 simp only[dP,nk,fy,ajK,ajQ,fW,jV] at g c ⊢;generalize bg k a b m0=X0 at*
 generalize bg k a b m1=X1 at*
 generalize bg k a b m2=X2 at*
 generalize wd k a b=w at*
 refine zF lZ Tryz.call12 Tryz.func12 [.cell 2 42] fun Q hQ=>?_;refine ae ?_;refine aW (g) ?_;refine ae ?_;refine bI (c) ?_;exact zE [some 0] hQ
theorem vp {C k a b T:Nat} {r0 r1 r2 r3:RW} (h:aL k a b) (hC:C≤256):aA Tryz.prog 12 [FL 0] [some (fy 4 C k a b [r0,r1,r2,r3] T)] (dP 4 C k a b [r0,r1,r2,r3] T) [some (fy 4 C k a b [r0,r1,r2,r3] T)]:=by
 have g:=ib (R:=4) (C:=C) (k:=k) (a:=a) (b:=b) (l:=[r0,r1,r2,r3]) (T:=T);have c:=km (C:=C) (T:=T) (r0:=r0) (r1:=r1) (r2:=r2) (r3:=r3) h hC;have l0:=aq (aZ C (wd k a b)) (bg k a b r0.2.2);have l1:=aq (aZ C (wd k a b)) (bg k a b r1.2.2);have l2:=aq (aZ C (wd k a b)) (bg k a b r2.2.2);have l3:=aq (aZ C (wd k a b)) (bg k a b r3.2.2);obtain ⟨A0,B0,m0⟩:=r0;obtain ⟨A1,B1,m1⟩:=r1;obtain ⟨A2,B2,m2⟩:=r2;obtain ⟨A3,B3,m3⟩:=r3;dsimp only at*
 simp only[dP,nk,fy,ajK,ajQ,fW,jV] at g c ⊢;generalize bg k a b m0=X0 at*
 generalize bg k a b m1=X1 at*
 generalize bg k a b m2=X2 at*
 generalize bg k a b m3=X3 at*
 generalize wd k a b=w at*
 refine zF lZ Tryz.call12 Tryz.func12 [.cell 2 42] fun Q hQ=>?_;refine ae ?_;refine aW (g) ?_;refine ae ?_;refine bI (c) ?_;exact zE [some 0] hQ
theorem wZ {R C k a b T:Nat} {l:List RW} (h:aL k a b) (hC:C≤256) (hl:l.length=R) (hR:1≤R∧R≤4):aA Tryz.prog 12 [FL 0] [some (fy R C k a b l T)] (dP R C k a b l T) [some (fy R C k a b l T)]:=by
 subst hl
 match l,hR with
 | [],h=>exact absurd h.1 (by simp)
 | [_],_=>exact vO h hC
 | [_,_],_=>exact wj h hC
 | [_,_,_],_=>exact wC h hC
 | [_,_,_,_],_=>exact vp h hC
 | _::_::_::_::_::_,h=>exact absurd h.2 (by simp)
end Go.Proofs.YtcnlmelpnflhnaaGreat

namespace Go.Proofs.YtcnlmelpnflhnaaGreat
open Go.Eng Go.Vx
set_option linter.unusedVariables false
variable {σ:St}
def Ka:aI:=fun id=>match id with
 | 20=> [(0,(0,0)),(2,(5,0)),(1,(8,3)),(4,(5,0)),(5,(2,0))]
 | 22=> [(0,(5,0)),(2,(5,0)),(4,(5,0)),(6,(5,0)),(1,(0,0)),(2,(10,40)),(3,(12,0)),(5,(11,0)),(7,(2,0)),(8,(5,0))]
 | 25=> [(0,(5,0)),(2,(5,0)),(4,(5,0)),(6,(5,0)),(1,(0,0)),(2,(10,40)),(3,(12,0)),(5,(11,0)),(7,(2,0)),(8,(5,0))]
 | 28=> [(0,(5,0)),(2,(5,0)),(4,(5,0)),(6,(5,0)),(1,(0,0)),(2,(10,40)),(3,(12,0)),(5,(11,0)),(7,(2,0)),(8,(5,0))]
 | 13=> [(0,(5,0)),(2,(5,0)),(4,(5,0)),(6,(5,0)),(1,(0,0)),(2,(10,40)),(3,(12,0)),(5,(11,0)),(7,(2,0)),(8,(5,0))]
 | _=> []
@[go_sem ↓] theorem aeJ:Ka 20=[(0,(0,0)),(2,(5,0)),(1,(8,3)),(4,(5,0)),(5,(2,0))]:=(rfl)
@[go_sem ↓] theorem aeU:Ka 22=[(0,(5,0)),(2,(5,0)),(4,(5,0)),(6,(5,0)),(1,(0,0)),(2,(10,40)),(3,(12,0)),(5,(11,0)),(7,(2,0)),(8,(5,0))]:=(rfl)
def fZ:List (Nat×Nat×Nat):=[(3,(12,0)),(5,(11,0))]
@[go_sem ↓] theorem Yy {K:KR} {all:List Oper} {ρ:Vg}:bY true Tryz.prog all.toArray [(2,(10,40)),(3,(12,0)),(5,(11,0)),(7,(2,0)),(8,(5,0))] ρ σ K=bB Tryz.prog all.toArray fZ 2 40 true ρ σ fun τ ρ' σ'=>bY τ Tryz.prog all.toArray [(7,(2,0)),(8,(5,0))] ρ' σ' K:=(rfl)
@[go_sem ↓] theorem Nu {K:KR} {all:List Oper} {ρ:Vg}:bB Tryz.prog all.toArray fZ 2 40 true ρ σ K=((bR all 3 fun o=>cG true Tryz.prog o ρ σ 2 fun τ u σ'=>bB Tryz.prog all.toArray fZ 1 32 τ (bq ρ o.dst u) σ' K)∧(bR all 5 fun o=>cG true Tryz.prog o ρ σ 1 fun τ u σ'=>bB Tryz.prog all.toArray fZ 1 8 τ (bq ρ o.dst u) σ' K)∧True):=(rfl)
@[go_sem ↓] theorem Nx {K:KR} {all:List Oper} {ρ:Vg}:bB Tryz.prog all.toArray fZ 1 32 true ρ σ K=((bR all 5 fun o=>cG true Tryz.prog o ρ σ 1 fun τ u σ'=>bB Tryz.prog all.toArray fZ 0 0 τ (bq ρ o.dst u) σ' K)∧True):=(rfl)
@[go_sem ↓] theorem P6 {K:KR} {all:List Oper} {ρ:Vg}:bB Tryz.prog all.toArray fZ 1 8 true ρ σ K=((bR all 3 fun o=>cG true Tryz.prog o ρ σ 2 fun τ u σ'=>bB Tryz.prog all.toArray fZ 0 0 τ (bq ρ o.dst u) σ' K)∧True):=(rfl)
@[go_sem ↓] theorem aek:Ka 25=[(0,(5,0)),(2,(5,0)),(4,(5,0)),(6,(5,0)),(1,(0,0)),(2,(10,40)),(3,(12,0)),(5,(11,0)),(7,(2,0)),(8,(5,0))]:=(rfl)
def XU:List (Nat×Nat×Nat):=[(3,(12,0)),(5,(11,0))]
@[go_sem ↓] theorem aeL:Ka 28=[(0,(5,0)),(2,(5,0)),(4,(5,0)),(6,(5,0)),(1,(0,0)),(2,(10,40)),(3,(12,0)),(5,(11,0)),(7,(2,0)),(8,(5,0))]:=(rfl)
def Zv:List (Nat×Nat×Nat):=[(3,(12,0)),(5,(11,0))]
@[go_sem ↓] theorem agu:Ka 13=[(0,(5,0)),(2,(5,0)),(4,(5,0)),(6,(5,0)),(1,(0,0)),(2,(10,40)),(3,(12,0)),(5,(11,0)),(7,(2,0)),(8,(5,0))]:=(rfl)
def Vw:List (Nat×Nat×Nat):=[(3,(12,0)),(5,(11,0))]
end Go.Proofs.YtcnlmelpnflhnaaGreat

namespace Go.Vx
open Go.Eng
set_option linter.unusedSimpArgs false
set_option linter.unusedVariables false
theorem CO {P:Program} {e:Bool} {f:FuncId} {vs vs₀:List V} {σ s:St} {r:V} {K:KV} (r':V) (spec:aA P f vs₀ [] r s) (hk:K true r' σ)
 (hr:FR r=true:=by rfl) (hs:Qv s:=by simp only[Qv,go_sem,and_self,and_true,true_and];try (first | trivial | rfl | (simp;done)))
 (ht:mV (fun _=>true) [] s r' r:=by simp(disch:=(first | omega | (simp only[ajj,ajR,ajr,ajA,ajF,ajt,ajY,ajl,ajo,true_and,and_true];(try omega);done) | fail)) only[go_sem,Int.reduceEq,Int.reduceToNat,Nat.reduceAdd,Nat.reduceMul,Nat.reduceEqDiff, ↓reduceIte,true_and,and_true,and_self,ajE,ajz,ajp,V.lit.injEq,Value.int.injEq,Value.bool.injEq];try (first | omega | (simp;done) | (simp;omega)))
 (hm:qn (fun _=>true) [] σ vs₀ vs:=by simp(disch:=(first | omega | (simp only[ajj,ajR,ajr,ajA,ajF,ajt,ajY,ajl,ajo,true_and,and_true];(try omega);done) | fail)) only[go_sem,Int.reduceEq,Int.reduceToNat,Nat.reduceAdd,Nat.reduceMul,Nat.reduceEqDiff, ↓reduceIte,true_and,and_true,and_self,ajE,ajz,ajp,V.lit.injEq,Value.int.injEq,Value.bool.injEq];try (first | omega | (simp;done) | (simp;omega))):dB P e f vs σ K:=by
 refine nR spec.1 fun μ Im w args rl hl=>?_;have r0:Rel [] (fun b=>b<w.heap.size) [] w:=⟨rfl,fun o ob h=>by simp at h,fun o o' ob ob' b n n' h=>by simp at h,fun b hb=>⟨hb,fun hb'=>by simp[live] at hb'⟩,fun e he=>⟨(rl.im _ (rl.lay e he).1).1,(rl.lay e he).2⟩⟩;refine(spec.2 [] _ w args r0 (ou rl hm hl)).mono ?_;rintro v w' ⟨u,s',μ₁,Im₁,r₁,s₁,hlen,hu,rfl,rfl⟩;have hx:Ext [] w w':=s₁.ext.mono (by simp[live]);obtain ⟨q1,q2⟩:=rl.still hx
 have hfr:∀b∈live μ₁ s',w.heap.size≤b:=fun b hb=>by
  rcases s₁.live b hb with h | h
  · simp[live] at h
  · exact h
 have r₂:Rel μ₁ Im s' w':=by
  refine⟨r₁.len,fun o ob h=>?_,r₁.inj,fun b hb=>⟨(q1.im b hb).1,fun h=>?_⟩,nB.mono (μ:=μ₁) (μ':=μ₁) ⟨akb _,fun _ h=>h,fun _ _=>rfl⟩ q1.lay⟩
  · obtain ⟨loc,h1,h2⟩:=r₁.rep o ob h
    exact⟨loc,h1,CB (p6 hs h) h2⟩
  · have a:=(rl.im b hb).1
    have b:=hfr b h;omega
 have fz:Frz μ₁ Im s' (fun _=>true) (fun b=>Im b∨b∈live μ₁ s'):=⟨fun b h=>.inl h,fun o b n ob _ h2 h3=>.inr (aG.2 ⟨o,n,ob,h3,h2⟩)⟩;have hv:RepV w' (fun b=>Im b∨b∈live μ₁ s') [] r' v:=kx (π:=[]) r₂ fz ht (wz hr hu);have hI:∀b,Im b→(Im b∨b∈live μ₁ s'):=fun b h=>.inl h;refine⟨r',σ,μ,fun b=>Im b∨b∈live μ₁ s',⟨q1.len,fun o ob h=>?_,q1.inj,fun b hb=>?_,nB.mono (μ:=μ) (μ':=μ) ⟨akb _,hI,fun _ _=>rfl⟩ q1.lay⟩,⟨akb _,hI,hx.mono (by simp),fun b h=>.inl h,fun b hb=>?_⟩,fun _=>hx,hv.mono ⟨List.nil_prefix,fun _ h=>h,fun _ _=>rfl⟩,hk⟩
 · obtain ⟨loc,h1,h2⟩:=q1.rep o ob h
   exact⟨loc,h1,h2.mono ⟨akb _,hI,fun _ _=>rfl⟩ (fun _ _ _=>rfl)⟩
 · rcases hb with hb | hb
   · exact q1.im b hb
   · refine⟨r₁.lt hb,fun h=>?_⟩
     have a:=rl.lt h;have c:=hfr b hb;omega
 · rcases hb with hb | hb
   · exact .inl hb
   · exact .inr (.inr (hfr b hb))
end Go.Vx
