import Derived.Test.YtcnlmelpnflhnaaGreatHb
import Derived.Test.YtcnlmelpnflhnaaGreatFb
namespace Go.Proofs.YtcnlmelpnflhnaaGreat
open Go.Eng Go.Vx
set_option linter.unusedSimpArgs false
set_option linter.unusedVariables false
set_option maxRecDepth 100000
instance wellN_dec {k a b:Nat} {s:Nat×Nat×Bool}:Decidable (aP k a b s):=by unfold aP;exact inferInstance
theorem D4 {a b:Nat} {s:Nat×Nat×Bool} (h1:1≤a) (h2:a≤1023) (h3:b≤20) (h:¬(s.1≤a∧s.2.1≤b∧(s.2.2=true→s.2.1=b))):aA Tryz.prog 145 [.agg [.lit (.int .i64 (a:Int)),.lit (.int .i64 (b:Int))],sR s] [] (.lit (.bool false)) []:=by
 have c:=lV h1 h2 h3;obtain ⟨K,T,F⟩:=s;dsimp only at h;refine zF pl Tryz.call145 Tryz.func145 [.tmp 4] fun Q hQ=>?_
 by_cases w1:K≤a
 · by_cases w2:T≤b
   · have w3:F=true∧T≠b:=by
      cases F with
      | true=>exact⟨rfl,fun e=>h ⟨w1,w2,fun _=>e⟩⟩
      | false=>exact absurd ⟨w1,w2,fun e=>by cases e⟩ h
     obtain ⟨rfl,w3⟩:=w3;refine ae ?_;refine zC c ?_;exact ak [] hQ
   · refine ae ?_
     refine zC c ?_;exact ak [] hQ
 · refine ae ?_
   refine zC c ?_;exact ak [] hQ
set_option maxHeartbeats 1000000 in
theorem D8 {k a b:Nat} {s:Nat×Nat×Bool} (h:aL k a b) (w:¬aP k a b s):aA Tryz.prog 86 [pR k a b,sR s] [] (.lit (.bool false)) []:=by
 have rc:=fL h;refine zF QX Tryz.call86 Tryz.func86 [.tmp 4] fun Q hQ=>?_
 by_cases h4:k=4
 · obtain ⟨h1,h2,h3⟩:1≤a∧a≤1023∧b≤20:=by rcases h with h | h | h | h<;>omega
   unfold aP at w;rw[if_pos h4] at w;have tw:=D4 h1 h2 h3 w;have t:=m5 (k:=(k:Int)) (a:=(a:Int)) (b:=(b:Int));have tt:=kL (K:=(s.1:Int)) (T:=(s.2.1:Int)) (F:=s.2.2);refine ae ?_;refine zC rc ?_
   repeat (first | (refine aB (t) rfl rfl ?_) | (refine aB (tt) rfl rfl ?_) | (refine aB (tw) rfl rfl ?_) | (refine ae ?_))
   exact ak [] hQ
 · have ct:=nu h h4
   have t:=lz (k:=(k:Int)) (a:=(a:Int)) (b:=(b:Int));unfold aP at w;rw[if_neg h4] at w;obtain ⟨K,T,F⟩:=s;dsimp only at w;generalize 2^b-1=m at*
   refine ae ?_;refine zC rc ?_;refine zC t ?_;refine aB (ct) rfl rfl ?_
   by_cases w1:T=0
   · subst w1
     by_cases w2:K≤m
     · have w3:F=true∧K≠m:=by
        cases F with
        | true=>exact⟨rfl,fun e=>w ⟨rfl,w2,fun _=>e⟩⟩
        | false=>exact absurd ⟨rfl,w2,fun e=>by cases e⟩ w
       obtain ⟨rfl,w3⟩:=w3;exact zE [] hQ
     · refine ae ?_
       exact ak [] hQ
   · refine ae ?_
     exact ak [] hQ
theorem EI {k a b:Nat} {s:Nat×Nat×Bool} (h:aL k a b):aA Tryz.prog 86 [pR k a b,sR s] [] (.lit (.bool (decide (aP k a b s)))) []:=by
 by_cases w:aP k a b s
 · rw[aju w];exact qS h w
 · rw[ajn w];exact D8 h w
def EK (L:List Bool) (k a b p:Nat):Nat×Nat×Bool:=(numOf ((L.drop p).take (w1 k a b)),numOf ((L.drop (p+w1 k a b)).take (w2 k a b)),L.getD (p+w1 k a b+w2 k a b) false)
def vR (L:List Bool) (k a b p:Nat):Option (Nat×Nat×Bool)×Nat×Int:=
 if p+wd k a b≤L.length then(if aP k a b (EK L k a b p) then(some (EK L k a b p),p+wd k a b,0) else(none,p+wd k a b,4)) else(none,p,5)
def fO:Option (Nat×Nat×Bool)→V
 | some s=>sR s
 | none=>.agg [.lit (.int .i64 0),.lit (.int .i64 0),.lit (.bool false)]
@[go_sem] theorem Wr {s:Nat×Nat×Bool}:fO (some s)=sR s:=(rfl)
@[go_sem] theorem ZV:fO none=.agg [.lit (.int .i64 0),.lit (.int .i64 0),.lit (.bool false)]:=(rfl)
def rdQ (B:List Int) (p:Nat):V:=.rref 2 [[.row 1 (B.map (ie .u8)),.lit (.int .i64 (p:Int))]] 0 0
attribute [go_sem] rdQ
theorem Ht {B:List Int} {p:Nat} (hB:B.length≤1099511627776) (hp:p≤8*B.length):aA Tryz.prog 102 [rdQ B p] [] (.lit (.int .i64 ((8*B.length-p:Nat):Int))) []:=by
 refine zF Df Tryz.call102 Tryz.func102 [.tmp 2] fun Q hQ=>?_;refine ae ?_;rw[show((8:Int)*(B.length:Int)-(p:Int))=((8*B.length-p:Nat):Int) by omega];exact ak [] hQ
set_option maxHeartbeats 2000000 in
theorem qx {k a b p:Nat} {B:List Int} (h:aL k a b) (hI:ke B) (hB:B.length≤1099511627776) (hp:p≤8*B.length):
 aA Tryz.prog 105 [pR k a b,.ref 0 0 0 0] [some (dk B p)] (.tup [fO (vR (bitsOf B) k a b p).1,.lit (.int .i64 (vR (bitsOf B) k a b p).2.2)]) [some (dk B (vR (bitsOf B) k a b p).2.1)]:=by
 have hbl:=ba B;have rc:=fL h;have rb:=wG h;have ws:=mN h;have hw:=AI h;have lf:=Ht hB hp;have hwd:=dN h;unfold wd at hwd;unfold vR wd;refine zF N3 Tryz.call105 Tryz.func105 [.cell 4 36,.tmp 5] fun Q hQ=>?_
 by_cases h1:p+(w1 k a b+w2 k a b+1)≤(bitsOf B).length
 · rw[if_pos h1] at hQ
   have n1:=bN (B:=B) (p:=p) (w:=w1 k a b) hI hB zo zo;have n2:=bN (B:=B) (p:=p+w1 k a b) (w:=w2 k a b) hI hB zo zo;have b1:=qK (B:=B) (p:=p+w1 k a b+w2 k a b) hI hB zo;rw[zZ zo] at b1;dsimp only at b1;rw[show decide (((bitsOf B).getD (p+w1 k a b+w2 k a b) false).toNat=1)=(bitsOf B).getD (p+w1 k a b+w2 k a b) false by cases (bitsOf B).getD (p+w1 k a b+w2 k a b) false<;>rfl] at b1;have hk:=bd ((bitsOf B).drop p) (w1 k a b);have ht:=bd ((bitsOf B).drop (p+w1 k a b)) (w2 k a b);have hpx:2^w1 k a b≤2^10:=Nat.pow_le_pow_right zd hw.1;have hpy:2^w2 k a b≤2^5:=Nat.pow_le_pow_right zd hw.2;have wl:=EI (s:=EK (bitsOf B) k a b p) h;unfold EK at hQ wl;generalize numOf (((bitsOf B).drop p).take (w1 k a b))=K at*
   generalize numOf (((bitsOf B).drop (p+w1 k a b)).take (w2 k a b))=T at*
   generalize (bitsOf B).getD (p+w1 k a b+w2 k a b) false=F at*
   by_cases hwl:aP k a b (K,T,F)
   · rw[if_pos hwl] at hQ
     rw[aju hwl] at wl;refine ae ?_;refine zC rc ?_;refine aW (lf) ?_;refine ae ?_;refine zC rb ?_;refine zC ws ?_;refine zW [some 0] [] n1 ?_;refine zW [some 0] [] n2 ?_;refine zW [some 0] [] b1 ?_;refine zC wl ?_;exact ak [some 0] hQ
   · rw[if_neg hwl] at hQ
     rw[ajn hwl] at wl;refine ae ?_;refine zC rc ?_;refine aW (lf) ?_;refine ae ?_;refine zC rb ?_;refine zC ws ?_;refine zW [some 0] [] n1 ?_;refine zW [some 0] [] n2 ?_;refine zW [some 0] [] b1 ?_;refine zC wl ?_;exact ak [some 0] hQ
 · rw[if_neg h1] at hQ
   refine ae ?_;refine zC rc ?_;refine aW (lf) ?_;refine ae ?_;refine zC rb ?_;exact ak [some 0] hQ
def GW (k a b:Nat):Prop:=(k=1∧1≤a∧a≤4∧1≤b∧b≤4)∨(k=2∧a≤1∧1≤b∧b≤4)∨(k=3∧1≤a∧a≤2∧1≤b∧b≤4)∨(k=4∧1≤a∧a≤8∧b≤3)
theorem bO {k a b:Nat} (h:GW k a b):aL k a b:=by
 rcases h with⟨h,h1,h2,h3,h4⟩ | ⟨h,h1,h2,h3⟩ | ⟨h,h1,h2,h3,h4⟩ | ⟨h,h1,h2,h3⟩
 · refine .inl ⟨h,h1,by omega,h3,by omega,?_⟩
   have hb:=bP (n:=a+1) (k:=3) zo;have hp:2^b≤2^4:=ajv zd h4;exact ajD (ajO hb (show 2^b-1≤15 by omega)) zd
 · exact .inr (.inl ⟨h,by omega,h2,by omega⟩)
 · exact .inr (.inr (.inl ⟨h,h1,by omega,h3,by omega⟩))
 · exact .inr (.inr (.inr ⟨h,h1,by omega,by omega⟩))
theorem ZP {k a b:Nat} (h:GW k a b):b≤4∧a≤8:=by rcases h with h | h | h | h<;>omega
def wi (k a b:Nat) (s:Int×Int×Bool):Nat×Nat×Bool:=
 if k=4 then((s.1%8).toNat%(a+1),(s.2.1%4).toNat%(b+1),s.2.2&&decide ((s.2.1%4).toNat%(b+1)=b))
 else((s.1%16).toNat%(2^b-1+1),0,s.2.2&&decide ((s.1%16).toNat%(2^b-1+1)=2^b-1))
theorem Db {k a b:Nat} {s:Int×Int×Bool}:aP k a b (wi k a b s):=by
 unfold aP wi
 by_cases h4:k=4
 · rw[if_pos h4,if_pos h4]
   exact⟨al5 (ajI _ (alb _)),al5 (ajI _ (alb _)),fun h=>by simp at h;exact h.2⟩
 · rw[if_neg h4,if_neg h4]
   exact⟨rfl,al5 (ajI _ (alb _)),fun h=>by simp at h;exact h.2⟩
theorem zS {m n:Nat}:((m:Nat):Int)%((n:Int)+1)=((m%(n+1):Nat):Int):=by
 rw[show(n:Int)+1=((n+1:Nat):Int) by omega];exact(Int.natCast_emod m (n+1)).symm
set_option maxHeartbeats 1000000 in
theorem i9 {k a b:Nat} {s:Int×Int×Bool} (ha:a≤8) (hb:b≤4):aA Tryz.prog 78 [pR k a b,.agg [.lit (.int .i64 s.1),.lit (.int .i64 s.2.1),.lit (.bool s.2.2)]] [] (sR (wi k a b s)) []:=by
 obtain ⟨K,T,F⟩:=s;unfold wi;dsimp only
 by_cases h4:k=4
 · rw[if_pos h4]
   obtain ⟨x,hx⟩:∃x:Nat,K%8=(x:Int):=⟨(K%8).toNat,by omega⟩;obtain ⟨y,hy⟩:∃y:Nat,T%4=(y:Int):=⟨(T%4).toNat,by omega⟩;rw[hx,hy,aj6,aj6];have f1:((x:Nat):Int)%((a:Int)+1)=((x%(a+1):Nat):Int):=zS;have f2:((y:Nat):Int)%((b:Int)+1)=((y%(b+1):Nat):Int):=zS;have hxl:x%(a+1)<a+1:=ajI _ (alb _);have hyl:y%(b+1)<b+1:=ajI _ (alb _);generalize x%(a+1)=x' at*
   generalize y%(b+1)=y' at*
   have hd:decide ((y':Int)=(b:Int))=decide (y'=b):=by rw[decide_eq_decide];omega
   refine zF QT Tryz.call78 Tryz.func78 [.cell 4 71] fun Q hQ=>?_
   cases F with
   | true=>
     rw[akD] at hQ;refine Yj hx hy f1 f2 hd ?_;exact ak [] hQ
   | false=>
     rw[alz] at hQ;refine Yj hx hy f1 f2 hd ?_;exact ak [] hQ
 · rw[if_neg h4]
   obtain ⟨x,hx⟩:∃x:Nat,K%16=(x:Int):=⟨(K%16).toNat,by omega⟩;rw[hx,aj6];have hs:=shW (k:=b) zo;have hp:1≤2^b:=ajV zd;have hp2:2^b≤2^4:=ajv zd hb;obtain ⟨m,hm⟩:∃m,2^b=m+1:=⟨2^b-1,by omega⟩;rw[hm] at hs hp2;rw[hm,akW];have he:(((m+1:Nat):Int)-1)=(m:Int):=by omega
   have f1:((x:Nat):Int)%((m:Int)+1)=((x%(m+1):Nat):Int):=zS;have hxl:x%(m+1)<m+1:=ajI _ (alb _);generalize x%(m+1)=x' at*
   have hd:decide ((x':Int)=(m:Int))=decide (x'=m):=by rw[decide_eq_decide];omega
   refine zF QT Tryz.call78 Tryz.func78 [.cell 4 71] fun Q hQ=>?_
   cases F with
   | true=>
     rw[akD] at hQ;refine YW hs he hx f1 hd ?_;exact ak [] hQ
   | false=>
     rw[alz] at hQ;refine YW hs he hx f1 hd ?_;exact ak [] hQ
set_option maxHeartbeats 1000000 in
theorem fP {kk aa bb:Int}:∃k a b:Nat,GW k a b∧∀(s:Int×Int×Bool),aA Tryz.prog 22 [.agg [.lit (.int .i64 kk),.lit (.int .i64 aa),.lit (.int .i64 bb)],.agg [.lit (.int .i64 s.1),.lit (.int .i64 s.2.1),.lit (.bool s.2.2)]] [] (.tup [pR k a b,sR (wi k a b s)]) []:=by
 have t1: -4<kk.tmod 4:=by have:=alF kk (b:=4) zd;omega
 have t2:kk.tmod 4<4:=alG kk zd;obtain ⟨m,hm,hm4⟩:∃m:Nat,(kk.tmod 4+4)%4=(m:Int)∧m<4:=⟨((kk.tmod 4+4)%4).toNat,by omega,by omega⟩;obtain ⟨a3,ha3,ha3'⟩:∃x:Nat,aa%4=(x:Int)∧x<4:=⟨(aa%4).toNat,by omega,by omega⟩;obtain ⟨a1,ha1,ha1'⟩:∃x:Nat,aa%2=(x:Int)∧x<2:=⟨(aa%2).toNat,by omega,by omega⟩;obtain ⟨a7,ha7,ha7'⟩:∃x:Nat,aa%8=(x:Int)∧x<8:=⟨(aa%8).toNat,by omega,by omega⟩;obtain ⟨bx,hbx,hbx'⟩:∃x:Nat,bb%256%4=(x:Int)∧x<4:=⟨(bb%256%4).toNat,by omega,by omega⟩;obtain ⟨b3,hb3,hb3'⟩:∃x:Nat,bb%4=(x:Int)∧x<4:=⟨(bb%4).toNat,by omega,by omega⟩;have e1:∀x:Nat,1+(x:Int)=((1+x:Nat):Int):=fun x=>by omega
 rcases (show m=0∨m=1∨m=2∨m=3 by omega) with rfl | rfl | rfl | rfl
 · refine⟨1,1+a3,1+bx,.inl ⟨rfl,by omega,by omega,by omega,by omega⟩,fun s=>?_⟩
   have w:=i9 (k:=1) (a:=1+a3) (b:=1+bx) (s:=s) zo zo;generalize wi 1 (1+a3) (1+bx) s=r at*
   refine zF Hy Tryz.call22 Tryz.func22 [.cell 4 23,.cell 5 71] fun Q hQ=>?_;refine Kh hm ha3 hbx e1 ?_;refine zC w ?_;exact ak [] hQ
 · refine⟨2,a1,1+bx,.inr (.inl ⟨rfl,by omega,by omega,by omega⟩),fun s=>?_⟩
   have w:=i9 (k:=2) (a:=a1) (b:=1+bx) (s:=s) zo zo;generalize wi 2 a1 (1+bx) s=r at*
   refine zF Hy Tryz.call22 Tryz.func22 [.cell 4 23,.cell 5 71] fun Q hQ=>?_;refine Kh hm ha1 hbx e1 ?_;refine zC w ?_;exact ak [] hQ
 · refine⟨3,1+a1,1+bx,.inr (.inr (.inl ⟨rfl,by omega,by omega,by omega,by omega⟩)),fun s=>?_⟩
   have w:=i9 (k:=3) (a:=1+a1) (b:=1+bx) (s:=s) zo zo;generalize wi 3 (1+a1) (1+bx) s=r at*
   refine zF Hy Tryz.call22 Tryz.func22 [.cell 4 23,.cell 5 71] fun Q hQ=>?_;refine Kh hm ha1 hbx e1 ?_;refine zC w ?_;exact ak [] hQ
 · refine⟨4,1+a7,b3,.inr (.inr (.inr ⟨rfl,by omega,by omega,by omega⟩)),fun s=>?_⟩
   have w:=i9 (k:=4) (a:=1+a7) (b:=b3) (s:=s) zo zo;generalize wi 4 (1+a7) b3 s=r at*
   refine zF Hy Tryz.call22 Tryz.func22 [.cell 4 23,.cell 5 71] fun Q hQ=>?_;refine Kh hm ha7 hb3 e1 ?_;refine zC w ?_;exact ak [] hQ
theorem kE {k a b:Nat}:aA Tryz.prog 23 [pR k a b] [] (pR k a b) []:=by
 refine zF pl Tryz.call23 Tryz.func23 [.cell 2 34] fun Q hQ=>?_;exact zE [] hQ
theorem ik {s:Nat×Nat×Bool}:aA Tryz.prog 24 [sR s] [] (sR s) []:=by
 refine zF pl Tryz.call24 Tryz.func24 [.cell 2 36] fun Q hQ=>?_;exact zE [] hQ
end Go.Proofs.YtcnlmelpnflhnaaGreat
