import Derived.Test.YtcnlmelpnflhnaaGreatBl
import Derived.Test.YtcnlmelpnflhnaaGreatIn
import Derived.Test.YtcnlmelpnflhnaaGreatBx
import Derived.Test.YtcnlmelpnflhnaaGreatBv
import Derived.Test.YtcnlmelpnflhnaaGreatBq
import Derived.Test.YtcnlmelpnflhnaaGreatCb
namespace Go.Proofs.YtcnlmelpnflhnaaGreat
open Go.Eng Go.Vx
set_option linter.unusedSimpArgs false
set_option linter.unusedVariables false
set_option maxRecDepth 100000
theorem Iz {k a b:Nat} {l:List SR}:bj (wd k a b) (tI k a b l l.length)=bV k a b l:=by
 unfold bV tI;rw[akw,alw,List.replicate_zero,ak7]
 rfl
theorem JM {Kd kk aa bb:Int} {S:List (Int×Int×Bool)} {M D Sc R C ck ca cb:Int} {W Ky:List Nat} {L0:List Bool} (ht:(Kd.tmod 5+5)%5=1) (hS:S.length≤9223372036854775807) (hL0:L0.length≤9223372036854775807):
 ∃(k a b n:Nat) (l:List SR),Pe k a b∧1≤n∧n≤8∧l.length=n∧(∀s∈l,aZ k a b s)∧aA Tryz.prog 8 [.agg (Ms Kd kk aa bb S M D Sc R C ck ca cb W Ky L0)] [] (.tup [itA 0,.lit (.bool true)]) [some (cX 1 k a b),some (cI 2 n (wd k a b)),some (cx n (wd k a b) (bV k a b l))]:=by
 obtain ⟨k,a,b,hsm,hs⟩:=gb (kk:=kk) (aa:=aa) (bb:=bb);have hg:=eR hsm;have h0:=hs (0,0,false);dsimp only at h0;have hL1:(L0.take 300).length≤300:=by rw[List.length_take];omega
 have nt:=oh (L:=L0.take 300) zo;have hns:¬300<L0.length→L0.take 300=L0:=fun h=>aku zo;generalize hL:L0.take 300=L at*
 have t1: -5<Kd.tmod 5:=by have:=amF Kd (b:=5) zd;omega
 have t2:Kd.tmod 5<5:=amf Kd zd;have hkw:IntKind.i64.wrap (Kd.tmod 5+5)=Kd.tmod 5+5:=wrap_i64 ⟨by omega,by omega⟩;have mk:=ES (l:=S) hsm hS;have ml:=NQ (k:=k) (a:=a) (b:=b) (l:=S);have mw:=n9 (k:=k) (a:=a) (b:=b) (l:=S);rw[Iz] at mk;refine⟨k,a,b,(qA k a b S).length,qA k a b S,hsm,ml.1,ml.2,rfl,mw,?_⟩;generalize qA k a b S=m at*
 have hlw:=aB (bq m.length (wd k a b)) (bV k a b m);generalize bV k a b m=X at*
 generalize wd k a b=w at*
 generalize m.length=n at*
 refine zF LG Tryz.call8 Tryz.func8 [.cell 2 42,.tmp 3] fun Q hQ=>?_
 by_cases h1:300<L0.length
 case' pos=>
  refine Gb hL ?_
 case' neg=>
  have hLL:=hns h1;subst hLL;refine ae ?_
 all_goals
  refine aF [] [] (nt) ?_;refine eo hkw ht ?_;refine aC (h0) rfl rfl ?_;refine eo hkw ht ?_
  by_cases h2:0<S.length
  case' pos=>
   obtain ⟨⟨s1,s2,s3⟩,ea⟩:∃x,S.getD 0 default=x:=⟨_,rfl⟩;have h3:=hs (s1,s2,s3);dsimp only at h3;generalize wi k a b (s1,s2,s3)=r at*
   generalize wi k a b (0,0,false)=r0 at*
   refine bg ea ?_;refine aC (h3) rfl rfl ?_;refine bg ht ?_
  case' neg=>
   generalize wi k a b (0,0,false)=r at*
   refine bg ht ?_
  all_goals
   refine zW [] [] mk ?_;exact ai [some 6,some 7,some 8] hQ
theorem M6 {Kd kk aa bb:Int} {S:List (Int×Int×Bool)} {M D Sc R C ck ca cb:Int} {W Ky:List Nat} {L0:List Bool} (hS:S.length≤9223372036854775807) (hL0:L0.length≤9223372036854775807) (hW:W.length≤9223372036854775807) (hw:∀x∈W,x<18446744073709551616) (hKy:Ky.length≤9223372036854775807) (hky:∀x∈Ky,x<18446744073709551616):
 ∃x:Itm,x.ok∧aA Tryz.prog 8 [.agg (Ms Kd kk aa bb S M D Sc R C ck ca cb W Ky L0)] [] (.tup [x.v,.lit (.bool true)]) []:=by
 by_cases t0:(Kd.tmod 5+5)%5=0
 · obtain ⟨k,a,b,s,hsm,hwl,fn⟩:=Jp (kk:=kk) (aa:=aa) (bb:=bb) (S:=S) (M:=M) (D:=D) (Sc:=Sc) (R:=R) (C:=C) (ck:=ck) (ca:=ca) (cb:=cb) (W:=W) (Ky:=Ky) t0 hS hL0
   exact⟨.rg k a b s,⟨eR hsm,hwl⟩,fn⟩
 by_cases t1:(Kd.tmod 5+5)%5=1
 · obtain ⟨k,a,b,n,l,hsm,h1,h8,hl,hwl,hd⟩:=JM (kk:=kk) (aa:=aa) (bb:=bb) (S:=S) (M:=M) (D:=D) (Sc:=Sc) (R:=R) (C:=C) (ck:=ck) (ca:=ca) (cb:=cb) (W:=W) (Ky:=Ky) t1 hS hL0
   subst hl;refine⟨.ar k a b l,⟨eR hsm,by omega,hwl⟩,?_⟩;unfold bV at hd;have hlw:=aB (bq l.length (wd k a b)) (bj (wd k a b) (l.map (iL k a b)));exact(show aA _ _ _ _ (.tup [pZ k a b l.length l,.lit (.bool true)]) [] from sF [] (hd))
 by_cases t2:(Kd.tmod 5+5)%5=2
 · obtain ⟨m,g,s,n,st,hwb,hm4,hs3,h1,h5,hl,hok,hd⟩:=Jk (kk:=kk) (aa:=aa) (bb:=bb) (S:=S) (M:=M) (D:=D) (Sc:=Sc) (R:=R) (C:=C) (ck:=ck) (ca:=ca) (cb:=cb) (W:=W) (Ky:=Ky) t2 hS hL0 hKy hky
   refine⟨.sc m g s st,⟨hwb.good,by omega,Sb hok⟩,?_⟩;exact(show aA _ _ _ _ (.tup [p8 m g s st,.lit (.bool true)]) [] from sF [] (hd))
 by_cases t3:(Kd.tmod 5+5)%5=3
 · obtain ⟨Rn,Cn,k,a,b,T,l,hsm,h1,h2,h3,h4,hl,hr,hT,hd⟩:=J5 (kk:=kk) (aa:=aa) (bb:=bb) (S:=S) (M:=M) (D:=D) (Sc:=Sc) (R:=R) (C:=C) (ck:=ck) (ca:=ca) (cb:=cb) (W:=W) (Ky:=Ky) t3 hS hL0 hW hw hKy hky
   refine⟨.ct Rn Cn k a b T l,⟨eR hsm,by omega,by omega,hl,by omega,hr⟩,?_⟩;exact(show aA _ _ _ _ (.tup [p6 Rn Cn k a b l T,.lit (.bool true)]) [] from sF [] (hd))
 · have t4:(Kd.tmod 5+5)%5=4:=by omega
   obtain ⟨K,P,n,T,X,hg,h1,h2,ho,hT,hd⟩:=K4 (kk:=kk) (aa:=aa) (bb:=bb) (S:=S) (M:=M) (D:=D) (Sc:=Sc) (R:=R) (C:=C) (ck:=ck) (ca:=ca) (cb:=cb) (W:=W) (Ky:=Ky) t4 hS hL0 hKy hky;refine⟨.sm K P n T X,⟨hg,ho.1,by omega,ho.2.1,ho.2.2⟩,?_⟩;exact(show aA _ _ _ _ (.tup [pY K P n X T,.lit (.bool true)]) [] from sF [] (hd))
theorem agE {cs:List V} {v:Value} (h:lB.plnL cs=true):lB (.tup [.agg cs,.lit v])=true:=by
 show(lB.plnL cs&&(true&&true))=true
 rw[h];rfl
theorem Ri {cs:List V} (h:lB.plnL cs=true):lB.plnL [.agg cs]=true:=by
 show(lB.plnL cs&&true)=true
 rw[h];rfl
theorem afH {cs ds:List V} (h:lB.plnL cs=true) (k:lB.plnL ds=true):lB.plnL [.agg cs,.agg ds]=true:=by
 show(lB.plnL cs&&(lB.plnL ds&&true))=true
 rw[h,k];rfl
theorem vq {B:List Int} (h:∀x∈B,0≤x∧x≤18446744073709551615):∃l:List Nat,B=nl l∧∀x∈l,x<18446744073709551616:=by
 refine⟨B.map Int.toNat,?_,fun x hx=>?_⟩
 · unfold nl
   rw[List.map_map]
   conv=>lhs;rw[←List.map_id B]
   refine List.map_congr_left fun x hx=>?_;exact(Int.toNat_of_nonneg (h x hx).1).symm
 · obtain ⟨y,hy,rfl⟩:=alb.1 hx
   have:=h y hy
   omega
theorem B6 (A B:List Int):bitsOf (A++B)=bitsOf A++bitsOf B:=by
 unfold bitsOf;rw[ake,akU,List.range_add,alQ,List.map_map]
 congr 1
 · refine List.map_congr_left fun p hp=>?_
   have:=amg.1 hp
   unfold yS;rw[akf,akf,akp zo]
 · refine List.map_congr_left fun p hp=>?_
   show yS (A++B) (8*A.length+p)=yS B p;unfold yS;rw[akf,akf,akq zo];rw[show(8*A.length+p)/8-A.length=p/8 by omega,show(8*A.length+p)%8=p%8 by omega]
theorem Itm.front {x y:Itm} (hx:x.ok) (hy:y.ok) {m:Nat} (e:aO y.E=(aO x.E).take m):x=y:=by
 have hb:=Itm.bits hx;have hs:aO x.E=aO y.E++(aO x.E).drop m:=by rw[e,alT]
 rw[hs] at hb;have hn:∀A B:List Nat,nl (A++B)=nl A++nl B:=fun A B=>by simp[nl]
 rw[hn,B6,Itm.bits hy,akl,akl] at hb;exact(Itm.uni hy hx hb).symm
theorem Itm.facts {x:Itm} (h:x.ok):(∀z∈x.E,z<256)∧4<x.E.length∧x.E.length≤1200:=by
 have f:=tu x.t_lt (Itm.len h);exact⟨f.1,f.2.2.2.2.1,(Itm.enc h).1⟩
theorem FI {x:Itm} (h:x.ok):tU (x.E.take (x.E.length-1)):=by
 obtain ⟨f1,f2,f3⟩:=Itm.facts h;rcases Qs (l:=x.E.take (x.E.length-1)) (fun z hz=>f1 z (akt hz)) (by rw[akr];omega) with r | ⟨y,hy,e⟩
 · exact r
 · have hl:y.E.length=x.E.length-1:=by rw[e,akr];omega
   have hp:=Itm.front (m:=x.E.length-5) h hy (by
    unfold aO;rw[hl,e,List.take_take,List.take_take]
    congr 1
    omega)
   rw[hp] at hl
   have:=(Itm.facts hy).2.1
   omega
theorem IL {x:Itm} (h:x.ok):tU (x.E++[0]):=by
 obtain ⟨f1,f2,f3⟩:=Itm.facts h
 rcases Qs (l:=x.E++[0]) (fun z hz=>by
  rcases alK.1 hz with hz | hz
  · exact f1 z hz
  · rw[ak1.1 hz];decide) (by rw[ake,alj];omega) with r | ⟨y,hy,e⟩
 · exact r
 · have hl:y.E.length=x.E.length+1:=by rw[e,ake,alj]
   have hp:=Itm.front (m:=x.E.length-4) hy h (by
    unfold aO;rw[hl,e,List.take_take,List.take_append_of_le_length zo]
    congr 1
    omega)
   rw[hp] at hl;omega
theorem Fq {x:Itm} (h:x.ok) {p e:Nat} (hp:p<x.E.length) (he:e≠0) (he2:e<256):tU (x.E.set p (x.E.getD p 0^^^e)):=by
 obtain ⟨f1,f2,f3⟩:=Itm.facts h;have hl:=fj (j9 (bT x.t++x.b));have hb:=Od (l:=j9 (bT x.t++x.b)) (p:=p) (e:=e) (lx _) (by rw[←hl];exact hp) he he2;have hE:x.E=aT (j9 (bT x.t++x.b)):=rfl;rw[←hE] at hb hl;have hxl:x.E.getD p 0^^^e<256:=alC (n:=8) (ke f1 p) he2;refine tc (by rw[akJ];omega) zd (xA (BG f1 hxl) (by rw[akJ];omega) (by rw[akJ];omega) ?_);rw[akJ,hl,alJ];exact hb
theorem Hy (a:Int) (m:Nat) (hm:0<m):(-(m:Int)<a.tmod m∧a.tmod m<m)∧∃p:Nat,(a.tmod m+m)%m=p∧p<m:=by
 have h1:a.tmod m<m:=amf a zo
 have h2: -(m:Int)<a.tmod m:=by
  have:=amf (-a) (show(0:Int)<m by omega)
  rw[Int.neg_tmod] at this;omega
 refine⟨⟨h2,h1⟩,((a.tmod m+m)%m).toNat,?_,?_⟩
 · rw[Int.toNat_of_nonneg (Int.emod_nonneg _ zo)]
 · have h3:=Int.emod_lt_of_pos (a.tmod m+m) (show(0:Int)<m by omega)
   have h4:=Int.emod_nonneg (a.tmod m+m) (show(m:Int)≠0 by omega);omega
theorem IV {a:Int}:bS .or .i64 a 8≠1∧bS .or .i64 a 8≠2∧bS .or .i64 a 8≠3∧bS .or .i64 a 8≠4∧bS .or .i64 a 8≠5:=by
 obtain ⟨x,hx⟩:∃x:Nat,x=(BitVec.ofInt IntKind.i64.bits a).toNat:=⟨_,rfl⟩;have hxl:x<18446744073709551616:=by rw[hx];exact BitVec.isLt _
 have e:bS .or .i64 a 8=IntKind.i64.wrap (((x ||| 8:Nat)):Int):=by
  unfold bS;dsimp only;rw[BitVec.toNat_or,←hx]
  rfl
 have hl:x ||| 8<18446744073709551616:=Nat.or_lt_two_pow (n:=64) hxl zd
 have h8:(x ||| 8)%16/8=1:=by
  have h1:(x ||| 8)%2^4=x%2^4 ||| 8%2^4:=Nat.or_mod_two_pow;have h2:x%2^4<16:=akD _ zd;rw[show(16:Nat)=2^4 from rfl,h1];generalize x%2^4=y at h2
  have:∀y:Fin 16,(y.val ||| 8%2^4)/8=1:=by decide
  exact this ⟨y,h2⟩
 generalize x ||| 8=z at*
 have hw:∀n:Int,1≤n→n≤5→IntKind.i64.wrap (z:Int)≠n:=by
  intro n h1 h5;simp only[IntKind.wrap,IntKind.bits,IntKind.signed]
  simp
  split<;>omega
 rw[e];exact⟨hw 1 zd zd,hw 2 zd zd,hw 3 zd zd,hw 4 zd zd,hw 5 zd zd⟩
theorem HN {v:Int} {c1 c2 c3 c4 c5 c6 c7 c8 c9 c10:V} (h:v≠1∧v≠2∧v≠3∧v≠4∧v≠5) (hc:lB.plnL [c1,c2,c3,c4,c5,c6,c7,c8,c9,c10]=true):
 aA Tryz.prog 35 [.agg [.I v,c1,c2,c3,c4,c5,c6,c7,c8,c9,c10]] [] (.lit (.bool false)) []:=by
 obtain ⟨h1,h2,h3,h4,h5⟩:=h;refine zF pl Tryz.call35 Tryz.func35 [.tmp 2] fun Q hQ=>?_;refine Oc (akg h1) (akg h2) (akg h3) (akg h4) (akg h5) ?_;exact ai [] hQ
def QF (t:Int):V:=.agg [.I t,.I 9,.I 0,.I 0,.I 0,.I 0,.lit (.bool false),.lit (.pointer none),.lit (.pointer none),.lit (.pointer none),.lit (.pointer none)]
attribute [go_sem] QF
theorem KU:aA Tryz.prog 86 [.agg [.I 9,.I 0,.I 0],.agg [.I 0,.I 0,.lit (.bool false)]] [] (.lit (.bool false)) []:=by
 have ck:=jT (k:=9) (a:=0) (b:=0) (by rintro ⟨k,a,b,h1,h2,h3,h | h | h | h⟩<;>omega)
 refine zF NR Tryz.call86 Tryz.func86 [.tmp 4] fun Q hQ=>?_;refine ae ?_;refine zC ck ?_;exact ai [] hQ
theorem IY {t:Int} (h:t=1∨t=2∨t=3∨t=4∨t=5):aA Tryz.prog 35 [QF t] [] (.lit (.bool false)) []:=by
 have w9:=KU;rcases h with rfl | rfl | rfl | rfl | rfl
 · refine zF pl Tryz.call35 Tryz.func35 [.tmp 2] fun Q hQ=>?_
   refine ae ?_;refine zC w9 ?_;exact ai [] hQ
 · refine zF pl Tryz.call35 Tryz.func35 [.tmp 2] fun Q hQ=>?_
   exact zE [] hQ
 · refine zF pl Tryz.call35 Tryz.func35 [.tmp 2] fun Q hQ=>?_
   exact zE [] hQ
 · refine zF pl Tryz.call35 Tryz.func35 [.tmp 2] fun Q hQ=>?_
   exact zE [] hQ
 · refine zF pl Tryz.call35 Tryz.func35 [.tmp 2] fun Q hQ=>?_
   exact zE [] hQ
theorem CP {c0 c1 c2 c3 c4 c5 c6 c7 c8 c9 c10:V} (hp:lB.plnL [c0,c1,c2,c3,c4,c5,c6,c7,c8,c9,c10]=true) (g:aA Tryz.prog 35 [.agg [c0,c1,c2,c3,c4,c5,c6,c7,c8,c9,c10]] [] (.lit (.bool false)) []):
 aA Tryz.prog 10 [.agg [c0,c1,c2,c3,c4,c5,c6,c7,c8,c9,c10]] [] (.tup [.lit (.slice none 0 0),.I 1]) []:=by
 have ck:aA Tryz.prog 9 [.agg [c0,c1,c2,c3,c4,c5,c6,c7,c8,c9,c10]] [] (.I 1) []:=by
  refine zF pl Tryz.call9 Tryz.func9 [.tmp 2] fun Q hQ=>?_;refine ae ?_;refine aC g (Ri hp) rfl ?_;exact zE [] hQ
 refine zF pl Tryz.call10 Tryz.func10 [.tmp 2,.tmp 3] fun Q hQ=>?_;refine ae ?_;refine aC ck (Ri hp) rfl ?_;exact zE [] hQ
theorem Ni {b:Nat} (hb:b<256):b ||| 1≠0∧b ||| 1<256:=by
 have h:∀b:Fin 256,b.val ||| 1≠0∧b.val ||| 1<256:=by decide+kernel
 exact h ⟨b,hb⟩
set_option maxHeartbeats 2000000 in
theorem BV {Kd kk aa bb:Int} {S:List (Int×Int×Bool)} {M D Sc R C ck ca cb:Int} {W Ky:List Nat} {L0:List Bool} {at_ by_:Int} (hS:S.length≤9223372036854775807) (hL0:L0.length≤9223372036854775807) (hW:W.length≤9223372036854775807) (hw:∀x∈W,x<18446744073709551616) (hKy:Ky.length≤9223372036854775807) (hky:∀x∈Ky,x<18446744073709551616) (ha: -9223372036854775808≤at_∧at_≤9223372036854775807) (hb:0≤by_∧by_≤255):
 aA Tryz.prog 4 [.agg (Ms Kd kk aa bb S M D Sc R C ck ca cb W Ky L0),.I at_,.lit (.int .u8 by_)] [] (.lit (.bool true)) []:=by
 obtain ⟨x,hx,it⟩:=M6 (Kd:=Kd) (kk:=kk) (aa:=aa) (bb:=bb) (S:=S) (M:=M) (D:=D) (Sc:=Sc) (R:=R) (C:=C) (ck:=ck) (ca:=ca) (cb:=cb) (W:=W) (Ky:=Ky) (L0:=L0) hS hL0 hW hw hKy hky;have aw:=Bk;have en:=(Itm.enc hx).row;obtain ⟨f1,f2,f3⟩:=Itm.facts hx;have b2:=FI hx;have b3:=IL hx;obtain ⟨⟨q1,q2⟩,p,hp,hpl⟩:=Hy at_ x.E.length zo;obtain ⟨y,rfl⟩:=al3 hb.1;have hy:y<256:=by omega
 obtain ⟨hy0,hy1⟩:=Ni hy;have e1:bS .or .u8 (y:Int) 1=((y ||| 1:Nat):Int):=Pz (y:=1) hy zd;have b1:=Fq hx hpl hy0 hy1;have gp:=ke f1 p;have e2:bS .xor .u8 ((x.E.getD p 0:Nat):Int) ((y ||| 1:Nat):Int)=((x.E.getD p 0^^^(y ||| 1):Nat):Int):=Je gp hy1;have hg:=bt x.E p;have fs:=fJ x.E p (x.E.getD p 0^^^(y ||| 1));have ht:=x.t_lt;have g9:aA Tryz.prog 10 [QF (x.t:Int)] [] (.tup [.lit (.slice none 0 0),.I 1]) []:=CP rfl (IY (t:=(x.t:Int)) (by cases x<;>simp[Itm.t]));have g8:aA Tryz.prog 10 [.agg [.I (bS .or .i64 at_ 8),.I 0,.I 0,.I 0,.I 0,.I 0,.lit (.bool false),.rref 4 [[.lit (.pointer none),.I 0,.I 0,.I 0]] 0 0,.lit (.pointer none),.lit (.pointer none),.lit (.pointer none)]] [] (.tup [.lit (.slice none 0 0),.I 1]) []:=CP rfl (HN IV rfl);have t0:(x.t:Int)≠0:=by cases x<;>simp[Itm.t]
 unfold tU at b1 b2 b3;have n2:(nl (x.E.take (x.E.length-1)))=(nl x.E).take (x.E.length-1):=by simp[nl,amn]
 have n3:nl (x.E++[0])=nl x.E++[0]:=by simp[nl]
 rw[n2] at b2;rw[n3] at b3;rw[←fs] at b1;have hnl:=av x.E;obtain ⟨c1,c2,c3,c4,c5,c6,c7,c8,c9,c10,hv,hpn⟩:=Itm.parts (x:=x);have s0:=bA (c1:=c1) (c2:=c2) (c3:=c3) (c4:=c4) (c5:=c5) (c6:=c6) (c7:=c7) (c8:=c8) (c9:=c9) (c10:=c10) (d1:=.I 0) (d2:=.I 0) (d3:=.I 0) (d4:=.I 0) (d5:=.I 0) (d6:=.lit (.bool false)) (d7:=.lit (.pointer none)) (d8:=.lit (.pointer none)) (d9:=.lit (.pointer none)) (d10:=.lit (.pointer none)) t0 hpn rfl;rw[hv] at it en;generalize x.E.getD p 0^^^(y ||| 1)=z at*
 generalize x.E.getD p 0=z0 at*
 generalize y ||| 1=y1 at*
 generalize x.t=t at*
 clear hx hv f1;generalize nl x.E=B at*
 generalize x.E.length=n at*
 generalize hv8:bS .or .i64 at_ 8=v8 at*
 have hwr:IntKind.i64.wrap (at_.tmod (n:Int)+(n:Int))=at_.tmod (n:Int)+(n:Int):=by
  generalize hq:at_.tmod (n:Int)=q at*
  exact wrap_i64 ⟨by omega,by omega⟩
 subst hnl;have hm1:((B.length:Int)-1).toNat=B.length-1:=by omega
 refine zF pl Tryz.call4 Tryz.func4 [.tmp 6] fun Q hQ=>?_;refine ae ?_;refine zC aw ?_;refine aC it rfl (agE hpn) ?_;refine ae ?_;refine aC en (Ri hpn) rfl ?_;refine Oc hwr hp hg e1 e2 ?_;refine aF [] [3] (b1) ?_;refine bg hm1 ?_;refine zC b2 ?_;refine zW [] [8] b3 ?_;refine aC (g9) rfl rfl ?_;refine bg hv8 ?_;refine ch (g8) ?_;refine ae ?_;refine aC s0 (afH hpn rfl) rfl ?_;exact zE [] hQ
end Go.Proofs.YtcnlmelpnflhnaaGreat
