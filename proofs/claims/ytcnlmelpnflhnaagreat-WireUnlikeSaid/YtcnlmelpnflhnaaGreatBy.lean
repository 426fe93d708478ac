import Derived.Test.YtcnlmelpnflhnaaGreatBn
import Derived.Test.YtcnlmelpnflhnaaGreatBp
import Derived.Test.YtcnlmelpnflhnaaGreatBl
import Derived.Test.YtcnlmelpnflhnaaGreatCa
import Derived.Test.YtcnlmelpnflhnaaGreatBo
import Derived.Test.YtcnlmelpnflhnaaGreatBi
namespace Go.Proofs.YtcnlmelpnflhnaaGreat
open Go.Eng Go.Vx
set_option linter.unusedSimpArgs false
set_option linter.unusedVariables false
set_option maxRecDepth 100000
theorem BD {k a b:Nat} (h:Lj k a b):ja k a b:=by
 rcases h with⟨h,h1,h2,h3,h4⟩ | ⟨h,h1,h2,h3⟩ | ⟨h,h1,h2,h3,h4⟩ | ⟨h,h1,h2,h3⟩
 · exact .inl ⟨.inl ⟨h,h1,h2⟩,h3,h4⟩
 · exact .inl ⟨.inr (.inl ⟨h,h1⟩),h2,h3⟩
 · exact .inl ⟨.inr (.inr ⟨h,h1,h2⟩),h3,h4⟩
 · exact .inr ⟨h,h1,h2,by omega⟩
abbrev CT:=List RW×Nat×Nat×Bool
def qA (L:List Bool) (R k a b C i:Nat) (x:CT):Prop:=x.1.length=R∧(∀r∈x.1,br k a b C r)∧x.2.1≤4*i∧x.2.2.1≤L.length
def J3 (G:Nat→Nat→CT→Int×CT):List Nat→CT→CT
 | [],x=>x
 | k::ks,x=>J3 G ks (G (k%1000) (k%5) x).2
theorem JF {G:Nat→Nat→CT→Int×CT} {x:CT}:J3 G [] x=x:=rfl
theorem vB {G:Nat→Nat→CT→Int×CT} {k:Nat} {ks:List Nat} {x:CT}:J3 G (k::ks) x=J3 G ks (G (k%1000) (k%5) x).2:=rfl
theorem GU {L:List Bool} {R k a b C:Nat} {G:Nat→Nat→CT→Int×CT} (hG:∀(key n i:Nat) x,key≤1000→n≤4→i≤200→qA L R k a b C i x→qA L R k a b C (i+1) (G key n x).2):∀ks i x,i+ks.length≤200→qA L R k a b C i x→qA L R k a b C (i+ks.length) (J3 G ks x)
 | [],i,x,_,h=>h
 | k::ks,i,x,hl,h=>by
   rw[vB,agu,show i+(ks.length+1)=(i+1)+ks.length by omega];rw[agu] at hl;exact GU hG ks (i+1) _ zo (hG _ _ i x zo zo zo h)
set_option maxHeartbeats 8000000 in
theorem GL {Kd kk aa bb:Int} {S:List (Int×Int×Bool)} {M D Sc R C ck ca cb:Int} {W Ky:List Nat} {L0:List Bool} (ht:(Kd.tmod 5+5)%5=3) (hS:S.length≤9223372036854775807) (hL0:L0.length≤9223372036854775807) (hW:W.length≤9223372036854775807) (hw:∀x∈W,x<18446744073709551616) (hKy:Ky.length≤9223372036854775807) (hky:∀x∈Ky,x<18446744073709551616):
 ∃(Rn Cn k a b T:Nat) (l:List RW),Lj k a b∧1≤Rn∧Rn≤4∧1≤Cn∧Cn≤64∧l.length=Rn∧(∀r∈l,br k a b Cn r)∧T≤100∧aC Tryz.prog 8 [.agg (HH Kd kk aa bb S M D Sc R C ck ca cb W Ky L0)] [] (.tup [itC 0,.lit (.bool true)]) [some (jv Rn Cn k a b l T)]:=by
 obtain ⟨k,a,b,hsm,hs⟩:=fq (kk:=kk) (aa:=aa) (bb:=bb);have hg:=eh hsm;have h0:=hs (0,0,false);dsimp only at h0;have hL1:(L0.take 300).length≤300:=by rw[List.length_take];omega
 have nt:=mP (L:=L0.take 300) zo;have hns:¬300<L0.length→L0.take 300=L0:=fun h=>agB zo;generalize hL:L0.take 300=L at*
 have t1: -5<Kd.tmod 5:=by have:=aiD Kd (b:=5) zd;omega
 have t2:Kd.tmod 5<5:=aiE Kd zd;have hkw:IntKind.i64.wrap (Kd.tmod 5+5)=Kd.tmod 5+5:=wrap_i64 ⟨by omega,by omega⟩;obtain ⟨k2,a2,b2,hsm2,hs2⟩:=fq (kk:=ck) (aa:=ca) (bb:=cb);obtain ⟨m,hm⟩:∃m:Nat,R%4=(m:Int):=⟨(R%4).toNat,by omega⟩;obtain ⟨c,hc⟩:∃c:Nat,C%256%64=(c:Int):=⟨(C%256%64).toNat,by omega⟩;have hm4:m+1≤4:=by omega
 have hc64:c+1≤64:=by omega
 have pm:=xu (W:=W) hm hc hs2;have hh:=v5 (C:=C) (k:=ck) (a:=ca) (b:=cb) (W:=W) hm hW hw;have hl:(jS W (m+1)).length=m+1:=by unfold jS;rw[agr,ags]
 have ho:∀x∈jS W (m+1),x.1<2305843009213693951∧x.2<2305843009213693951:=by
  intro x hx;obtain ⟨i,hi,rfl⟩:=aho.1 hx
  have:=aio.1 hi
  exact⟨vF zo,vF zo⟩
 have nw:=B5 (C:=c+1) (hs:=jS W (m+1)) zo zo (eh hsm2) ho;rw[hl] at nw;have fw:=pX hKy;have hsml:=BD hsm2;have hKt:(Ky.take 12).length≤12:=by rw[agz];omega
 have hKl:=aD (Ky.take 12);generalize Ky.take 12=Kt at*
 obtain ⟨G,hG⟩:∃G:Nat→Nat→CT→Int×CT,∀(key n i:Nat) x,key≤1000→n≤4→i≤200→qA L (m+1) k2 a2 b2 (c+1) i x→qA L (m+1) k2 a2 b2 (c+1) (i+1) (G key n x).2∧
  aC Tryz.prog 19 [.ref 0 0 0 0,.ref 1 0 0 0,.lit (.int .u64 (key:Int)),.lit (.int .i64 (n:Int))] [some (jv (m+1) (c+1) k2 a2 b2 x.1 x.2.1),some (aX L x.2.2.1 x.2.2.2)] (.lit (.int .i64 (G key n x).1)) [some (jv (m+1) (c+1) k2 a2 b2 (G key n x).2.1 (G key n x).2.2.1),some (aX L (G key n x).2.2.2.1 (G key n x).2.2.2.2)]:=by
  have h:∀(key n:Nat) (x:CT),∃y:Int×CT,∀i,key≤1000→n≤4→i≤200→qA L (m+1) k2 a2 b2 (c+1) i x→qA L (m+1) k2 a2 b2 (c+1) (i+1) y.2∧
   aC Tryz.prog 19 [.ref 0 0 0 0,.ref 1 0 0 0,.lit (.int .u64 (key:Int)),.lit (.int .i64 (n:Int))] [some (jv (m+1) (c+1) k2 a2 b2 x.1 x.2.1),some (aX L x.2.2.1 x.2.2.2)] (.lit (.int .i64 y.1)) [some (jv (m+1) (c+1) k2 a2 b2 y.2.1 y.2.2.1),some (aX L y.2.2.2.1 y.2.2.2.2)]:=by
   intro key n x
   by_cases h:key≤1000∧n≤4∧qA L (m+1) k2 a2 b2 (c+1) 200 x
   · obtain ⟨h1,h2,h3,h4,h5,h6⟩:=h
     obtain ⟨e,X',N',q,d',a1,a2,a3,a4,a5⟩:=H5 (n:=n) (key:=key) (T:=x.2.1) (d:=x.2.2.2) zo hsml ⟨by omega,by omega⟩ zo zo zo h6 h3 ⟨by omega,by omega⟩ h4;exact⟨(e,X',N',q,d'),fun i _ _ _ ho=>⟨⟨a1,a2,by have:=ho.2.2.1;dsimp only;omega,a4⟩,a5⟩⟩
   · exact⟨(0,x),fun i h1 h2 h3 h4=>absurd ⟨h1,h2,h4.1,h4.2.1,by have:=h4.2.2.1;omega,h4.2.2.2⟩ h⟩
  exact⟨fun key n x=>Classical.choose (h key n x),fun key n i x=>Classical.choose_spec (h key n x) i⟩
 obtain ⟨l0,hl0⟩:∃z:List RW,z=rws (c+1) (jS W (m+1)):=⟨_,rfl⟩
 have hx0:qA L (m+1) k2 a2 b2 (c+1) 0 (l0,0,0,false):=by
  refine⟨?_,?_,agt _,agM _⟩
  · rw[hl0];unfold rws;rw[agr,hl]
  · intro r hr
    rw[hl0] at hr;obtain ⟨x,hx,rfl⟩:=aho.1 hr;refine⟨(ho x hx).1,(ho x hx).2,agN,fun s hs=>?_⟩;rw[aib hs];exact Br
 have hfin:=GU (fun key n i x h1 h2 h3 h4=>(hG key n i x h1 h2 h3 h4).1) Kt 0 _ zo hx0;have hf2:=hfin.2.2.1;refine⟨m+1,c+1,k2,a2,b2,(J3 G Kt (l0,0,0,false)).2.1,(J3 G Kt (l0,0,0,false)).1,hsm2,by omega,hm4,by omega,hc64,hfin.1,hfin.2.1,by omega,?_⟩;clear hfin hf2 ho hl;rw[←hl0] at nw;clear hl0;generalize jS W (m+1)=hss at*
 refine zF HR Tryz.call8 Tryz.func8 [.cell 2 42,.tmp 3] fun Q hQ=>?_
 by_cases h1:300<L0.length
 case' pos=>
  refine De hL ?_
 case' neg=>
  have hLL:=hns h1;subst hLL;refine ae ?_
 all_goals
  refine aV [] [] (nt) ?_;refine dK hkw ht ?_;refine az (h0) rfl rfl ?_;refine dK hkw ht ?_
  by_cases h2:0<S.length
  case' pos=>
   obtain ⟨⟨s1,s2,s3⟩,ea⟩:∃x,S.getD 0 default=x:=⟨_,rfl⟩;have h3:=hs (s1,s2,s3);dsimp only at h3;generalize wi k a b (s1,s2,s3)=r at*
   generalize wi k a b (0,0,false)=r0 at*
   refine bh ea ?_;refine az (h3) rfl rfl ?_;refine bh ht ?_
  case' neg=>
   generalize wi k a b (0,0,false)=r at*
   refine bh ht ?_
  all_goals
   refine az (pm) rfl rfl ?_;refine bh ht ?_;refine zC hh ?_;refine zW [] [] nw ?_;refine zC fw ?_
   refine aU (X:=Nat×CT) (st:=fun z=>([(2,.ref 0 0 0 0),(5,.ref 1 0 0 0),(6,.ref 2 0 0 0),(9,.lit (.bool true)),(14,.ref 3 0 0 0),(194,.row 1 ((nl Kt).map (ie .u64))),(195,.lit (.int .i64 (Kt.length:Int))),(196,.lit (.int .i64 (z.1:Int)))],
    [some (.cells [.lit (.int .i64 0),.lit (.int .i64 0),.lit (.int .i64 0),.lit (.int .i64 0),.lit (.int .i64 0),.lit (.int .i64 0),.lit (.bool false),.lit (.pointer none),.lit (.pointer none),.lit (.pointer none),.lit (.pointer none)]),some (aX L z.2.2.2.1 z.2.2.2.2),some (.cells [.lit (.int .i64 (1+3)),.lit (.int .i64 0),.lit (.int .i64 0),.lit (.int .i64 0),.lit (.int .i64 0),.lit (.int .i64 0),.lit (.bool false),.lit (.pointer none),.lit (.pointer none),.lit (.pointer none),.lit (.pointer none)]),some (jv (m+1) (c+1) k2 a2 b2 z.2.1 z.2.2.1)]))
    (inv:=fun z=>z.1≤Kt.length∧qA L (m+1) k2 a2 b2 (c+1) z.1 z.2∧J3 G Kt (l0,0,0,false)=J3 G (Kt.drop z.1) z.2) (m:=fun z=>Kt.length-z.1) (0,l0,0,0,false) [some 1,some 2,some 3,some 6] ⟨agM _,hx0,by rw[agO]⟩ ?_
   rintro ⟨i,X,N,p,d⟩ ⟨hi,hz,hv⟩;dsimp only at hi hz hv ⊢
   by_cases hil:i<Kt.length
   · have hdr:Kt.drop i=Kt.getD i 0::Kt.drop (i+1):=by
      rw[ahn hil,ago,agp hil]
      rfl
     rw[hdr,vB] at hv;have hkey:(nl Kt).getD i 0=((Kt.getD i 0:Nat):Int):=bg Kt i;generalize Kt.getD i 0=key at*
     have gg:=hG (key%1000) (key%5) i (X,N,p,d) zo zo zo hz;have e2:((key:Nat):Int)%1000=((key%1000:Nat):Int):=by omega
     have e3:((key:Nat):Int)%5=((key%5:Nat):Int):=by omega
     generalize hgx:G (key%1000) (key%5) (X,N,p,d)=gx at*
     obtain ⟨e,X',N',q,d'⟩:=gx;dsimp only at gg;refine rD hkey e2 e3 ?_;refine zW [some 3,some 1] [] gg.2 ?_;refine aO (i+1,X',N',q,d') [some 0,some 1,some 2,some 3] ⟨by omega,gg.1,hv⟩ zo
   · obtain rfl:i=Kt.length:=by omega
     rw[aix,JF] at hv;rw[hv] at hQ;exact zE [some 3] hQ
theorem Am {Kd kk aa bb:Int} {S:List (Int×Int×Bool)} {M D Sc R C ck ca cb:Int} {W Ky:List Nat} {L0:List Bool} (hS:S.length≤9223372036854775807) (hL0:L0.length≤9223372036854775807) (hW:W.length≤9223372036854775807) (hw:∀x∈W,x<18446744073709551616) (hKy:Ky.length≤9223372036854775807) (hky:∀x∈Ky,x<18446744073709551616):
 ∃x:Itm,x.ok∧aC Tryz.prog 8 [.agg (HH Kd kk aa bb S M D Sc R C ck ca cb W Ky L0)] [] (.tup [x.v,.lit (.bool true)]) []:=by
 by_cases t0:(Kd.tmod 5+5)%5=0
 · obtain ⟨k,a,b,s,hsm,hwl,fn⟩:=F8 (kk:=kk) (aa:=aa) (bb:=bb) (S:=S) (M:=M) (D:=D) (Sc:=Sc) (R:=R) (C:=C) (ck:=ck) (ca:=ca) (cb:=cb) (W:=W) (Ky:=Ky) t0 hS hL0
   exact⟨.rg k a b s,⟨eh hsm,hwl⟩,fn⟩
 by_cases t1:(Kd.tmod 5+5)%5=1
 · obtain ⟨k,a,b,n,l,hsm,h1,h8,hl,hwl,hd⟩:=Gu (kk:=kk) (aa:=aa) (bb:=bb) (S:=S) (M:=M) (D:=D) (Sc:=Sc) (R:=R) (C:=C) (ck:=ck) (ca:=ca) (cb:=cb) (W:=W) (Ky:=Ky) t1 hS hL0
   subst hl;refine⟨.ar k a b l,⟨eh hsm,by omega,hwl⟩,?_⟩;unfold bK at hd;have hlw:=ay (aZ l.length (wd k a b)) (bF (wd k a b) (l.map (jx k a b)));exact(show aC _ _ _ _ (.tup [oY k a b l.length l,.lit (.bool true)]) [] from sP [] (hd))
 by_cases t2:(Kd.tmod 5+5)%5=2
 · obtain ⟨m,g,s,n,st,hwb,hm4,hs3,h1,h5,hl,hok,hd⟩:=F0 (kk:=kk) (aa:=aa) (bb:=bb) (S:=S) (M:=M) (D:=D) (Sc:=Sc) (R:=R) (C:=C) (ck:=ck) (ca:=ca) (cb:=cb) (W:=W) (Ky:=Ky) t2 hS hL0 hKy hky
   refine⟨.sc m g s st,⟨hwb.good,by omega,NT hok⟩,?_⟩;exact(show aC _ _ _ _ (.tup [qg m g s st,.lit (.bool true)]) [] from sP [] (hd))
 by_cases t3:(Kd.tmod 5+5)%5=3
 · obtain ⟨Rn,Cn,k,a,b,T,l,hsm,h1,h2,h3,h4,hl,hr,hT,hd⟩:=GL (kk:=kk) (aa:=aa) (bb:=bb) (S:=S) (M:=M) (D:=D) (Sc:=Sc) (R:=R) (C:=C) (ck:=ck) (ca:=ca) (cb:=cb) (W:=W) (Ky:=Ky) t3 hS hL0 hW hw hKy hky
   refine⟨.ct Rn Cn k a b T l,⟨eh hsm,by omega,by omega,hl,by omega,hr⟩,?_⟩;exact(show aC _ _ _ _ (.tup [pB Rn Cn k a b l T,.lit (.bool true)]) [] from sP [] (hd))
 · have t4:(Kd.tmod 5+5)%5=4:=by omega
   obtain ⟨K,P,n,T,X,hg,h1,h2,ho,hT,hd⟩:=Hr (kk:=kk) (aa:=aa) (bb:=bb) (S:=S) (M:=M) (D:=D) (Sc:=Sc) (R:=R) (C:=C) (ck:=ck) (ca:=ca) (cb:=cb) (W:=W) (Ky:=Ky) t4 hS hL0 hKy hky;refine⟨.sm K P n T X,⟨hg,ho.1,by omega,ho.2.1,ho.2.2⟩,?_⟩;exact(show aC _ _ _ _ (.tup [oU K P n X T,.lit (.bool true)]) [] from sP [] (hd))
theorem yv:aC Tryz.prog 7 [] [] (.lit (.bool true)) []:=by
 have hg:aT 2 1 3:=.inr (.inl ⟨rfl,by decide,by decide,by decide⟩);have hw:aP 2 1 3 (5,0,false):=by unfold aP;rw[if_neg zd];exact⟨rfl,by decide,fun h=>by cases h⟩
 have hp:jF (bI 1++bQ [2,1,3]++cW 2 1 3 (5,0,false))=[18,209,40]:=by decide+kernel
 obtain ⟨c0,c1,c2,c3,hc⟩:∃c0 c1 c2 c3,(nl (cU [18,209,40])).map (ie .u8)=[[.lit (.int .u8 18)],[.lit (.int .u8 209)],[.lit (.int .u8 40)],c0,c1,c2,c3]:=⟨_,_,_,_,rfl⟩;have en:=J2 hg hw;have ck:=mh hg hw;rw[hp,hc] at en;generalize hx:CL 2 1 3 (5,0,false)=x at en ck;have hx':x=.agg [.lit (.int .i64 1),.lit (.int .i64 2),.lit (.int .i64 1),.lit (.int .i64 3),.lit (.int .i64 5),.lit (.int .i64 0),.lit (.bool false),.lit (.pointer none),.lit (.pointer none),.lit (.pointer none),.lit (.pointer none)]:=hx.symm;subst hx';clear hx;refine zF pl Tryz.call7 Tryz.func7 [.tmp 0] fun Q hQ=>?_;refine ae ?_;refine zC en ?_;refine zC ck ?_;exact ak [] hQ
def rgs (k a b:Nat) (S:List (Nat×Nat×Bool)):List Bool:=S.flatMap (cW k a b)
theorem US {cs:List V} {v:Value} (h:kW.plnL cs=true):kW (.tup [.agg cs,.lit v])=true:=by
 show(kW.plnL cs&&(true&&true))=true
 rw[h];rfl
theorem Ts {cs:List V} (h:kW.plnL cs=true):kW.plnL [.agg cs]=true:=by
 show(kW.plnL cs&&true)=true
 rw[h];rfl
theorem abg {cs ds:List V} (h:kW.plnL cs=true) (k:kW.plnL ds=true):kW.plnL [.agg cs,.agg ds]=true:=by
 show(kW.plnL cs&&(kW.plnL ds&&true))=true
 rw[h,k];rfl
theorem kL {B:List Int} (h:∀x∈B,0≤x∧x≤18446744073709551615):∃l:List Nat,B=nl l∧∀x∈l,x<18446744073709551616:=by
 refine⟨B.map Int.toNat,?_,fun x hx=>?_⟩
 · unfold nl
   rw[List.map_map]
   conv=>lhs;rw[←List.map_id B]
   refine List.map_congr_left fun x hx=>?_;exact(Int.toNat_of_nonneg (h x hx).1).symm
 · obtain ⟨y,hy,rfl⟩:=aho.1 hx
   have:=h y hy
   omega
theorem rJ {Kd kk aa bb:Int} {S:List (Int×Int×Bool)} {M D Sc R C ck ca cb:Int} {W Ky:List Nat} {L0:List Bool} (hS:S.length≤9223372036854775807) (hL0:L0.length≤9223372036854775807) (hW:W.length≤9223372036854775807) (hw:∀x∈W,x<18446744073709551616) (hKy:Ky.length≤9223372036854775807) (hky:∀x∈Ky,x<18446744073709551616)
 {Kd' kk' aa' bb':Int} {S':List (Int×Int×Bool)} {M' D' Sc' R' C' ck' ca' cb':Int} {W' Ky':List Nat} {L0':List Bool} (hS':S'.length≤9223372036854775807) (hL0':L0'.length≤9223372036854775807) (hW':W'.length≤9223372036854775807) (hw':∀x∈W',x<18446744073709551616) (hKy':Ky'.length≤9223372036854775807) (hky':∀x∈Ky',x<18446744073709551616):
 aC Tryz.prog 5 [.agg (HH Kd kk aa bb S M D Sc R C ck ca cb W Ky L0),.agg (HH Kd' kk' aa' bb' S' M' D' Sc' R' C' ck' ca' cb' W' Ky' L0')] [] (.lit (.bool true)) []:=by
 obtain ⟨x,hx,it⟩:=Am (Kd:=Kd) (kk:=kk) (aa:=aa) (bb:=bb) (S:=S) (M:=M) (D:=D) (Sc:=Sc) (R:=R) (C:=C) (ck:=ck) (ca:=ca) (cb:=cb) (W:=W) (Ky:=Ky) (L0:=L0) hS hL0 hW hw hKy hky;obtain ⟨y,hy,it'⟩:=Am (Kd:=Kd') (kk:=kk') (aa:=aa') (bb:=bb') (S:=S') (M:=M') (D:=D') (Sc:=Sc') (R:=R') (C:=C') (ck:=ck') (ca:=ca') (cb:=cb') (W:=W') (Ky:=Ky') (L0:=L0') hS' hL0' hW' hw' hKy' hky';have aw:=yv;have en:=(Itm.enc hx).row;have hE:=(Itm.enc hx).1;have en':=(Itm.enc hy).row;have hE':=(Itm.enc hy).1;have sm:=Itm.same hx hy;rw[←aD] at hE hE';have rs:=xf (A:=nl x.E) (B:=nl y.E) zo zo;generalize decide (nl x.E=nl y.E)=r at*
 obtain ⟨c1,c2,c3,c4,c5,c6,c7,c8,c9,c10,hv,hp⟩:=Itm.parts (x:=x);obtain ⟨d1,d2,d3,d4,d5,d6,d7,d8,d9,d10,hv',hp'⟩:=Itm.parts (x:=y);rw[hv] at it en sm;rw[hv'] at it' en' sm;generalize nl x.E=B at*
 generalize x.t=t at*
 generalize nl y.E=B' at*
 generalize y.t=t' at*
 clear hx hv hy hv';refine zF pl5 Tryz.call5 Tryz.func5 [.tmp 4] fun Q hQ=>?_;refine ae ?_;refine zC aw ?_;refine az it rfl (US hp) ?_;refine ae ?_;refine az it' rfl (US hp') ?_;refine ae ?_;refine az en (Ts hp) rfl ?_;refine ae ?_;refine az en' (Ts hp') rfl ?_;refine ae ?_;refine zC rs ?_;refine az sm (abg hp hp') rfl ?_;refine zq8 ?_;exact ak [] hQ
end Go.Proofs.YtcnlmelpnflhnaaGreat
