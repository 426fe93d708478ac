import Derived.Test.YtcnlmelpnflhnaaGreatBn
import Derived.Test.YtcnlmelpnflhnaaGreatIn
import Derived.Test.YtcnlmelpnflhnaaGreatBi
import Derived.Test.YtcnlmelpnflhnaaGreatAf
import Derived.Test.YtcnlmelpnflhnaaGreatBl
import Derived.Test.YtcnlmelpnflhnaaGreatAb
import Derived.Test.YtcnlmelpnflhnaaGreatCa
namespace Go.Proofs.YtcnlmelpnflhnaaGreat
open Go.Eng Go.Vx
set_option linter.unusedSimpArgs false
set_option linter.unusedVariables false
set_option maxRecDepth 100000
def Ir (L:List Bool) (m g s n:Nat) (x:SS×Nat×Bool):Prop:=SOk (cR m g s) x.1∧x.1.1.length=n∧x.2.1≤L.length∧(x.2.2=true→x.2.1=L.length)
def N1 (G:Nat→Nat→SS×Nat×Bool→Int×SS×Nat×Bool) (n:Nat):List Nat→Nat→SS×Nat×Bool→SS×Nat×Bool
 | [],_,x=>x
 | k::ks,i,x=>N1 G n ks (i+1) (G (i%n) (k%200) x).2
theorem Km {G:Nat→Nat→SS×Nat×Bool→Int×SS×Nat×Bool} {n i:Nat} {x:SS×Nat×Bool}:N1 G n [] i x=x:=rfl
theorem G2 {G:Nat→Nat→SS×Nat×Bool→Int×SS×Nat×Bool} {n k i:Nat} {ks:List Nat} {x:SS×Nat×Bool}:N1 G n (k::ks) i x=N1 G n ks (i+1) (G (i%n) (k%200) x).2:=rfl
theorem HJ {L:List Bool} {m g s n:Nat} {G:Nat→Nat→SS×Nat×Bool→Int×SS×Nat×Bool} (hn:1≤n) (hG:∀i k x,i<n→k≤1000→Ir L m g s n x→Ir L m g s n (G i k x).2):∀ks i x,Ir L m g s n x→Ir L m g s n (N1 G n ks i x)
 | [],_,x,h=>h
 | k::ks,i,x,h=>HJ hn hG ks (i+1) _ (hG _ _ x (ajI _ zo) zo h)
set_option maxHeartbeats 8000000 in
theorem xY {Kd kk aa bb:Int} {S:List (Int×Int×Bool)} {M D Sc R C ck ca cb:Int} {W Ky:List Nat} {L0:List Bool} (ht:(Kd.tmod 5+5)%5=2) (hS:S.length≤9223372036854775807) (hL0:L0.length≤9223372036854775807) (hKy:Ky.length≤9223372036854775807) (hky:∀x∈Ky,x<18446744073709551616):
 ∃(m g s n:Nat) (st:SS),WB m g s∧m≤4∧s≤3∧1≤n∧n≤5∧st.1.length=n∧SOk (cR m g s) st∧aA Tryz.prog 8 [.agg (pN Kd kk aa bb S M D Sc R C ck ca cb W Ky L0)] [] (.tup [Oe 0,.lit (.bool true)]) [some (tJ m g s st)]:=by
 obtain ⟨k,a,b,hsm,hs⟩:=fP (kk:=kk) (aa:=aa) (bb:=bb);have hg:=bO hsm;have h0:=hs (0,0,false);dsimp only at h0;have hL1:(L0.take 300).length≤300:=by rw[List.length_take];omega
 have nt:=fY (L:=L0.take 300) zo;have hns:¬300<L0.length→L0.take 300=L0:=fun h=>ajy zo;generalize hL:L0.take 300=L at*
 have t1: -5<Kd.tmod 5:=by have:=alF Kd (b:=5) zd;omega
 have t2:Kd.tmod 5<5:=alG Kd zd;have hkw:IntKind.i64.wrap (Kd.tmod 5+5)=Kd.tmod 5+5:=wrap_i64 ⟨by omega,by omega⟩;obtain ⟨m,g,s,hwb,hm4,hs3,sm⟩:=zI (a:=M) (b:=D) (c:=Sc);have ow:=Jh (M:=m) (D:=g) (S:=s);obtain ⟨n,hn⟩:∃n,1+S.length%5=n:=⟨_,rfl⟩;have nw:=y7 (n:=n) hwb.good zo;have fw:=rj hKy;have hS6:(1:Int)+(S.length:Int)%5=(n:Int):=by omega
 have hKt:(Ky.take 12).length≤12:=by rw[ajt];omega
 have hKl:=ay (Ky.take 12);generalize Ky.take 12=Kt at*
 obtain ⟨G,hG⟩:∃G:Nat→Nat→SS×Nat×Bool→Int×SS×Nat×Bool,∀(i k:Nat) x,i<n→k≤1000→Ir L m g s n x→Ir L m g s n (G i k x).2∧
  aA Tryz.prog 18 [.ref 0 0 0 0,.ref 1 0 0 0,.lit (.int .i64 (i:Int)),.lit (.int .i64 (k:Int))] [some (tJ m g s x.1),some (bt L x.2.1 x.2.2)] (.lit (.int .i64 (G i k x).1)) [some (tJ m g s (G i k x).2.1),some (bt L (G i k x).2.2.1 (G i k x).2.2.2)]:=by
  have h:∀(i k:Nat) (x:SS×Nat×Bool),∃y:Int×SS×Nat×Bool,i<n→k≤1000→Ir L m g s n x→Ir L m g s n y.2∧
   aA Tryz.prog 18 [.ref 0 0 0 0,.ref 1 0 0 0,.lit (.int .i64 (i:Int)),.lit (.int .i64 (k:Int))] [some (tJ m g s x.1),some (bt L x.2.1 x.2.2)] (.lit (.int .i64 y.1)) [some (tJ m g s y.2.1),some (bt L y.2.2.1 y.2.2.2)]:=by
   intro i k x
   by_cases h:i<n∧k≤1000∧Ir L m g s n x
   · obtain ⟨h1,h2,h3,h4,h5,h6⟩:=h
     obtain ⟨e,st',q,d',a1,a2,a3,a4,a5⟩:=Dj hwb zo h5 h6 zo zo h3 (n:=k) (i:=i) zo;exact⟨(e,st',q,d'),fun _ _ _=>⟨⟨a1,a2.trans h4,a3,a4⟩,a5⟩⟩
   · exact⟨(0,x),fun h1 h2 h3=>absurd ⟨h1,h2,h3⟩ h⟩
  exact⟨fun i k x=>Classical.choose (h i k x),fun i k x=>Classical.choose_spec (h i k x)⟩
 obtain ⟨z0,hz⟩:∃z:List Cell,z=List.replicate n (0,0):=⟨_,rfl⟩;have hzl:z0.length=n:=by rw[hz,ajF]
 have hx0:Ir L m g s n ((z0,1,false),0,false):=by rw[hz];exact⟨ok0 hwb.pw.toPB,ajF,ajH _,fun h=>by cases h⟩
 have hfin:=HJ zo (fun i k x h1 h2 h3=>(hG i k x h1 h2 h3).1) Kt 0 _ hx0;refine⟨m,g,s,n,(N1 G n Kt 0 ((z0,1,false),0,false)).1,hwb,hm4,hs3,by omega,by omega,hfin.2.1,hfin.1,?_⟩;have hn5:1≤n∧n≤5:=by omega
 clear hfin hn;have nw':aA Tryz.prog 26 [pA m g s,.lit (.int .i64 (n:Int))] [] (.tup [.ref 0 0 0 0,.lit (.int .i64 0)]) [some (J2 m g s 1 n 1 false),some (.row 2 (z0.map cV))]:=by rw[hz];exact nw
 clear hz nw;subst hzl;refine zF J9 Tryz.call8 Tryz.func8 [.cell 2 42,.tmp 3] fun Q hQ=>?_
 by_cases h1:300<L0.length
 case' pos=>
  refine Jf hL ?_
 case' neg=>
  have hLL:=hns h1;subst hLL;refine ae ?_
 all_goals
  refine aF [] [] (nt) ?_;refine ej hkw ht ?_;refine aB (h0) rfl rfl ?_;refine ej hkw ht ?_
  by_cases h2:0<S.length
  case' pos=>
   obtain ⟨⟨s1,s2,s3⟩,ea⟩:∃x,S.getD 0 default=x:=⟨_,rfl⟩;have h3:=hs (s1,s2,s3);dsimp only at h3;generalize wi k a b (s1,s2,s3)=r at*
   generalize wi k a b (0,0,false)=r0 at*
   refine br ea ?_;refine aB (h3) rfl rfl ?_;refine br ht ?_
  case' neg=>
   generalize wi k a b (0,0,false)=r at*
   refine br ht ?_
  all_goals
   refine zC sm ?_;refine aB (ow) rfl rfl ?_;refine br hS6 ?_;refine bI (nw') ?_;refine ae ?_;refine zC fw ?_
   refine aR (X:=Nat×SS×Nat×Bool) (st:=fun z=>([(2,.ref 0 0 0 0),(5,.ref 1 0 0 0),(6,.ref 2 0 0 0),(9,.lit (.bool true)),(10,.ref 3 0 0 0),(153,.row 1 ((nl Kt).map (ie .u64))),(154,.lit (.int .i64 (Kt.length:Int))),(155,.lit (.int .i64 (z.1:Int)))],
    [some (.cells [.lit (.int .i64 0),.lit (.int .i64 0),.lit (.int .i64 0),.lit (.int .i64 0),.lit (.int .i64 0),.lit (.int .i64 0),.lit (.bool false),.lit (.pointer none),.lit (.pointer none),.lit (.pointer none),.lit (.pointer none)]),some (bt L z.2.2.1 z.2.2.2),some (.cells [.lit (.int .i64 (1+2)),.lit (.int .i64 0),.lit (.int .i64 0),.lit (.int .i64 0),.lit (.int .i64 0),.lit (.int .i64 0),.lit (.bool false),.lit (.pointer none),.lit (.pointer none),.lit (.pointer none),.lit (.pointer none)]),some (tJ m g s z.2.1)]))
    (inv:=fun z=>z.1≤Kt.length∧Ir L m g s z0.length z.2∧N1 G z0.length Kt 0 ((z0,1,false),0,false)=N1 G z0.length (Kt.drop z.1) z.1 z.2) (m:=fun z=>Kt.length-z.1) (0,(z0,1,false),0,false) [some 1,some 2,some 3,some 6] ⟨ajH _,hx0,by rw[ajE]⟩ ?_
   rintro ⟨i,st,p,d⟩ ⟨hi,hz,hv⟩;dsimp only at hi hz hv ⊢
   by_cases hil:i<Kt.length
   · have hdr:Kt.drop i=Kt.getD i 0::Kt.drop (i+1):=by
      rw[akm hil,ajk,ajm hil]
      rfl
     rw[hdr] at hv;have hkey:(nl Kt).getD i 0=((Kt.getD i 0:Nat):Int):=bD Kt i;generalize Kt.getD i 0=key at*
     have gg:=hG (i%z0.length) (key%200) (st,p,d) (ajI _ zo) zo hz;have y2:st.1.length=z0.length:=hz.2.1;have sl:=KE (M:=m) (D:=g) (S:=s) (st:=st) zo;rw[y2] at sl;have e1:((i:Nat):Int).tmod (z0.length:Int)=((i%z0.length:Nat):Int):=by rw[ak5 zo];simp
     have e1':((i:Nat):Int)%(z0.length:Int)=((i%z0.length:Nat):Int):=by simp
     have e2:((key:Nat):Int)%200=((key%200:Nat):Int):=by omega
     rw[G2] at hv;generalize hgx:G (i%z0.length) (key%200) (st,p,d)=gx at*
     obtain ⟨e,st',q,d'⟩:=gx;dsimp only at gg;refine br hkey ?_;refine aW (sl) ?_;refine Kh hkey e1 e1' e2 ?_;refine zW [some 3,some 1] [] gg.2 ?_;refine aM (i+1,st',q,d') [some 0,some 1,some 2,some 3] ⟨by omega,gg.1,hv⟩ zo
   · obtain rfl:i=Kt.length:=by omega
     rw[alA] at hv;rw[Km] at hv;rw[hv] at hQ;exact zE [some 3] hQ
abbrev ZS:=List (Nat×Nat)×Nat×Nat×Bool
def wE (L:List Bool) (n i:Nat) (x:ZS):Prop:=Sb n x.1 x.2.1∧x.2.1≤i∧(x.2.2.2=true→1≤x.2.1)∧x.2.2.1≤L.length
def DM (G:Nat→ZS→Int×ZS):List Nat→ZS→ZS
 | [],x=>x
 | k::ks,x=>DM G ks (G (k%7) x).2
theorem Cg {G:Nat→ZS→Int×ZS} {x:ZS}:DM G [] x=x:=rfl
theorem qP {G:Nat→ZS→Int×ZS} {k:Nat} {ks:List Nat} {x:ZS}:DM G (k::ks) x=DM G ks (G (k%7) x).2:=rfl
theorem BH {L:List Bool} {n:Nat} {G:Nat→ZS→Int×ZS} (hG:∀(k i:Nat) x,k≤1000→i≤900→wE L n i x→wE L n (i+1) (G k x).2):∀ks i x,i+ks.length≤900→wE L n i x→wE L n (i+ks.length) (DM G ks x)
 | [],i,x,_,h=>h
 | k::ks,i,x,hl,h=>by
   rw[qP,ajr,show i+(ks.length+1)=(i+1)+ks.length by omega];rw[ajr] at hl;exact BH hG ks (i+1) _ zo (hG _ i x zo zo h)
set_option maxHeartbeats 8000000 in
theorem yV {Kd kk aa bb:Int} {S:List (Int×Int×Bool)} {M D Sc R C ck ca cb:Int} {W Ky:List Nat} {L0:List Bool} (ht:(Kd.tmod 5+5)%5=4) (hS:S.length≤9223372036854775807) (hL0:L0.length≤9223372036854775807) (hKy:Ky.length≤9223372036854775807) (hky:∀x∈Ky,x<18446744073709551616):
 ∃(K P n T:Nat) (X:List (Nat×Nat)),rF (K:Int) (P:Int) (n:Int)∧n≤5∧P≤4∧Sb n X T∧T≤12∧aA Tryz.prog 8 [.agg (pN Kd kk aa bb S M D Sc R C ck ca cb W Ky L0)] [] (.tup [NW 0,.lit (.bool true)]) [some (mr (K:Int) (P:Int) (n:Int) X T)]:=by
 obtain ⟨k,a,b,hsm,hs⟩:=fP (kk:=kk) (aa:=aa) (bb:=bb);have hg:=bO hsm;have h0:=hs (0,0,false);dsimp only at h0;have hL1:(L0.take 300).length≤300:=by rw[List.length_take];omega
 have nt:=fY (L:=L0.take 300) zo;have hns:¬300<L0.length→L0.take 300=L0:=fun h=>ajy zo;generalize hL:L0.take 300=L at*
 have t1: -5<Kd.tmod 5:=by have:=alF Kd (b:=5) zd;omega
 have t2:Kd.tmod 5<5:=alG Kd zd;have hkw:IntKind.i64.wrap (Kd.tmod 5+5)=Kd.tmod 5+5:=wrap_i64 ⟨by omega,by omega⟩;have m1:cv .and .i64 aa 1=aa%2:=eu (k:=.i64) (j:=1) (a:=aa) zd;have m2:cv .and .i64 bb 3=bb%4:=eu (k:=.i64) (j:=2) (a:=bb) zd;obtain ⟨n,hn⟩:∃n,1+S.length%5=n:=⟨_,rfl⟩;have hS6:(1:Int)+(S.length:Int)%5=(n:Int):=by omega
 have fw:=rj hKy;have hKt:(Ky.take 12).length≤12:=by rw[ajt];omega
 have hKl:=ay (Ky.take 12);generalize Ky.take 12=Kt at*
 by_cases hA:aa%2=0
 · obtain ⟨P,hP⟩:∃P:Nat,1+bb%4=(P:Int):=⟨(1+bb%4).toNat,by omega⟩
   have nw:=re (K:=1) (P:=(P:Int)) (C:=n) ⟨.inl ⟨rfl,by omega,by omega⟩,by omega,by omega⟩
   obtain ⟨G,hG⟩:∃G:Nat→ZS→Int×ZS,∀(k i:Nat) x,k≤1000→i≤900→wE L n i x→wE L n (i+1) (G k x).2∧
    aA Tryz.prog 20 [.ref 0 0 0 0,.ref 1 0 0 0,.lit (.int .u64 (k:Int))] [some (mr 1 (P:Int) (n:Int) x.1 x.2.1),some (bt L x.2.2.1 x.2.2.2)] (.lit (.int .i64 (G k x).1)) [some (mr 1 (P:Int) (n:Int) (G k x).2.1 (G k x).2.2.1),some (bt L (G k x).2.2.2.1 (G k x).2.2.2.2)]:=by
    have h:∀(k:Nat) (x:ZS),∃y:Int×ZS,∀i,k≤1000→i≤900→wE L n i x→wE L n (i+1) y.2∧
     aA Tryz.prog 20 [.ref 0 0 0 0,.ref 1 0 0 0,.lit (.int .u64 (k:Int))] [some (mr 1 (P:Int) (n:Int) x.1 x.2.1),some (bt L x.2.2.1 x.2.2.2)] (.lit (.int .i64 y.1)) [some (mr 1 (P:Int) (n:Int) y.2.1 y.2.2.1),some (bt L y.2.2.2.1 y.2.2.2.2)]:=by
     intro k x
     by_cases h:k≤1000∧wE L n 900 x
     · obtain ⟨h1,h2,h3,h4,h5⟩:=h
       obtain ⟨e,X',N',q,d',a1,a2,a3,a4,a5⟩:=uZ (K:=1) (P:=(P:Int)) (d:=x.2.2.2) (key:=k) zo h2 zo zo h4 zo h5;exact⟨(e,X',N',q,d'),fun i _ _ ho=>⟨⟨a1,by have:=ho.2.1;dsimp only;omega,a3,a4⟩,a5⟩⟩
     · exact⟨(0,x),fun i h1 h2 h3=>absurd ⟨h1,h3.1,by have:=h3.2.1;omega,h3.2.2⟩ h⟩
    exact⟨fun k x=>Classical.choose (h k x),fun k i x=>Classical.choose_spec (h k x) i⟩
   obtain ⟨z0,hz⟩:∃z:List (Nat×Nat),z=List.replicate n (0,0):=⟨_,rfl⟩;have hzl:z0.length=n:=by rw[hz,ajF]
   have hx0:wE L n 0 (z0,0,0,false):=by rw[hz];exact⟨CZ,ajp _,fun h=>(by cases h),ajH _⟩
   have hfin:=BH (fun k i x h1 h2 h3=>(hG k i x h1 h2 h3).1) Kt 0 _ zo hx0;have hf2:=hfin.2.1;refine⟨1,P,n,(DM G Kt (z0,0,0,false)).2.1,(DM G Kt (z0,0,0,false)).1,⟨.inl ⟨rfl,by omega,by omega⟩,by omega,by omega⟩,by omega,by omega,hfin.1,by omega,?_⟩;have hn5:1≤n∧n≤5:=by omega
   clear hfin hn hf2;rw[←hz] at nw;clear hz;subst hzl;change aA _ _ _ _ _ [some (mr 1 (P:Int) (z0.length:Int) _ _)];refine zF J9 Tryz.call8 Tryz.func8 [.cell 2 42,.tmp 3] fun Q hQ=>?_
   by_cases h1:300<L0.length
   case' pos=>
    refine Jf hL ?_
   case' neg=>
    have hLL:=hns h1;subst hLL;refine ae ?_
   all_goals
    refine aF [] [] (nt) ?_;refine ej hkw ht ?_;refine aB (h0) rfl rfl ?_;refine ej hkw ht ?_
    by_cases h2:0<S.length
    case' pos=>
     obtain ⟨⟨s1,s2,s3⟩,ea⟩:∃x,S.getD 0 default=x:=⟨_,rfl⟩;have h3:=hs (s1,s2,s3);dsimp only at h3;generalize wi k a b (s1,s2,s3)=r at*
     generalize wi k a b (0,0,false)=r0 at*
     refine br ea ?_;refine aB (h3) rfl rfl ?_;refine Vr ht m1 m2 hA hP hS6 ?_
    case' neg=>
     generalize wi k a b (0,0,false)=r at*
     refine Vr ht m1 m2 hA hP hS6 ?_
    all_goals
     refine bI (nw) ?_;refine ae ?_;refine zC fw ?_
     refine aR (X:=Nat×ZS) (st:=fun z=>([(2,.ref 0 0 0 0),(5,.ref 1 0 0 0),(6,.ref 2 0 0 0),(9,.lit (.bool true)),(19,.ref 3 0 0 0),(96,.row 1 ((nl Kt).map (ie .u64))),(97,.lit (.int .i64 (Kt.length:Int))),(98,.lit (.int .i64 (z.1:Int)))],
      [some (.cells [.lit (.int .i64 0),.lit (.int .i64 0),.lit (.int .i64 0),.lit (.int .i64 0),.lit (.int .i64 0),.lit (.int .i64 0),.lit (.bool false),.lit (.pointer none),.lit (.pointer none),.lit (.pointer none),.lit (.pointer none)]),some (bt L z.2.2.2.1 z.2.2.2.2),some (.cells [.lit (.int .i64 (1+4)),.lit (.int .i64 0),.lit (.int .i64 0),.lit (.int .i64 0),.lit (.int .i64 0),.lit (.int .i64 0),.lit (.bool false),.lit (.pointer none),.lit (.pointer none),.lit (.pointer none),.lit (.pointer none)]),some (mr 1 (P:Int) (z0.length:Int) z.2.1 z.2.2.1)]))
      (inv:=fun z=>z.1≤Kt.length∧wE L z0.length z.1 z.2∧DM G Kt (z0,0,0,false)=DM G (Kt.drop z.1) z.2) (m:=fun z=>Kt.length-z.1) (0,z0,0,0,false) [some 1,some 2,some 3,some 7] ⟨ajH _,hx0,by rw[ajE]⟩ ?_
     rintro ⟨i,X,N,p,d⟩ ⟨hi,hz,hv⟩;dsimp only at hi hz hv ⊢
     by_cases hil:i<Kt.length
     · have hdr:Kt.drop i=Kt.getD i 0::Kt.drop (i+1):=by
        rw[akm hil,ajk,ajm hil]
        rfl
       rw[hdr,qP] at hv;have hkey:(nl Kt).getD i 0=((Kt.getD i 0:Nat):Int):=bD Kt i;generalize Kt.getD i 0=key at*
       have gg:=hG (key%7) i (X,N,p,d) zo zo hz;have e2:((key:Nat):Int)%7=((key%7:Nat):Int):=by omega
       generalize hgx:G (key%7) (X,N,p,d)=gx at*
       obtain ⟨e,X',N',q,d'⟩:=gx;dsimp only at gg;refine ej hkey e2 ?_;refine zW [some 3,some 1] [] gg.2 ?_;refine aM (i+1,X',N',q,d') [some 0,some 1,some 2,some 3] ⟨by omega,gg.1,hv⟩ zo
     · obtain rfl:i=Kt.length:=by omega
       rw[alA,Cg] at hv;rw[hv] at hQ;exact zE [some 3] hQ
 · have hA2:aa%2=1:=by omega
   have nw:=re (K:=2) (P:=0) (C:=n) ⟨.inr ⟨rfl,rfl⟩,by omega,by omega⟩
   obtain ⟨G,hG⟩:∃G:Nat→ZS→Int×ZS,∀(k i:Nat) x,k≤1000→i≤900→wE L n i x→wE L n (i+1) (G k x).2∧
    aA Tryz.prog 20 [.ref 0 0 0 0,.ref 1 0 0 0,.lit (.int .u64 (k:Int))] [some (mr 2 0 (n:Int) x.1 x.2.1),some (bt L x.2.2.1 x.2.2.2)] (.lit (.int .i64 (G k x).1)) [some (mr 2 0 (n:Int) (G k x).2.1 (G k x).2.2.1),some (bt L (G k x).2.2.2.1 (G k x).2.2.2.2)]:=by
    have h:∀(k:Nat) (x:ZS),∃y:Int×ZS,∀i,k≤1000→i≤900→wE L n i x→wE L n (i+1) y.2∧
     aA Tryz.prog 20 [.ref 0 0 0 0,.ref 1 0 0 0,.lit (.int .u64 (k:Int))] [some (mr 2 0 (n:Int) x.1 x.2.1),some (bt L x.2.2.1 x.2.2.2)] (.lit (.int .i64 y.1)) [some (mr 2 0 (n:Int) y.2.1 y.2.2.1),some (bt L y.2.2.2.1 y.2.2.2.2)]:=by
     intro k x
     by_cases h:k≤1000∧wE L n 900 x
     · obtain ⟨h1,h2,h3,h4,h5⟩:=h
       obtain ⟨e,X',N',q,d',a1,a2,a3,a4,a5⟩:=uZ (K:=2) (P:=0) (d:=x.2.2.2) (key:=k) zo h2 zo zo h4 zo h5;exact⟨(e,X',N',q,d'),fun i _ _ ho=>⟨⟨a1,by have:=ho.2.1;dsimp only;omega,a3,a4⟩,a5⟩⟩
     · exact⟨(0,x),fun i h1 h2 h3=>absurd ⟨h1,h3.1,by have:=h3.2.1;omega,h3.2.2⟩ h⟩
    exact⟨fun k x=>Classical.choose (h k x),fun k i x=>Classical.choose_spec (h k x) i⟩
   obtain ⟨z0,hz⟩:∃z:List (Nat×Nat),z=List.replicate n (0,0):=⟨_,rfl⟩;have hzl:z0.length=n:=by rw[hz,ajF]
   have hx0:wE L n 0 (z0,0,0,false):=by rw[hz];exact⟨CZ,ajp _,fun h=>(by cases h),ajH _⟩
   have hfin:=BH (fun k i x h1 h2 h3=>(hG k i x h1 h2 h3).1) Kt 0 _ zo hx0;have hf2:=hfin.2.1;refine⟨2,0,n,(DM G Kt (z0,0,0,false)).2.1,(DM G Kt (z0,0,0,false)).1,⟨.inr ⟨rfl,rfl⟩,by omega,by omega⟩,by omega,by omega,hfin.1,by omega,?_⟩;have hn5:1≤n∧n≤5:=by omega
   clear hfin hn hf2;rw[←hz] at nw;clear hz;subst hzl;change aA _ _ _ _ _ [some (mr 2 0 (z0.length:Int) _ _)];refine zF J9 Tryz.call8 Tryz.func8 [.cell 2 42,.tmp 3] fun Q hQ=>?_
   by_cases h1:300<L0.length
   case' pos=>
    refine Jf hL ?_
   case' neg=>
    have hLL:=hns h1;subst hLL;refine ae ?_
   all_goals
    refine aF [] [] (nt) ?_;refine ej hkw ht ?_;refine aB (h0) rfl rfl ?_;refine ej hkw ht ?_
    by_cases h2:0<S.length
    case' pos=>
     obtain ⟨⟨s1,s2,s3⟩,ea⟩:∃x,S.getD 0 default=x:=⟨_,rfl⟩;have h3:=hs (s1,s2,s3);dsimp only at h3;generalize wi k a b (s1,s2,s3)=r at*
     generalize wi k a b (0,0,false)=r0 at*
     refine br ea ?_;refine aB (h3) rfl rfl ?_;refine vd ht m1 m2 hA2 hS6 (show(1:Int)+1=2 from rfl) ?_
    case' neg=>
     generalize wi k a b (0,0,false)=r at*
     refine vd ht m1 m2 hA2 hS6 (show(1:Int)+1=2 from rfl) ?_
    all_goals
     refine bI (nw) ?_;refine ae ?_;refine zC fw ?_
     refine aR (X:=Nat×ZS) (st:=fun z=>([(2,.ref 0 0 0 0),(5,.ref 1 0 0 0),(6,.ref 2 0 0 0),(9,.lit (.bool true)),(19,.ref 3 0 0 0),(96,.row 1 ((nl Kt).map (ie .u64))),(97,.lit (.int .i64 (Kt.length:Int))),(98,.lit (.int .i64 (z.1:Int)))],
      [some (.cells [.lit (.int .i64 0),.lit (.int .i64 0),.lit (.int .i64 0),.lit (.int .i64 0),.lit (.int .i64 0),.lit (.int .i64 0),.lit (.bool false),.lit (.pointer none),.lit (.pointer none),.lit (.pointer none),.lit (.pointer none)]),some (bt L z.2.2.2.1 z.2.2.2.2),some (.cells [.lit (.int .i64 (1+4)),.lit (.int .i64 0),.lit (.int .i64 0),.lit (.int .i64 0),.lit (.int .i64 0),.lit (.int .i64 0),.lit (.bool false),.lit (.pointer none),.lit (.pointer none),.lit (.pointer none),.lit (.pointer none)]),some (mr 2 0 (z0.length:Int) z.2.1 z.2.2.1)]))
      (inv:=fun z=>z.1≤Kt.length∧wE L z0.length z.1 z.2∧DM G Kt (z0,0,0,false)=DM G (Kt.drop z.1) z.2) (m:=fun z=>Kt.length-z.1) (0,z0,0,0,false) [some 1,some 2,some 3,some 7] ⟨ajH _,hx0,by rw[ajE]⟩ ?_
     rintro ⟨i,X,N,p,d⟩ ⟨hi,hz,hv⟩;dsimp only at hi hz hv ⊢
     by_cases hil:i<Kt.length
     · have hdr:Kt.drop i=Kt.getD i 0::Kt.drop (i+1):=by
        rw[akm hil,ajk,ajm hil]
        rfl
       rw[hdr,qP] at hv;have hkey:(nl Kt).getD i 0=((Kt.getD i 0:Nat):Int):=bD Kt i;generalize Kt.getD i 0=key at*
       have gg:=hG (key%7) i (X,N,p,d) zo zo hz;have e2:((key:Nat):Int)%7=((key%7:Nat):Int):=by omega
       generalize hgx:G (key%7) (X,N,p,d)=gx at*
       obtain ⟨e,X',N',q,d'⟩:=gx;dsimp only at gg;refine ej hkey e2 ?_;refine zW [some 3,some 1] [] gg.2 ?_;refine aM (i+1,X',N',q,d') [some 0,some 1,some 2,some 3] ⟨by omega,gg.1,hv⟩ zo
     · obtain rfl:i=Kt.length:=by omega
       rw[alA,Cg] at hv;rw[hv] at hQ;exact zE [some 3] hQ
theorem vI {Kd kk aa bb:Int} {S:List (Int×Int×Bool)} {M D Sc R C ck ca cb:Int} {W Ky:List Nat} {L0:List Bool} (hS:S.length≤9223372036854775807) (hL0:L0.length≤9223372036854775807) (hW:W.length≤9223372036854775807) (hw:∀x∈W,x<18446744073709551616) (hKy:Ky.length≤9223372036854775807) (hky:∀x∈Ky,x<18446744073709551616):
 ∃x:Itm,x.ok∧aA Tryz.prog 8 [.agg (pN Kd kk aa bb S M D Sc R C ck ca cb W Ky L0)] [] (.tup [x.v,.lit (.bool true)]) []:=by
 by_cases t0:(Kd.tmod 5+5)%5=0
 · obtain ⟨k,a,b,s,hsm,hwl,fn⟩:=ya (kk:=kk) (aa:=aa) (bb:=bb) (S:=S) (M:=M) (D:=D) (Sc:=Sc) (R:=R) (C:=C) (ck:=ck) (ca:=ca) (cb:=cb) (W:=W) (Ky:=Ky) t0 hS hL0
   exact⟨.rg k a b s,⟨bO hsm,hwl⟩,fn⟩
 by_cases t1:(Kd.tmod 5+5)%5=1
 · obtain ⟨k,a,b,n,l,hsm,h1,h8,hl,hwl,hd⟩:=yk (kk:=kk) (aa:=aa) (bb:=bb) (S:=S) (M:=M) (D:=D) (Sc:=Sc) (R:=R) (C:=C) (ck:=ck) (ca:=ca) (cb:=cb) (W:=W) (Ky:=Ky) t1 hS hL0
   subst hl;refine⟨.ar k a b l,⟨bO hsm,by omega,hwl⟩,?_⟩;unfold bg at hd;have hlw:=aq (aZ l.length (wd k a b)) (aV (wd k a b) (l.map (fj k a b)));exact(show aA _ _ _ _ (.tup [jz k a b l.length l,.lit (.bool true)]) [] from kS [] (hd))
 by_cases t2:(Kd.tmod 5+5)%5=2
 · obtain ⟨m,g,s,n,st,hwb,hm4,hs3,h1,h5,hl,hok,hd⟩:=xY (kk:=kk) (aa:=aa) (bb:=bb) (S:=S) (M:=M) (D:=D) (Sc:=Sc) (R:=R) (C:=C) (ck:=ck) (ca:=ca) (cb:=cb) (W:=W) (Ky:=Ky) t2 hS hL0 hKy hky
   refine⟨.sc m g s st,⟨hwb.good,by omega,vU hok⟩,?_⟩;exact(show aA _ _ _ _ (.tup [l6 m g s st,.lit (.bool true)]) [] from kS [] (hd))
 by_cases t3:(Kd.tmod 5+5)%5=3
 · obtain ⟨Rn,Cn,k,a,b,T,l,hsm,h1,h2,h3,h4,hl,hr,hT,hd⟩:=yq (kk:=kk) (aa:=aa) (bb:=bb) (S:=S) (M:=M) (D:=D) (Sc:=Sc) (R:=R) (C:=C) (ck:=ck) (ca:=ca) (cb:=cb) (W:=W) (Ky:=Ky) t3 hS hL0 hW hw hKy hky
   refine⟨.ct Rn Cn k a b T l,⟨bO hsm,by omega,by omega,hl,by omega,hr⟩,?_⟩;exact(show aA _ _ _ _ (.tup [dP Rn Cn k a b l T,.lit (.bool true)]) [] from kS [] (hd))
 · have t4:(Kd.tmod 5+5)%5=4:=by omega
   obtain ⟨K,P,n,T,X,hg,h1,h2,ho,hT,hd⟩:=yV (kk:=kk) (aa:=aa) (bb:=bb) (S:=S) (M:=M) (D:=D) (Sc:=Sc) (R:=R) (C:=C) (ck:=ck) (ca:=ca) (cb:=cb) (W:=W) (Ky:=Ky) t4 hS hL0 hKy hky;refine⟨.sm K P n T X,⟨hg,ho.1,by omega,ho.2.1,ho.2.2⟩,?_⟩;exact(show aA _ _ _ _ (.tup [lW K P n X T,.lit (.bool true)]) [] from kS [] (hd))
theorem LZ {cs:List V} {v:Value} (h:lh.plnL cs=true):lh (.tup [.agg cs,.lit v])=true:=by
 show(lh.plnL cs&&(true&&true))=true
 rw[h];rfl
theorem D7 {cs:List V} (h:lh.plnL cs=true):lh.plnL [.agg cs]=true:=by
 show(lh.plnL cs&&true)=true
 rw[h];rfl
theorem K8 {cs ds:List V} (h:lh.plnL cs=true) (k:lh.plnL ds=true):lh.plnL [.agg cs,.agg ds]=true:=by
 show(lh.plnL cs&&(lh.plnL ds&&true))=true
 rw[h,k];rfl
theorem aeB {cs:List V} (h:lh.plnL cs=true):lh (.agg cs)=true:=h
theorem eY {B:List Int} (h:∀x∈B,0≤x∧x≤18446744073709551615):∃l:List Nat,B=nl l∧∀x∈l,x<18446744073709551616:=by
 refine⟨B.map Int.toNat,?_,fun x hx=>?_⟩
 · unfold nl
   rw[List.map_map]
   conv=>lhs;rw[←List.map_id B]
   refine List.map_congr_left fun x hx=>?_;exact(Int.toNat_of_nonneg (h x hx).1).symm
 · obtain ⟨y,hy,rfl⟩:=akh.1 hx
   have:=h y hy
   omega
theorem xF {Kd kk aa bb:Int} {S:List (Int×Int×Bool)} {M D Sc R C ck ca cb:Int} {W Ky:List Nat} {L0:List Bool} (hS:S.length≤9223372036854775807) (hL0:L0.length≤9223372036854775807) (hW:W.length≤9223372036854775807) (hw:∀x∈W,x<18446744073709551616) (hKy:Ky.length≤9223372036854775807) (hky:∀x∈Ky,x<18446744073709551616):
 aA Tryz.prog 3 [.agg (pN Kd kk aa bb S M D Sc R C ck ca cb W Ky L0)] [] (.lit (.bool true)) []:=by
 obtain ⟨x,hx,it⟩:=vI (Kd:=Kd) (kk:=kk) (aa:=aa) (bb:=bb) (S:=S) (M:=M) (D:=D) (Sc:=Sc) (R:=R) (C:=C) (ck:=ck) (ca:=ca) (cb:=cb) (W:=W) (Ky:=Ky) (L0:=L0) hS hL0 hW hw hKy hky;have aw:=rL;have en:=(Itm.enc hx).row;have hE:=(Itm.enc hx).1;have ck':=Itm.chk hx;have dc:=Itm.dec hx;have cl:=Itm.cln hx;have sm:=Itm.same hx hx;rw[aju rfl] at sm;rw[←ay] at hE;have rs:=qk (A:=nl x.E) (B:=nl x.E) zo zo;rw[aju rfl] at rs;obtain ⟨c1,c2,c3,c4,c5,c6,c7,c8,c9,c10,hv,hp⟩:=Itm.parts (x:=x);rw[hv] at it en ck' dc cl sm;generalize nl x.E=B at*
 generalize x.t=t at*
 clear hx hv;refine zF pl Tryz.call3 Tryz.func3 [.tmp 2] fun Q hQ=>?_;refine ae ?_;refine zC aw ?_;refine aB it rfl (LZ hp) ?_;refine ae ?_;refine aB ck' (D7 hp) rfl ?_;refine ae ?_;refine aB en (D7 hp) rfl ?_;refine ae ?_;refine aB dc rfl (LZ hp) ?_;refine ae ?_;refine aB cl (D7 hp) (aeB hp) ?_;refine ae ?_;refine aB en (D7 hp) rfl ?_;refine ae ?_;refine aB sm (K8 hp hp) rfl ?_;refine ae ?_;refine aB sm (K8 hp hp) rfl ?_;refine ae ?_;refine aB sm (K8 hp hp) rfl ?_;refine ae ?_;refine zC rs ?_;exact ak [] hQ
end Go.Proofs.YtcnlmelpnflhnaaGreat
