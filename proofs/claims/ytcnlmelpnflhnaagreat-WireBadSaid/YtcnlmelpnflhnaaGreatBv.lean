import Derived.Test.YtcnlmelpnflhnaaGreatBl
import Derived.Test.YtcnlmelpnflhnaaGreatIn
import Derived.Test.YtcnlmelpnflhnaaGreatAc
import Derived.Test.YtcnlmelpnflhnaaGreatBm
import Derived.Test.YtcnlmelpnflhnaaGreatIo
namespace Go.Proofs.YtcnlmelpnflhnaaGreat
open Go.Eng Go.Vx
set_option linter.unusedSimpArgs false
set_option linter.unusedVariables false
set_option maxRecDepth 100000
def JH (L:List Bool) (m g s n:Nat) (x:SS×Nat×Bool):Prop:=SOk (cZ m g s) x.1∧x.1.1.length=n∧x.2.1≤L.length∧(x.2.2=true→x.2.1=L.length)
def Ps (G:Nat→Nat→SS×Nat×Bool→Int×SS×Nat×Bool) (n:Nat):List Nat→Nat→SS×Nat×Bool→SS×Nat×Bool
 | [],_,x=>x
 | k::ks,i,x=>Ps G n ks (i+1) (G (i%n) (k%200) x).2
theorem LQ {G:Nat→Nat→SS×Nat×Bool→Int×SS×Nat×Bool} {n i:Nat} {x:SS×Nat×Bool}:Ps G n [] i x=x:=rfl
theorem HV {G:Nat→Nat→SS×Nat×Bool→Int×SS×Nat×Bool} {n k i:Nat} {ks:List Nat} {x:SS×Nat×Bool}:Ps G n (k::ks) i x=Ps G n ks (i+1) (G (i%n) (k%200) x).2:=rfl
theorem IU {L:List Bool} {m g s n:Nat} {G:Nat→Nat→SS×Nat×Bool→Int×SS×Nat×Bool} (hn:1≤n) (hG:∀i k x,i<n→k≤1000→JH L m g s n x→JH L m g s n (G i k x).2):∀ks i x,JH L m g s n x→JH L m g s n (Ps G n ks i x)
 | [],_,x,h=>h
 | k::ks,i,x,h=>IU hn hG ks (i+1) _ (hG _ _ x (akD _ zo) zo h)
set_option maxHeartbeats 8000000 in
theorem Jk {Kd kk aa bb:Int} {S:List (Int×Int×Bool)} {M D Sc R C ck ca cb:Int} {W Ky:List Nat} {L0:List Bool} (ht:(Kd.tmod 5+5)%5=2) (hS:S.length≤9223372036854775807) (hL0:L0.length≤9223372036854775807) (hKy:Ky.length≤9223372036854775807) (hky:∀x∈Ky,x<18446744073709551616):
 ∃(m g s n:Nat) (st:SS),WB m g s∧m≤4∧s≤3∧1≤n∧n≤5∧st.1.length=n∧SOk (cZ m g s) st∧aA Tryz.prog 8 [.agg (Ms Kd kk aa bb S M D Sc R C ck ca cb W Ky L0)] [] (.tup [Za 0,.lit (.bool true)]) [some (zG m g s st)]:=by
 obtain ⟨k,a,b,hsm,hs⟩:=gb (kk:=kk) (aa:=aa) (bb:=bb);have hg:=eR hsm;have h0:=hs (0,0,false);dsimp only at h0;have hL1:(L0.take 300).length≤300:=by rw[List.length_take];omega
 have nt:=oh (L:=L0.take 300) zo;have hns:¬300<L0.length→L0.take 300=L0:=fun h=>aku zo;generalize hL:L0.take 300=L at*
 have t1: -5<Kd.tmod 5:=by have:=amF Kd (b:=5) zd;omega
 have t2:Kd.tmod 5<5:=amf Kd zd;have hkw:IntKind.i64.wrap (Kd.tmod 5+5)=Kd.tmod 5+5:=wrap_i64 ⟨by omega,by omega⟩;obtain ⟨m,g,s,hwb,hm4,hs3,sm⟩:=Ab (a:=M) (b:=D) (c:=Sc);have ow:=KC (M:=m) (D:=g) (S:=s);obtain ⟨n,hn⟩:∃n,1+S.length%5=n:=⟨_,rfl⟩;have nw:=zz (n:=n) hwb.good zo;have fw:=rQ hKy;have hS6:(1:Int)+(S.length:Int)%5=(n:Int):=by omega
 have hKt:(Ky.take 12).length≤12:=by rw[akr];omega
 have hKl:=av (Ky.take 12);generalize Ky.take 12=Kt at*
 obtain ⟨G,hG⟩:∃G:Nat→Nat→SS×Nat×Bool→Int×SS×Nat×Bool,∀(i k:Nat) x,i<n→k≤1000→JH L m g s n x→JH L m g s n (G i k x).2∧
  aA Tryz.prog 18 [.ref 0 0 0 0,.ref 1 0 0 0,.I i,.I k] [some (zG m g s x.1),some (bm L x.2.1 x.2.2)] (.I (G i k x).1) [some (zG m g s (G i k x).2.1),some (bm L (G i k x).2.2.1 (G i k x).2.2.2)]:=by
  have h:∀(i k:Nat) (x:SS×Nat×Bool),∃y:Int×SS×Nat×Bool,i<n→k≤1000→JH L m g s n x→JH L m g s n y.2∧
   aA Tryz.prog 18 [.ref 0 0 0 0,.ref 1 0 0 0,.I i,.I k] [some (zG m g s x.1),some (bm L x.2.1 x.2.2)] (.I y.1) [some (zG m g s y.2.1),some (bm L y.2.2.1 y.2.2.2)]:=by
   intro i k x
   by_cases h:i<n∧k≤1000∧JH L m g s n x
   · obtain ⟨h1,h2,h3,h4,h5,h6⟩:=h
     obtain ⟨e,st',q,d',a1,a2,a3,a4,a5⟩:=OC hwb zo h5 h6 zo zo h3 (n:=k) (i:=i) zo;exact⟨(e,st',q,d'),fun _ _ _=>⟨⟨a1,a2.trans h4,a3,a4⟩,a5⟩⟩
   · exact⟨(0,x),fun h1 h2 h3=>absurd ⟨h1,h2,h3⟩ h⟩
  exact⟨fun i k x=>Classical.choose (h i k x),fun i k x=>Classical.choose_spec (h i k x)⟩
 obtain ⟨z0,hz⟩:∃z:List Cell,z=List.replicate n (0,0):=⟨_,rfl⟩;have hzl:z0.length=n:=by rw[hz,akB]
 have hx0:JH L m g s n ((z0,1,false),0,false):=by rw[hz];exact⟨ok0 hwb.pw.toPB,akB,akF _,fun h=>by cases h⟩
 have hfin:=IU zo (fun i k x h1 h2 h3=>(hG i k x h1 h2 h3).1) Kt 0 _ hx0;refine⟨m,g,s,n,(Ps G n Kt 0 ((z0,1,false),0,false)).1,hwb,hm4,hs3,by omega,by omega,hfin.2.1,hfin.1,?_⟩;have hn5:1≤n∧n≤5:=by omega
 clear hfin hn;have nw':aA Tryz.prog 26 [pA m g s,.I n] [] (.tup [.ref 0 0 0 0,.I 0]) [some (Ly m g s 1 n 1 false),some (.row 2 (z0.map cV))]:=by rw[hz];exact nw
 clear hz nw;subst hzl;refine zF LG Tryz.call8 Tryz.func8 [.cell 2 42,.tmp 3] fun Q hQ=>?_
 by_cases h1:300<L0.length
 case' pos=>
  refine Gb hL ?_
 case' neg=>
  have hLL:=hns h1;subst hLL;refine ae ?_
 all_goals
  refine aF [] [] (nt) ?_;refine eo hkw ht ?_;refine aC (h0) rfl rfl ?_;refine eo hkw ht ?_
  by_cases h2:0<S.length
  case' pos=>
   obtain ⟨⟨s1,s2,s3⟩,ea⟩:∃x,S.getD 0 default=x:=⟨_,rfl⟩;have h3:=hs (s1,s2,s3);dsimp only at h3;generalize wi k a b (s1,s2,s3)=r at*
   generalize wi k a b (0,0,false)=r0 at*
   refine bg ea ?_;refine aC (h3) rfl rfl ?_;refine bg ht ?_
  case' neg=>
   generalize wi k a b (0,0,false)=r at*
   refine bg ht ?_
  all_goals
   refine zC sm ?_;refine aC (ow) rfl rfl ?_;refine bg hS6 ?_;refine dk (nw') ?_;refine ae ?_;refine zC fw ?_
   refine aU (X:=Nat×SS×Nat×Bool) (st:=fun z=>([(2,.ref 0 0 0 0),(5,.ref 1 0 0 0),(6,.ref 2 0 0 0),(9,.lit (.bool true)),(10,.ref 3 0 0 0),(153,.row 1 ((nl Kt).map (ie .u64))),(154,.I Kt.length),(155,.I z.1)],
    [some (.cells [.I 0,.I 0,.I 0,.I 0,.I 0,.I 0,.lit (.bool false),.lit (.pointer none),.lit (.pointer none),.lit (.pointer none),.lit (.pointer none)]),some (bm L z.2.2.1 z.2.2.2),some (.cells [.I (1+2),.I 0,.I 0,.I 0,.I 0,.I 0,.lit (.bool false),.lit (.pointer none),.lit (.pointer none),.lit (.pointer none),.lit (.pointer none)]),some (zG m g s z.2.1)]))
    (inv:=fun z=>z.1≤Kt.length∧JH L m g s z0.length z.2∧Ps G z0.length Kt 0 ((z0,1,false),0,false)=Ps G z0.length (Kt.drop z.1) z.1 z.2) (m:=fun z=>Kt.length-z.1) (0,(z0,1,false),0,false) [some 1,some 2,some 3,some 6] ⟨akF _,hx0,by rw[akv]⟩ ?_
   rintro ⟨i,st,p,d⟩ ⟨hi,hz,hv⟩;dsimp only at hi hz hv ⊢
   by_cases hil:i<Kt.length
   · have hdr:Kt.drop i=Kt.getD i 0::Kt.drop (i+1):=by
      rw[ak3 hil,akf,akh hil]
      rfl
     rw[hdr] at hv;have hkey:(nl Kt).getD i 0=((Kt.getD i 0:Nat):Int):=bt Kt i;generalize Kt.getD i 0=key at*
     have gg:=hG (i%z0.length) (key%200) (st,p,d) (akD _ zo) zo hz;have y2:st.1.length=z0.length:=hz.2.1;have sl:=L6 (M:=m) (D:=g) (S:=s) (st:=st) zo;rw[y2] at sl;have e1:((i:Nat):Int).tmod (z0.length:Int)=((i%z0.length:Nat):Int):=by rw[al7 zo];simp
     have e1':((i:Nat):Int)%(z0.length:Int)=((i%z0.length:Nat):Int):=by simp
     have e2:((key:Nat):Int)%200=((key%200:Nat):Int):=by omega
     rw[HV] at hv;generalize hgx:G (i%z0.length) (key%200) (st,p,d)=gx at*
     obtain ⟨e,st',q,d'⟩:=gx;dsimp only at gg;refine bg hkey ?_;refine ch (sl) ?_;refine LM hkey e1 e1' e2 ?_;refine zW [some 3,some 1] [] gg.2 ?_;refine aR (i+1,st',q,d') [some 0,some 1,some 2,some 3] ⟨by omega,gg.1,hv⟩ zo
   · obtain rfl:i=Kt.length:=by omega
     rw[amA] at hv;rw[LQ] at hv;rw[hv] at hQ;exact zE [some 3] hQ
theorem Ev {k a b:Nat} (h:Pe k a b):jU k a b:=by
 rcases h with⟨h,h1,h2,h3,h4⟩ | ⟨h,h1,h2,h3⟩ | ⟨h,h1,h2,h3,h4⟩ | ⟨h,h1,h2,h3⟩
 · exact .inl ⟨.inl ⟨h,h1,h2⟩,h3,h4⟩
 · exact .inl ⟨.inr (.inl ⟨h,h1⟩),h2,h3⟩
 · exact .inl ⟨.inr (.inr ⟨h,h1,h2⟩),h3,h4⟩
 · exact .inr ⟨h,h1,h2,by omega⟩
abbrev CT:=List RW×Nat×Nat×Bool
def sN (L:List Bool) (R k a b C i:Nat) (x:CT):Prop:=x.1.length=R∧(∀r∈x.1,bB k a b C r)∧x.2.1≤4*i∧x.2.2.1≤L.length
def N5 (G:Nat→Nat→CT→Int×CT):List Nat→CT→CT
 | [],x=>x
 | k::ks,x=>N5 G ks (G (k%1000) (k%5) x).2
theorem NC {G:Nat→Nat→CT→Int×CT} {x:CT}:N5 G [] x=x:=rfl
theorem ya {G:Nat→Nat→CT→Int×CT} {k:Nat} {ks:List Nat} {x:CT}:N5 G (k::ks) x=N5 G ks (G (k%1000) (k%5) x).2:=rfl
theorem Kf {L:List Bool} {R k a b C:Nat} {G:Nat→Nat→CT→Int×CT} (hG:∀(key n i:Nat) x,key≤1000→n≤4→i≤200→sN L R k a b C i x→sN L R k a b C (i+1) (G key n x).2):∀ks i x,i+ks.length≤200→sN L R k a b C i x→sN L R k a b C (i+ks.length) (N5 G ks x)
 | [],i,x,_,h=>h
 | k::ks,i,x,hl,h=>by
   rw[ya,akm,show i+(ks.length+1)=(i+1)+ks.length by omega];rw[akm] at hl;exact Kf hG ks (i+1) _ zo (hG _ _ i x zo zo zo h)
set_option maxHeartbeats 8000000 in
theorem J5 {Kd kk aa bb:Int} {S:List (Int×Int×Bool)} {M D Sc R C ck ca cb:Int} {W Ky:List Nat} {L0:List Bool} (ht:(Kd.tmod 5+5)%5=3) (hS:S.length≤9223372036854775807) (hL0:L0.length≤9223372036854775807) (hW:W.length≤9223372036854775807) (hw:∀x∈W,x<18446744073709551616) (hKy:Ky.length≤9223372036854775807) (hky:∀x∈Ky,x<18446744073709551616):
 ∃(Rn Cn k a b T:Nat) (l:List RW),Pe k a b∧1≤Rn∧Rn≤4∧1≤Cn∧Cn≤64∧l.length=Rn∧(∀r∈l,bB k a b Cn r)∧T≤100∧aA Tryz.prog 8 [.agg (Ms Kd kk aa bb S M D Sc R C ck ca cb W Ky L0)] [] (.tup [S5 0,.lit (.bool true)]) [some (jd Rn Cn k a b l T)]:=by
 obtain ⟨k,a,b,hsm,hs⟩:=gb (kk:=kk) (aa:=aa) (bb:=bb);have hg:=eR hsm;have h0:=hs (0,0,false);dsimp only at h0;have hL1:(L0.take 300).length≤300:=by rw[List.length_take];omega
 have nt:=oh (L:=L0.take 300) zo;have hns:¬300<L0.length→L0.take 300=L0:=fun h=>aku zo;generalize hL:L0.take 300=L at*
 have t1: -5<Kd.tmod 5:=by have:=amF Kd (b:=5) zd;omega
 have t2:Kd.tmod 5<5:=amf Kd zd;have hkw:IntKind.i64.wrap (Kd.tmod 5+5)=Kd.tmod 5+5:=wrap_i64 ⟨by omega,by omega⟩;obtain ⟨k2,a2,b2,hsm2,hs2⟩:=gb (kk:=ck) (aa:=ca) (bb:=cb);obtain ⟨m,hm⟩:∃m:Nat,R%4=(m:Int):=⟨(R%4).toNat,by omega⟩;obtain ⟨c,hc⟩:∃c:Nat,C%256%64=(c:Int):=⟨(C%256%64).toNat,by omega⟩;have hm4:m+1≤4:=by omega
 have hc64:c+1≤64:=by omega
 have pm:=z7 (W:=W) hm hc hs2;have hh:=yG (C:=C) (k:=ck) (a:=ca) (b:=cb) (W:=W) hm hW hw;have hl:(kR W (m+1)).length=m+1:=by unfold kR;rw[aki,akj]
 have ho:∀x∈kR W (m+1),x.1<2305843009213693951∧x.2<2305843009213693951:=by
  intro x hx;obtain ⟨i,hi,rfl⟩:=alb.1 hx
  have:=amg.1 hi
  exact⟨yf zo,yf zo⟩
 have nw:=EW (C:=c+1) (hs:=kR W (m+1)) zo zo (eR hsm2) ho;rw[hl] at nw;have fw:=rQ hKy;have hsml:=Ev hsm2;have hKt:(Ky.take 12).length≤12:=by rw[akr];omega
 have hKl:=av (Ky.take 12);generalize Ky.take 12=Kt at*
 obtain ⟨G,hG⟩:∃G:Nat→Nat→CT→Int×CT,∀(key n i:Nat) x,key≤1000→n≤4→i≤200→sN L (m+1) k2 a2 b2 (c+1) i x→sN L (m+1) k2 a2 b2 (c+1) (i+1) (G key n x).2∧
  aA Tryz.prog 19 [.ref 0 0 0 0,.ref 1 0 0 0,.lit (.int .u64 key),.I n] [some (jd (m+1) (c+1) k2 a2 b2 x.1 x.2.1),some (bm L x.2.2.1 x.2.2.2)] (.I (G key n x).1) [some (jd (m+1) (c+1) k2 a2 b2 (G key n x).2.1 (G key n x).2.2.1),some (bm L (G key n x).2.2.2.1 (G key n x).2.2.2.2)]:=by
  have h:∀(key n:Nat) (x:CT),∃y:Int×CT,∀i,key≤1000→n≤4→i≤200→sN L (m+1) k2 a2 b2 (c+1) i x→sN L (m+1) k2 a2 b2 (c+1) (i+1) y.2∧
   aA Tryz.prog 19 [.ref 0 0 0 0,.ref 1 0 0 0,.lit (.int .u64 key),.I n] [some (jd (m+1) (c+1) k2 a2 b2 x.1 x.2.1),some (bm L x.2.2.1 x.2.2.2)] (.I y.1) [some (jd (m+1) (c+1) k2 a2 b2 y.2.1 y.2.2.1),some (bm L y.2.2.2.1 y.2.2.2.2)]:=by
   intro key n x
   by_cases h:key≤1000∧n≤4∧sN L (m+1) k2 a2 b2 (c+1) 200 x
   · obtain ⟨h1,h2,h3,h4,h5,h6⟩:=h
     obtain ⟨e,X',N',q,d',a1,a2,a3,a4,a5⟩:=LW (n:=n) (key:=key) (T:=x.2.1) (d:=x.2.2.2) zo hsml ⟨by omega,by omega⟩ zo zo zo h6 h3 ⟨by omega,by omega⟩ h4;exact⟨(e,X',N',q,d'),fun i _ _ _ ho=>⟨⟨a1,a2,by have:=ho.2.2.1;dsimp only;omega,a4⟩,a5⟩⟩
   · exact⟨(0,x),fun i h1 h2 h3 h4=>absurd ⟨h1,h2,h4.1,h4.2.1,by have:=h4.2.2.1;omega,h4.2.2.2⟩ h⟩
  exact⟨fun key n x=>Classical.choose (h key n x),fun key n i x=>Classical.choose_spec (h key n x) i⟩
 obtain ⟨l0,hl0⟩:∃z:List RW,z=rws (c+1) (kR W (m+1)):=⟨_,rfl⟩
 have hx0:sN L (m+1) k2 a2 b2 (c+1) 0 (l0,0,0,false):=by
  refine⟨?_,?_,akk _,akF _⟩
  · rw[hl0];unfold rws;rw[aki,hl]
  · intro r hr
    rw[hl0] at hr;obtain ⟨x,hx,rfl⟩:=alb.1 hr;refine⟨(ho x hx).1,(ho x hx).2,akB,fun s hs=>?_⟩;rw[alR hs];exact Ei
 have hfin:=Kf (fun key n i x h1 h2 h3 h4=>(hG key n i x h1 h2 h3 h4).1) Kt 0 _ zo hx0;have hf2:=hfin.2.2.1;refine⟨m+1,c+1,k2,a2,b2,(N5 G Kt (l0,0,0,false)).2.1,(N5 G Kt (l0,0,0,false)).1,hsm2,by omega,hm4,by omega,hc64,hfin.1,hfin.2.1,by omega,?_⟩;clear hfin hf2 ho hl;rw[←hl0] at nw;clear hl0;generalize kR W (m+1)=hss at*
 refine zF LG Tryz.call8 Tryz.func8 [.cell 2 42,.tmp 3] fun Q hQ=>?_
 by_cases h1:300<L0.length
 case' pos=>
  refine Gb hL ?_
 case' neg=>
  have hLL:=hns h1;subst hLL;refine ae ?_
 all_goals
  refine aF [] [] (nt) ?_;refine eo hkw ht ?_;refine aC (h0) rfl rfl ?_;refine eo hkw ht ?_
  by_cases h2:0<S.length
  case' pos=>
   obtain ⟨⟨s1,s2,s3⟩,ea⟩:∃x,S.getD 0 default=x:=⟨_,rfl⟩;have h3:=hs (s1,s2,s3);dsimp only at h3;generalize wi k a b (s1,s2,s3)=r at*
   generalize wi k a b (0,0,false)=r0 at*
   refine bg ea ?_;refine aC (h3) rfl rfl ?_;refine bg ht ?_
  case' neg=>
   generalize wi k a b (0,0,false)=r at*
   refine bg ht ?_
  all_goals
   refine aC (pm) rfl rfl ?_;refine bg ht ?_;refine zC hh ?_;refine zW [] [] nw ?_;refine zC fw ?_
   refine aU (X:=Nat×CT) (st:=fun z=>([(2,.ref 0 0 0 0),(5,.ref 1 0 0 0),(6,.ref 2 0 0 0),(9,.lit (.bool true)),(14,.ref 3 0 0 0),(194,.row 1 ((nl Kt).map (ie .u64))),(195,.I Kt.length),(196,.I z.1)],
    [some (.cells [.I 0,.I 0,.I 0,.I 0,.I 0,.I 0,.lit (.bool false),.lit (.pointer none),.lit (.pointer none),.lit (.pointer none),.lit (.pointer none)]),some (bm L z.2.2.2.1 z.2.2.2.2),some (.cells [.I (1+3),.I 0,.I 0,.I 0,.I 0,.I 0,.lit (.bool false),.lit (.pointer none),.lit (.pointer none),.lit (.pointer none),.lit (.pointer none)]),some (jd (m+1) (c+1) k2 a2 b2 z.2.1 z.2.2.1)]))
    (inv:=fun z=>z.1≤Kt.length∧sN L (m+1) k2 a2 b2 (c+1) z.1 z.2∧N5 G Kt (l0,0,0,false)=N5 G (Kt.drop z.1) z.2) (m:=fun z=>Kt.length-z.1) (0,l0,0,0,false) [some 1,some 2,some 3,some 6] ⟨akF _,hx0,by rw[akv]⟩ ?_
   rintro ⟨i,X,N,p,d⟩ ⟨hi,hz,hv⟩;dsimp only at hi hz hv ⊢
   by_cases hil:i<Kt.length
   · have hdr:Kt.drop i=Kt.getD i 0::Kt.drop (i+1):=by
      rw[ak3 hil,akf,akh hil]
      rfl
     rw[hdr,ya] at hv;have hkey:(nl Kt).getD i 0=((Kt.getD i 0:Nat):Int):=bt Kt i;generalize Kt.getD i 0=key at*
     have gg:=hG (key%1000) (key%5) i (X,N,p,d) zo zo zo hz;have e2:((key:Nat):Int)%1000=((key%1000:Nat):Int):=by omega
     have e3:((key:Nat):Int)%5=((key%5:Nat):Int):=by omega
     generalize hgx:G (key%1000) (key%5) (X,N,p,d)=gx at*
     obtain ⟨e,X',N',q,d'⟩:=gx;dsimp only at gg;refine qm hkey e2 e3 ?_;refine zW [some 3,some 1] [] gg.2 ?_;refine aR (i+1,X',N',q,d') [some 0,some 1,some 2,some 3] ⟨by omega,gg.1,hv⟩ zo
   · obtain rfl:i=Kt.length:=by omega
     rw[amA,NC] at hv;rw[hv] at hQ;exact zE [some 3] hQ
end Go.Proofs.YtcnlmelpnflhnaaGreat
