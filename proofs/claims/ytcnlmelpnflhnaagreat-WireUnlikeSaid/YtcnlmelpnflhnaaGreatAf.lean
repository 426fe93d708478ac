import Derived.Test.YtcnlmelpnflhnaaGreatAc
import Derived.Test.YtcnlmelpnflhnaaGreatFb
import Derived.Test.YtcnlmelpnflhnaaGreatBr
import Derived.Test.YtcnlmelpnflhnaaGreatBo
import Derived.Test.YtcnlmelpnflhnaaGreatIo
namespace Go.Proofs.YtcnlmelpnflhnaaGreat
open Go.Eng Go.Vx
set_option linter.unusedSimpArgs false
set_option linter.unusedVariables false
set_option maxRecDepth 100000
theorem Bt {α:Type} [Inhabited α] {A B:List α} {i:Nat} (ha:i<A.length) (hb:i<B.length):A.take (i+1)=B.take (i+1)↔A.take i=B.take i∧A.getD i default=B.getD i default:=by
 rw[ajN ha,ajN hb];have e1:A.getD i default=A[i]:=by rw[ajk,ajm ha];rfl
 have e2:B.getD i default=B[i]:=by rw[ajk,ajm hb];rfl
 rw[e1,e2];constructor
 · intro h
   have:=List.append_inj h (by rw[ajt,ajt];omega)
   exact⟨this.1,by simpa using this.2⟩
 · rintro ⟨h1,h2⟩
   rw[h1,h2]
theorem Ej {A B:List (Nat×Nat)} (hA:A.length≤1000000) (hB:B.length≤1000000):aA Tryz.prog 120 [.row 2 (A.map sV),.row 2 (B.map sV)] [] (.lit (.bool (decide (A=B)))) []:=by
 refine zF NU Tryz.call120 Tryz.func120 [.tmp 4] fun Q hQ=>?_
 by_cases hl:A.length=B.length
 · refine ae ?_
   refine aR (X:=Nat) (st:=fun i=>([(0,.row 2 (A.map sV)),(1,.row 2 (B.map sV)),(12,.lit (.int .i64 (A.length:Int))),(13,.lit (.int .i64 (i:Int)))],[]))
    (inv:=fun i=>i≤A.length∧A.take i=B.take i) (m:=fun i=>A.length-i) 0 [] ⟨by omega,by simp⟩ ?_
   rintro i ⟨hi,ht⟩
   by_cases h:i<A.length
   · have hs:=Bt h (show i<B.length by omega)
     have hne:A.getD i default≠B.getD i default→¬A=B:=fun h e=>h (by rw[e]);obtain ⟨⟨a1,a2⟩,ea⟩:∃a,A.getD i default=a:=⟨_,rfl⟩;obtain ⟨⟨b1,b2⟩,eb⟩:∃b,B.getD i default=b:=⟨_,rfl⟩;rw[ea,eb] at hs hne
     by_cases e1:a1=b1
     · by_cases e2:a2=b2
       · have hs':=hs.2 ⟨ht,by rw[e1,e2]⟩
         subst e1 e2;refine ej ea eb ?_;refine aM (i+1) [] ⟨by omega,hs'⟩ zo
       · rw[ajn (hne (fun e=>e2 (by injection e)))] at hQ
         have e2':¬(a2:Int)=(b2:Int):=by omega
         subst e1;refine qZ ea eb (ajn e2') ?_;exact ak [] hQ
     · rw[ajn (hne (fun e=>e1 (by injection e)))] at hQ
       have e1':¬(a1:Int)=(b1:Int):=by omega
       refine QK ea eb (ajn e1') ?_;exact ak [] hQ
   · obtain rfl:i=A.length:=by omega
     rw[ajz,hl,ajz] at ht;rw[aju ht] at hQ;exact zE [] hQ
 · rw[ajn (fun e=>hl (by rw[e]))] at hQ
   exact zE [] hQ
theorem HX {K P C:Int} {X Y:List (Nat×Nat)} {N M:Nat} (hX:X.length≤1000000) (hY:Y.length≤1000000):aA Tryz.prog 59 [KC K P C X N,KC K P C Y M] [] (.lit (.bool (decide (N=M∧X=Y)))) []:=by
 have q:=Ej hX hY;refine zF Qy Tryz.call59 Tryz.func59 [.tmp 4] fun Q hQ=>?_
 by_cases h:N=M
 · subst h
   rw[show decide (N=N∧X=Y)=decide (X=Y) by simp] at hQ;refine ae ?_;refine zC q ?_;exact ak [] hQ
 · have h':¬(N:Int)=(M:Int):=by omega
   rw[ajn (fun e=>h e.1)] at hQ;refine br (ajn h') ?_;exact ak [] hQ
def rfC (X:List (Nat×Nat)) (N:Nat) (L:List Bool) (p:Nat) (e:Int):List V:=[.row 2 (X.map sV),.lit (.int .i64 (N:Int)),.row 1 (L.map be),.lit (.int .i64 (p:Int)),.lit (.int .i64 e)]
def rfV (X:List (Nat×Nat)) (N:Nat) (L:List Bool) (p:Nat) (e:Int):V:=.agg (rfC X N L p e)
attribute [go_sem] rfC rfV
def aiK (L:List Bool) (N key:Nat) (X:List (Nat×Nat)) (p:Nat):List (Nat×Nat)×Nat×Int:=match fM L (N+1) key X p with | some r=>(r.1,r.2,0) | none=>(X,L.length,8)
def pN (Kd kk aa bb:Int) (S:List (Int×Int×Bool)) (M D Sc R C ck ca cb:Int) (W Ky:List Nat) (L0:List Bool):List V:=[.lit (.int .i64 Kd),.lit (.int .i64 kk),.lit (.int .i64 aa),.lit (.int .i64 bb),.row 3 (S.map Ox),.lit (.int .i64 M),.lit (.int .i64 D),.lit (.int .i64 Sc),.lit (.int .i64 R),.lit (.int .i64 C),.lit (.int .i64 ck),.lit (.int .i64 ca),.lit (.int .i64 cb),.row 1 ((nl W).map (ie .u64)),.row 1 ((nl Ky).map (ie .u64)),.row 1 (L0.map be)]
attribute [go_sem] pN
theorem ya {Kd kk aa bb:Int} {S:List (Int×Int×Bool)} {M D Sc R C ck ca cb:Int} {W Ky:List Nat} {L0:List Bool} (ht:(Kd.tmod 5+5)%5=0) (hS:S.length≤9223372036854775807) (hL0:L0.length≤9223372036854775807):
 ∃(k a b:Nat) (s:SR),GW k a b∧aP k a b s∧aA Tryz.prog 8 [.agg (pN Kd kk aa bb S M D Sc R C ck ca cb W Ky L0)] [] (.tup [uw k a b s,.lit (.bool true)]) []:=by
 obtain ⟨k,a,b,hsm,hs⟩:=fP (kk:=kk) (aa:=aa) (bb:=bb);have ow:=kE (k:=k) (a:=a) (b:=b);have hg:=bO hsm;have h0:=hs (0,0,false);dsimp only at h0;have hL1:(L0.take 300).length≤300:=by rw[List.length_take];omega
 have nt:=fY (L:=L0.take 300) zo;have hns:¬300<L0.length→L0.take 300=L0:=fun h=>ajy zo;generalize hL:L0.take 300=L at*
 have t1: -5<Kd.tmod 5:=by have:=alF Kd (b:=5) zd;omega
 have t2:Kd.tmod 5<5:=alG Kd zd;have hkw:IntKind.i64.wrap (Kd.tmod 5+5)=Kd.tmod 5+5:=wrap_i64 ⟨by omega,by omega⟩;refine⟨k,a,b,if 0<S.length then wi k a b (S.getD 0 default) else wi k a b (0,0,false),hsm,?_,?_⟩
 · split<;>exact Db
 refine zF J9 Tryz.call8 Tryz.func8 [.cell 2 42,.tmp 3] fun Q hQ=>?_
 by_cases h1:300<L0.length
 · refine Jf hL ?_
   refine aF [] [] (nt) ?_;refine ej hkw ht ?_;refine aB (h0) rfl rfl ?_;refine ej hkw ht ?_
   by_cases h2:0<S.length
   · obtain ⟨⟨s1,s2,s3⟩,ea⟩:∃x,S.getD 0 default=x:=⟨_,rfl⟩
     have h3:=hs (s1,s2,s3);have st:=ik (s:=wi k a b (s1,s2,s3));rw[if_pos h2,ea] at hQ;dsimp only at h3;generalize wi k a b (s1,s2,s3)=r at*
     refine br ea ?_;refine aB (h3) rfl rfl ?_;refine br ht ?_;refine zC ow ?_;refine zC st ?_;exact ak [] hQ
   · have st:=ik (s:=wi k a b (0,0,false))
     rw[if_neg h2] at hQ;generalize wi k a b (0,0,false)=r at*
     refine br ht ?_;refine zC ow ?_;refine zC st ?_;exact ak [] hQ
 · have hLL:=hns h1
   subst hLL;refine ae ?_;refine aF [] [] (nt) ?_;refine ej hkw ht ?_;refine aB (h0) rfl rfl ?_;refine ej hkw ht ?_
   by_cases h2:0<S.length
   · obtain ⟨⟨s1,s2,s3⟩,ea⟩:∃x,S.getD 0 default=x:=⟨_,rfl⟩
     have h3:=hs (s1,s2,s3);have st:=ik (s:=wi k a b (s1,s2,s3));rw[if_pos h2,ea] at hQ;dsimp only at h3;generalize wi k a b (s1,s2,s3)=r at*
     refine br ea ?_;refine aB (h3) rfl rfl ?_;refine br ht ?_;refine zC ow ?_;refine zC st ?_;exact ak [] hQ
   · have st:=ik (s:=wi k a b (0,0,false))
     rw[if_neg h2] at hQ;generalize wi k a b (0,0,false)=r at*
     refine br ht ?_;refine zC ow ?_;refine zC st ?_;exact ak [] hQ
theorem lx {k a b:Nat} (h:GW k a b):jG k a b:=by
 rcases h with⟨h,h1,h2,h3,h4⟩ | ⟨h,h1,h2,h3⟩ | ⟨h,h1,h2,h3,h4⟩ | ⟨h,h1,h2,h3⟩
 · exact .inl ⟨.inl ⟨h,h1,h2⟩,h3,h4⟩
 · exact .inl ⟨.inr (.inl ⟨h,h1⟩),h2,h3⟩
 · exact .inl ⟨.inr (.inr ⟨h,h1,h2⟩),h3,h4⟩
 · exact .inr ⟨h,h1,h2,by omega⟩
abbrev CT:=List RW×Nat×Nat×Bool
def r9 (L:List Bool) (R k a b C i:Nat) (x:CT):Prop:=x.1.length=R∧(∀r∈x.1,bC k a b C r)∧x.2.1≤4*i∧x.2.2.1≤L.length
def MB (G:Nat→Nat→CT→Int×CT):List Nat→CT→CT
 | [],x=>x
 | k::ks,x=>MB G ks (G (k%1000) (k%5) x).2
theorem Mc {G:Nat→Nat→CT→Int×CT} {x:CT}:MB G [] x=x:=rfl
theorem xH {G:Nat→Nat→CT→Int×CT} {k:Nat} {ks:List Nat} {x:CT}:MB G (k::ks) x=MB G ks (G (k%1000) (k%5) x).2:=rfl
theorem IY {L:List Bool} {R k a b C:Nat} {G:Nat→Nat→CT→Int×CT} (hG:∀(key n i:Nat) x,key≤1000→n≤4→i≤200→r9 L R k a b C i x→r9 L R k a b C (i+1) (G key n x).2):∀ks i x,i+ks.length≤200→r9 L R k a b C i x→r9 L R k a b C (i+ks.length) (MB G ks x)
 | [],i,x,_,h=>h
 | k::ks,i,x,hl,h=>by
   rw[xH,ajr,show i+(ks.length+1)=(i+1)+ks.length by omega];rw[ajr] at hl;exact IY hG ks (i+1) _ zo (hG _ _ i x zo zo zo h)
set_option maxHeartbeats 8000000 in
theorem yq {Kd kk aa bb:Int} {S:List (Int×Int×Bool)} {M D Sc R C ck ca cb:Int} {W Ky:List Nat} {L0:List Bool} (ht:(Kd.tmod 5+5)%5=3) (hS:S.length≤9223372036854775807) (hL0:L0.length≤9223372036854775807) (hW:W.length≤9223372036854775807) (hw:∀x∈W,x<18446744073709551616) (hKy:Ky.length≤9223372036854775807) (hky:∀x∈Ky,x<18446744073709551616):
 ∃(Rn Cn k a b T:Nat) (l:List RW),GW k a b∧1≤Rn∧Rn≤4∧1≤Cn∧Cn≤64∧l.length=Rn∧(∀r∈l,bC k a b Cn r)∧T≤100∧aA Tryz.prog 8 [.agg (pN Kd kk aa bb S M D Sc R C ck ca cb W Ky L0)] [] (.tup [FL 0,.lit (.bool true)]) [some (fy Rn Cn k a b l T)]:=by
 obtain ⟨k,a,b,hsm,hs⟩:=fP (kk:=kk) (aa:=aa) (bb:=bb);have hg:=bO hsm;have h0:=hs (0,0,false);dsimp only at h0;have hL1:(L0.take 300).length≤300:=by rw[List.length_take];omega
 have nt:=fY (L:=L0.take 300) zo;have hns:¬300<L0.length→L0.take 300=L0:=fun h=>ajy zo;generalize hL:L0.take 300=L at*
 have t1: -5<Kd.tmod 5:=by have:=alF Kd (b:=5) zd;omega
 have t2:Kd.tmod 5<5:=alG Kd zd;have hkw:IntKind.i64.wrap (Kd.tmod 5+5)=Kd.tmod 5+5:=wrap_i64 ⟨by omega,by omega⟩;obtain ⟨k2,a2,b2,hsm2,hs2⟩:=fP (kk:=ck) (aa:=ca) (bb:=cb);obtain ⟨m,hm⟩:∃m:Nat,R%4=(m:Int):=⟨(R%4).toNat,by omega⟩;obtain ⟨c,hc⟩:∃c:Nat,C%256%64=(c:Int):=⟨(C%256%64).toNat,by omega⟩;have hm4:m+1≤4:=by omega
 have hc64:c+1≤64:=by omega
 have pm:=zA (W:=W) hm hc hs2;have hh:=yi (C:=C) (k:=ck) (a:=ca) (b:=cb) (W:=W) hm hW hw;have hl:(kD W (m+1)).length=m+1:=by unfold kD;rw[ajl,ajo]
 have ho:∀x∈kD W (m+1),x.1<2305843009213693951∧x.2<2305843009213693951:=by
  intro x hx;obtain ⟨i,hi,rfl⟩:=akh.1 hx
  have:=alo.1 hi
  exact⟨xL zo,xL zo⟩
 have nw:=Ei (C:=c+1) (hs:=kD W (m+1)) zo zo (bO hsm2) ho;rw[hl] at nw;have fw:=rj hKy;have hsml:=lx hsm2;have hKt:(Ky.take 12).length≤12:=by rw[ajt];omega
 have hKl:=ay (Ky.take 12);generalize Ky.take 12=Kt at*
 obtain ⟨G,hG⟩:∃G:Nat→Nat→CT→Int×CT,∀(key n i:Nat) x,key≤1000→n≤4→i≤200→r9 L (m+1) k2 a2 b2 (c+1) i x→r9 L (m+1) k2 a2 b2 (c+1) (i+1) (G key n x).2∧
  aA Tryz.prog 19 [.ref 0 0 0 0,.ref 1 0 0 0,.lit (.int .u64 (key:Int)),.lit (.int .i64 (n:Int))] [some (fy (m+1) (c+1) k2 a2 b2 x.1 x.2.1),some (bt L x.2.2.1 x.2.2.2)] (.lit (.int .i64 (G key n x).1)) [some (fy (m+1) (c+1) k2 a2 b2 (G key n x).2.1 (G key n x).2.2.1),some (bt L (G key n x).2.2.2.1 (G key n x).2.2.2.2)]:=by
  have h:∀(key n:Nat) (x:CT),∃y:Int×CT,∀i,key≤1000→n≤4→i≤200→r9 L (m+1) k2 a2 b2 (c+1) i x→r9 L (m+1) k2 a2 b2 (c+1) (i+1) y.2∧
   aA Tryz.prog 19 [.ref 0 0 0 0,.ref 1 0 0 0,.lit (.int .u64 (key:Int)),.lit (.int .i64 (n:Int))] [some (fy (m+1) (c+1) k2 a2 b2 x.1 x.2.1),some (bt L x.2.2.1 x.2.2.2)] (.lit (.int .i64 y.1)) [some (fy (m+1) (c+1) k2 a2 b2 y.2.1 y.2.2.1),some (bt L y.2.2.2.1 y.2.2.2.2)]:=by
   intro key n x
   by_cases h:key≤1000∧n≤4∧r9 L (m+1) k2 a2 b2 (c+1) 200 x
   · obtain ⟨h1,h2,h3,h4,h5,h6⟩:=h
     obtain ⟨e,X',N',q,d',a1,a2,a3,a4,a5⟩:=BY (n:=n) (key:=key) (T:=x.2.1) (d:=x.2.2.2) zo hsml ⟨by omega,by omega⟩ zo zo zo h6 h3 ⟨by omega,by omega⟩ h4;exact⟨(e,X',N',q,d'),fun i _ _ _ ho=>⟨⟨a1,a2,by have:=ho.2.2.1;dsimp only;omega,a4⟩,a5⟩⟩
   · exact⟨(0,x),fun i h1 h2 h3 h4=>absurd ⟨h1,h2,h4.1,h4.2.1,by have:=h4.2.2.1;omega,h4.2.2.2⟩ h⟩
  exact⟨fun key n x=>Classical.choose (h key n x),fun key n i x=>Classical.choose_spec (h key n x) i⟩
 obtain ⟨l0,hl0⟩:∃z:List RW,z=rws (c+1) (kD W (m+1)):=⟨_,rfl⟩
 have hx0:r9 L (m+1) k2 a2 b2 (c+1) 0 (l0,0,0,false):=by
  refine⟨?_,?_,ajp _,ajH _⟩
  · rw[hl0];unfold rws;rw[ajl,hl]
  · intro r hr
    rw[hl0] at hr;obtain ⟨x,hx,rfl⟩:=akh.1 hr;refine⟨(ho x hx).1,(ho x hx).2,ajF,fun s hs=>?_⟩;rw[ala hs];exact DC
 have hfin:=IY (fun key n i x h1 h2 h3 h4=>(hG key n i x h1 h2 h3 h4).1) Kt 0 _ zo hx0;have hf2:=hfin.2.2.1;refine⟨m+1,c+1,k2,a2,b2,(MB G Kt (l0,0,0,false)).2.1,(MB G Kt (l0,0,0,false)).1,hsm2,by omega,hm4,by omega,hc64,hfin.1,hfin.2.1,by omega,?_⟩;clear hfin hf2 ho hl;rw[←hl0] at nw;clear hl0;generalize kD W (m+1)=hss at*
 refine zF J9 Tryz.call8 Tryz.func8 [.cell 2 42,.tmp 3] fun Q hQ=>?_
 by_cases h1:300<L0.length
 case' pos=>
  refine Jf hL ?_
 case' neg=>
  have hLL:=hns h1;subst hLL;refine ae ?_
 all_goals
  refine aF [] [] (nt) ?_;refine ej hkw ht ?_;refine aB (h0) rfl rfl ?_;refine ej hkw ht ?_
  by_cases h2:0<S.length
  case' pos=>
   obtain ⟨⟨s1,s2,s3⟩,ea⟩:∃x,S.getD 0 default=x:=⟨_,rfl⟩;have h3:=hs (s1,s2,s3);dsimp only at h3;generalize wi k a b (s1,s2,s3)=r at*
   generalize wi k a b (0,0,false)=r0 at*
   refine br ea ?_;refine aB (h3) rfl rfl ?_;refine br ht ?_
  case' neg=>
   generalize wi k a b (0,0,false)=r at*
   refine br ht ?_
  all_goals
   refine aB (pm) rfl rfl ?_;refine br ht ?_;refine zC hh ?_;refine zW [] [] nw ?_;refine zC fw ?_
   refine aR (X:=Nat×CT) (st:=fun z=>([(2,.ref 0 0 0 0),(5,.ref 1 0 0 0),(6,.ref 2 0 0 0),(9,.lit (.bool true)),(14,.ref 3 0 0 0),(194,.row 1 ((nl Kt).map (ie .u64))),(195,.lit (.int .i64 (Kt.length:Int))),(196,.lit (.int .i64 (z.1:Int)))],
    [some (.cells [.lit (.int .i64 0),.lit (.int .i64 0),.lit (.int .i64 0),.lit (.int .i64 0),.lit (.int .i64 0),.lit (.int .i64 0),.lit (.bool false),.lit (.pointer none),.lit (.pointer none),.lit (.pointer none),.lit (.pointer none)]),some (bt L z.2.2.2.1 z.2.2.2.2),some (.cells [.lit (.int .i64 (1+3)),.lit (.int .i64 0),.lit (.int .i64 0),.lit (.int .i64 0),.lit (.int .i64 0),.lit (.int .i64 0),.lit (.bool false),.lit (.pointer none),.lit (.pointer none),.lit (.pointer none),.lit (.pointer none)]),some (fy (m+1) (c+1) k2 a2 b2 z.2.1 z.2.2.1)]))
    (inv:=fun z=>z.1≤Kt.length∧r9 L (m+1) k2 a2 b2 (c+1) z.1 z.2∧MB G Kt (l0,0,0,false)=MB G (Kt.drop z.1) z.2) (m:=fun z=>Kt.length-z.1) (0,l0,0,0,false) [some 1,some 2,some 3,some 6] ⟨ajH _,hx0,by rw[ajE]⟩ ?_
   rintro ⟨i,X,N,p,d⟩ ⟨hi,hz,hv⟩;dsimp only at hi hz hv ⊢
   by_cases hil:i<Kt.length
   · have hdr:Kt.drop i=Kt.getD i 0::Kt.drop (i+1):=by
      rw[akm hil,ajk,ajm hil]
      rfl
     rw[hdr,xH] at hv;have hkey:(nl Kt).getD i 0=((Kt.getD i 0:Nat):Int):=bD Kt i;generalize Kt.getD i 0=key at*
     have gg:=hG (key%1000) (key%5) i (X,N,p,d) zo zo zo hz;have e2:((key:Nat):Int)%1000=((key%1000:Nat):Int):=by omega
     have e3:((key:Nat):Int)%5=((key%5:Nat):Int):=by omega
     generalize hgx:G (key%1000) (key%5) (X,N,p,d)=gx at*
     obtain ⟨e,X',N',q,d'⟩:=gx;dsimp only at gg;refine qZ hkey e2 e3 ?_;refine zW [some 3,some 1] [] gg.2 ?_;refine aM (i+1,X',N',q,d') [some 0,some 1,some 2,some 3] ⟨by omega,gg.1,hv⟩ zo
   · obtain rfl:i=Kt.length:=by omega
     rw[alA,Mc] at hv;rw[hv] at hQ;exact zE [some 3] hQ
end Go.Proofs.YtcnlmelpnflhnaaGreat
