import Derived.Test.YtcnlmelpnflhnaaGreatBo
import Derived.Test.YtcnlmelpnflhnaaGreatBg
import Derived.Test.YtcnlmelpnflhnaaGreatBn
import Derived.Test.YtcnlmelpnflhnaaGreatAe
import Derived.Test.YtcnlmelpnflhnaaGreatIn
import Derived.Test.YtcnlmelpnflhnaaGreatAf
import Derived.Test.YtcnlmelpnflhnaaGreatBk
namespace Go.Proofs.YtcnlmelpnflhnaaGreat
open Go.Eng Go.Vx
set_option linter.unusedSimpArgs false
set_option linter.unusedVariables false
set_option maxRecDepth 100000
def Dk (L:List Bool):List Bool:=List.replicate (8*((L.length+7)/8)-L.length) false
theorem zq {t:Nat} {M:List Bool} (ht:t<8) (hm:(bI t++M).length≤9600):let E:=cU (jF (bI t++M))
 (∀x∈E,x<256)∧4≤E.length∧E.length≤4096∧cU (E.take (E.length-4))=E∧4<E.length∧bitsOf (nl (MN E))=bI t++(M++Dk (bI t++M))∧E.length-4=((bI t++M).length+7)/8∧
 numOf ((bitsOf (nl (MN E))).take 4)=1∧numOf (((bitsOf (nl (MN E))).drop 4).take 3)=t∧Gk (bitsOf (nl (MN E))) (bI t++M).length=0:=by
 intro E;have hl:E.length=(jF (bI t++M)).length+4:=gl _;have hp:=fV (bI t++M);have hh:=eo t;have hap:(bI t++M).length=7+M.length:=by rw[agn,hh]
 have htk:E.take (E.length-4)=jF (bI t++M):=by rw[hl,ahX];exact zA _
 have hi:MN E=jF (bI t++M):=htk;have hb:bitsOf (nl (MN E))=bI t++(M++Dk (bI t++M)):=by rw[hi,←qD,nu,agw];rfl
 refine⟨Eh (lM _),by omega,by omega,by rw[htk],by omega,hb,by omega,?_,?_,?_⟩
 · rw[hb]
   unfold bI;rw[agw,ahy (ai _ _),aR]
 · rw[hb]
   unfold bI;rw[agw,List.drop_left' (ai _ _),ahy (ai _ _),aR,agL zo]
 · rw[hb,←agw]
   have hz:(Dk (bI t++M)).length<8:=by unfold Dk;rw[agN];omega
   unfold Gk;rw[if_neg (by rw[agn];omega),List.drop_left' rfl,if_neg];unfold Dk
   simp
theorem xy {a b c:Int}:∃M D S:Nat,WB M D S∧M≤4∧S≤3∧aC Tryz.prog 28 [.agg [.lit (.int .i64 a),.lit (.int .i64 b),.lit (.int .i64 c)]] [] (pA M D S) []:=by
 obtain ⟨M,hM⟩:∃m:Nat,1+a%4=(m:Int):=⟨(1+a%4).toNat,by omega⟩;obtain ⟨D,hD⟩:∃m:Nat,1+b%2=(m:Int):=⟨(1+b%2).toNat,by omega⟩;obtain ⟨S,hS⟩:∃m:Nat,1+c%256%3=(m:Int):=⟨(1+c%256%3).toNat,by omega⟩;have m1:bY .and .i64 a 3=a%4:=dP (k:=.i64) (j:=2) (a:=a) zd;have m2:bY .and .i64 b 1=b%2:=dP (k:=.i64) (j:=1) (a:=b) zd;have m3:bY .and .i64 c 255=c%256:=dP (k:=.i64) (j:=8) (a:=c) zd;refine⟨M,D,S,⟨by omega,by omega,by omega,by omega,by omega,by omega⟩,by omega,by omega,?_⟩;refine zF pl Tryz.call28 Tryz.func28 [.cell 2 26] fun Q hQ=>?_;refine Is m1 m2 m3 hM hD hS ?_;exact ak [] hQ
theorem Hb {M D S:Nat}:aC Tryz.prog 27 [pA M D S] [] (pA M D S) []:=by
 refine zF pl Tryz.call27 Tryz.func27 [.cell 2 81] fun Q hQ=>?_;exact zE [] hQ
theorem WB.good {M D S:Nat} (h:WB M D S):zZ M D S:=⟨⟨by have:=h.m1;omega,by have:=h.m8;omega⟩,⟨by have:=h.d1;omega,by have:=h.d2;omega⟩,by have:=h.s1;omega,by have:=h.s4;omega⟩
theorem ok0 {P:SP} (h:PB P) {n:Nat}:SOk P (List.replicate n (0,0),1,false):=⟨fun c hc=>by
 rw[aib hc];exact⟨agM _,agM _,fun _=>rfl⟩,agt _,h.s1,fun h=>by cases h⟩
theorem KD {M D S p i n:Nat} {st:SS} {d:Bool} {L:List Bool} (hw:WB M D S) (hL:L.length≤1048576) (hp:p≤L.length) (hd:d=true→p=L.length) (hX:st.1.length≤256) (hi:i<st.1.length)
 (hs:SOk (cD M D S) st) (hn:n≤1048576):∃(e:Int) (st':SS) (q:Nat) (d':Bool),SOk (cD M D S) st'∧st'.1.length=st.1.length∧q≤L.length∧(d'=true→q=L.length)∧
 aC Tryz.prog 18 [.ref 0 0 0 0,.ref 1 0 0 0,.lit (.int .i64 (i:Int)),.lit (.int .i64 (n:Int))] [some (DG M D S st),some (aX L p d)]
 (.lit (.int .i64 e)) [some (DG M D S st'),some (aX L q d')]:=by
 have h:=H8 hw hL hp hd hX hi hs hn;refine⟨_,_,_,_,?_,?_,?_,?_,h⟩<;>(unfold C6 Cu;split)
 · rename_i r q hr
   exact(ig (Fo hw.pw.toPB st i n hs) hr).1
 · exact hs
 · rename_i r q hr
   exact(ig (Ju (cD M D S) st i n) hr).1
 · rfl
 · rename_i r q hr
   exact(qx hp hr).2
 · exact agt _
 · rename_i r q hr
   intro hdd;have h1:=hd hdd;have h2:=qx hp hr;dsimp only;omega
 · exact fun _=>rfl
def Gp (L:List Bool) (m g s n:Nat) (x:SS×Nat×Bool):Prop:=SOk (cD m g s) x.1∧x.1.1.length=n∧x.2.1≤L.length∧(x.2.2=true→x.2.1=L.length)
def Lu (G:Nat→Nat→SS×Nat×Bool→Int×SS×Nat×Bool) (n:Nat):List Nat→Nat→SS×Nat×Bool→SS×Nat×Bool
 | [],_,x=>x
 | k::ks,i,x=>Lu G n ks (i+1) (G (i%n) (k%200) x).2
theorem HZ {G:Nat→Nat→SS×Nat×Bool→Int×SS×Nat×Bool} {n i:Nat} {x:SS×Nat×Bool}:Lu G n [] i x=x:=rfl
theorem ET {G:Nat→Nat→SS×Nat×Bool→Int×SS×Nat×Bool} {n k i:Nat} {ks:List Nat} {x:SS×Nat×Bool}:Lu G n (k::ks) i x=Lu G n ks (i+1) (G (i%n) (k%200) x).2:=rfl
theorem FC {L:List Bool} {m g s n:Nat} {G:Nat→Nat→SS×Nat×Bool→Int×SS×Nat×Bool} (hn:1≤n) (hG:∀i k x,i<n→k≤1000→Gp L m g s n x→Gp L m g s n (G i k x).2):∀ks i x,Gp L m g s n x→Gp L m g s n (Lu G n ks i x)
 | [],_,x,h=>h
 | k::ks,i,x,h=>FC hn hG ks (i+1) _ (hG _ _ x (agJ _ zo) zo h)
set_option maxHeartbeats 8000000 in
theorem F0 {Kd kk aa bb:Int} {S:List (Int×Int×Bool)} {M D Sc R C ck ca cb:Int} {W Ky:List Nat} {L0:List Bool} (ht:(Kd.tmod 5+5)%5=2) (hS:S.length≤9223372036854775807) (hL0:L0.length≤9223372036854775807) (hKy:Ky.length≤9223372036854775807) (hky:∀x∈Ky,x<18446744073709551616):
 ∃(m g s n:Nat) (st:SS),WB m g s∧m≤4∧s≤3∧1≤n∧n≤5∧st.1.length=n∧SOk (cD m g s) st∧aC Tryz.prog 8 [.agg (HH Kd kk aa bb S M D Sc R C ck ca cb W Ky L0)] [] (.tup [itS 0,.lit (.bool true)]) [some (DG m g s st)]:=by
 obtain ⟨k,a,b,hsm,hs⟩:=fq (kk:=kk) (aa:=aa) (bb:=bb);have hg:=eh hsm;have h0:=hs (0,0,false);dsimp only at h0;have hL1:(L0.take 300).length≤300:=by rw[List.length_take];omega
 have nt:=mP (L:=L0.take 300) zo;have hns:¬300<L0.length→L0.take 300=L0:=fun h=>agB zo;generalize hL:L0.take 300=L at*
 have t1: -5<Kd.tmod 5:=by have:=aiD Kd (b:=5) zd;omega
 have t2:Kd.tmod 5<5:=aiE Kd zd;have hkw:IntKind.i64.wrap (Kd.tmod 5+5)=Kd.tmod 5+5:=wrap_i64 ⟨by omega,by omega⟩;obtain ⟨m,g,s,hwb,hm4,hs3,sm⟩:=xy (a:=M) (b:=D) (c:=Sc);have ow:=Hb (M:=m) (D:=g) (S:=s);obtain ⟨n,hn⟩:∃n,1+S.length%5=n:=⟨_,rfl⟩;have nw:=HC (n:=n) hwb.good zo;have fw:=pX hKy;have hS6:(1:Int)+(S.length:Int)%5=(n:Int):=by omega
 have hKt:(Ky.take 12).length≤12:=by rw[agz];omega
 have hKl:=aD (Ky.take 12);generalize Ky.take 12=Kt at*
 obtain ⟨G,hG⟩:∃G:Nat→Nat→SS×Nat×Bool→Int×SS×Nat×Bool,∀(i k:Nat) x,i<n→k≤1000→Gp L m g s n x→Gp L m g s n (G i k x).2∧
  aC Tryz.prog 18 [.ref 0 0 0 0,.ref 1 0 0 0,.lit (.int .i64 (i:Int)),.lit (.int .i64 (k:Int))] [some (DG m g s x.1),some (aX L x.2.1 x.2.2)] (.lit (.int .i64 (G i k x).1)) [some (DG m g s (G i k x).2.1),some (aX L (G i k x).2.2.1 (G i k x).2.2.2)]:=by
  have h:∀(i k:Nat) (x:SS×Nat×Bool),∃y:Int×SS×Nat×Bool,i<n→k≤1000→Gp L m g s n x→Gp L m g s n y.2∧
   aC Tryz.prog 18 [.ref 0 0 0 0,.ref 1 0 0 0,.lit (.int .i64 (i:Int)),.lit (.int .i64 (k:Int))] [some (DG m g s x.1),some (aX L x.2.1 x.2.2)] (.lit (.int .i64 y.1)) [some (DG m g s y.2.1),some (aX L y.2.2.1 y.2.2.2)]:=by
   intro i k x
   by_cases h:i<n∧k≤1000∧Gp L m g s n x
   · obtain ⟨h1,h2,h3,h4,h5,h6⟩:=h
     obtain ⟨e,st',q,d',a1,a2,a3,a4,a5⟩:=KD hwb zo h5 h6 zo zo h3 (n:=k) (i:=i) zo;exact⟨(e,st',q,d'),fun _ _ _=>⟨⟨a1,a2.trans h4,a3,a4⟩,a5⟩⟩
   · exact⟨(0,x),fun h1 h2 h3=>absurd ⟨h1,h2,h3⟩ h⟩
  exact⟨fun i k x=>Classical.choose (h i k x),fun i k x=>Classical.choose_spec (h i k x)⟩
 obtain ⟨z0,hz⟩:∃z:List Cell,z=List.replicate n (0,0):=⟨_,rfl⟩;have hzl:z0.length=n:=by rw[hz,agN]
 have hx0:Gp L m g s n ((z0,1,false),0,false):=by rw[hz];exact⟨ok0 hwb.pw.toPB,agN,agM _,fun h=>by cases h⟩
 have hfin:=FC zo (fun i k x h1 h2 h3=>(hG i k x h1 h2 h3).1) Kt 0 _ hx0;refine⟨m,g,s,n,(Lu G n Kt 0 ((z0,1,false),0,false)).1,hwb,hm4,hs3,by omega,by omega,hfin.2.1,hfin.1,?_⟩;have hn5:1≤n∧n≤5:=by omega
 clear hfin hn;have nw':aC Tryz.prog 26 [pA m g s,.lit (.int .i64 (n:Int))] [] (.tup [.ref 0 0 0 0,.lit (.int .i64 0)]) [some (LB m g s 1 n 1 false),some (.row 2 (z0.map cV))]:=by rw[hz];exact nw
 clear hz nw;subst hzl;refine zF HR Tryz.call8 Tryz.func8 [.cell 2 42,.tmp 3] fun Q hQ=>?_
 by_cases h1:300<L0.length
 case' pos=>
  refine De hL ?_
 case' neg=>
  have hLL:=hns h1;subst hLL;refine ae ?_
 all_goals
  refine aV [] [] (nt) ?_;refine dK hkw ht ?_;refine az (h0) rfl rfl ?_;refine dK hkw ht ?_
  by_cases h2:0<S.length
  case' pos=>
   obtain ⟨⟨s1,s2,s3⟩,ea⟩:∃x,S.getD 0 default=x:=⟨_,rfl⟩;have h3:=hs (s1,s2,s3);dsimp only at h3;generalize wi k a b (s1,s2,s3)=r at*
   generalize wi k a b (0,0,false)=r0 at*
   refine bh ea ?_;refine az (h3) rfl rfl ?_;refine bh ht ?_
  case' neg=>
   generalize wi k a b (0,0,false)=r at*
   refine bh ht ?_
  all_goals
   refine zC sm ?_;refine az (ow) rfl rfl ?_;refine bh hS6 ?_;refine dB (nw') ?_;refine ae ?_;refine zC fw ?_
   refine aU (X:=Nat×SS×Nat×Bool) (st:=fun z=>([(2,.ref 0 0 0 0),(5,.ref 1 0 0 0),(6,.ref 2 0 0 0),(9,.lit (.bool true)),(10,.ref 3 0 0 0),(153,.row 1 ((nl Kt).map (ie .u64))),(154,.lit (.int .i64 (Kt.length:Int))),(155,.lit (.int .i64 (z.1:Int)))],
    [some (.cells [.lit (.int .i64 0),.lit (.int .i64 0),.lit (.int .i64 0),.lit (.int .i64 0),.lit (.int .i64 0),.lit (.int .i64 0),.lit (.bool false),.lit (.pointer none),.lit (.pointer none),.lit (.pointer none),.lit (.pointer none)]),some (aX L z.2.2.1 z.2.2.2),some (.cells [.lit (.int .i64 (1+2)),.lit (.int .i64 0),.lit (.int .i64 0),.lit (.int .i64 0),.lit (.int .i64 0),.lit (.int .i64 0),.lit (.bool false),.lit (.pointer none),.lit (.pointer none),.lit (.pointer none),.lit (.pointer none)]),some (DG m g s z.2.1)]))
    (inv:=fun z=>z.1≤Kt.length∧Gp L m g s z0.length z.2∧Lu G z0.length Kt 0 ((z0,1,false),0,false)=Lu G z0.length (Kt.drop z.1) z.1 z.2) (m:=fun z=>Kt.length-z.1) (0,(z0,1,false),0,false) [some 1,some 2,some 3,some 6] ⟨agM _,hx0,by rw[agO]⟩ ?_
   rintro ⟨i,st,p,d⟩ ⟨hi,hz,hv⟩;dsimp only at hi hz hv ⊢
   by_cases hil:i<Kt.length
   · have hdr:Kt.drop i=Kt.getD i 0::Kt.drop (i+1):=by
      rw[ahn hil,ago,agp hil]
      rfl
     rw[hdr] at hv;have hkey:(nl Kt).getD i 0=((Kt.getD i 0:Nat):Int):=bg Kt i;generalize Kt.getD i 0=key at*
     have gg:=hG (i%z0.length) (key%200) (st,p,d) (agJ _ zo) zo hz;have y2:st.1.length=z0.length:=hz.2.1;have sl:=Ie (M:=m) (D:=g) (S:=s) (st:=st) zo;rw[y2] at sl;have e1:((i:Nat):Int).tmod (z0.length:Int)=((i%z0.length:Nat):Int):=by rw[ah8 zo];simp
     have e1':((i:Nat):Int)%(z0.length:Int)=((i%z0.length:Nat):Int):=by simp
     have e2:((key:Nat):Int)%200=((key%200:Nat):Int):=by omega
     rw[ET] at hv;generalize hgx:G (i%z0.length) (key%200) (st,p,d)=gx at*
     obtain ⟨e,st',q,d'⟩:=gx;dsimp only at gg;refine bh hkey ?_;refine eD (sl) ?_;refine HU hkey e1 e1' e2 ?_;refine zW [some 3,some 1] [] gg.2 ?_;refine aO (i+1,st',q,d') [some 0,some 1,some 2,some 3] ⟨by omega,gg.1,hv⟩ zo
   · obtain rfl:i=Kt.length:=by omega
     rw[aix] at hv;rw[HZ] at hv;rw[hv] at hQ;exact zE [some 3] hQ
theorem H5 {R C k a b T n p key:Nat} {l:List RW} {L:List Bool} {d:Bool} (hL:L.length≤1048576) (hs:ja k a b) (hC:1≤C∧C≤64) (hn:n≤100) (hT:T≤1000) (hkey:key<2305843009213693951) (hp:p≤L.length) (hl:l.length=R) (hR:1≤R∧R≤4) (hw:∀r∈l,br k a b C r):
 ∃(e:Int) (l':List RW) (T' q:Nat) (d':Bool),l'.length=R∧(∀r∈l',br k a b C r)∧T'≤T+n∧q≤L.length∧
 aC Tryz.prog 19 [.ref 0 0 0 0,.ref 1 0 0 0,.lit (.int .u64 (key:Int)),.lit (.int .i64 (n:Int))] [some (jv R C k a b l T),some (aX L p d)] (.lit (.int .i64 e)) [some (jv R C k a b l' T'),some (aX L q d')]:=by
 subst hl
 match l,hR,hw with
 | [],h,_=>exact absurd h.1 (by simp)
 | [r0],_,hw=>exact EC hL hs hC hn hT hkey hp (hw _ (by simp))
 | [r0,r1],_,hw=>exact GM hL hs hC hn hT hkey hp (hw _ (by simp)) (hw _ (by simp))
 | [r0,r1,r2],_,hw=>exact F9 hL hs hC hn hT hkey hp (hw _ (by simp)) (hw _ (by simp)) (hw _ (by simp))
 | [r0,r1,r2,r3],_,hw=>exact Gs hL hs hC hn hT hkey hp (hw _ (by simp)) (hw _ (by simp)) (hw _ (by simp)) (hw _ (by simp))
 | _::_::_::_::_::_,h,_=>exact absurd h.2 (by simp)
end Go.Proofs.YtcnlmelpnflhnaaGreat
