import Derived.Test.YtcnlmelpnflhnaaGreatD2
import Derived.Test.YtcnlmelpnflhnaaGreatD1
namespace Go.Proofs.YtcnlmelpnflhnaaGreat
open Go.Eng Go.Vx
set_option linter.unusedSimpArgs false
set_option linter.unusedVariables false
set_option maxRecDepth 100000
theorem H5 {B n V:Nat} (hB:0<B) (hV:V<B^(n+1)):V/B^n<B:=by
 rw[akR (akN hB),akC,←akM];exact hV
theorem N9 {B n V D N c:Nat} (hB:0<B) (hV:V<B^(n+1)) (h:N+B^n*c=V%B^n+D):N+B^n*((V/B^n+c)%B)+B^(n+1)*((V/B^n+c)/B)=V+D:=by
 have h1:=akO V (B^n);have h2:=akO (V/B^n+c) B;generalize V/B^n=w at*
 generalize V%B^n=x at*
 generalize (w+c)%B=a at*
 generalize (w+c)/B=b at*
 have h3:=congrArg (B^n* ·) h2;simp only[akU,←akS] at h3;rw[akM];generalize B^n*B*b=y1 at*
 generalize B^n*a=y2 at*
 generalize B^n*w=y3 at*
 generalize B^n*c=y4 at*
 omega
theorem Nu {P N T:List Nat} {a:Nat}:(jc P (N++[a]) T).getD (P.length+N.length) 0=a:=by
 unfold jc;rw[akf,akq zo,Nat.add_sub_cancel_left,akp (by simp),akq (akk _),alw]
 rfl
theorem D9 {B n U D V g Nv a e:Nat} (hB:0<B) (hD0:0<D) (hD:D<B^n) (hN:Nv<B^n) (ha:a<B) (hg1:U/D<g) (hg2:g<B) (hV:V+g*D=U+B^(n+1)) (h:Nv+B^n*a+B^(n+1)*e=V+D):
 (a=0∧g-1=U/D∧Nv+B^n*a=U%D)∨(a≠0∧U/D<g-1∧(Nv+B^n*a)+(g-1)*D=U+B^(n+1)):=by
 have hP:0<B^n:=akN hB;have hback:=fun h2=>Ht (B:=B) (n:=n) (U:=U) (V:=Nv+B^n*a) (g:=g-1) hB hD zo h2;have hXe:B^n*B=B^(n+1):=(akM ..).symm;generalize B^(n+1)=X at*
 generalize B^n=Y at*
 have hX:Nv+Y*a<X:=by
  have:=alg Y (show a+1≤B from ha)
  rw[hXe,akU,al9] at this;omega
 have hle:Y≤X:=by rw[←hXe];exact Nat.le_mul_of_pos_right _ hB
 by_cases hl:g=U/D+1
 · left
   have h1:=Ej (D:=D) rfl hV hl;have hm:=akD U hD0
   have he:e=1:=by
    rcases alY e 1 with h0 | h0
    · obtain rfl:e=0:=by omega
      rw[amB] at h;omega
    · rcases alY 1 e with h2 | h2
      · have:=alg X (show 2≤e from h2)
        omega
      · omega
   subst he;have hv:Nv+Y*a=U%D:=by omega
   refine⟨?_,Nat.sub_eq_of_eq_add hl,hv⟩;rcases akQ a with h0 | h0
   · exact h0
   · have:=alg Y (show 1≤a from h0)
     omega
 · right
   have hl2:U/D+1<g:=by omega
   obtain ⟨h1,h2⟩:=El hD0 hl2 hV
   have he:e=0:=by
    rcases akQ e with h0 | h0
    · exact h0
    · have:=alg X (show 1≤e from h0)
      omega
   subst he;have hv:Nv+Y*a=V+D:=by omega
   rw[←hv] at h2;have h3:=hback h2;refine⟨?_,by omega,h2⟩;rintro rfl;omega
set_option maxHeartbeats 4000000 in
theorem Kk {P S dl:List Nat} {U n:Nat} (hn:dl.length=n) (hn0:0<n) (hdl:∀d∈dl,d<18446744073709551616) (hS:∀d∈S,d<18446744073709551616) (htop:dl.getD (n-1) 0≠0) (hU:U<aE 18446744073709551616 dl*18446744073709551616) (hsz:P.length+(n+1)+S.length≤4000000):
 aA Tryz.prog 204 [.sl 0 1 P.length (n+1),.row 1 ((nl dl).map (ie .u64))] [some (.row 1 ((nl (P++(fw 18446744073709551616 (n+1) U++S))).map (ie .u64)))]
 (.lit (.int .u64 ((U/aE 18446744073709551616 dl:Nat):Int))) [some (.row 1 ((nl (P++(fw 18446744073709551616 (n+1) (U%aE 18446744073709551616 dl)++S))).map (ie .u64)))]:=by
 have hDlt:aE 18446744073709551616 dl<18446744073709551616^n:=by have:=gj hdl;rwa [hn] at this
 have hdf:=ym (B:=18446744073709551616) hdl hn rfl;have hdw:=iZ (B:=18446744073709551616) (k:=n) (i:=n-1) (aE 18446744073709551616 dl) zo;rw[hdf] at hdw;have hnd:=av dl;have htk:=fun D:Nat=>ON (P:=P) (S:=S) (dl:=dl) (U:=U) (t:=D) hn hdl hS;generalize hD:aE 18446744073709551616 dl=D at*
 have hU1:U<18446744073709551616^(n+1):=by
  rw[akM];exact akT hU (akI _ (am4 hDlt))
 obtain ⟨t1,t2,t3⟩:=ahr (B:=18446744073709551616) zd hn0 hU1 hDlt;rw[t2] at hdw;rw[hdw] at htop;have htp:0<D/18446744073709551616^(n-1):=amZ htop;have hP0:0<18446744073709551616^(n-1):=akN zd
 have hD0:0<D:=by
  rcases akQ D with h | h
  · rw[h,Nat.zero_div] at htp;omega
  · exact h
 have hge:=Ic (U:=U) (D:=D) hP0 htp;have hQlt:U/D<18446744073709551616:=by rw[akR hD0,akC];exact hU
 have hTl:(fw 18446744073709551616 (n+1) U++S).length=n+1+S.length:=by rw[ake,cJ]
 have hu1:(P++(fw 18446744073709551616 (n+1) U++S)).getD (P.length+n) 0=U/18446744073709551616^n:=by
  have h1:=nN (P:=P) (N:=[]) (T:=fw 18446744073709551616 (n+1) U++S) (i:=n) (akF _) zo;rw[nD] at h1;rw[h1,←t1,←iZ (k:=n+1) U zo,akf,akp (by rw[cJ];omega),←akf]
 have hu2:(P++(fw 18446744073709551616 (n+1) U++S)).getD (P.length+(n-1)) 0=U/18446744073709551616^(n-1)%18446744073709551616:=by
  have h1:=nN (P:=P) (N:=[]) (T:=fw 18446744073709551616 (n+1) U++S) (i:=n-1) (akF _) zo;rw[nD] at h1;rw[h1,←iZ (k:=n+1) U zo,akf,akp (by rw[cJ];omega),←akf]
 have hnT:=av (P++(fw 18446744073709551616 (n+1) U++S));rw[ake,hTl] at hnT;have g1:=(bt (P++(fw 18446744073709551616 (n+1) U++S)) (P.length+n)).trans (by rw[hu1]);have g2:=(bt (P++(fw 18446744073709551616 (n+1) U++S)) (P.length+(n-1))).trans (by rw[hu2]);have g3:=(bt dl (n-1)).trans (by rw[hdw]);have hlo:U/18446744073709551616^(n-1)%18446744073709551616<18446744073709551616:=akD _ zd;have hyl:D/18446744073709551616^(n-1)<18446744073709551616:=by rw[←t2];exact akD _ zd
 have hul:U/18446744073709551616^n<18446744073709551616:=by rw[←t1];exact akD _ zd
 have hdv:=fun h=>xn (hi:=U/18446744073709551616^n) (lo:=U/18446744073709551616^(n-1)%18446744073709551616) (y:=D/18446744073709551616^(n-1)) h hlo hyl;rw[t3] at hdv
 have hgl:U/18446744073709551616^n<D/18446744073709551616^(n-1)→U/18446744073709551616^(n-1)/(D/18446744073709551616^(n-1))<18446744073709551616:=fun h=>by
  rw[akR htp]
  have:U/18446744073709551616^n*18446744073709551616+U/18446744073709551616^(n-1)%18446744073709551616<D/18446744073709551616^(n-1)*18446744073709551616:=by
   generalize U/18446744073709551616^n=x1 at*
   generalize U/18446744073709551616^(n-1)%18446744073709551616=x2 at*
   generalize D/18446744073709551616^(n-1)=x3 at*
   omega
  rw[t3,akC] at this;exact this
 have hidx:((n:Int)-1).toNat=n-1:=by omega
 have hnd':(nl dl).length=n:=by omega
 refine zF Jz Tryz.call204 Tryz.func204 [.tmp 4] fun Q hQ=>?_;refine Oc hnd' hidx g1 g2 g3 ?_
 by_cases hlt:U/18446744073709551616^n<D/18446744073709551616^(n-1)
 case' pos=>
  have hg0:=hgl hlt;have hdv:=hdv hlt;generalize U/18446744073709551616^(n-1)/(D/18446744073709551616^(n-1))=g0 at*
  have hcd:decide (((U/18446744073709551616^n:Nat):Int)<((D/18446744073709551616^(n-1):Nat):Int))=true:=aks zo;refine Mi hcd hnd' hidx g1 g2 g3 ?_;refine aC (hdv) rfl rfl ?_;refine Mi hcd hnd' hidx g1 g2 g3 ?_
 case' neg=>
  have hcd:decide (((U/18446744073709551616^n:Nat):Int)<((D/18446744073709551616^(n-1):Nat):Int))=false:=akg zo;refine Mi hcd hnd' hidx g1 g2 g3 ?_;obtain ⟨g0,hg0e⟩:∃g0:Nat,g0=18446744073709551615:=⟨_,rfl⟩;have hg0i:(18446744073709551615:Int)=(g0:Int):=by omega
  rw[hg0i];have hg0:g0<18446744073709551616:=by omega
  have hge:U/D≤g0:=by omega
 all_goals
  have ht:=htk g0 hU1 hg0 hsz
  have hst:∃b V,(if U<g0*D then 1 else 0)=b∧U+18446744073709551616^(n+1)*(if U<g0*D then 1 else 0)-g0*D=V∧V<18446744073709551616^(n+1)∧((b=0∧g0=U/D∧V=U%D)∨(b=1∧U/D<g0∧g0<18446744073709551616∧V+g0*D=U+18446744073709551616^(n+1))):=by
   have hdm:=akO U D;have hml:=akD U hD0
   by_cases hb:U<g0*D
   · refine⟨1,_,if_pos hb,rfl,?_⟩
     rw[if_pos hb,al9];have hq:U/D<g0:=by rw[akR hD0];exact hb
     have hle:g0*D≤18446744073709551616^(n+1):=by
      rw[akM,akC];exact akH (am4 hDlt) (am4 hg0)
     generalize 18446744073709551616^(n+1)=X at*
     generalize g0*D=gd at*
     exact⟨by omega,.inr ⟨rfl,hq,hg0,by omega⟩⟩
   · refine⟨0,_,if_neg hb,rfl,?_⟩
     rw[if_neg hb,amB,alv];have hq:g0≤U/D:=by rw[alL hD0];omega
     have hqe:g0=U/D:=by omega
     have hv:U-g0*D=U%D:=by rw[hqe,akC];omega
     rw[hv];exact⟨ak4 (Nat.mod_le _ _) hU1,.inl ⟨rfl,hqe,rfl⟩⟩
  obtain ⟨b,V0,hb1,hb2,hb3,hb4⟩:=hst;rw[hb2,hb1] at ht;refine aF [some 0] [] (ht) ?_;refine bg hnd' ?_
  refine aU (X:=Nat×Nat×Nat) (st:=fun z=>([(0,.sl 0 1 P.length (n+1)),(1,.row 1 ((nl dl).map (ie .u64))),(5,.I n),(6,.lit (.int .u64 z.1)),(7,.I z.2.2)],[some (.row 1 ((nl (P++(fw 18446744073709551616 (n+1) z.2.1++S))).map (ie .u64)))]))
   (inv:=fun z=>z.2.1<18446744073709551616^(n+1)∧((z.2.2=0∧z.1=U/D∧z.2.1=U%D)∨(z.2.2=1∧U/D<z.1∧z.1<18446744073709551616∧z.2.1+z.1*D=U+18446744073709551616^(n+1)))) (m:=fun z=>z.1) (g0,V0,b) [some 0] ⟨hb3,hb4⟩ ?_
  clear hb1 hb2 hb3 hb4 ht htk g1 g2 g3 hu1 hu2 hdv hgl hcd hnT hTl;rintro ⟨g,x0,tm⟩ ⟨hV1,hV2⟩;simp only at hV1 hV2 ⊢;rcases hV2 with⟨rfl,rfl,rfl⟩ | ⟨rfl,hg1,hg2,hV⟩
  · refine ae ?_
    exact ai [some 0] hQ
  · have hTl:=show(fw 18446744073709551616 (n+1) x0++S).length=n+1+S.length by rw[ake,cJ]
    have hTw:=G7 (U:=x0) (k:=n+1) zd hS
    have hTv:aE 18446744073709551616 ((fw 18446744073709551616 (n+1) x0++S).take n)=x0%18446744073709551616^n:=by
     rw[jW n 1,akl,alo (cJ n x0),kL zd]
    have hTn:(fw 18446744073709551616 (n+1) x0++S).getD n 0=x0/18446744073709551616^n:=by
     rw[akf,akp (by rw[cJ];omega),←akf,iZ (k:=n+1) (i:=n) x0 zo,akG (H5 zd hV1)]
    have hfull:=fun N=>yV (P:=P) (N:=N) (S:=S) (B:=18446744073709551616) (k:=n+1) (U:=x0);generalize hT:fw 18446744073709551616 (n+1) x0++S=T at*
    have hgp:0<g:=ak4 (akF _) hg1;have hgm:(g:Int)-1=((g-1:Nat):Int):=by omega
    have hpT:=av (P++T);rw[ake] at hpT;refine eo hnd' hgm ?_
    refine aW (X:=List Nat×Nat) (st:=fun z=>([(0,.sl 0 1 P.length (n+1)),(1,.row 1 ((nl dl).map (ie .u64))),(5,.I n),(6,.lit (.int .u64 ((g-1:Nat):Int))),(7,.I 1),(8,.lit (.int .u64 z.2)),(51,.row 1 ((nl dl).map (ie .u64))),(52,.I n),(53,.I z.1.length)],[some (.row 1 ((nl (jc P z.1 T)).map (ie .u64)))]))
     (inv:=fun z=>z.1.length≤n∧(∀d∈z.1,d<18446744073709551616)∧z.2≤1∧aE 18446744073709551616 z.1+18446744073709551616^z.1.length*z.2=aE 18446744073709551616 (T.take z.1.length)+aE 18446744073709551616 (dl.take z.1.length))
     (m:=fun z=>n-z.1.length) ([],0) [some 0] rfl (by simp only[nD];exact zM) zM ⟨by simp,by simp,by simp,by simp[aE]⟩ ?_
    rintro ⟨N,c⟩ ⟨hi,hN,hc,hv⟩;simp only at hi hN hc hv ⊢;have hprl:=ox (P:=P) (N:=N) (T:=T) zo;have hnp:=av (jc P N T);have hgu:=fun(i:Nat) (h:N.length≤i) (h2:i<T.length)=>(bt (jc P N T) (P.length+i)).trans (by rw[nN h h2]);have hset:∀x:Nat,(nl (jc P N T)).set (P.length+N.length) (x:Int)=nl (jc P (N++[x]) T):=fun x=>by rw[fJ,v9 zo]
    have hxu:=cN zd hTw N.length
    by_cases h1:N.length<n
    · have hgd:=bt dl N.length
      have hxd:=cN zd hdl N.length;have hgu:=hgu N.length (akk _) zo;have hst:=xN hv;generalize T.getD N.length 0=u at*
      generalize dl.getD N.length 0=y at*
      have hcs:u+y+c=c+u+y:=by omega
      have hinv:(∀d∈N++[(c+u+y)%18446744073709551616],d<18446744073709551616)∧(c+u+y)/18446744073709551616≤1:=⟨kq hN (akD _ zd),by omega⟩;have hls:(N++[(c+u+y)%18446744073709551616]).length=N.length+1:=by simp
      refine eo hgd hgu ?_;refine fZ Tryz.func205 zk zk zk zk zo ?_;rw[hcs];refine bg hset ?_;refine aI (N++[(c+u+y)%18446744073709551616],(c+u+y)/18446744073709551616) [some 0] rfl (by rw[hls];exact zM) (by exact zM) ⟨by simp only;omega,hinv.1,hinv.2,by simp only[hls];exact hst⟩ (by simp only;omega)
    · have hNe:N.length=n:=by omega
      have hgu:=hgu N.length (akk _) zo;rw[hNe] at hgu hset hv hxu;rw[hTn] at hgu hxu;have hdft:dl.take n=dl:=aku zo;rw[hTv,hdft,hD] at hv;have hat:=N9 (B:=18446744073709551616) zd hV1 hv;have hNl:=gj (B:=18446744073709551616) hN;rw[hNe] at hNl;have hal:=akD (x0/18446744073709551616^n+c) (show 0<18446744073709551616 by decide)
      have hw:IntKind.u64.wrap (((x0/18446744073709551616^n:Nat):Int)+(c:Int))=(((x0/18446744073709551616^n+c)%18446744073709551616:Nat):Int):=by
       rw[jq];omega
      have hbs:=D9 (B:=18446744073709551616) zd hD0 hDlt hNl hal hg1 hg2 hV hat;obtain ⟨a,ha⟩:∃a,(x0/18446744073709551616^n+c)%18446744073709551616=a:=⟨_,rfl⟩;rw[ha] at hw hbs hal;have hx1:aE 18446744073709551616 (N++[a])=aE 18446744073709551616 N+18446744073709551616^n*a:=by rw[eu,hNe]
      rw[←hx1] at hbs;have hfw:=ym (B:=18446744073709551616) (l:=N++[a]) (k:=n+1) (kq hN hal) (by simp;omega) rfl;have hvl:=gj (B:=18446744073709551616) (l:=N++[a]) (kq hN hal);rw[show(N++[a]).length=n+1 by simp;omega] at hvl;have hend:jc P (N++[a]) T=P++(fw 18446744073709551616 (n+1) (aE 18446744073709551616 (N++[a]))++S):=by rw[hfw];exact hfull _ (by simp;omega)
      have htopa:(nl (jc P (N++[a]) T)).getD (P.length+n) 0=(a:Int):=by rw[bt,←hNe,Nu]
      have hprl2:=ox (P:=P) (N:=N++[a]) (T:=T) (by simp;omega);have hnp2:=av (jc P (N++[a]) T);generalize aE 18446744073709551616 (N++[a])=x1 at*
      rcases hbs with⟨ha0,hb1,hb2⟩ | ⟨ha0,hb1,hb2⟩
      · have hda:decide ((a:Int)=0)=true:=aks zo
        refine aap hgu hw hset htopa hda (show(1:Int)+1=2 from rfl) (show(2:Int)-1=1 from rfl) ?_;refine aI (g-1,x1,0) [some 0] rfl (by simp only[hend];exact zM) zM ⟨hvl,.inl ⟨rfl,hb1,hb2⟩⟩ (by simp only;omega)
      · have hda:decide ((a:Int)=0)=false:=akg zo
        have hwc:((x0/18446744073709551616^n:Nat):Int)+(c:Int)=(a:Int):=by omega
        refine Sr hgu hw hwc hset htopa hda (show(1:Int)+1=2 from rfl) (show(2:Int)-1=1 from rfl) ?_;refine aI (g-1,x1,1) [some 0] rfl (by simp only[hend];exact zM) zM ⟨hvl,.inr ⟨rfl,hb1,by simp only;omega,hb2⟩⟩ (by simp only;omega)
end Go.Proofs.YtcnlmelpnflhnaaGreat
