import Derived.Test.YtcnlmelpnflhnaaGreatHa
import Derived.Test.YtcnlmelpnflhnaaGreatFa
import Derived.Test.YtcnlmelpnflhnaaGreatE8
import Derived.Test.YtcnlmelpnflhnaaGreatRf
import Derived.Test.YtcnlmelpnflhnaaGreatIc
namespace Go.Proofs.YtcnlmelpnflhnaaGreat
open Go.Eng
set_option linter.unusedSimpArgs false
set_option linter.unusedVariables false
def dH:Nat→(Nat→Rat)→Rat
 | 0,_=>0
 | n+1,φ=>dH n φ+φ n
theorem fG {φ ψ:Nat→Rat}:∀{n:Nat},(∀x,x<n→φ x=ψ x)→dH n φ=dH n ψ
 | 0,_=>rfl
 | n+1,h=>by
   unfold dH;rw[fG (n:=n) (fun x hx=>h x zo),h n zo]
theorem rT (m:Nat) (φ:Nat→Rat):∀n,dH (m+n) φ=dH m φ+dH n (fun x=>φ (m+x))
 | 0=>by unfold dH;grind
 | n+1=>by
   have:=rT m φ n
   show dH (m+n) φ+φ (m+n)=dH m φ+(dH n (fun x=>φ (m+x))+φ (m+n));rw[this];grind
theorem Cj (n:Nat):vn (n+1)=vn n+1:=by unfold vn;simp
theorem Cu:vn 0=0:=rfl
theorem HZ {n:Nat} (h:0<n):vn n≠0:=by
 unfold vn;intro e
 have:(((n:Nat):Int):Rat)=((0:Int):Rat):=e
 rw[Rat.intCast_inj] at this;omega
theorem Ex (n:Nat):0≤vn n:=by
 have:((0:Int):Rat)≤(((n:Nat):Int):Rat):=Rat.intCast_le_intCast.2 zo
 exact this
theorem rV (c:Rat):∀n,dH n (fun _=>c)=c*vn n
 | 0=>by unfold dH;rw[Cu];grind
 | n+1=>by
   unfold dH;rw[rV c n,Cj];grind
theorem pv {φ:Nat→Rat} {B:Rat}:∀{n:Nat},(∀x,x<n→0≤φ x∧φ x≤B)→0≤dH n φ∧dH n φ≤B*vn n
 | 0,_=>by unfold dH;rw[Cu];constructor<;>grind
 | n+1,h=>by
   unfold dH;obtain ⟨a,b⟩:=pv (n:=n) (fun x hx=>h x zo);obtain ⟨c,d⟩:=h n zo;rw[Cj];constructor<;>grind
variable {α:Type}
def ic:Nat→Nat→(Nat→DT α)→DT α
 | 0,a,k=>k a
 | w+1,a,k=>.ask (ic w (2*a) k) (ic w (2*a+1) k)
def rQ (n w:Nat):Nat→(Nat→DT Rat)→DT Rat
 | 0,k=>.ret (dH n (fun a=>(k a).mean id)/vn n)
 | f+1,k=>ic w 0 fun x=>if x<n then k x else rQ n w f k
theorem mF {v:α→Rat} {k:Nat→DT α}:∀{w a:Nat},(ic w a k).mean v*vn (2^w)=dH (2^w) (fun x=>(k (a*2^w+x)).mean v)
 | 0,a=>by
   show(k a).mean v*vn 1=0+(k (a*1+0)).mean v
   rw[show vn 1=1 from rfl,ak6,aky]
   grind
 | w+1,a=>by
   have h1:=mF (v:=v) (k:=k) (w:=w) (a:=2*a);have h2:=mF (v:=v) (k:=k) (w:=w) (a:=2*a+1);have e:2^(w+1)=2^w+2^w:=by rw[ajS];omega
   show((ic w (2*a) k).mean v+(ic w (2*a+1) k).mean v)/2*vn (2^(w+1))=_
   rw[e,rT,wu]
   have e1:dH (2^w) (fun x=>(k (a*(2^w+2^w)+x)).mean v)=(ic w (2*a) k).mean v*vn (2^w):=by
    rw[h1];refine fG fun x _=>?_;rw[show a*(2^w+2^w)=2*a*2^w by rw[aj0,ajZ,Nat.two_mul]]
   have e2:dH (2^w) (fun x=>(k (a*(2^w+2^w)+(2^w+x))).mean v)=(ic w (2*a+1) k).mean v*vn (2^w):=by
    rw[h2];refine fG fun x _=>?_;rw[show a*(2^w+2^w)+(2^w+x)=(2*a+1)*2^w+x by rw[aj0,ajG,ajZ,Nat.two_mul,akH];omega]
   rw[e1,e2]
   grind
theorem DI {n w:Nat} (hn:0<n) (hw:n≤2^w) (k:Nat→DT Rat):∀f,(rQ n w f k).mean id*vn n=dH n (fun a=>(k a).mean id)
 | 0=>by
   have:=HZ hn
   show dH n (fun a=>(k a).mean id)/vn n*vn n=_;generalize dH n (fun a=>(k a).mean id)=s
   grind
 | f+1=>by
   have ih:=DI hn hw k f;have h:=mF (v:=id) (k:=fun x=>if x<n then k x else rQ n w f k) (w:=w) (a:=0);have h0:0<2^w:=by omega
   obtain ⟨d,hd⟩:∃d,2^w=n+d:=⟨2^w-n,by omega⟩;have hne:=HZ h0
   show(ic w 0 (fun x=>if x<n then k x else rQ n w f k)).mean id*vn n=_
   rw[hd,rT] at h;rw[hd] at hne
   have e1:dH n (fun x=>(if 0*(n+d)+x<n then k (0*(n+d)+x) else rQ n w f k).mean id)=dH n (fun a=>(k a).mean id):=by
    refine fG fun x hx=>?_;rw[akK,ajU,if_pos hx]
   have e2:dH d (fun x=>(if 0*(n+d)+(n+x)<n then k (0*(n+d)+(n+x)) else rQ n w f k).mean id)=(rQ n w f k).mean id*vn d:=by
    rw[←rV];refine fG fun x hx=>?_;rw[if_neg zo]
   rw[e1,e2] at h;generalize (ic w 0 (fun x=>if x<n then k x else rQ n w f k)).mean id=M at*
   generalize (rQ n w f k).mean id=M' at*
   generalize dH n (fun a=>(k a).mean id)=S at*
   rw[wu] at h hne;generalize vn n=a at*
   generalize vn d=b at*
   have h3:M*a*(a+b)=S*(a+b):=by grind
   grind
theorem oJ {P:α→Prop} {k:Nat→DT α} (h:∀x,(k x).all P):∀{w a:Nat},(ic w a k).all P
 | 0,a=>h a
 | w+1,a=>⟨oJ h,oJ h⟩
def inB (B v:Rat):Prop:=0≤v∧v≤B
theorem uX {B:Rat}:∀{t:DT Rat},t.all (inB B)→inB B (t.mean id)
 | .ret a,h=>h
 | .ask f g,h=>by
   obtain ⟨a,b⟩:=uX h.1;obtain ⟨c,d⟩:=uX h.2;show 0≤(f.mean id+g.mean id)/2∧(f.mean id+g.mean id)/2≤B;constructor<;>grind
theorem JF {n w:Nat} {B:Rat} (hn:0<n) {k:Nat→DT Rat} (h:∀x,(k x).all (inB B)):∀{f:Nat},(rQ n w f k).all (inB B)
 | 0=>by
   obtain ⟨a,b⟩:=pv (n:=n) (fun x _=>uX (h x))
   have hp:0<vn n:=by
    have:=Ex n
    have:=HZ hn
    grind
   show 0≤dH n (fun a=>(k a).mean id)/vn n∧dH n (fun a=>(k a).mean id)/vn n≤B;generalize dH n (fun a=>(k a).mean id)=s at*
   refine⟨?_,?_⟩
   · rw[Rat.div_def]
     exact Rat.mul_nonneg a (Rat.le_of_lt (Rat.inv_pos.2 hp))
   · have hv:(vn n)⁻¹*vn n=1:=Rat.inv_mul_cancel _ (Rat.ne_of_gt hp)
     have hi:0<(vn n)⁻¹:=Rat.inv_pos.2 hp;have h3:=Rat.mul_le_mul_of_nonneg_right b (Rat.le_of_lt hi);rw[Rat.div_def];rw[Rat.mul_assoc,Rat.mul_comm (vn n),hv,Rat.mul_one] at h3;exact h3
 | f+1=>oJ fun x=>by
   split
   · exact h x
   · exact JF hn h
def OD (k a:Nat) (s:Nat×Nat):Nat×Nat:=if a=0 then(k,1) else if s.1=k then(s.1,s.2+1) else s
def XV (fin:Nat×Nat→Rat):List Nat→Nat→Nat×Nat→DT Rat
 | [],_,s=>.ret (fin s)
 | k::ks,N,s=>rQ (N+1) (bl N) 40 fun a=>XV fin ks (N+1) (OD k a s)
def agT (X:List (Nat×Nat)) (φ:Nat×Nat→Rat):Rat:=(X.map φ).sum
def ae1 (k:Nat) (s:Nat×Nat):Nat×Nat:=if s.1=k then(s.1,s.2+1) else s
def agD:List (Nat×Nat)→List Nat→List (Nat×Nat)
 | X,[]=>X
 | X,k::ks=>agD ((k,1)::X.map (ae1 k)) ks
def aiY (ks:List Nat) (κ:Nat):Nat:=ks.count κ
theorem GL {φ:Nat→Rat} {k:Nat} {c:Rat}:∀{m:Nat},k<m→dH m (fun x=>if x=k then φ x+c else φ x)=dH m φ+c
 | 0,h=>by omega
 | m+1,h=>by
   unfold dH
   by_cases hm:k=m
   · subst hm
     have e:=fG (n:=k) (φ:=fun x=>if x=k then φ x+c else φ x) (ψ:=φ) (fun x hx=>if_neg zo);simp only[if_true];rw[e]
     grind
   · have hm2:¬m=k:=fun e=>hm e.symm
     simp only[if_neg hm2];rw[GL zo]
     grind
def ai7 (m:Nat) (X:List (Nat×Nat)) (c:Nat→Nat):Prop:=∀ψ:Nat→Nat→Rat,agT X (fun s=>ψ s.1 s.2)=dH m (fun κ=>dH (c κ) (fun r=>ψ κ (r+1)))
def Oo:DT Rat→Nat→Rat
 | .ret a,f=>a*vn (2^f)
 | .ask _ _,0=>0
 | .ask g h,f+1=>Oo g f+Oo h f
def WR:DT Rat→Nat→Nat
 | .ret _,_=>0
 | .ask _ _,0=>1
 | .ask g h,f+1=>WR g f+WR h f
end Go.Proofs.YtcnlmelpnflhnaaGreat

namespace Go.Proofs.YtcnlmelpnflhnaaGreat
open Go.Eng
set_option linter.unusedVariables false
theorem Ia {L:List Bool} {k:Nat}:∀{f r p F:Nat},f≤k→r≠0→r<2^k→2^(k-f)∣r→p≤L.length→L.length+1-p≤F→
 ox L (2^k) F r p=match (qN (2^k) f r).run L p with | some (b,q)=>(b,0,q,false) | none=>(false,8,L.length,true):=by
 intro f
 induction f with
 | zero=>
   intro r p F _ h0 h1 h2;exact absurd (Nat.eq_zero_of_dvd_of_lt h2 (by simpa using h1)) h0
 | succ f ih=>
   intro r p F hk h0 h1 h2 hp hF;obtain ⟨F,rfl⟩:∃G,F=G+1:=⟨F-1,by omega⟩;have h3:=BT hk h2;have hdk:2^(k-f)∣2^k:=Nat.pow_dvd_pow 2 zo;rw[i7];unfold qN;generalize hD:2^k=D at*
   by_cases hge:D≤r+r
   · rw[if_pos hge,if_pos hge,lN]
     simp only[aju hge]
     by_cases hpl:p<L.length
     · rw[if_pos hpl,if_pos hpl]
       cases hb:L.getD p false with
       | true=>
         by_cases hz:r+r-D=0
         · rw[if_neg (by simp[hz]),if_pos rfl,if_pos hz]
           rfl
         · rw[if_pos ⟨rfl,hz⟩,if_pos rfl,if_neg hz]
           exact ih zo hz zo (Nat.dvd_sub h3 hdk) zo zo
       | false=>
         rw[if_neg (by simp),if_neg (by simp)]
         rfl
     · rw[if_neg hpl,if_neg hpl]
   · rw[if_neg hge,if_neg hge,lN]
     simp only[ajn hge];have hz:r+r≠0:=by omega
     by_cases hpl:p<L.length
     · rw[if_pos hpl,if_pos hpl]
       cases hb:L.getD p false with
       | true=>
         rw[if_neg (by simp),if_pos rfl]
         rfl
       | false=>
         rw[if_pos ⟨rfl,hz⟩,if_neg (by simp),if_neg hz];exact ih zo hz zo h3 zo zo
     · rw[if_neg hpl,if_neg hpl]
theorem x7 {L:List Bool} {n k p:Nat} (hp:p≤L.length):oz L n (2^k) p=match (fc n k).run L p with | some (a,q)=>((a:Int),0,q,false) | none=>(0,8,L.length,true):=by
 have hpos:0<2^k:=ajV zd;have hlt:=ajI n hpos;unfold oz fc fm;rw[if_neg zo]
 by_cases hz:n%2^k=0
 · rw[if_pos hz,if_pos hz]
   simp[DT.run]
 · rw[if_neg hz,if_neg hz,if_neg zo]
   have h:=Ia (L:=L) (k:=k) (f:=k) (r:=n%2^k) (p:=p) (F:=L.length+1-p) (ajp k) hz hlt (by rw[akz];exact Nat.one_dvd _) hp (ajp _);rw[h,run_bind]
   cases hr:(qN (2^k) k (n%2^k)).run L p with
   | none=>simp
   | some x=>
     obtain ⟨b,q⟩:=x
     cases b<;>simp[bit,DT.run]
theorem Ig {L:List Bool} {D k r:Nat}:(qN D (k+1) r).run L L.length=none:=by
 unfold qN
 split
 · rw[lN,if_neg (Nat.lt_irrefl _)]
 · rw[lN,if_neg (Nat.lt_irrefl _)]
theorem yW {L:List Bool} {n k:Nat}:(fc n k).run L L.length=if n%2^k=0 then some (n/2^k,L.length) else none:=by
 unfold fc;have hpos:0<2^k:=ajV zd;have hlt:=ajI n hpos
 by_cases hz:n%2^k=0
 · rw[if_pos hz,if_pos hz]
   rfl
 · rw[if_neg hz,if_neg hz,run_bind]
   cases k with
   | zero=>omega
   | succ k=>rw[Ig]
open Go.Eng Go.Vx
set_option linter.unusedSimpArgs false
set_option maxRecDepth 100000
def EH {α:Type} (g:α) (L:List Bool) (d:Bool) (o:Option (α×Nat)):α×Int×Nat×Bool:=match o with | some (a,q)=>(a,0,q,d) | none=>(g,8,L.length,true)
theorem HR {A k:Nat}:(A%2^k=0↔(((A:Int):Rat)/(((2^k:Nat):Int):Rat)).num.natAbs%(((A:Int):Rat)/(((2^k:Nat):Int):Rat)).den=0)∧(A%2^k=0→(((A:Int):Rat)/(((2^k:Nat):Int):Rat)).num.natAbs/(((A:Int):Rat)/(((2^k:Nat):Int):Rat)).den=A/2^k):=by
 have hB:2^k≠0:=Nat.ne_of_gt (ajV zd);have h:=tS (L:=[]) (A:=A) (B:=2^k) (p:=0) hB;have hpos:0<(((A:Int):Rat)/(((2^k:Nat):Int):Rat)).den:=al1 (Rat.den_nz _);rw[x7 (ajH _)] at h;have he:=yW (L:=[]) (n:=A) (k:=k);rw[show([]:List Bool).length=0 from rfl] at he;rw[he] at h;generalize (((A:Int):Rat)/(((2^k:Nat):Int):Rat)).num.natAbs=n at*
 generalize (((A:Int):Rat)/(((2^k:Nat):Int):Rat)).den=d at*
 have hlt:=ajI n hpos;unfold oz fm at h;rw[if_neg zo] at h
 by_cases h1:A%2^k=0
 · rw[if_pos h1] at h
   by_cases h2:n%d=0
   · rw[if_pos h2] at h
     simp only[if_true,if_false,aky,Prod.mk.injEq] at h;refine⟨⟨fun _=>h2,fun _=>h1⟩,fun _=>?_⟩;exact Int.ofNat.inj h.1
   · rw[if_neg h2,if_neg zo] at h
     simp[ox] at h
 · rw[if_neg h1] at h
   by_cases h2:n%d=0
   · rw[if_pos h2] at h
     simp at h
   · exact⟨⟨fun e=>absurd e h1,fun e=>absurd e h2⟩,fun e=>absurd e h1⟩
theorem C7 {n K:Nat} (hn:n≤1099511627776) (hK:K≤1099511627776):RS 100000 (((n:Int):Rat)/((K:Int):Rat)):=
 (QG (k:=1) (l:=1) zd (IT zo zo) (IT zo zo)).mono zd
theorem xi {L:List Bool} {n k p:Nat} (hL:L.length≤1048576) (hn:n≤1099511627776) (hk:k≤40):aA Tryz.prog 134 [.ref 0 0 0 0,RV (((n:Int):Rat)/(((2^k:Nat):Int):Rat))] [some (bt L p true)]
 (.tup [.lit (.int .i64 (if n%2^k=0 then((n/2^k:Nat):Int) else 0)),.lit (.int .i64 (if n%2^k=0 then 0 else 8))]) [some (bt L p true)]:=by
 have hB:2^k≠0:=Nat.ne_of_gt (ajV zd);have hB2:2^k≤1099511627776:=ajD (ajv zd hk) zd;obtain ⟨b1,b2⟩:=pf hB hn;obtain ⟨f1,f2⟩:=HR (A:=n) (k:=k);have hs:=C7 hn hB2;generalize ((n:Int):Rat)/(((2^k:Nat):Int):Rat)=x at*
 have hx:=k9 (Rat.not_lt.1 b1);have hrs:=Cl hs;have hre:=vF hx;have hpos:0<x.den:=al1 (Rat.den_nz _);have hlt:=ajI x.num.natAbs hpos
 have hz:(x-((x.floor:Int):Rat)).num.natAbs=0↔x.num.natAbs%x.den=0:=by
  rw[hre,eR x.den_nz,kB];constructor
  · intro h
    have hd:=alP (x.num.natAbs%x.den) x.den;have e:=Nat.div_mul_cancel hd;simp only[akd] at h;rw[h,akK] at e;exact e.symm
  · intro h
    simp[h]
 have hy1:(x-((x.floor:Int):Rat)).num.natAbs<(x-((x.floor:Int):Rat)).den:=by
  rw[hre,eR x.den_nz,iw x.den_nz,kB,akd];have hg:0<Nat.gcd (x.num.natAbs%x.den) x.den:=Nat.gcd_pos_of_pos_right _ hpos;have e1:=Nat.div_mul_cancel (alP (x.num.natAbs%x.den) x.den);have e2:=Nat.div_mul_cancel (Nat.gcd_dvd_right (x.num.natAbs%x.den) x.den);generalize Nat.gcd (x.num.natAbs%x.den) x.den=g at*
  refine Nat.lt_of_mul_lt_mul_right (a:=g) ?_;rw[e1,e2];exact hlt
 have hr:=uQ (L:=L) (P:=(x-((x.floor:Int):Rat)).num.natAbs) (D:=(x-((x.floor:Int):Rat)).den) (p:=p) hL zo zo (ajD hrs.1 zd) (ajD hrs.2 zd);have h:=ri (L:=L) (p:=p) (p':=p) hs b1 b2 hr
 by_cases h1:n%2^k=0
 · rw[if_pos h1,if_pos h1]
   have h2:=f1.1 h1;rw[if_pos (hz.2 h2),if_pos rfl,f2 h1] at h;exact h
 · rw[if_neg h1,if_neg h1]
   have h2:=fun e=>h1 (f1.2 e);rw[if_neg (fun e=>h2 (hz.1 e)),if_neg zd] at h;exact h
def gD (L:List Bool) (d:Bool) (n k p:Nat):Nat×Int×Nat×Bool:=EH 0 L d ((fc n k).run L p)
theorem Az {L:List Bool} {n k p:Nat} {d:Bool} (hL:L.length≤1048576) (hp:p≤L.length) (hd:d=true→p=L.length) (hn:n≤1099511627776) (hk:k≤40):aA Tryz.prog 134 [.ref 0 0 0 0,RV (((n:Int):Rat)/(((2^k:Nat):Int):Rat))] [some (bt L p d)]
 (.tup [.lit (.int .i64 ((gD L d n k p).1:Int)),.lit (.int .i64 (gD L d n k p).2.1)]) [some (bt L (gD L d n k p).2.2.1 (gD L d n k p).2.2.2)]:=by
 unfold gD
 cases d with
 | true=>
   obtain rfl:=hd rfl;have h:=xi (L:=L) (n:=n) (k:=k) (p:=L.length) hL hn hk;rw[yW]
   by_cases h1:n%2^k=0
   · rw[if_pos h1] at h ⊢
     rw[if_pos h1] at h;exact h
   · rw[if_neg h1] at h ⊢
     rw[if_neg h1] at h;exact h
 | false=>
   have hB:2^k≠0:=Nat.ne_of_gt (ajV zd);have hB2:2^k≤1099511627776:=ajD (ajv zd hk) zd;obtain ⟨b1,b2⟩:=pf hB hn;have hs:=C7 hn hB2;have h:=E3 (L:=L) (p:=p) hL hp hs b1 b2;rw[tS hB,x7 hp] at h
   cases hr:(fc n k).run L p with
   | none=>
     rw[hr] at h;exact h
   | some x=>
     rw[hr] at h;exact h
theorem pb {L:List Bool} {n k p:Nat} {d:Bool} (hL:L.length≤1048576) (hp:p≤L.length) (hd:d=true→p=L.length) (hn:n≤1099511627776) (hk:k≤40):aA Tryz.prog 73 [.ref 0 0 0 0,NV n,.lit (.int .i64 (k:Int))] [some (bt L p d)]
 (.tup [.lit (.int .i64 ((gD L d n k p).1:Int)),.lit (.int .i64 (gD L d n k p).2.1)]) [some (bt L (gD L d n k p).2.2.1 (gD L d n k p).2.2.2)]:=by
 have hB:2^k≠0:=Nat.ne_of_gt (ajV zd);have hB2:2^k≤1099511627776:=ajD (ajv zd hk) zd;have o:=eG (x:=1) zd;have s:=vu (v:=1) (N:=k) zo (ajD (di zd) zd);rw[akH] at s;rw[show((1:Nat):Int)=1 from rfl] at o;have r:=Az hL hp hd hn hk;generalize 2^k=K at*
 have w1:=cK (b:=false) (n:=n) (ajD (di zo) zd);have w2:=cK (b:=false) (n:=K) (ajD (di zo) zd);have f:=HL (p:=(n:Int)) (q:=(K:Int)) zo (ajD (di zo) zd) (ajD (di zo) zd);rw[show sg false n=(n:Int) from rfl] at w1;rw[show sg false K=(K:Int) from rfl] at w2;generalize gD L d n k p=x at*
 generalize ((n:Int):Rat)/((K:Int):Rat)=y at*
 refine zF ZQ Tryz.call73 Tryz.func73 [.tmp 6,.tmp 7] fun Q hQ=>?_;refine ae ?_;refine zW [] [2] o ?_;refine zC s ?_;refine zC w1 ?_;refine zC w2 ?_;refine zC f ?_;refine zW [some 0] [] r ?_;exact ak [some 0] hQ
theorem jO {n m:Int}:aA Tryz.prog 81 [.lit (.int .i64 n),.lit (.int .i64 m)] [] (.lit (.bool (decide (1≤n∧n≤m)))) []:=by
 refine zF pl Tryz.call81 Tryz.func81 [.tmp 4] fun Q hQ=>?_
 by_cases h1:1≤n
 · by_cases h2:n≤m
   · rw[aju (show 1≤n∧n≤m from⟨h1,h2⟩)] at hQ
     exact zE [] hQ
   · rw[ajn (fun h:1≤n∧n≤m=>h2 h.2)] at hQ
     exact zE [] hQ
 · rw[ajn (fun h:1≤n∧n≤m=>h1 h.1)] at hQ
   exact zE [] hQ
def tQ (M D S:Int):Prop:=(1≤M∧M≤16)∧(1≤D∧D≤4)∧1≤S∧S≤8
theorem Ft {M D S:Int} (h:tQ M D S):aA Tryz.prog 80 [.agg [.lit (.int .i64 M),.lit (.int .i64 D),.lit (.int .i64 S)]] [] (.lit (.int .i64 0)) []:=by
 obtain ⟨h1,h2,h3⟩:=h;have w1:=jO (n:=M) (m:=16);have w2:=jO (n:=D) (m:=4);have w3:=jO (n:=S) (m:=8);rw[aju h1] at w1;rw[aju h2] at w2;rw[aju h3] at w3;refine zF pl Tryz.call80 Tryz.func80 [.tmp 2] fun Q hQ=>?_;refine ae ?_;refine zC w1 ?_;refine zC w2 ?_;refine zC w3 ?_;exact ak [] hQ
def cV (c:Cell):List PV:=[.lit (.int .i64 (c.1:Int)),.lit (.int .i64 (c.2:Int))]
def cA (c:Cell):V:=.agg [.lit (.int .i64 (c.1:Int)),.lit (.int .i64 (c.2:Int))]
def pA (M D S:Nat):V:=.agg [.lit (.int .i64 (M:Int)),.lit (.int .i64 (D:Int)),.lit (.int .i64 (S:Int))]
def tJ (M D S:Nat) (st:SS):Ob:=.cells [.lit (.int .i64 (M:Int)),.lit (.int .i64 (D:Int)),.lit (.int .i64 (S:Int)),.row 2 (st.1.map cV),.lit (.int .i64 (st.2.1:Int)),.lit (.bool st.2.2)]
def I6 (M D S:Nat) (st:SS):V:=.rref 6 [[.lit (.int .i64 (M:Int)),.lit (.int .i64 (D:Int)),.lit (.int .i64 (S:Int)),.row 2 (st.1.map cV),.lit (.int .i64 (st.2.1:Int)),.lit (.bool st.2.2)]] 0 0
def J2 (M D S o n:Nat) (s:Nat) (f:Bool):Ob:=.cells [.lit (.int .i64 (M:Int)),.lit (.int .i64 (D:Int)),.lit (.int .i64 (S:Int)),.sl o 2 0 n,.lit (.int .i64 (s:Int)),.lit (.bool f)]
attribute [go_sem] cA pA tJ I6 J2
@[go_sem] theorem Ys {c:Cell}:cV c=[.lit (.int .i64 (c.1:Int)),.lit (.int .i64 (c.2:Int))]:=(rfl)
theorem getD_some {α:Type} [Inhabited α] {l:List α} {i:Nat} {x:α} (h:l[i]? =some x):l.getD i default=x:=by rw[ajk,h];rfl
@[go_sem] theorem agk {X:List Cell} {z:Nat}:Mf (.row z (X.map cV))=True:=eq_true fun e he p hp=>by
 obtain ⟨x,_,rfl⟩:=akh.1 he;rw[Ys] at hp;simp only[ajC,aj5,or_false] at hp;rcases hp with rfl | rfl<;>rfl
theorem KE {M D S:Nat} {st:SS} (h:st.1.length≤256):aA Tryz.prog 30 [I6 M D S st] [] (.lit (.int .i64 (st.1.length:Int))) []:=by
 refine zF pl Tryz.call30 Tryz.func30 [.tmp 2] fun Q hQ=>?_;exact zE [] hQ
theorem K4 {M D S:Nat} {st:SS} {i:Nat} {c:Cell} (hi:st.1[i]? =some c) (hX:st.1.length≤256):aA Tryz.prog 72 [I6 M D S st,.lit (.int .i64 (i:Int))] [] (.tup [cA c,.lit (.int .i64 0)]) []:=by
 obtain ⟨hl,hx⟩:=akn.1 hi;have e:=getD_some hi;refine zF pl Tryz.call72 Tryz.func72 [.cell 4 151,.tmp 5] fun Q hQ=>?_;refine br e ?_;exact ak [] hQ
theorem tT {c:Cell} {s:Nat} (hc:c.1<9223372036854775808) (hs:s*c.2≤8192):aA Tryz.prog 173 [cA c,.lit (.int .i64 (s:Int))] [] (NV (iG c s)) []:=by
 have o:=eG (x:=c.1) zo;have sh:=vu (v:=c.1) (N:=s*c.2) hs (ajD (di zo) zd);have e:(s:Int)*(c.2:Int)=((s*c.2:Nat):Int):=by simp
 rw[show c.1*2^(s*c.2)=iG c s from rfl] at sh;generalize iG c s=w at*
 generalize s*c.2=k at*
 refine zF Oq Tryz.call173 Tryz.func173 [.cell 4 157] fun Q hQ=>?_;refine br e ?_;refine aF [] [2] (o) ?_;refine br e ?_;refine zC sh ?_;exact ak [] hQ
theorem Ie {k:Nat} (h:k<63):IntKind.i64.wrap (1*2^k)=((2^k:Nat):Int):=by
 have h1:2^k≤2^62:=ajv zd zo;have h2:(1*2^k:Int)=((2^k:Nat):Int):=by simp
 rw[h2];generalize 2^k=x at*
 have:(x:Int)<9223372036854775808:=by omega
 exact FA
theorem sK {M D S:Nat} (hM:M≤16) (hD:D≤4):aA Tryz.prog 137 [pA M D S] [] (.tup [.lit (.int .i64 ((2^M-1:Nat):Int)),.lit (.int .i64 ((2^D-1:Nat):Int))]) []:=by
 have h1:=Ie (k:=M) zo;have h2:=Ie (k:=D) zo;have p1:1≤2^M:=ajV zd;have p2:1≤2^D:=ajV zd;have q1:2^M≤2^16:=ajv zd hM;have q2:2^D≤2^4:=ajv zd hD;have e1:((2^M:Nat):Int)-1=((2^M-1:Nat):Int):=by omega
 have e2:((2^D:Nat):Int)-1=((2^D-1:Nat):Int):=by omega
 refine zF Nw Tryz.call137 Tryz.func137 [.tmp 2,.tmp 3] fun Q hQ=>?_;refine Kh h1 h2 e1 e2 ?_;exact ak [] hQ
def W3 (M D S n:Nat) (cs:List Cell) (s:Nat) (f:Bool) (L:List Bool) (p:Nat) (d:Bool):St:=[some (J2 M D S 2 n s f),some (bt L p d),some (.row 2 (cs.map cV))]
attribute [go_sem] W3
theorem PZ {cs:List Cell} {i:Nat} {c:Cell}:(cs.map cV).set i [.lit (.int .i64 (c.1:Int)),.lit (.int .i64 (c.2:Int))]=(cs.set i c).map cV:=by rw[alC];rfl
theorem Dc {M D S:Nat} {cs:List Cell} {s i:Nat} {f:Bool} {c:Cell} (hi:i<cs.length) (hX:cs.length≤256):aA Tryz.prog 140 [.ref 0 0 0 0,.lit (.int .i64 (i:Int)),cA c]
 [some (J2 M D S 1 cs.length s f),some (.row 2 (cs.map cV))] (.tup []) [some (J2 M D S 1 cs.length s f),some (.row 2 ((cs.set i (gH c)).map cV))]:=by
 have e:=PZ (cs:=cs) (i:=i) (c:=gH c);unfold gH at e ⊢;refine zF NH Tryz.call140 Tryz.func140 [] fun Q hQ=>?_
 by_cases h0:c.1=0
 · rw[if_pos h0] at hQ e
   rw[←e] at hQ;dsimp only at hQ;exact zE [some 0,some 1] hQ
 · rw[if_neg h0] at hQ e
   rw[←e] at hQ;exact zE [some 0,some 1] hQ
theorem It {M D S n:Nat} {cs:List Cell} {s p:Nat} {f d:Bool} {L:List Bool} {c:Cell} (hL:L.length≤1048576) (hp:p≤L.length) (hd:d=true→p=L.length) (hc:c.1≤1099511627776) (hm:c.2≤1000) (hs:s≤40):
 aA Tryz.prog 138 [.ref 0 0 0 0,.ref 1 0 0 0,cA c] (W3 M D S n cs s f L p d)
 (.tup [cA ((gD L d c.1 s p).1,c.2+1),.lit (.int .i64 (gD L d c.1 s p).2.1)]) (W3 M D S n cs s f L (gD L d c.1 s p).2.2.1 (gD L d c.1 s p).2.2.2):=by
 have o:=eG (x:=c.1) zo;have r:=pb (L:=L) (n:=c.1) (k:=s) (p:=p) (d:=d) hL hp hd hc hs;generalize gD L d c.1 s p=x at*
 refine zF Oh Tryz.call138 Tryz.func138 [.cell 6 151,.tmp 7] fun Q hQ=>?_;refine ae ?_;refine zW [] [5] o ?_;refine zW [some 1] [] r ?_;exact ak [some 0,some 1,some 2] hQ
structure PW (P:SP):Prop extends PB P where
 m255:P.m≤255
 d3:P.d≤3
 s4:P.s≤4
theorem Hu {c:Cell} {s A:Nat} (hc:c.1≤A) (hm:c.2≤3) (hs:s≤4):iG c s≤A*4096:=by
 unfold iG;have h1:s*c.2≤4*3:=ajO hs hm;have h2:2^(s*c.2)≤2^12:=ajv zd zo;exact ajO hc h2
theorem vH {P:SP} {v s:Nat}:bz P v s P.d 0≤P.d:=(kO (P:=P) (v:=v) (s:=s) (f:=P.d) (m:=0) zo).1
theorem Ha {s m:Nat} (hs:s≤4) (hm:m≤3):s*m≤12:=by
 have:=ajO hs hm
 omega
theorem uW {L:List Bool} {n k p a q:Nat} (h:(fc n k).run L p=some (a,q)):a≤n/2^k+1∧a≤n+1:=by
 have h1:=iT (so n k) h
 have:=aks n (2^k)
 omega
theorem run_map {α β:Type} {L:List Bool} {f:α→β} {t:DT α} {p:Nat}:(t.bind fun r=>DT.ret (f r)).run L p=(t.run L p).map (fun x=>(f x.1,x.2)):=by
 rw[run_bind]
 cases t.run L p with
 | none=>rfl
 | some x=>rfl
theorem C3 {P:SP} {L:List Bool} {v s p:Nat}:(F5 P v s).run L p=((fc v (s*bz P v s P.d 0)).run L p).map (fun r=>((r.1,bz P v s P.d 0),r.2)):=run_map
theorem Ct {L:List Bool} {c:Cell} {s p:Nat}:(Gm c s).run L p=((fc c.1 s).run L p).map (fun r=>((r.1,c.2+1),r.2)):=run_map
theorem Ni {P:SP} {L:List Bool} {c:Cell} {w p:Nat}:(Ln P w c).run L p=match (F5 P (iG c w) (w+1)).run L p with | some (c1,q)=>if P.m<c1.1 then(Gm c1 (w+1)).run L q else some (c1,q) | none=>none:=by
 unfold Ln;rw[run_bind]
 cases (F5 P (iG c w) (w+1)).run L p with
 | none=>rfl
 | some x=>
   obtain ⟨c1,q⟩:=x
   show(if P.m<c1.1 then Gm c1 (w+1) else .ret c1).run L q=if P.m<c1.1 then(Gm c1 (w+1)).run L q else some (c1,q)
   split<;>rfl
theorem Mi {P:SP} {L:List Bool} {w k p:Nat} {i:Int} {c own:Cell} {cs:List Cell} (hk:(k:Int)=i):(jc P w i (c::cs) k own).run L p=match (F5 P (iG own w) (w+1)).run L p with | some (o,q)=>((jc P w i cs (k+1) o).run L q).map (fun r=>((c::r.1.1,r.1.2),r.2)) | none=>none:=by
 rw[jc.eq_2,if_pos hk,run_bind]
 cases (F5 P (iG own w) (w+1)).run L p with
 | none=>rfl
 | some x=>exact run_map
theorem Fq {P:SP} {L:List Bool} {w k p:Nat} {i:Int} {c own:Cell} {cs:List Cell} (hk:¬(k:Int)=i):(jc P w i (c::cs) k own).run L p=match (Ln P w c).run L p with | some (c1,q)=>((jc P w i cs (k+1) own).run L q).map (fun r=>((gH c1::r.1.1,r.1.2),r.2)) | none=>none:=by
 rw[jc.eq_2,if_neg hk,run_bind]
 cases (Ln P w c).run L p with
 | none=>rfl
 | some x=>exact run_map
theorem hH {α:Type} {L:List Bool} {t:DT α} {d:Bool} {p q:Nat} {a:α} (hp:p≤L.length) (hd:d=true→p=L.length) (h:t.run L p=some (a,q)):q≤L.length∧(d=true→q=L.length):=by
 have:=r6 hp h
 refine⟨this.2,fun e=>?_⟩
 have:=hd e
 omega
end Go.Proofs.YtcnlmelpnflhnaaGreat
