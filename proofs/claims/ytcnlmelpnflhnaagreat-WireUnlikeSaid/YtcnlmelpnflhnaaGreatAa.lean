import Derived.Test.YtcnlmelpnflhnaaGreatLa
import Derived.Test.YtcnlmelpnflhnaaGreatOb
import Derived.Test.YtcnlmelpnflhnaaGreatNi
namespace Go.Proofs.YtcnlmelpnflhnaaGreat
open Go.Eng Go.Vx
set_option linter.unusedSimpArgs false
set_option linter.unusedVariables false
set_option maxRecDepth 100000
theorem ve {a:Int}:aC Tryz.prog 234 [.lit (.int .i64 a)] [] (.lit (.bool (decide (1≤a∧a≤4096)))) []:=by
 refine zF pl Tryz.call234 Tryz.func234 [.tmp 2] fun Q hQ=>?_
 by_cases h:1≤a
 · refine Cx ?_
   simp only[h,true_and] at hQ;exact ak [] hQ
 · refine EG ?_
   simp only[h,false_and,decide_false] at hQ;exact ak [] hQ
theorem FH {a:Int}:aC Tryz.prog 245 [.lit (.int .i64 a)] [] (.lit (.bool (decide (0≤a∧a≤8)))) []:=by
 refine zF pl Tryz.call245 Tryz.func245 [.tmp 2] fun Q hQ=>?_
 by_cases h:0≤a
 · refine Cx ?_
   simp only[h,true_and] at hQ;exact ak [] hQ
 · refine EG ?_
   simp only[h,false_and,decide_false] at hQ;exact ak [] hQ
theorem Ef {a:Int}:aC Tryz.prog 255 [.lit (.int .i64 a)] [] (.lit (.bool (decide (1≤a∧a≤5)))) []:=by
 refine zF pl Tryz.call255 Tryz.func255 [.tmp 2] fun Q hQ=>?_
 by_cases h:1≤a
 · refine Cx ?_
   simp only[h,true_and] at hQ;exact ak [] hQ
 · refine EG ?_
   simp only[h,false_and,decide_false] at hQ;exact ak [] hQ
theorem CH {a:Int}:aC Tryz.prog 230 [.lit (.int .i64 a)] [] (.lit (.bool (decide (1≤a∧a≤4096)))) []:=by
 refine zF pl Tryz.call230 Tryz.func230 [.tmp 2] fun Q hQ=>?_;refine ae ?_;refine zC ve ?_;exact ak [] hQ
theorem BC {a:Int}:aC Tryz.prog 241 [.lit (.int .i64 a)] [] (.lit (.bool (decide (0≤a∧a≤8)))) []:=by
 refine zF pl Tryz.call241 Tryz.func241 [.tmp 2] fun Q hQ=>?_;refine ae ?_;refine zC FH ?_;exact ak [] hQ
theorem Bo {a:Int}:aC Tryz.prog 251 [.lit (.int .i64 a)] [] (.lit (.bool (decide (1≤a∧a≤5)))) []:=by
 refine zF pl Tryz.call251 Tryz.func251 [.tmp 2] fun Q hQ=>?_;refine ae ?_;refine zC Ef ?_;exact ak [] hQ
theorem vL {a w:Int}:aC Tryz.prog 125 [.agg [.lit (.int .i64 1),.lit (.int .i64 a),.lit (.int .i64 w)]] [] (.lit (.iface 257 (.int .i64 a))) []:=by
 refine zF pl Tryz.call125 Tryz.func125 [.tmp 2] fun Q hQ=>?_;exact zE [] hQ
theorem uL {a w:Int}:aC Tryz.prog 125 [.agg [.lit (.int .i64 2),.lit (.int .i64 a),.lit (.int .i64 w)]] [] (.lit (.iface 258 (.int .i64 a))) []:=by
 refine zF pl Tryz.call125 Tryz.func125 [.tmp 2] fun Q hQ=>?_;exact zE [] hQ
theorem uJ {a w:Int}:aC Tryz.prog 125 [.agg [.lit (.int .i64 3),.lit (.int .i64 a),.lit (.int .i64 w)]] [] (.lit (.iface 259 (.int .i64 a))) []:=by
 refine zF pl Tryz.call125 Tryz.func125 [.tmp 2] fun Q hQ=>?_;exact zE [] hQ
open Go.Eng
def dr:Nat→(Nat→Rat)→Rat
 | 0,_=>0
 | n+1,φ=>dr n φ+φ n
theorem fe {φ ψ:Nat→Rat}:∀{n:Nat},(∀x,x<n→φ x=ψ x)→dr n φ=dr n ψ
 | 0,_=>rfl
 | n+1,h=>by
   unfold dr;rw[fe (n:=n) (fun x hx=>h x zo),h n zo]
theorem qo (m:Nat) (φ:Nat→Rat):∀n,dr (m+n) φ=dr m φ+dr n (fun x=>φ (m+x))
 | 0=>by unfold dr;grind
 | n+1=>by
   have:=qo m φ n
   show dr (m+n) φ+φ (m+n)=dr m φ+(dr n (fun x=>φ (m+x))+φ (m+n));rw[this];grind
theorem z9 (n:Nat):vn (n+1)=vn n+1:=by unfold vn;simp
theorem Ah:vn 0=0:=rfl
theorem FU {n:Nat} (h:0<n):vn n≠0:=by
 unfold vn;intro e
 have:(((n:Nat):Int):Rat)=((0:Int):Rat):=e
 rw[Rat.intCast_inj] at this;omega
theorem Cj (n:Nat):0≤vn n:=by
 have:((0:Int):Rat)≤(((n:Nat):Int):Rat):=Rat.intCast_le_intCast.2 zo
 exact this
theorem qq (c:Rat):∀n,dr n (fun _=>c)=c*vn n
 | 0=>by unfold dr;rw[Ah];grind
 | n+1=>by
   unfold dr;rw[qq c n,z9];grind
theorem n7 {φ:Nat→Rat} {B:Rat}:∀{n:Nat},(∀x,x<n→0≤φ x∧φ x≤B)→0≤dr n φ∧dr n φ≤B*vn n
 | 0,_=>by unfold dr;rw[Ah];constructor<;>grind
 | n+1,h=>by
   unfold dr;obtain ⟨a,b⟩:=n7 (n:=n) (fun x hx=>h x zo);obtain ⟨c,d⟩:=h n zo;rw[z9];constructor<;>grind
variable {α:Type}
def gu:Nat→Nat→(Nat→DT α)→DT α
 | 0,a,k=>k a
 | w+1,a,k=>.ask (gu w (2*a) k) (gu w (2*a+1) k)
def ql (n w:Nat):Nat→(Nat→DT Rat)→DT Rat
 | 0,k=>.ret (dr n (fun a=>(k a).mean id)/vn n)
 | f+1,k=>gu w 0 fun x=>if x<n then k x else ql n w f k
theorem ly {v:α→Rat} {k:Nat→DT α}:∀{w a:Nat},(gu w a k).mean v*vn (2^w)=dr (2^w) (fun x=>(k (a*2^w+x)).mean v)
 | 0,a=>by
   show(k a).mean v*vn 1=0+(k (a*1+0)).mean v
   rw[show vn 1=1 from rfl,aid,ahA]
   grind
 | w+1,a=>by
   have h1:=ly (v:=v) (k:=k) (w:=w) (a:=2*a);have h2:=ly (v:=v) (k:=k) (w:=w) (a:=2*a+1);have e:2^(w+1)=2^w+2^w:=by rw[agS];omega
   show((gu w (2*a) k).mean v+(gu w (2*a+1) k).mean v)/2*vn (2^(w+1))=_
   rw[e,qo,ui]
   have e1:dr (2^w) (fun x=>(k (a*(2^w+2^w)+x)).mean v)=(gu w (2*a) k).mean v*vn (2^w):=by
    rw[h1];refine fe fun x _=>?_;rw[show a*(2^w+2^w)=2*a*2^w by rw[ag1,agZ,Nat.two_mul]]
   have e2:dr (2^w) (fun x=>(k (a*(2^w+2^w)+(2^w+x))).mean v)=(gu w (2*a+1) k).mean v*vn (2^w):=by
    rw[h2];refine fe fun x _=>?_;rw[show a*(2^w+2^w)+(2^w+x)=(2*a+1)*2^w+x by rw[ag1,agH,agZ,Nat.two_mul,ahH];omega]
   rw[e1,e2]
   grind
theorem Bx {n w:Nat} (hn:0<n) (hw:n≤2^w) (k:Nat→DT Rat):∀f,(ql n w f k).mean id*vn n=dr n (fun a=>(k a).mean id)
 | 0=>by
   have:=FU hn
   show dr n (fun a=>(k a).mean id)/vn n*vn n=_;generalize dr n (fun a=>(k a).mean id)=s
   grind
 | f+1=>by
   have ih:=Bx hn hw k f;have h:=ly (v:=id) (k:=fun x=>if x<n then k x else ql n w f k) (w:=w) (a:=0);have h0:0<2^w:=by omega
   obtain ⟨d,hd⟩:∃d,2^w=n+d:=⟨2^w-n,by omega⟩;have hne:=FU h0
   show(gu w 0 (fun x=>if x<n then k x else ql n w f k)).mean id*vn n=_
   rw[hd,qo] at h;rw[hd] at hne
   have e1:dr n (fun x=>(if 0*(n+d)+x<n then k (0*(n+d)+x) else ql n w f k).mean id)=dr n (fun a=>(k a).mean id):=by
    refine fe fun x hx=>?_;rw[ahK,agU,if_pos hx]
   have e2:dr d (fun x=>(if 0*(n+d)+(n+x)<n then k (0*(n+d)+(n+x)) else ql n w f k).mean id)=(ql n w f k).mean id*vn d:=by
    rw[←qq];refine fe fun x hx=>?_;rw[if_neg zo]
   rw[e1,e2] at h;generalize (gu w 0 (fun x=>if x<n then k x else ql n w f k)).mean id=M at*
   generalize (ql n w f k).mean id=M' at*
   generalize dr n (fun a=>(k a).mean id)=S at*
   rw[ui] at h hne;generalize vn n=a at*
   generalize vn d=b at*
   have h3:M*a*(a+b)=S*(a+b):=by grind
   grind
theorem nz {P:α→Prop} {k:Nat→DT α} (h:∀x,(k x).all P):∀{w a:Nat},(gu w a k).all P
 | 0,a=>h a
 | w+1,a=>⟨nz h,nz h⟩
def Zj (B v:Rat):Prop:=0≤v∧v≤B
theorem te {B:Rat}:∀{t:DT Rat},t.all (Zj B)→Zj B (t.mean id)
 | .ret a,h=>h
 | .ask f g,h=>by
   obtain ⟨a,b⟩:=te h.1;obtain ⟨c,d⟩:=te h.2;show 0≤(f.mean id+g.mean id)/2∧(f.mean id+g.mean id)/2≤B;constructor<;>grind
theorem Hw {n w:Nat} {B:Rat} (hn:0<n) {k:Nat→DT Rat} (h:∀x,(k x).all (Zj B)):∀{f:Nat},(ql n w f k).all (Zj B)
 | 0=>by
   obtain ⟨a,b⟩:=n7 (n:=n) (fun x _=>te (h x))
   have hp:0<vn n:=by
    have:=Cj n
    have:=FU hn
    grind
   show 0≤dr n (fun a=>(k a).mean id)/vn n∧dr n (fun a=>(k a).mean id)/vn n≤B;generalize dr n (fun a=>(k a).mean id)=s at*
   refine⟨?_,?_⟩
   · rw[Rat.div_def]
     exact Rat.mul_nonneg a (Rat.le_of_lt (Rat.inv_pos.2 hp))
   · have hv:(vn n)⁻¹*vn n=1:=Rat.inv_mul_cancel _ (Rat.ne_of_gt hp)
     have hi:0<(vn n)⁻¹:=Rat.inv_pos.2 hp;have h3:=Rat.mul_le_mul_of_nonneg_right b (Rat.le_of_lt hi);rw[Rat.div_def];rw[Rat.mul_assoc,Rat.mul_comm (vn n),hv,Rat.mul_one] at h3;exact h3
 | f+1=>nz fun x=>by
   split
   · exact h x
   · exact Hw hn h
def LY (k a:Nat) (s:Nat×Nat):Nat×Nat:=if a=0 then(k,1) else if s.1=k then(s.1,s.2+1) else s
def UT (fin:Nat×Nat→Rat):List Nat→Nat→Nat×Nat→DT Rat
 | [],_,s=>.ret (fin s)
 | k::ks,N,s=>ql (N+1) (bl N) 40 fun a=>UT fin ks (N+1) (LY k a s)
def adq (X:List (Nat×Nat)) (φ:Nat×Nat→Rat):Rat:=(X.map φ).sum
def abC (k:Nat) (s:Nat×Nat):Nat×Nat:=if s.1=k then(s.1,s.2+1) else s
def ac7:List (Nat×Nat)→List Nat→List (Nat×Nat)
 | X,[]=>X
 | X,k::ks=>ac7 ((k,1)::X.map (abC k)) ks
def afK (ks:List Nat) (κ:Nat):Nat:=ks.count κ
theorem EB {φ:Nat→Rat} {k:Nat} {c:Rat}:∀{m:Nat},k<m→dr m (fun x=>if x=k then φ x+c else φ x)=dr m φ+c
 | 0,h=>by omega
 | m+1,h=>by
   unfold dr
   by_cases hm:k=m
   · subst hm
     have e:=fe (n:=k) (φ:=fun x=>if x=k then φ x+c else φ x) (ψ:=φ) (fun x hx=>if_neg zo);simp only[if_true];rw[e]
     grind
   · have hm2:¬m=k:=fun e=>hm e.symm
     simp only[if_neg hm2];rw[EB zo]
     grind
def afZ (m:Nat) (X:List (Nat×Nat)) (c:Nat→Nat):Prop:=∀ψ:Nat→Nat→Rat,adq X (fun s=>ψ s.1 s.2)=dr m (fun κ=>dr (c κ) (fun r=>ψ κ (r+1)))
def LM:DT Rat→Nat→Rat
 | .ret a,f=>a*vn (2^f)
 | .ask _ _,0=>0
 | .ask g h,f+1=>LM g f+LM h f
def TW:DT Rat→Nat→Nat
 | .ret _,_=>0
 | .ask _ _,0=>1
 | .ask g h,f+1=>TW g f+TW h f
end Go.Proofs.YtcnlmelpnflhnaaGreat

namespace Go.Proofs.YtcnlmelpnflhnaaGreat
open Go.Eng
set_option linter.unusedVariables false
theorem Ga {L:List Bool} {k:Nat}:∀{f r p F:Nat},f≤k→r≠0→r<2^k→2^(k-f)∣r→p≤L.length→L.length+1-p≤F→
 ng L (2^k) F r p=match (pF (2^k) f r).run L p with | some (b,q)=>(b,0,q,false) | none=>(false,8,L.length,true):=by
 intro f
 induction f with
 | zero=>
   intro r p F _ h0 h1 h2;exact absurd (Nat.eq_zero_of_dvd_of_lt h2 (by simpa using h1)) h0
 | succ f ih=>
   intro r p F hk h0 h1 h2 hp hF;obtain ⟨F,rfl⟩:∃G,F=G+1:=⟨F-1,by omega⟩;have h3:=zD hk h2;have hdk:2^(k-f)∣2^k:=Nat.pow_dvd_pow 2 zo;rw[iz];unfold pF;generalize hD:2^k=D at*
   by_cases hge:D≤r+r
   · rw[if_pos hge,if_pos hge,kI]
     simp only[agC hge]
     by_cases hpl:p<L.length
     · rw[if_pos hpl,if_pos hpl]
       cases hb:L.getD p false with
       | true=>
         by_cases hz:r+r-D=0
         · rw[if_neg (by simp[hz]),if_pos rfl,if_pos hz]
           rfl
         · rw[if_pos ⟨rfl,hz⟩,if_pos rfl,if_neg hz]
           exact ih zo hz zo (Nat.dvd_sub h3 hdk) zo zo
       | false=>
         rw[if_neg (by simp),if_neg (by simp)]
         rfl
     · rw[if_neg hpl,if_neg hpl]
   · rw[if_neg hge,if_neg hge,kI]
     simp only[agq hge];have hz:r+r≠0:=by omega
     by_cases hpl:p<L.length
     · rw[if_pos hpl,if_pos hpl]
       cases hb:L.getD p false with
       | true=>
         rw[if_neg (by simp),if_pos rfl]
         rfl
       | false=>
         rw[if_pos ⟨rfl,hz⟩,if_neg (by simp),if_neg hz];exact ih zo hz zo h3 zo zo
     · rw[if_neg hpl,if_neg hpl]
theorem vS {L:List Bool} {n k p:Nat} (hp:p≤L.length):ni L n (2^k) p=match (eI n k).run L p with | some (a,q)=>((a:Int),0,q,false) | none=>(0,8,L.length,true):=by
 have hpos:0<2^k:=agV zd;have hlt:=agJ n hpos;unfold ni eI eO;rw[if_neg zo]
 by_cases hz:n%2^k=0
 · rw[if_pos hz,if_pos hz]
   simp[DT.run]
 · rw[if_neg hz,if_neg hz,if_neg zo]
   have h:=Ga (L:=L) (k:=k) (f:=k) (r:=n%2^k) (p:=p) (F:=L.length+1-p) (agt k) hz hlt (by rw[ahJ];exact Nat.one_dvd _) hp (agt _);rw[h,run_bind]
   cases hr:(pF (2^k) k (n%2^k)).run L p with
   | none=>simp
   | some x=>
     obtain ⟨b,q⟩:=x
     cases b<;>simp[bit,DT.run]
theorem Ge {L:List Bool} {D k r:Nat}:(pF D (k+1) r).run L L.length=none:=by
 unfold pF
 split
 · rw[kI,if_neg (Nat.lt_irrefl _)]
 · rw[kI,if_neg (Nat.lt_irrefl _)]
theorem wU {L:List Bool} {n k:Nat}:(eI n k).run L L.length=if n%2^k=0 then some (n/2^k,L.length) else none:=by
 unfold eI;have hpos:0<2^k:=agV zd;have hlt:=agJ n hpos
 by_cases hz:n%2^k=0
 · rw[if_pos hz,if_pos hz]
   rfl
 · rw[if_neg hz,if_neg hz,run_bind]
   cases k with
   | zero=>omega
   | succ k=>rw[Ge]
end Go.Proofs.YtcnlmelpnflhnaaGreat
