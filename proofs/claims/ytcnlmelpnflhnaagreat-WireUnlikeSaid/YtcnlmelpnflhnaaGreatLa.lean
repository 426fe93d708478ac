import Derived.Test.YtcnlmelpnflhnaaGreatRh
import Derived.Test.YtcnlmelpnflhnaaGreatN2
import Derived.Test.YtcnlmelpnflhnaaGreatFa
import Derived.Test.YtcnlmelpnflhnaaGreatNi
namespace Go.Proofs.YtcnlmelpnflhnaaGreat
open Go.Eng Go.Vx
set_option linter.unusedSimpArgs false
set_option linter.unusedVariables false
set_option maxRecDepth 100000
theorem yf {n:Nat} (hn:n<18446744073709551616):aC Tryz.prog 146 [.lit (.int .u64 n)] [] (.lit (.int .i64 (bl n:Int))) []:=by
 refine zF pl Tryz.call146 Tryz.func146 [.tmp 2] fun Q hQ=>?_;refine ae ?_;refine zC (j8 hn) ?_;exact ak [] hQ
theorem yn {x:Rat} {L:List Bool} {p p':Nat} {d d' r1:Bool} {r2:Int} (hx:¬x.num<0) (hs:RS 400000 x)
 (hr:aC Tryz.prog 189 [.ref 0 0 0 0,NV x.num.natAbs,NV x.den] [some (aX L p d)] (.tup [.lit (.bool r1),.lit (.int .i64 r2)]) [some (aX L p' d')]):
 aC Tryz.prog 170 [.ref 0 0 0 0,RV x] [some (aX L p d)] (.tup [.lit (.bool r1),.lit (.int .i64 r2)]) [some (aX L p' d')]:=by
 obtain ⟨hs1,hs2⟩:=hs;have e:RV x=.agg [.row 1 ((nl (wg x.num.natAbs)).map (ie .u64)),.lit (.bool false),.row 1 ((nl (wg (x.den-1))).map (ie .u64))]:=by unfold RV;rw[agq hx]
 have ew:WV x.num=.agg [.row 1 ((nl (wg x.num.natAbs)).map (ie .u64)),.lit (.bool false)]:=by unfold WV;rw[agq hx]
 have h1:=J8 (x:=x);have h2:=oM (z:=x.num);have h3:=jj (z:=x.num);have h4:=oJ (x:=x) zo;rw[e] at h1 h4 ⊢;rw[ew] at h1 h2 h3;rw[agq hx] at h2;refine zF LD Tryz.call170 Tryz.func170 [.tmp 4,.tmp 5] fun Q hQ=>?_;refine ae ?_;refine zC h1 ?_;refine zC h2 ?_;refine zC h1 ?_;refine zC h3 ?_;refine zC h4 ?_;refine zW [some 0] [] hr ?_;exact ak [some 0] hQ
theorem pY {L:List Bool} {D g:Nat} (hg:0<g):∀f r p,ng L (g*D) f (g*r) p=ng L D f r p
 | 0,_,_=>rfl
 | f+1,r,p=>by
   rw[iz,iz];have e1:g*r+g*r=g*(r+r):=by rw[ag1]
   have e2:(g*D≤g*(r+r))=(D≤r+r):=propext ⟨fun h=>Nat.le_of_mul_le_mul_left h hg,fun h=>ahl g h⟩
   have e3:(if D≤r+r then g*(r+r)-g*D else g*(r+r))=g*(if D≤r+r then r+r-D else r+r):=by
    split
    · rw[Nat.mul_sub]
    · rfl
   have e4:∀z,(g*z≠0)=(z≠0):=fun z=>propext ⟨fun h e=>h (by rw[e,aiy]),fun h=>Nat.mul_ne_zero zo h⟩;simp only[e1,e2,e3,e4,pY hg f]
theorem qc {L:List Bool} {P D g p:Nat} (hg:0<g):eO L (g*P) (g*D) p=eO L P D p:=by
 unfold eO;have e1:(g*D=0)=(D=0):=propext ⟨fun h=>(Nat.mul_eq_zero.1 h).resolve_left zo,fun h=>by rw[h,aiy]⟩;have e2:(g*P=0)=(P=0):=propext ⟨fun h=>(Nat.mul_eq_zero.1 h).resolve_left zo,fun h=>by rw[h,aiy]⟩;have e3:(g*D<g*P)=(D<P):=propext ⟨fun h=>Nat.lt_of_mul_lt_mul_left h,fun h=>Nat.mul_lt_mul_of_pos_left h hg⟩;have e4:(g*P=g*D)=(P=D):=propext ⟨fun h=>Nat.eq_of_mul_eq_mul_left hg h,fun h=>by rw[h]⟩;simp only[e1,e2,e3,e4,pY hg]
theorem JB {L:List Bool} {n d p:Nat} (hd:d≠0):eO L (mkRat (n:Int) d).num.natAbs (mkRat (n:Int) d).den p=eO L n d p:=by
 rw[er hd,gI hd,jQ,ahe];have hg:0<Nat.gcd n d:=Nat.gcd_pos_of_pos_right _ zo;have h:=qc (L:=L) (P:=n/Nat.gcd n d) (D:=d/Nat.gcd n d) (p:=p) hg;rw[Nat.mul_div_cancel' (aiO n d),Nat.mul_div_cancel' (Nat.gcd_dvd_right n d)] at h;exact h.symm
theorem sY {n d:Nat} (hd:d≠0):¬(mkRat (n:Int) d).num<0:=by
 rw[er hd,agq (show¬(n:Int)<0 by omega)];exact Int.not_lt.2 (Int.natCast_nonneg _)
theorem tI {x:Rat} (hx:¬x.num<0):x-((x.floor:Int):Rat)=mkRat ((x.num.natAbs%x.den:Nat):Int) x.den:=by
 rw[Rat.sub_def',Rat.num_intCast,Rat.den_intCast,Rat.floor_def,aid]
 congr 1
 have h:=Int.mul_ediv_add_emod x.num x.den
 have e:((x.num.natAbs%x.den:Nat):Int)=x.num%x.den:=by
  rw[Int.natCast_emod];congr 1;omega
 rw[e,Int.natCast_one,Int.mul_one,Int.mul_comm];omega
theorem Df {x:Rat} (hx:¬x.num<0):x.floor=((x.num.natAbs/x.den:Nat):Int):=by
 rw[Rat.floor_def,Int.natCast_ediv];congr 1;omega
def ni (L:List Bool) (n d p:Nat):Int×Int×Nat×Bool:=
 let r:=eO L (n%d) d p
 (if r.2.1=0 then((n/d+(if r.1 then 1 else 0):Nat):Int) else 0,r.2.1,r.2.2.1,r.2.2.2)
theorem GP {x y:Rat}:zB x y<0↔x<y:=by
 unfold zB
 split
 · rename_i h;simp[h]
 · rename_i h;split<;>simp[h]
theorem EU {x y:Rat}:0<zB x y↔y<x:=by
 unfold zB
 split
 · rename_i h
   have:=Rat.not_lt.2 (Rat.le_of_lt h)
   simp[this]
 · rename_i h;split<;>simp[*]
theorem ka {x:Rat} (h:0≤x):¬x.num<0:=by have:=Rat.num_nonneg.2 h;omega
theorem pW {x:Rat} {L:List Bool} {p p':Nat} {d d' r1:Bool} {r2:Int} (hs:RS 100000 x) (h1:¬x<0) (h2:¬((1099511627776:Int):Rat)<x)
 (hch:aC Tryz.prog 189 [.ref 0 0 0 0,NV (x-((x.floor:Int):Rat)).num.natAbs,NV (x-((x.floor:Int):Rat)).den] [some (aX L p d)] (.tup [.lit (.bool r1),.lit (.int .i64 r2)]) [some (aX L p' d')]):
 aC Tryz.prog 134 [.ref 0 0 0 0,RV x] [some (aX L p d)]
 (.tup [.lit (.int .i64 (if r2=0 then((x.num.natAbs/x.den+(if r1 then 1 else 0):Nat):Int) else 0)),.lit (.int .i64 r2)]) [some (aX L p' d')]:=by
 have h0:=HB (n:=0) zd zd;have hM:=HB (n:=1099511627776) zd zd;have s0:RS 400000 ((0:Int):Rat):=qQ (agI (cK zd) zd) zd;have sM:RS 400000 ((1099511627776:Int):Rat):=qQ (agI (cK zd) zd) zd;have c0:=zS (hs.mono zd) s0;have cM:=zS (hs.mono zd) sM;have e0:=GP (x:=x) (y:=((0:Int):Rat));have eM:=EU (x:=x) (y:=((1099511627776:Int):Rat))
 have hfl:x.floor≤1099511627776:=by
  have:=Rat.floor_monotone (Rat.not_lt.1 h2)
  rwa [Rat.floor_intCast] at this
 rw[show((0:Int):Rat)=0 from rfl] at h0 s0 c0 e0;rw[KG] at h0 c0;have hd:=agq (fun e=>h1 (e0.1 e));have hd2:=agq (fun e=>h2 (eM.1 e));generalize ((1099511627776:Int):Rat)=M at*
 have hn:¬x.num<0:=ka (Rat.not_lt.1 h1);have hfn:=Df hn;have hre:=tI hn;have hf:=Da (x:=x) (hs.mono zd);have hab:=jj (z:=x.floor);have hfl2:x.floor.natAbs=x.num.natAbs/x.den:=by rw[hfn];rfl
 have hfl3:(wg (x.num.natAbs/x.den)).length≤1:=cK zo;have hna:=IS (n:=x.num.natAbs/x.den) zo;rw[←hfn] at hna;have hsf:RS 1 ((x.floor:Int):Rat):=qQ (by rw[hfl2];exact hfl3) zd;have hsb:=JA (hs.mono (show 100000≤400000 by decide)) (hsf.mono (show 1≤400000 by decide));have hrs:=Gg hs hsf;have hch:=yn (x:=x-((x.floor:Int):Rat)) (by rw[hre];exact sY x.den_nz) (hrs.mono zd) hch;have hin:=Iv (n:=x.num.natAbs/x.den) (M:=1099511627776) (m:=1099511627776) zo zo zo;rw[show min (x.num.natAbs/x.den) 1099511627776=x.num.natAbs/x.den by omega] at hin;rw[hfl2] at hab;generalize x-((x.floor:Int):Rat)=y at*
 have hfi:x.num.natAbs/x.den≤1099511627776:=by omega
 generalize x.num.natAbs/x.den=fl at*
 refine zF ES Tryz.call134 Tryz.func134 [.tmp 4,.tmp 5] fun Q hQ=>?_;refine ae ?_;refine zC h0 ?_;refine az (c0) rfl rfl ?_;refine bh hd ?_;refine zC hM ?_;refine az (cM) rfl rfl ?_;refine bh hd2 ?_;refine zC hf ?_;refine zC hab ?_;refine zC hna ?_;refine zC hsb ?_;refine aV [some 0] [] (hch) ?_
 by_cases hr:r2=0
 · rw[if_pos hr] at hQ
   subst hr
   cases r1
   · refine ae ?_
     refine zC hin ?_;exact ak [some 0] hQ
   · refine ae ?_
     refine zC hin ?_;exact ak [some 0] hQ
 · rw[if_neg hr] at hQ
   exact zE [some 0] hQ
theorem Eu {x:Rat} {L:List Bool} {p:Nat} (hn:¬x.num<0):eO L (x-((x.floor:Int):Rat)).num.natAbs (x-((x.floor:Int):Rat)).den p=eO L (x.num.natAbs%x.den) x.den p:=by
 rw[tI hn,JB x.den_nz]
theorem Ab {x:Rat} (hs:RS 100000 x):RS 200002 (x-((x.floor:Int):Rat)):=by
 have hf:RS 100001 ((x.floor:Int):Rat):=qQ (by
  rw[Rat.floor_def];have h1:=Int.natAbs_ediv_le_natAbs x.num (x.den:Int);exact agI (cI h1) (by have:=hs.1;omega)) zd
 exact(Gg hs hf).mono zd
theorem CQ {x:Rat} {L:List Bool} {p:Nat} (hL:L.length≤1048576) (hp:p≤L.length) (hs:RS 100000 x) (h1:¬x<0) (h2:¬((1099511627776:Int):Rat)<x):aC Tryz.prog 134 [.ref 0 0 0 0,RV x] [some (aX L p false)]
 (.tup [.lit (.int .i64 (ni L x.num.natAbs x.den p).1),.lit (.int .i64 (ni L x.num.natAbs x.den p).2.1)]) [some (aX L (ni L x.num.natAbs x.den p).2.2.1 (ni L x.num.natAbs x.den p).2.2.2)]:=by
 have hrs:=Ab hs;have hr:=vi (L:=L) (P:=(x-((x.floor:Int):Rat)).num.natAbs) (D:=(x-((x.floor:Int):Rat)).den) (p:=p) hL hp (agI hrs.1 zd) (agI hrs.2 zd);rw[Eu (ka (Rat.not_lt.1 h1))] at hr;exact pW hs h1 h2 hr
theorem pV {L:List Bool} {n w:Nat}:∀f q,q≤L.length→q≤(db L n w f q).2.2.1∧(db L n w f q).2.2.1≤L.length
 | 0,q,h=>⟨h,agt _⟩
 | f+1,q,h=>by
   unfold db
   split
   · split
     · exact⟨ahC _ _,by assumption⟩
     · obtain ⟨h1,h2⟩:=pV (n:=n) (w:=w) f (q+w) (by assumption)
       exact⟨by omega,h2⟩
   · exact⟨h,agt _⟩
theorem rj {L:List Bool} {n p:Nat} (h:p≤L.length):p≤(bP L n p).2.2.1∧(bP L n p).2.2.1≤L.length:=pV _ _ h
theorem mK {L:List Bool} {n p:Nat} (hn:0<n):bP L n p=(0,8,L.length,true)∨∃x q,x<n∧bP L n p=(x,0,q,false):=by
 unfold bP;generalize bl (n-1)=w;generalize L.length+1-p=f
 induction f generalizing p with
 | zero=>exact .inl rfl
 | succ f ih=>
   unfold db
   split
   · split
     · rename_i h;exact .inr ⟨_,_,h,rfl⟩
     · exact ih
   · exact .inl rfl
def acM (N took:Nat) (e:Int):V:=.agg [.lit (.int .u64 (N:Int)),.lit (.int .i64 (took:Int)),.lit (.int .i64 e)]
attribute [go_sem] acM
def wrP (L:List Bool):V:=.rref 2 [[.row 1 ((pk L).map (ie .u8)),.lit (.int .i64 (L.length:Int))]] 0 0
attribute [go_sem] wrP
theorem sI {L:List Bool} (hm:L.length<1099511627776):aC Tryz.prog 45 [wrP L] [] (.sl 0 1 0 (pk L).length) [some (iY L)]:=by
 refine zF pl Tryz.call45 Tryz.func45 [.tmp 2] fun Q hQ=>?_;have hpl:=j1 L;exact zE [some 0] hQ
open Go.Eng
inductive DT (α:Type) where
 | ret (a:α)
 | ask (f g:DT α)
variable {α β:Type}
def DT.bind:DT α→(α→DT β)→DT β
 | .ret a,k=>k a
 | .ask f g,k=>.ask (f.bind k) (g.bind k)
def DT.run (L:List Bool):DT α→Nat→Option (α×Nat)
 | .ret a,p=>some (a,p)
 | .ask f g,p=>if p<L.length then(if L.getD p false then g.run L (p+1) else f.run L (p+1)) else none
def DT.mean (v:α→Rat):DT α→Rat
 | .ret a=>v a
 | .ask f g=>(f.mean v+g.mean v)/2
def DT.all (P:α→Prop):DT α→Prop
 | .ret a=>P a
 | .ask f g=>f.all P∧g.all P
theorem kI {L:List Bool} {f g:DT α} {p:Nat}:(DT.ask f g).run L p=if p<L.length then(if L.getD p false then g.run L (p+1) else f.run L (p+1)) else none:=rfl
theorem run_bind {L:List Bool} {k:α→DT β}:∀{t:DT α} {p:Nat},(t.bind k).run L p=match t.run L p with | some (a,q)=>(k a).run L q | none=>none
 | .ret a,p=>rfl
 | .ask f g,p=>by
   rw[show(DT.ask f g).bind k=.ask (f.bind k) (g.bind k) from rfl,kI,kI]
   by_cases h:p<L.length
   · rw[if_pos h,if_pos h]
     cases L.getD p false
     · exact run_bind
     · exact run_bind
   · rw[if_neg h,if_neg h]
theorem bM {v:β→Rat} {k:α→DT β}:∀{t:DT α},(t.bind k).mean v=t.mean (fun a=>(k a).mean v)
 | .ret a=>rfl
 | .ask f g=>by
   unfold DT.bind DT.mean;rw[bM,bM]
theorem all_bind {P:β→Prop} {k:α→DT β}:∀{t:DT α},(t.bind k).all P↔t.all (fun a=>(k a).all P)
 | .ret a=>Iff.rfl
 | .ask f g=>by
   unfold DT.bind DT.all;rw[all_bind,all_bind]
theorem cc {v w:α→Rat}:∀{t:DT α},t.all (fun a=>v a=w a)→t.mean v=t.mean w
 | .ret a,h=>h
 | .ask f g,h=>by
   unfold DT.mean;rw[cc h.1,cc h.2]
theorem bC {P Q:α→Prop} (h:∀a,P a→Q a):∀{t:DT α},t.all P→t.all Q
 | .ret a,x=>h a x
 | .ask f g,x=>⟨bC h x.1,bC h x.2⟩
theorem th {P Q:α→Prop}:∀{t:DT α},t.all P→t.all Q→t.all (fun a=>P a∧Q a)
 | .ret a,x,y=>⟨x,y⟩
 | .ask f g,x,y=>⟨th x.1 y.1,th x.2 y.2⟩
theorem all_true {P:α→Prop} (h:∀a,P a):∀{t:DT α},t.all P
 | .ret a=>h a
 | .ask f g=>⟨all_true h,all_true h⟩
theorem ig {P:α→Prop} {L:List Bool} {a:α} {q:Nat}:∀{t:DT α} {p:Nat},t.all P→t.run L p=some (a,q)→P a
 | .ret b,p,h,e=>by
   unfold DT.run at e
   cases e
   exact h
 | .ask f g,p,h,e=>by
   unfold DT.run at e
   split at e
   · split at e
     · exact ig h.2 e
     · exact ig h.1 e
   · cases e
theorem qx {L:List Bool} {a:α} {q:Nat}:∀{t:DT α} {p:Nat},p≤L.length→t.run L p=some (a,q)→p≤q∧q≤L.length
 | .ret b,p,h,e=>by
   unfold DT.run at e
   cases e
   exact⟨agt _,h⟩
 | .ask f g,p,h,e=>by
   unfold DT.run at e
   split at e
   · split at e
     · have:=qx (p:=p+1) zo e;omega
     · have:=qx (p:=p+1) zo e;omega
   · cases e
theorem qX {v w:α→Rat}:∀{t:DT α},t.mean (fun a=>v a+w a)=t.mean v+t.mean w
 | .ret a=>rfl
 | .ask f g=>by
   unfold DT.mean;rw[qX,qX]
   grind
theorem ph {v:α→Rat} {c:Rat}:∀{t:DT α},t.mean (fun a=>v a*c)=t.mean v*c
 | .ret a=>rfl
 | .ask f g=>by
   unfold DT.mean;rw[ph,ph]
   grind
theorem dI {c:Rat}:∀{t:DT α},t.mean (fun _=>c)=c
 | .ret a=>rfl
 | .ask f g=>by
   unfold DT.mean;rw[dI,dI]
   grind
def pF (D:Nat):Nat→Nat→DT Bool
 | 0,_=>.ret false
 | f+1,r=>if D≤r+r then .ask (.ret true) (if r+r-D=0 then .ret false else pF D f (r+r-D)) else .ask (if r+r=0 then .ret false else pF D f (r+r)) (.ret false)
def bit (b:Bool):Nat:=if b then 1 else 0
def vb (b:Bool):Rat:=((bit b:Nat):Int)
theorem zD {k f r:Nat} (h:f+1≤k) (hd:2^(k-(f+1))∣r):2^(k-f)∣r+r:=by
 obtain ⟨c,rfl⟩:=hd;refine⟨c,?_⟩;rw[show k-f=k-(f+1)+1 by omega,agS];generalize 2^(k-(f+1))=x;rw[agZ,agK 2 c,←agZ];omega
theorem Bq {k:Nat}:∀{f r:Nat},f≤k→r<2^k→2^(k-f)∣r→(pF (2^k) f r).mean vb*(((2^k:Nat):Int):Rat)=(((r:Nat):Int):Rat):=by
 intro f
 induction f with
 | zero=>
   intro r _ h1 h2
   have:r=0:=Nat.eq_zero_of_dvd_of_lt h2 (by simpa using h1)
   subst this;unfold pF DT.mean vb bit;rw[show(((if false=true then 1 else 0:Nat):Int):Rat)=0 from rfl,Rat.zero_mul]
   rfl
 | succ f ih=>
   intro r hk h1 h2;have h3:=zD hk h2;unfold pF;generalize hD:2^k=D at*
   have hv1:vb true=1:=rfl;have hv0:vb false=0:=rfl;have hdk:2^(k-f)∣D:=by rw[←hD];exact Nat.pow_dvd_pow 2 zo
   split
   · rename_i hge
     have h4:2^(k-f)∣r+r-D:=Nat.dvd_sub h3 hdk
     have e:(((r+r-D:Nat):Int):Rat)=(((r:Nat):Int):Rat)+(((r:Nat):Int):Rat)-(((D:Nat):Int):Rat):=by
      rw[←Rat.intCast_add,←Rat.intCast_sub]
      congr 1
      omega
     unfold DT.mean
     split
     · rename_i hz
       rw[hz] at e;rw[show(((0:Nat):Int):Rat)=0 from rfl] at e;unfold DT.mean;rw[hv1,hv0]
       grind
     · have i:=ih (r:=r+r-D) zo zo h4
       rw[e] at i;rw[show DT.mean vb (DT.ret true)=1 from rfl]
       grind
   · rename_i hge
     have e:(((r+r:Nat):Int):Rat)=(((r:Nat):Int):Rat)+(((r:Nat):Int):Rat):=by
      rw[←Rat.intCast_add]
      congr 1
     unfold DT.mean
     split
     · rename_i hz
       rw[hz] at e;rw[show(((0:Nat):Int):Rat)=0 from rfl] at e;unfold DT.mean;rw[hv0]
       grind
     · have i:=ih (r:=r+r) zo zo h3
       rw[e] at i;rw[show DT.mean vb (DT.ret false)=0 from rfl]
       grind
def eI (n k:Nat):DT Nat:=if n%2^k=0 then .ret (n/2^k) else(pF (2^k) k (n%2^k)).bind fun b=>.ret (n/2^k+bit b)
def vn (n:Nat):Rat:=((n:Nat):Int)
theorem nk (a b:Nat):vn (a*b)=vn a*vn b:=by unfold vn;simp
theorem ui (a b:Nat):vn (a+b)=vn a+vn b:=by unfold vn;simp
theorem so (n k:Nat):(eI n k).mean vn*vn (2^k)=vn n:=by
 unfold eI;have hd:=agT n (2^k)
 split
 · rename_i h
   rw[h] at hd;rw[show(DT.ret (n/2^k)).mean vn=vn (n/2^k) from rfl,←nk,agK];rw[ahA] at hd;rw[hd]
 · rw[bM]
   have h1:∀b,((DT.ret (n/2^k+bit b)).mean vn)=vn (n/2^k)+vb b:=fun b=>ui _ _;have h2:=Bq (k:=k) (f:=k) (r:=n%2^k) (agt k) (agJ _ (agV zd)) (by rw[ahJ];exact Nat.one_dvd _);rw[cc (w:=fun b=>vn (n/2^k)+vb b) (all_true h1),qX,dI];have h3:vn n=vn (2^k)*vn (n/2^k)+vn (n%2^k):=by rw[←nk,←ui,hd]
   unfold vn at*
   grind
end Go.Proofs.YtcnlmelpnflhnaaGreat

namespace Go.Proofs.YtcnlmelpnflhnaaGreat
open Go.Eng Go.Vx
set_option linter.unusedSimpArgs false
set_option linter.unusedVariables false
set_option maxRecDepth 100000
theorem GO (a b:Nat) (hb:b<8):a*8 ||| b=a*8+b:=by
 have:=Nat.two_pow_add_eq_or_of_lt (i:=3) (b:=b) hb a
 rw[show(2:Nat)^3=8 from rfl,agK 8 a] at this;exact this.symm
theorem Jv {a b:Nat} (ha:a<18446744073709551616) (hb:b<18446744073709551616):aC Tryz.prog 174 [.lit (.int .u64 a),.lit (.int .u64 b)] [] (.lit (.int .u64 ((a*b%pr:Nat):Int))) []:=by
 refine zF pl Tryz.call174 Tryz.func174 [.tmp 4] fun Q hQ=>?_;have e1:(a:Int)%2305843009213693951=((a%2305843009213693951:Nat):Int):=by omega
 have e2:(b:Int)%2305843009213693951=((b%2305843009213693951:Nat):Int):=by omega
 have hab:a*b%pr=(a%2305843009213693951)*(b%2305843009213693951)%2305843009213693951:=by unfold pr;rw[←Nat.mul_mod]
 rw[hab] at hQ;have l1:a%2305843009213693951<2305843009213693951:=agJ _ zd;have l2:b%2305843009213693951<2305843009213693951:=agJ _ zd;generalize a%2305843009213693951=x at*
 generalize b%2305843009213693951=y at*
 have hxy:x*y≤2305843009213693950*2305843009213693950:=agQ zo zo;refine dK e1 e2 ?_;refine az (p8 (x:=x) (y:=y) zo zo) rfl rfl ?_;generalize x*y=z at*
 have hm:=abJ z;have hhi:z/18446744073709551616<288230376151711744:=by omega
 have f1:((z%18446744073709551616:Nat):Int)%2305843009213693952=((z%2305843009213693952:Nat):Int):=by omega
 have f2:((z%18446744073709551616:Nat):Int)/2305843009213693952=((z%18446744073709551616/2305843009213693952:Nat):Int):=by omega
 have f3:((z/18446744073709551616:Nat):Int)*8=((z/18446744073709551616*8:Nat):Int):=by omega
 have f4:bY .or .u64 ((z/18446744073709551616*8:Nat):Int) ((z%18446744073709551616/2305843009213693952:Nat):Int)=((z/2305843009213693952:Nat):Int):=by
  rw[jo zo zo,GO _ _ zo];omega
 have f5:(((z%2305843009213693952:Nat):Int)+((z/2305843009213693952:Nat):Int))%2305843009213693951=((z%2305843009213693951:Nat):Int):=by omega
 refine Of f1 f2 f3 f4 f5 ?_;exact ak [] hQ
end Go.Proofs.YtcnlmelpnflhnaaGreat
