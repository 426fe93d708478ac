import Derived.Test.YtcnlmelpnflhnaaGreatE2
import Derived.Test.YtcnlmelpnflhnaaGreatE1
import Derived.Below
import Derived.Test.YtcnlmelpnflhnaaGreatVl
import Derived.Test.YtcnlmelpnflhnaaGreatVFacts
import Derived.Deep.Slices
import Derived.OpenShut
import Derived.ChangeArms
import Derived.WideShapes
namespace Go.Eng
set_option linter.unusedSimpArgs false
set_option linter.unusedVariables false
def u8v (b:UInt8):Value:=.int .u8 (b.toNat:Int)
theorem Row.get {α:Type} [Inhabited α] {enc:α→Value} {w:World} {a:Option Addr} {l:List α} (h:Row w a (l.map enc)) {m:Nat} (hm:m<l.length) (F:Bool→Value→Prop):
 Eng.cellK w ⟨ab a,ao a+m,none⟩ F=F true (enc (l.getD m default)):=by
 rw[h.cellK (m:=m) (by simpa using hm)];simp[ajk,ajm hm]
theorem la {α:Type} [Inhabited α] (l:List α) (i:Nat) (h:i<l.length):l.take (i+1)=l.take i++[l.getD i default]:=by
 rw[ajN h];simp[ajk,ajm h]
theorem Hc (op:BinOp) (k:IntKind) (B:Nat) (hB:k.bits=B) (hs:k.signed=false) (x y:Nat) (hx:x<2^B) (hy:y<2^B):
 cv .xor k (x:Int) (y:Int)=((x^^^y:Nat):Int)∧cv .and k (x:Int) (y:Int)=((x&&&y:Nat):Int)∧cv .or k (x:Int) (y:Int)=((x ||| y:Nat):Int):=by
 subst hB
 have hw:∀z:Nat,z<2^k.bits→k.wrap (z:Int)=(z:Int):=fun z hz=>by
  unfold IntKind.wrap;rw[hs]
  have:((z:Int)%(2^k.bits:Int))=z:=Int.emod_eq_of_lt zo (by exact_mod_cast hz)
  simp[this]
 have e1:(BitVec.ofInt k.bits (x:Int)^^^BitVec.ofInt k.bits (y:Int)).toNat=x^^^y:=by
  rw[BitVec.toNat_xor,BitVec.ofInt_natCast,BitVec.ofInt_natCast,BitVec.toNat_ofNat,BitVec.toNat_ofNat,ajL hx,ajL hy]
 have e2:(BitVec.ofInt k.bits (x:Int)&&&BitVec.ofInt k.bits (y:Int)).toNat=x&&&y:=by
  rw[BitVec.toNat_and,BitVec.ofInt_natCast,BitVec.ofInt_natCast,BitVec.toNat_ofNat,BitVec.toNat_ofNat,ajL hx,ajL hy]
 have e3:(BitVec.ofInt k.bits (x:Int) ||| BitVec.ofInt k.bits (y:Int)).toNat=x ||| y:=by
  rw[BitVec.toNat_or,BitVec.ofInt_natCast,BitVec.ofInt_natCast,BitVec.toNat_ofNat,BitVec.toNat_ofNat,ajL hx,ajL hy]
 refine⟨?_,?_,?_⟩
 · show k.wrap ((BitVec.ofInt k.bits (x:Int)^^^BitVec.ofInt k.bits (y:Int)).toNat:Int)=_
   rw[e1];exact hw _ (alD hx hy)
 · show k.wrap ((BitVec.ofInt k.bits (x:Int)&&&BitVec.ofInt k.bits (y:Int)).toNat:Int)=_
   rw[e2];exact hw _ (Nat.and_lt_two_pow _ hy)
 · show k.wrap ((BitVec.ofInt k.bits (x:Int) ||| BitVec.ofInt k.bits (y:Int)).toNat:Int)=_
   rw[e3];exact hw _ (Nat.or_lt_two_pow hx hy)
theorem vK {x y:Nat} (hx:x<4294967296) (hy:y<4294967296):cv .xor .u32 (x:Int) (y:Int)=((x^^^y:Nat):Int):=(Hc .xor .u32 32 rfl rfl x y hx hy).1
theorem QJ {x y:Nat} (hx:x<256) (hy:y<256):cv .xor .u8 (x:Int) (y:Int)=((x^^^y:Nat):Int):=(Hc .xor .u8 8 rfl rfl x y hx hy).1
theorem XM {x y:Nat} (hx:x<256) (hy:y<256):cv .or .u8 (x:Int) (y:Int)=((x ||| y:Nat):Int):=(Hc .xor .u8 8 rfl rfl x y hx hy).2.2
theorem Lw {x y:Nat} (hx:x<18446744073709551616) (hy:y<18446744073709551616):cv .and .u64 (x:Int) (y:Int)=((x&&&y:Nat):Int):=(Hc .xor .u64 64 rfl rfl x y hx hy).2.1
theorem iE {x y:Nat} (hx:x<18446744073709551616) (hy:y<18446744073709551616):cv .or .u64 (x:Int) (y:Int)=((x ||| y:Nat):Int):=(Hc .xor .u64 64 rfl rfl x y hx hy).2.2
end Go.Eng
namespace Go.Proofs.YtcnlmelpnflhnaaGreat
open Go.Eng
open Go.RowKit
set_option linter.unusedSimpArgs false
set_option linter.unusedVariables false
theorem toBelow {w w':World} (h:Ext [] w w'):Below w.heap.size w w':=⟨h.os,h.tape,h.output,h.size,fun k hk=>h.block k hk (by simp)⟩
theorem FE {w:World} {x:Addr} {v:Value} (h:w.cell? x=some v):x.spot=none:=by
 unfold World.cell? at h
 split at h
 · split at h
   · simp at h
   · rename_i hn;simpa using hn
 · simp at h
theorem row_cells {w:World} {x:Addr} {cs:List Value} (h:∀i (hi:i<cs.length),w.cell? (x.add i)=some cs[i]):Row w (some x) cs:=by
 have hs:0<cs.length→x=⟨x.block,x.off,none⟩:=fun h0=>by
  have:=FE (h 0 h0)
  cases x
  simpa [Addr.add] using this
 refine⟨fun h0=>congrArg some (hs h0),fun i hi=>?_⟩;have h1:=h i hi;have h2:=hs zo
 have:x.add i=⟨x.block,x.off+i,none⟩:=by rw[h2];simp[Addr.add]
 rw[this] at h1;exact h1
theorem wf_bounds {k:IntKind} {n:Int} (h:(Lit.int k n).wf=true):k.min≤n∧n≤k.max:=by
 have h':(decide (k.min≤n)&&decide (n≤k.max))=true:=h;simpa using h'
theorem I9 {P:Program} {f:FuncId} {args:List Value} {w:World} (h:vC P f args w fun v w'=>v=.bool true∧Ext [] w w'):
 Calls P f args.toArray w fun e w'=>e=.returned (.bool true)∧Below w.heap.size w w':=
 Calls.mono h fun e w' ⟨v,he,hv,hw⟩=>⟨by rw[he,hv],toBelow hw⟩
open Go.Eng Go.Vx Go.RowKit
theorem rN {α:Type} (f:α→PV) (l:List α):(l.map fun x=> [f x]).flatten=l.map f:=by
 induction l with
 | nil=>rfl
 | cons x l ih=>simp[ih]
def ke (B:List Int):Prop:=∀x∈B,0≤x∧x≤255
theorem qm {P:Program} {f:FuncId} {vs:List V} {args:List Value} {w:World} (h:aA P f vs [] (.lit (.bool true)) []) (hr:bh w (fun b=>b<w.heap.size) [] vs args) (hlay:nB w (fun b=>b<w.heap.size):=by intro e he;simp[Pp] at he):
 Calls P f args.toArray w fun e w'=>e=.returned (.bool true)∧Below w.heap.size w w':=I9 (Bc (u:=.lit (.bool true)) h hr (fun u s h=>h.1) hlay)
end Go.Proofs.YtcnlmelpnflhnaaGreat
attribute [go_sem] decide_true decide_false beq_true beq_false Bool.true_beq Bool.false_beq Bool.not_not Bool.not_true Bool.not_false List.drop_zero List.map_cons List.map_nil List.length_cons List.length_nil List.cons_append List.nil_append List.set_cons_zero List.set_cons_succ List.getElem?_cons_zero List.getElem?_cons_succ List.length_map Int.toNat_natCast Nat.zero_add Nat.add_zero
namespace Go.Vx
open Go.Eng
set_option linter.unusedSimpArgs false
set_option linter.unusedVariables false
theorem cQ {α:Type}:(∀a b:List α,(a++b).length=a.length+b.length)∧(∀(l:List α) i x,(l.set i x).length=l.length)∧(∀(x:α) l,(x::l).length=l.length+1)∧([]:List α).length=0∧(∀n (x:α),(List.replicate n x).length=n)∧(∀n (l:List α),(l.take n).length=min n l.length)∧(∀n (l:List α),(l.drop n).length=l.length-n):=
 ⟨fun _ _=>ajj,fun _ _ _=>ajR,fun _ _=>rfl,rfl,fun _ _=>ajF,fun _ _=>ajt,fun _ _=>ajY⟩
theorem ae {p q:Prop} (hq:q) (h:p=q:=by simp(maxSteps:=1000000) (disch:=(first | omega | (simp only[cQ,ajl,ajo,true_and,and_true];(try omega);done) | fail)) only[go_sem,Int.reduceEq,Int.reduceToNat,Nat.reduceAdd,Nat.reduceMul,Nat.reduceEqDiff, ↓reduceIte];rfl):p:=h.symm▸hq
theorem br {p q A0:Prop} (f0:A0) (hq:q) (h:A0→p=q:=by intro f0;simp(maxSteps:=1000000) (disch:=(first | omega | (simp only[cQ,ajl,ajo,true_and,and_true];(try omega);done) | fail)) only[go_sem,f0,Int.reduceEq,Int.reduceToNat,Nat.reduceAdd,Nat.reduceMul,Nat.reduceEqDiff, ↓reduceIte];rfl):p:=(h f0).symm▸hq
theorem ej {p q A0 A1:Prop} (f0:A0) (f1:A1) (hq:q) (h:A0→A1→p=q:=by intro f0 f1;simp(maxSteps:=1000000) (disch:=(first | omega | (simp only[cQ,ajl,ajo,true_and,and_true];(try omega);done) | fail)) only[go_sem,f0,f1,Int.reduceEq,Int.reduceToNat,Nat.reduceAdd,Nat.reduceMul,Nat.reduceEqDiff, ↓reduceIte];rfl):p:=(h f0 f1).symm▸hq
theorem Kh {p q A0 A1 A2 A3:Prop} (f0:A0) (f1:A1) (f2:A2) (f3:A3) (hq:q) (h:A0→A1→A2→A3→p=q:=by intro f0 f1 f2 f3;simp(maxSteps:=1000000) (disch:=(first | omega | (simp only[cQ,ajl,ajo,true_and,and_true];(try omega);done) | fail)) only[go_sem,f0,f1,f2,f3,Int.reduceEq,Int.reduceToNat,Nat.reduceAdd,Nat.reduceMul,Nat.reduceEqDiff, ↓reduceIte];rfl):p:=(h f0 f1 f2 f3).symm▸hq
theorem qZ {p q A0 A1 A2:Prop} (f0:A0) (f1:A1) (f2:A2) (hq:q) (h:A0→A1→A2→p=q:=by intro f0 f1 f2;simp(maxSteps:=1000000) (disch:=(first | omega | (simp only[cQ,ajl,ajo,true_and,and_true];(try omega);done) | fail)) only[go_sem,f0,f1,f2,Int.reduceEq,Int.reduceToNat,Nat.reduceAdd,Nat.reduceMul,Nat.reduceEqDiff, ↓reduceIte];rfl):p:=(h f0 f1 f2).symm▸hq
theorem Jf {p q A0:Prop} (f0:A0) (hq:q) (h:A0→p=q:=by intro f0;simp(maxSteps:=1000000) (disch:=(first | omega | (simp only[cQ,ajl,ajo,true_and,and_true];(try omega);done) | fail)) only[go_sem,f0,ajE,Int.reduceEq,Int.reduceToNat,Nat.reduceAdd,Nat.reduceMul,Nat.reduceEqDiff, ↓reduceIte];rfl):p:=(h f0).symm▸hq
theorem pS {p q:Prop} (hq:q) (h:p=q:=by simp(maxSteps:=1000000) (disch:=(first | omega | (simp only[cQ,ajl,ajo,true_and,and_true];(try omega);done) | fail)) only[go_sem,and_self,and_true,Int.reduceEq,Int.reduceToNat,Nat.reduceAdd,Nat.reduceMul,Nat.reduceEqDiff, ↓reduceIte];rfl):p:=(h).symm▸hq
theorem VA {p q:Prop} (hq:q) (h:p=q:=by simp(maxSteps:=1000000) (disch:=(first | omega | (simp only[cQ,ajl,ajo,true_and,and_true];(try omega);done) | fail)) only[go_sem,beq_self_eq_true,aju,Int.reduceEq,Int.reduceToNat,Nat.reduceAdd,Nat.reduceMul,Nat.reduceEqDiff, ↓reduceIte];rfl):p:=(h).symm▸hq
theorem PN {p q A0 A1 A2 A3 A4:Prop} (f0:A0) (f1:A1) (f2:A2) (f3:A3) (f4:A4) (hq:q) (h:A0→A1→A2→A3→A4→p=q:=by intro f0 f1 f2 f3 f4;simp(maxSteps:=1000000) (disch:=(first | omega | (simp only[cQ,ajl,ajo,true_and,and_true];(try omega);done) | fail)) only[go_sem,f0,f1,f2,f3,f4,Int.reduceEq,Int.reduceToNat,Nat.reduceAdd,Nat.reduceMul,Nat.reduceEqDiff, ↓reduceIte];rfl):p:=(h f0 f1 f2 f3 f4).symm▸hq
theorem Zu {p q:Prop} (hq:q) (h:p=q:=by simp(maxSteps:=1000000) (disch:=(first | omega | (simp only[cQ,ajl,ajo,true_and,and_true];(try omega);done) | fail)) only[go_sem,List.isEmpty_nil,Int.reduceEq,Int.reduceToNat,Nat.reduceAdd,Nat.reduceMul,Nat.reduceEqDiff, ↓reduceIte];rfl):p:=(h).symm▸hq
theorem zq9 {p q:Prop} (hq:q) (h:p=q:=by simp(maxSteps:=1000000) (disch:=(first | omega | (simp only[cQ,ajl,ajo,true_and,and_true];(try omega);done) | fail)) only[go_sem,ali,Int.reduceEq,Int.reduceToNat,Nat.reduceAdd,Nat.reduceMul,Nat.reduceEqDiff, ↓reduceIte];rfl):p:=(h).symm▸hq
theorem Zj {p q:Prop} (hq:q) (h:p=q:=by simp(maxSteps:=1000000) (disch:=(first | omega | (simp only[cQ,ajl,ajo,true_and,and_true];(try omega);done) | fail)) only[go_sem,and_self,Int.reduceEq,Int.reduceToNat,Nat.reduceAdd,Nat.reduceMul,Nat.reduceEqDiff, ↓reduceIte];rfl):p:=(h).symm▸hq
theorem Ze {p q:Prop} (hq:q) (h:p=q:=by simp(maxSteps:=1000000) (disch:=(first | omega | (simp only[cQ,ajl,ajo,true_and,and_true];(try omega);done) | fail)) only[go_sem,beq_self_eq_true,Int.reduceEq,Int.reduceToNat,Nat.reduceAdd,Nat.reduceMul,Nat.reduceEqDiff, ↓reduceIte];rfl):p:=(h).symm▸hq
theorem vd {p q A0 A1 A2 A3 A4 A5:Prop} (f0:A0) (f1:A1) (f2:A2) (f3:A3) (f4:A4) (f5:A5) (hq:q) (h:A0→A1→A2→A3→A4→A5→p=q:=by intro f0 f1 f2 f3 f4 f5;simp(maxSteps:=1000000) (disch:=(first | omega | (simp only[cQ,ajl,ajo,true_and,and_true];(try omega);done) | fail)) only[go_sem,f0,f1,f2,f3,f4,f5,Int.reduceEq,Int.reduceToNat,Nat.reduceAdd,Nat.reduceMul,Nat.reduceEqDiff, ↓reduceIte];rfl):p:=(h f0 f1 f2 f3 f4 f5).symm▸hq
theorem XN {p q A0 A1 A2 A3 A4 A5 A6:Prop} (f0:A0) (f1:A1) (f2:A2) (f3:A3) (f4:A4) (f5:A5) (f6:A6) (hq:q) (h:A0→A1→A2→A3→A4→A5→A6→p=q:=by intro f0 f1 f2 f3 f4 f5 f6;simp(maxSteps:=1000000) (disch:=(first | omega | (simp only[cQ,ajl,ajo,true_and,and_true];(try omega);done) | fail)) only[go_sem,f0,f1,f2,f3,f4,f5,f6,Int.reduceEq,Int.reduceToNat,Nat.reduceAdd,Nat.reduceMul,Nat.reduceEqDiff, ↓reduceIte];rfl):p:=(h f0 f1 f2 f3 f4 f5 f6).symm▸hq
theorem PJ {p q A0 A1 A2 A3 A4 A5 A6 A7:Prop} (f0:A0) (f1:A1) (f2:A2) (f3:A3) (f4:A4) (f5:A5) (f6:A6) (f7:A7) (hq:q) (h:A0→A1→A2→A3→A4→A5→A6→A7→p=q:=by intro f0 f1 f2 f3 f4 f5 f6 f7;simp(maxSteps:=1000000) (disch:=(first | omega | (simp only[cQ,ajl,ajo,true_and,and_true];(try omega);done) | fail)) only[go_sem,f0,f1,f2,f3,f4,f5,f6,f7,Int.reduceEq,Int.reduceToNat,Nat.reduceAdd,Nat.reduceMul,Nat.reduceEqDiff, ↓reduceIte];rfl):p:=(h f0 f1 f2 f3 f4 f5 f6 f7).symm▸hq
theorem Zd {p q A0 A1:Prop} (f0:A0) (f1:A1) (hq:q) (h:A0→A1→p=q:=by intro f0 f1;simp(maxSteps:=1000000) (disch:=(first | omega | (simp only[cQ,ajl,ajo,true_and,and_true];(try omega);done) | fail)) only[go_sem,f0,f1,aj6,Int.reduceEq,Int.reduceToNat,Nat.reduceAdd,Nat.reduceMul,Nat.reduceEqDiff, ↓reduceIte];rfl):p:=(h f0 f1).symm▸hq
theorem E6 {p q:Prop} (hq:q) (h:p=q:=by simp(maxSteps:=1000000) (disch:=(first | omega | (simp only[cQ,ajl,ajo,true_and,and_true];(try omega);done) | fail)) only[go_sem,decide_true,Int.reduceEq,Int.reduceToNat,Nat.reduceAdd,Nat.reduceMul,Nat.reduceEqDiff, ↓reduceIte];rfl):p:=(h).symm▸hq
theorem JD {p q:Prop} (hq:q) (h:p=q:=by simp(maxSteps:=1000000) (disch:=(first | omega | (simp only[cQ,ajl,ajo,true_and,and_true];(try omega);done) | fail)) only[go_sem,decide_false,Int.reduceEq,Int.reduceToNat,Nat.reduceAdd,Nat.reduceMul,Nat.reduceEqDiff, ↓reduceIte];rfl):p:=(h).symm▸hq
theorem QK {p q A0 A1 A2:Prop} (f0:A0) (f1:A1) (f2:A2) (hq:q) (h:A0→A1→A2→p=q:=by intro f0 f1 f2;simp(maxSteps:=1000000) (disch:=(first | omega | (simp only[cQ,ajl,ajo,true_and,and_true];(try omega);done) | fail)) only[go_sem,f0,f1,f2,alz,Int.reduceEq,Int.reduceToNat,Nat.reduceAdd,Nat.reduceMul,Nat.reduceEqDiff, ↓reduceIte];rfl):p:=(h f0 f1 f2).symm▸hq
theorem W7 {p q A0:Prop} (f0:A0) (hq:q) (h:A0→p=q:=by intro f0;simp(maxSteps:=1000000) (disch:=(first | omega | (simp only[cQ,ajl,ajo,true_and,and_true];(try omega);done) | fail)) only[go_sem,f0,ali,decide_true,Int.reduceEq,Int.reduceToNat,Nat.reduceAdd,Nat.reduceMul,Nat.reduceEqDiff, ↓reduceIte];rfl):p:=(h f0).symm▸hq
theorem ad5 {p q A0:Prop} (f0:A0) (hq:q) (h:A0→p=q:=by intro f0;simp(maxSteps:=1000000) (disch:=(first | omega | (simp only[cQ,ajl,ajo,true_and,and_true];(try omega);done) | fail)) only[go_sem,f0,aly,decide_false,Int.reduceEq,Int.reduceToNat,Nat.reduceAdd,Nat.reduceMul,Nat.reduceEqDiff, ↓reduceIte];rfl):p:=(h f0).symm▸hq
theorem afW {p q:Prop} (hq:q) (h:p=q:=by simp(maxSteps:=1000000) (disch:=(first | omega | (simp only[cQ,ajl,ajo,true_and,and_true];(try omega);done) | fail)) only[go_sem,Bool.toNat_true,decide_true,Int.reduceEq,Int.reduceToNat,Nat.reduceAdd,Nat.reduceMul,Nat.reduceEqDiff, ↓reduceIte];rfl):p:=(h).symm▸hq
theorem aed {p q:Prop} (hq:q) (h:p=q:=by simp(maxSteps:=1000000) (disch:=(first | omega | (simp only[cQ,ajl,ajo,true_and,and_true];(try omega);done) | fail)) only[go_sem,Bool.toNat_false,Int.reduceEq,Int.reduceToNat,Nat.reduceAdd,Nat.reduceMul,Nat.reduceEqDiff, ↓reduceIte];rfl):p:=(h).symm▸hq
theorem FA {p:Prop} (h:p=True:=by simp(maxSteps:=1000000) (disch:=(first | omega | (simp only[cQ,ajl,ajo,true_and,and_true];(try omega);done) | fail)) only[go_sem,Int.reduceEq,Int.reduceToNat,Nat.reduceAdd,Nat.reduceMul,Nat.reduceEqDiff, ↓reduceIte]):p:=of_eq_true (h)
theorem afY {p q A0 A1 A2 A3 A4 A5 A6 A7 A8 A9:Prop} (f0:A0) (f1:A1) (f2:A2) (f3:A3) (f4:A4) (f5:A5) (f6:A6) (f7:A7) (f8:A8) (f9:A9) (hq:q) (h:A0→A1→A2→A3→A4→A5→A6→A7→A8→A9→p=q:=by intro f0 f1 f2 f3 f4 f5 f6 f7 f8 f9;simp(maxSteps:=1000000) (disch:=(first | omega | (simp only[cQ,ajl,ajo,true_and,and_true];(try omega);done) | fail)) only[go_sem,f0,f1,f2,f3,f4,f5,f6,f7,f8,f9,Int.reduceEq,Int.reduceToNat,Nat.reduceAdd,Nat.reduceMul,Nat.reduceEqDiff, ↓reduceIte];rfl):p:=(h f0 f1 f2 f3 f4 f5 f6 f7 f8 f9).symm▸hq
theorem agc {p q:Prop} (hq:q) (h:p=q:=by simp(maxSteps:=1000000) (disch:=(first | omega | (simp only[cQ,ajl,ajo,true_and,and_true];(try omega);done) | fail)) only[go_sem,Nat.sub_zero,Int.reduceEq,Int.reduceToNat,Nat.reduceAdd,Nat.reduceMul,Nat.reduceEqDiff, ↓reduceIte];rfl):p:=(h).symm▸hq
theorem afy {p q A0:Prop} (f0:A0) (hq:q) (h:A0→p=q:=by intro f0;simp(maxSteps:=1000000) (disch:=(first | omega | (simp only[cQ,ajl,ajo,true_and,and_true];(try omega);done) | fail)) only[go_sem,f0,ajz,Int.reduceEq,Int.reduceToNat,Nat.reduceAdd,Nat.reduceMul,Nat.reduceEqDiff, ↓reduceIte];rfl):p:=(h f0).symm▸hq
theorem MI {p q:Prop} (hq:q) (h:p=q:=by simp(maxSteps:=1000000) (disch:=(first | omega | (simp only[cQ,ajl,ajo,true_and,and_true];(try omega);done) | fail)) only[go_sem,and_true,true_and,Int.reduceEq,Int.reduceToNat,Nat.reduceAdd,Nat.reduceMul,Nat.reduceEqDiff, ↓reduceIte];rfl):p:=(h).symm▸hq
theorem aeW {p q A0 A1:Prop} (f0:A0) (f1:A1) (hq:q) (h:A0→A1→p=q:=by intro f0 f1;simp(maxSteps:=1000000) (disch:=(first | omega | (simp only[cQ,ajl,ajo,true_and,and_true];(try omega);done) | fail)) only[go_sem,f0,f1,ali,and_self,decide_true,Int.reduceEq,Int.reduceToNat,Nat.reduceAdd,Nat.reduceMul,Nat.reduceEqDiff, ↓reduceIte];rfl):p:=(h f0 f1).symm▸hq
theorem agp {p:Prop} (h:p=True:=by simp(maxSteps:=1000000) (disch:=(first | omega | (simp only[cQ,ajl,ajo,true_and,and_true];(try omega);done) | fail)) only[go_sem,and_self,Int.reduceEq,Int.reduceToNat,Nat.reduceAdd,Nat.reduceMul,Nat.reduceEqDiff, ↓reduceIte]):p:=of_eq_true (h)
theorem ae9 {p q A0:Prop} (f0:A0) (hq:q) (h:A0→p=q:=by intro f0;simp(maxSteps:=1000000) (disch:=(first | omega | (simp only[cQ,ajl,ajo,true_and,and_true];(try omega);done) | fail)) only[go_sem,f0,Bool.toNat_true,Int.reduceEq,Int.reduceToNat,Nat.reduceAdd,Nat.reduceMul,Nat.reduceEqDiff, ↓reduceIte];rfl):p:=(h f0).symm▸hq
theorem afS {p q A0:Prop} (f0:A0) (hq:q) (h:A0→p=q:=by intro f0;simp(maxSteps:=1000000) (disch:=(first | omega | (simp only[cQ,ajl,ajo,true_and,and_true];(try omega);done) | fail)) only[go_sem,f0,Bool.toNat_false,Int.reduceEq,Int.reduceToNat,Nat.reduceAdd,Nat.reduceMul,Nat.reduceEqDiff, ↓reduceIte];rfl):p:=(h f0).symm▸hq
theorem Vr {p q A0 A1 A2 A3 A4 A5:Prop} (f0:A0) (f1:A1) (f2:A2) (f3:A3) (f4:A4) (f5:A5) (hq:q) (h:A0→A1→A2→A3→A4→A5→p=q:=by intro f0 f1 f2 f3 f4 f5;simp(maxSteps:=1000000) (disch:=(first | omega | (simp only[cQ,ajl,ajo,true_and,and_true];(try omega);done) | fail)) only[go_sem,f0,f1,f2,f3,f4,f5,Int.add_zero,Int.reduceEq,Int.reduceToNat,Nat.reduceAdd,Nat.reduceMul,Nat.reduceEqDiff, ↓reduceIte];rfl):p:=(h f0 f1 f2 f3 f4 f5).symm▸hq
theorem afL {p q:Prop} (hq:q) (h:p=q:=by simp(maxSteps:=1000000) (disch:=(first | omega | (simp only[cQ,ajl,ajo,true_and,and_true];(try omega);done) | fail)) only[go_sem,ajE,Int.reduceEq,Int.reduceToNat,Nat.reduceAdd,Nat.reduceMul,Nat.reduceEqDiff, ↓reduceIte];rfl):p:=(h).symm▸hq
theorem Yj {p q A0 A1 A2 A3 A4:Prop} (f0:A0) (f1:A1) (f2:A2) (f3:A3) (f4:A4) (hq:q) (h:A0→A1→A2→A3→A4→p=q:=by intro f0 f1 f2 f3 f4;simp(maxSteps:=1000000) (disch:=(first | omega | (simp only[cQ,ajl,ajo,true_and,and_true];(try omega);done) | fail)) only[go_sem,f0,f1,f2,f3,f4,and_self,and_true,Int.reduceEq,Int.reduceToNat,Nat.reduceAdd,Nat.reduceMul,Nat.reduceEqDiff, ↓reduceIte];rfl):p:=(h f0 f1 f2 f3 f4).symm▸hq
theorem YW {p q A0 A1 A2 A3 A4:Prop} (f0:A0) (f1:A1) (f2:A2) (f3:A3) (f4:A4) (hq:q) (h:A0→A1→A2→A3→A4→p=q:=by intro f0 f1 f2 f3 f4;simp(maxSteps:=1000000) (disch:=(first | omega | (simp only[cQ,ajl,ajo,true_and,and_true];(try omega);done) | fail)) only[go_sem,f0,f1,f2,f3,f4,aj6,Int.reduceEq,Int.reduceToNat,Nat.reduceAdd,Nat.reduceMul,Nat.reduceEqDiff, ↓reduceIte];rfl):p:=(h f0 f1 f2 f3 f4).symm▸hq
theorem zM {p:Prop} (h:p:=by simp(disch:=(first | omega | (simp only[cQ,ajl,ajo,true_and,and_true];(try omega);done) | fail)) only[go_sem,Int.reduceEq,Int.reduceToNat,Nat.reduceAdd,Nat.reduceMul,Nat.reduceEqDiff, ↓reduceIte,true_and,and_true,and_self,ajE,ajz,ajp,V.lit.injEq,Value.int.injEq,Value.bool.injEq];try (first | omega | (simp;done) | (simp;omega))):p:=h
theorem aF {P:Program} {e:Bool} {f:FuncId} {vs vs₀:List V} {σ σ₀ s:St} {r:V} {K:KV} (π:Pi) (F:List Nat) (spec:aA P f vs₀ σ₀ r s)
 (hk:K true (lY (wF (iZ σ.length π) (σ.length+j4 π)) r) (r7 π F σ s))
 (h1:(RX π&&π.all (fun p=>match p with | some p=>decide (p<σ.length)&&!F.contains p | none=>true))=true:=by rfl)
 (h2:nM F.contains π σ σ₀ π:=by simp(disch:=(first | omega | (simp only[ajj,ajR,ajr,ajA,ajF,ajt,ajY,ajl,ajo,true_and,and_true];(try omega);done) | fail)) only[go_sem,Int.reduceEq,Int.reduceToNat,Nat.reduceAdd,Nat.reduceMul,Nat.reduceEqDiff, ↓reduceIte,true_and,and_true,and_self,ajE,ajz,ajp,V.lit.injEq,Value.int.injEq,Value.bool.injEq];try (first | omega | (simp;done) | (simp;omega)))
 (h3:qn F.contains π σ vs₀ vs:=by simp(disch:=(first | omega | (simp only[ajj,ajR,ajr,ajA,ajF,ajt,ajY,ajl,ajo,true_and,and_true];(try omega);done) | fail)) only[go_sem,Int.reduceEq,Int.reduceToNat,Nat.reduceAdd,Nat.reduceMul,Nat.reduceEqDiff, ↓reduceIte,true_and,and_true,and_self,ajE,ajz,ajp,V.lit.injEq,Value.int.injEq,Value.bool.injEq];try (first | omega | (simp;done) | (simp;omega))) (he:e=true→σ₀=[]:=by simp):dB P e f vs σ K:=GA π F spec h1 h2 h3 he hk
theorem ak {k:Nat} {Q:V→St→Prop} {u:V} {s:St} (π:Pi) {u₀:V} {s₀:St} (hq:Q u₀ s₀) (h1:(Ev π s₀&&tA k π)=true:=by rfl)
 (h2:nM (mW π) π s s₀ π:=by simp(disch:=(first | omega | (simp only[ajj,ajR,ajr,ajA,ajF,ajt,ajY,ajl,ajo,true_and,and_true];(try omega);done) | fail)) only[go_sem,Int.reduceEq,Int.reduceToNat,Nat.reduceAdd,Nat.reduceMul,Nat.reduceEqDiff, ↓reduceIte,true_and,and_true,and_self,ajE,ajz,ajp,V.lit.injEq,Value.int.injEq,Value.bool.injEq];try (first | omega | (simp;done) | (simp;omega)))
 (h3:mV (mW π) π s u₀ u:=by simp(disch:=(first | omega | (simp only[ajj,ajR,ajr,ajA,ajF,ajt,ajY,ajl,ajo,true_and,and_true];(try omega);done) | fail)) only[go_sem,Int.reduceEq,Int.reduceToNat,Nat.reduceAdd,Nat.reduceMul,Nat.reduceEqDiff, ↓reduceIte,true_and,and_true,and_self,ajE,ajz,ajp,V.lit.injEq,Value.int.injEq,Value.bool.injEq];try (first | omega | (simp;done) | (simp;omega))):te k Q u s:=lR π u₀ s₀ h1 h2 h3 hq
theorem aR {X:Type} {k:Nat} {body:Vg→St→gn→Prop} {ρ:Vg} {σ:St} {Q:gn} (st:X→Vg×St) (inv:X→Prop) (m:X→Nat) (x₀:X) (π:Pi) (hi:inv x₀) (round:∀x,inv x→body (st x).1 (st x).2 (mc (fun _=>w9 k st inv m x) Q))
 (h1:(Ev π (st x₀).2&&tA k π)=true:=by rfl) (h2:nM (mW π) π σ (st x₀).2 π:=by simp(disch:=(first | omega | (simp only[cQ,ajl,ajo,true_and,and_true];(try omega);done) | fail)) only[go_sem,Int.reduceEq,Int.reduceToNat,Nat.reduceAdd,Nat.reduceMul,Nat.reduceEqDiff, ↓reduceIte,true_and,and_true,and_self,ajE,ajz,ajp,V.lit.injEq,Value.int.injEq,Value.bool.injEq];try (first | omega | (simp;done) | (simp;omega))) (h3:mG (mW π) π σ (st x₀).1 ρ:=by simp(disch:=(first | omega | (simp only[cQ,ajl,ajo,true_and,and_true];(try omega);done) | fail)) only[go_sem,Int.reduceEq,Int.reduceToNat,Nat.reduceAdd,Nat.reduceMul,Nat.reduceEqDiff, ↓reduceIte,true_and,and_true,and_self,ajE,ajz,ajp,V.lit.injEq,Value.int.injEq,Value.bool.injEq];try (first | omega | (simp;done) | (simp;omega))):xZ k body ρ σ Q:=aT st inv m x₀ π h1 h2 h3 hi round
theorem aM {X:Type} {k:Nat} {st:X→Vg×St} {inv:X→Prop} {m:X→Nat} {x:X} {ρ:Vg} {σ:St} (x':X) (π:Pi) (hi:inv x') (hm:m x'<m x) (h1:(Ev π (st x').2&&tA k π)=true:=by rfl)
 (h2:nM (mW π) π σ (st x').2 π:=by simp(disch:=(first | omega | (simp only[ajj,ajR,ajr,ajA,ajF,ajt,ajY,ajl,ajo,true_and,and_true];(try omega);done) | fail)) only[go_sem,Int.reduceEq,Int.reduceToNat,Nat.reduceAdd,Nat.reduceMul,Nat.reduceEqDiff, ↓reduceIte,true_and,and_true,and_self,ajE,ajz,ajp,V.lit.injEq,Value.int.injEq,Value.bool.injEq];try (first | omega | (simp;done) | (simp;omega)))
 (h3:mG (mW π) π σ (st x').1 ρ:=by simp(disch:=(first | omega | (simp only[ajj,ajR,ajr,ajA,ajF,ajt,ajY,ajl,ajo,true_and,and_true];(try omega);done) | fail)) only[go_sem,Int.reduceEq,Int.reduceToNat,Nat.reduceAdd,Nat.reduceMul,Nat.reduceEqDiff, ↓reduceIte,true_and,and_true,and_self,ajE,ajz,ajp,V.lit.injEq,Value.int.injEq,Value.bool.injEq];try (first | omega | (simp;done) | (simp;omega))):w9 k st inv m x ρ σ:=aH x' π h1 h2 h3 hi hm
theorem kS {P:Program} {f:FuncId} {vs:List V} {σ:St} {u u₀:V} {s s₀:St} (π:Pi) (h:aA P f vs σ u s) (h1:(Ev π s₀&&tA σ.length π)=true:=by rfl)
 (h2:nM (mW π) π s s₀ π:=by simp(disch:=(first | omega | (simp only[ajj,ajR,ajr,ajA,ajF,ajt,ajY,ajl,ajo,true_and,and_true];(try omega);done) | fail)) only[go_sem,Int.reduceEq,Int.reduceToNat,Nat.reduceAdd,Nat.reduceMul,Nat.reduceEqDiff, ↓reduceIte,true_and,and_true,and_self,ajE,ajz,ajp,V.lit.injEq,Value.int.injEq,Value.bool.injEq];try (first | omega | (simp;done) | (simp;omega)))
 (h3:mV (mW π) π s u₀ u:=by simp(disch:=(first | omega | (simp only[ajj,ajR,ajr,ajA,ajF,ajt,ajY,ajl,ajo,true_and,and_true];(try omega);done) | fail)) only[go_sem,Int.reduceEq,Int.reduceToNat,Nat.reduceAdd,Nat.reduceMul,Nat.reduceEqDiff, ↓reduceIte,true_and,and_true,and_self,ajE,ajz,ajp,V.lit.injEq,Value.int.injEq,Value.bool.injEq];try (first | omega | (simp;done) | (simp;omega))):aA P f vs σ u₀ s₀:=Fn.tell h fun u' s' ⟨e1,e2⟩=>by
 subst e1 e2;exact lR π u₀ s₀ h1 h2 h3 ⟨rfl,rfl⟩
def iH (x j:Nat):Bool:=Nat.beq (Nat.land (Nat.shiftRight x j) 1) 1
def OA (s k:Nat):Nat:=Nat.lor s (Nat.shiftLeft 1 k)
def wq:List Nat→Nat→Nat
 | [],s=>s
 | k::r,s=>wq r (OA s k)
theorem kT (x j:Nat):iH x j=x.testBit j:=by
 rw[Nat.testBit_eq_decide_div_mod_eq];unfold iH
 have h:Nat.land (Nat.shiftRight x j) 1=x/2^j%2:=by
  show(x>>>j)&&&1=_
  rw[Nat.and_one_is_mod,Nat.shiftRight_eq_div_pow]
 rw[h]
 by_cases e:x/2^j%2=1
 · rw[e];simp
 · rw[ajn e]
   exact ak0.2 fun hb=>e (akM hb)
theorem qd (s k j:Nat):iH (OA s k) j=(iH s j || k==j):=by
 rw[kT,kT];show Nat.testBit (s ||| 1<<<k) j=_;rw[Nat.testBit_or,Nat.one_shiftLeft,Nat.testBit_two_pow]
 rfl
theorem CG:∀(l:List Nat) (s j:Nat),iH (wq l s) j=(iH s j || l.contains j)
 | [],s,j=>by simp[wq]
 | k::r,s,j=>by
   rw[wq,CG r,qd,List.contains_cons,Bool.or_assoc]
   congr 2
   exact BEq.comm
theorem jk (j:Nat):iH 0 j=false:=by rw[kT];simp
theorem ig (l:List Nat) (j:Nat):iH (wq l 0) j=l.contains j:=by rw[CG,jk,alK]
theorem kK (x y j:Nat):iH (Nat.land x y) j=(iH x j&&iH y j):=by
 rw[kT,kT,kT];exact Nat.testBit_and x y j
theorem Dk {x y:Nat} (h:∀j,iH x j=iH y j):x=y:=ak3 fun j=>by rw[←kT,←kT];exact h j
theorem Ge (l:List Nat) (d:Nat):Nat.beq (Nat.land (wq l 0) d) (wq l 0)=l.all (iH d):=by
 rw[Bool.eq_iff_iff];constructor
 · intro h
   have h:=akM h;refine aj4.2 fun k hk=>?_;have h1:=congrArg (iH · k) h;simp only[kK,ig] at h1;rw[show l.contains k=true by simpa using hk,akD] at h1;exact h1
 · intro h
   have e:Nat.land (wq l 0) d=wq l 0:=Dk fun j=>by
    rw[kK,ig]
    by_cases hj:l.contains j=true
    · rw[hj,akD];exact aj4.1 h j (by simpa using hj)
    · rw[Bool.not_eq_true] at hj;rw[hj,alz]
   rw[e];exact Nat.beq_refl _
theorem II (l:List Nat) (d:Nat):Nat.beq (Nat.land (wq l 0) d) 0= !l.any (iH d):=by
 rw[Bool.eq_iff_iff];constructor
 · intro h
   have h:=akM h;rw[alN,List.any_eq_false];intro k hk;have h1:=congrArg (iH · k) h;simp only[kK,ig,jk] at h1;rw[show l.contains k=true by simpa using hk,akD] at h1;rw[h1];decide
 · intro h
   rw[alN,List.any_eq_false] at h
   have e:Nat.land (wq l 0) d=0:=Dk fun j=>by
    rw[kK,ig,jk]
    by_cases hj:l.contains j=true
    · rw[hj,akD];exact ak0.2 (h j (by simpa using hj))
    · rw[Bool.not_eq_true] at hj;rw[hj,alz]
   rw[e];exact Nat.beq_refl _
abbrev n9:=Nat×Option Tmp×Nat
def vN (md:Region.Mode) (o:Oper):List Nat:=(o.after.toList.filter (Region.binds md)).map (·.on)
def n6 (md:Region.Mode) (ops:Array Oper) (o:Oper):n9:=(wq (vN md o) 0,o.dst,wq (o.looksAt ops) 0)
def oI (md:Region.Mode) (ops:Array Oper):List n9:=ops.toList.map (n6 md ops)
def UO (x y:n9):Bool:=
 (match x.2.1 with
  | some d=> !iH y.2.2 d&&y.2.1 !=some d
  | none=>true)&&
 (match y.2.1 with
  | some d=> !iH x.2.2 d
  | none=>true)
section
variable {md:Region.Mode} {ops:Array Oper}
theorem vm (x y:Oper):UO (n6 md ops x) (n6 md ops y)=x.apart ops y:=by
 unfold UO n6 Oper.apart;simp only[ig]
 cases x.dst<;>cases y.dst<;>rfl
theorem C4 (o:Oper) (f:Nat→Bool):(vN md o).any f=o.after.any fun e=>Region.binds md e&&f e.on:=by
 unfold vN;rw[←Array.any_toList,List.any_map,List.any_filter]
 rfl
theorem KI (o:Oper) (f:Nat→Bool):(vN md o).all f=o.after.all fun e=> !Region.binds md e || f e.on:=by
 unfold vN;rw[←Array.all_toList,List.all_map,List.all_filter]
 rfl
theorem Lx (o:Oper) (i:Nat):iH (wq (vN md o) 0) i=o.after.any fun e=>Region.binds md e&&e.on==i:=by
 rw[ig,←C4 o (· ==i),Bool.eq_iff_iff]
 simp
theorem pz (o:Oper) (i:Nat):iH (n6 md ops o).1 i=o.after.any fun e=>Region.binds md e&&e.on==i:=Lx o i
structure InvN (n:Nat) (sl:Array Bool) (dn:Nat):Prop where
 sz:sl.size=n
 f:∀j,sl.getD j false=iH dn j
theorem InvN.t {n:Nat} {sl:Array Bool} {dn:Nat} (h:InvN n sl dn) (j:Nat):sl.getD j true=(iH dn j || Nat.ble n j):=by
 have h1:=h.f j;have h2:=h.sz;rw[←h1]
 by_cases hj:j<sl.size
 · have e:Nat.ble n j=false:=ak0.2 fun hb=>by have:=al7 hb;omega
   rw[e,alZ];simp[hj]
 · have e:Nat.ble n j=true:=Nat.ble_eq_true_of_le zo
   rw[e,Bool.or_true];simp[hj]
def p8 (n dn i:Nat):Nat:=bif Nat.ble n i then dn else OA dn i
theorem InvN.set {n:Nat} {sl:Array Bool} {dn:Nat} (h:InvN n sl dn) (i:Nat):InvN n (sl.setIfInBounds i true) (p8 n dn i):=by
 refine⟨by rw[Array.size_setIfInBounds,h.sz],fun j=>?_⟩;rw[aY,h.f j];unfold p8
 by_cases hi:n≤i
 · rw[Nat.ble_eq_true_of_le hi,cond_true,if_neg (by have:=h.sz;omega)]
 · have e:Nat.ble n i=false:=ak0.2 fun hb=>hi (al7 hb)
   rw[e,cond_false,qd]
   have:=h.sz
   by_cases hj:i=j
   · rw[if_pos ⟨hj,by omega⟩,hj];simp
   · rw[if_neg (fun e=>hj e.1)];simp[hj]
def Bv (n:Nat):Nat→List Nat→Nat
 | dn,[]=>dn
 | dn,i::r=>Bv n (p8 n dn i) r
theorem InvN.lst {n:Nat}:∀{l:List Nat} {sl:Array Bool} {dn:Nat},InvN n sl dn→InvN n (pc sl l) (Bv n dn l)
 | [],_,_,h=>h
 | i::r,_,_,h=>InvN.lst (l:=r) (h.set i)
def iP (dn:Nat):List n9→Nat→List Nat
 | [],_=> []
 | a::r,j=>bif !iH dn j&&Nat.beq (Nat.land a.1 dn) a.1 then j::iP dn r (j+1) else iP dn r (j+1)
theorem xD {sl:Array Bool} {dn:Nat} (h:InvN ops.size sl dn):∀(l pre:List Oper),ops.toList=pre++l→
 iP dn (l.map (n6 md ops)) pre.length=(List.range' pre.length l.length).filter fun i=>
  !sl.getD i true&&((ops[i]?).map (·.after.all fun e=> !Region.binds md e || sl.getD e.on false)).getD false
 | [],pre,_=>by simp[iP]
 | o::l,pre,hp=>by
   have ih:=xD h l (pre++[o]) (by rw[hp];simp);have ho:ops[pre.length]? =some o:=by rw[←akE,hp];simp
   have hlt:pre.length<ops.size:=by rw[←alg,hp];simp
   rw[ajj,ajr,ajA] at ih;rw[ajK,iP,ih,ajr,List.range'_succ,List.filter_cons,ho]
   have e1:sl.getD pre.length true=iH dn pre.length:=by
    rw[h.t,ak0.2 (fun hb=>absurd (al7 hb) zo),alZ]
   have e2:Nat.beq (Nat.land (n6 md ops o).1 dn) (n6 md ops o).1=o.after.all fun e=> !Region.binds md e || sl.getD e.on false:=by
    show Nat.beq (Nat.land (wq (vN md o) 0) dn) (wq (vN md o) 0)=_;rw[Ge,KI]
    congr 1
    funext e
    rw[h.f]
   rw[e1,e2,aki,alR]
   cases (!iH dn pre.length&&o.after.all fun e=> !Region.binds md e || sl.getD e.on false)<;>rfl
theorem eD {sl:Array Bool} {dn:Nat} (h:InvN ops.size sl dn):Region.ready md ops sl=iP dn (oI md ops) 0:=by
 have:=xD (md:=md) h ops.toList [] rfl
 rw[ajA,alg] at this;unfold Region.ready oI;rw[List.range_eq_range'];exact this.symm
def zP (f:n9→Nat→Bool):List n9→Nat→Bool
 | [],_=>true
 | y::r,j=>f y j&&zP f r (j+1)
theorem xC {f:n9→Nat→Bool}:∀(l pre:List Oper),ops.toList=pre++l→zP f (l.map (n6 md ops)) pre.length=true→
 ∀(j:Nat) o,pre.length≤j→ops[j]? =some o→f (n6 md ops o) j=true
 | [],pre,hp,_,j,o,hj,ho=>by
   have:j<ops.size:=(ak4.1 ho).1
   rw[←alg,hp] at this;simp at this;omega
 | x::l,pre,hp,h,j,o,hj,ho=>by
   rw[ajK,zP,ajs] at h;rcases Nat.eq_or_lt_of_le hj with rfl | hlt
   · have hx:ops[pre.length]? =some x:=by rw[←akE,hp];simp
     rw[hx] at ho
     cases ho
     exact h.1
   · exact xC l (pre++[x]) (by rw[hp];simp) (by simpa using h.2) j o (by simp;omega) ho
theorem oX {f:n9→Nat→Bool} (h:zP f (oI md ops) 0=true) (j:Nat) (o:Oper) (ho:ops[j]? =some o):f (n6 md ops o) j=true:=
 xC ops.toList [] rfl h j o (ajH _) ho
theorem lU {n:Nat} {f:Nat→Bool} (h:∀j,j<n→f j=true):(List.range n).all f=true:=
 aj4.2 fun j hj=>h j (alo.1 hj)
def DJ (i:Nat):List n9→Nat→Nat→Nat
 | [],_,D=>D
 | y::r,j,D=>DJ i r (j+1) (bif Nat.beq (Nat.land y.1 (OA D i)) 0 then D else OA D j)
def Qq (T:List n9) (wrm dn i:Nat):Bool:=match T[i]? with
 | none=>false
 | some x=>zP (fun y j=>Nat.beq j i || iH dn j || iH y.1 i || (UO x y&&!iH wrm j)) T 0 ||
   (Nat.beq (Nat.land (DJ i T 0 0) dn) 0&&zP (fun y j=>Nat.beq j i || iH dn j || iH (DJ i T 0 0) j || (UO x y&&!iH wrm j)) T 0)
theorem pW {i:Nat}:(oI md ops)[i]? =(ops[i]?).map (n6 md ops):=by
 unfold oI;rw[aj1,akE]
theorem oU (A:Array Bool) (b:Bool) (k:Nat):(A.push b).getD k false=if k=A.size then b else A.getD k false:=by
 simp only[Array.getD_eq_getD_getElem?,Array.getElem?_push]
 split<;>simp
theorem yc {i:Nat}:∀(l pre:List Oper) (A:Array Bool) (D:Nat),ops.toList=pre++l→A.size=pre.length→(∀k,A.getD k false=iH D k)→
 (∀(j:Nat) o,ops[j]? =some o→A.getD j false=true→(o.after.any fun e=>Region.binds md e&&(e.on==i || A.getD e.on false))=true)→
 ∃A':Array Bool,((List.range' pre.length l.length).foldl (fun D j=>D.push (match ops[j]? with | some oj=>oj.after.any (fun e=>Region.binds md e&&(e.on==i || D.getD e.on false)) | none=>false)) A)=A'∧
  A'.size=ops.size∧(∀k,A'.getD k false=iH (DJ i (l.map (n6 md ops)) pre.length D) k)∧
  (∀(j:Nat) o,ops[j]? =some o→A'.getD j false=true→(o.after.any fun e=>Region.binds md e&&(e.on==i || A'.getD e.on false))=true)
 | [],pre,A,D,hp,hs,hA,hC=>⟨A,rfl,by rw[hs,←alg,hp];simp,hA,hC⟩
 | o::l,pre,A,D,hp,hs,hA,hC=>by
   have ho:ops[pre.length]? =some o:=by rw[←akE,hp];simp
   obtain ⟨b,hb⟩:∃b,(o.after.any fun e=>Region.binds md e&&(e.on==i || A.getD e.on false))=b:=⟨_,rfl⟩
   have hm:Nat.beq (Nat.land (n6 md ops o).1 (OA D i)) 0= !b:=by
    show Nat.beq (Nat.land (wq (vN md o) 0) (OA D i)) 0=_;rw[II,C4,←hb]
    congr 2
    funext e
    rw[qd,hA,Bool.or_comm]
    congr 2
    exact BEq.comm
   have hsz:pre.length<ops.size:=by rw[←alg,hp];simp
   have hmono:∀k,A.getD k false=true→(A.push b).getD k false=true:=fun k hk=>by
    rw[oU]
    split
    · rename_i e
      rw[e] at hk;simp at hk
    · exact hk
   obtain ⟨A',h1,h2,h3,h4⟩:=yc l (pre++[o]) (A.push b) (bif !b then D else OA D pre.length) (by rw[hp];simp) (by simp[hs])
    (fun k=>by
     rw[oU,hs,hA]
     cases b
     · simp only[aly,cond_true]
       split
       · rename_i e
         have:=hA k
         rw[←this];simp[e,hs]
       · rfl
     · simp only[ali,cond_false]
       rw[qd]
       split
       · rename_i e;rw[e];simp
       · rename_i e;rw[show(pre.length==k)=false by simpa using fun h=>e h.symm];simp)
    (fun j oj hj hbj=>by
     rw[oU] at hbj
     have step:∀oo:Oper,(oo.after.any fun e=>Region.binds md e&&(e.on==i || A.getD e.on false))=true→(oo.after.any fun e=>Region.binds md e&&(e.on==i || (A.push b).getD e.on false))=true:=fun oo hh=>by
      rw[Array.any_eq_true'] at hh ⊢;obtain ⟨e,he,h⟩:=hh;refine⟨e,he,?_⟩;rw[ajs,ak1] at h ⊢;exact⟨h.1,h.2.imp id (hmono _)⟩
     split at hbj
     · rename_i e
       rw[hs] at e;rw[e,ho] at hj
       cases hj
       exact step _ (by rw[hb];exact hbj)
     · exact step _ (hC j oj hj hbj))
   refine⟨A',?_,h2,?_,h4⟩
   · rw[ajr,List.range'_succ,List.foldl_cons,ho]
     simp only[ajj,ajr,ajA] at h1
     show(List.range' (pre.length+1) l.length).foldl _ (A.push (o.after.any fun e=>Region.binds md e&&(e.on==i || A.getD e.on false)))=A'
     rw[hb];exact h1
   · intro k
     rw[h3,ajK,DJ,hm];simp only[ajj,ajr,ajA]
theorem M3 {sl:Array Bool} {dn wrm i:Nat} {wr:Nat→Bool} (h:InvN ops.size sl dn) (hw:∀j,wr j=iH wrm j) (hf:Qq (oI md ops) wrm dn i=true):uO md ops wr sl i=true:=by
 unfold Qq at hf;rw[pW] at hf;unfold uO
 cases hi:ops[i]? with
 | none=>rw[hi] at hf;exact absurd hf (by simp)
 | some oi=>
   rw[hi,aki] at hf;simp only at hf ⊢;rw[ak1] at hf ⊢;rcases hf with hf | hf
   · refine .inl (lU fun j hj=>?_)
     have hoj:ops[j]? =some ops[j]:=akx hj
     have:=oX hf j _ hoj
     rw[hoj];simp only at this ⊢;rw[pz,vm] at this;rw[h.t,hw j];simp only[ak1,ajs] at this ⊢;rcases this with((h1 | h1) | h1) | h1
     · exact .inl (.inl (by simpa using akM h1))
     · exact .inl (.inr (.inl h1))
     · exact .inr (.inl h1)
     · exact .inr (.inr h1)
   · right
     rw[ajs] at hf;obtain ⟨A',h1,h2,h3,h4⟩:=yc (md:=md) (i:=i) ops.toList [] #[] 0 rfl rfl (fun k=>by rw[jk];simp) (fun j o _ hb=>by simp at hb)
     have hD:rY md ops i=A':=by
      unfold rY;rw[List.range_eq_range'];rw[ajA,alg] at h1;exact h1
     rw[ajA] at h3;have h3':∀k,A'.getD k false=iH (DJ i (oI md ops) 0 0) k:=h3;rw[hD,ajs];refine⟨?_,?_⟩
     · unfold Ja
       rw[ajs];refine⟨by simp[h2],lU fun j hj=>?_⟩;have hoj:ops[j]? =some ops[j]:=akx hj;rw[hoj]
       cases hAj:A'.getD j false with
       | false=>rfl
       | true=>
         have hz:=akM hf.1;have hb:=congrArg (iH · j) hz;simp only[kK,jk] at hb;rw[←h3',hAj,akD] at hb;simp only[ali,alK,ajs];exact⟨by rw[h.f,hb];rfl,h4 j _ hoj hAj⟩
     · unfold Gs
       rw[hi];refine lU fun j hj=>?_;have hoj:ops[j]? =some ops[j]:=akx hj
       have:=oX hf.2 j _ hoj
       rw[hoj];simp only at this ⊢;rw[vm] at this;rw[h.t,hw j,h3'];simp only[ak1,ajs] at this ⊢;rcases this with((h1 | h1) | h1) | h1
       · exact .inl (.inl (by simpa using akM h1))
       · exact .inl (.inr (.inl h1))
       · exact .inr (.inl h1)
       · exact .inr (.inr h1)
def Jt (ops:Array Oper) (i:Nat):Bool:=match ops[i]? with
 | none=>false
 | some oi=>oi.guard.isNone&&(match oi.op with | .move _ | .assign _ | .pick .. | .binOp .. | .unOp .. | .convert .. | .slice .. | .fieldAddr .. | .field .. | .indexAddr .. | .index .. | .extract .. | .nilCheck .. | .build .. | .call {callee:=.builtin .min,.. } | .call {callee:=.builtin .max,.. }=>true | _=>false)
def Qj (T:List n9) (dn i:Nat):Bool:=match T[i]? with
 | none=>false
 | some x=>zP (fun y j=>Nat.beq j i || iH dn j || iH y.1 i || UO x y) T 0
theorem KL {sl:Array Bool} {dn i:Nat} (h:InvN ops.size sl dn) (hk:Jt ops i=true) (hf:Qj (oI md ops) dn i=true):B8 md ops sl i=true:=by
 unfold Qj at hf;rw[pW] at hf;unfold Jt at hk;unfold B8
 cases hi:ops[i]? with
 | none=>rw[hi] at hf;exact absurd hf (by simp)
 | some oi=>
   rw[hi] at hk;rw[hi,aki] at hf;simp only at hf hk ⊢;rw[ajs];refine⟨?_,lU fun j hj=>?_⟩
   · rw[ajs] at hk ⊢
     refine⟨hk.1,?_⟩;have h2:=hk.2
     revert h2
     cases oi.op<;>exact id
   · have hoj:ops[j]? =some ops[j]:=akx hj
     have:=oX hf j _ hoj
     rw[hoj];simp only at this ⊢;rw[pz,vm] at this;rw[h.t];simp only[ak1,ajs] at this ⊢;rcases this with((h1 | h1) | h1) | h1
     · exact .inl (.inl (by simpa using akM h1))
     · exact .inl (.inr (.inl h1))
     · exact .inr (.inl h1)
     · exact .inr (.inr h1)
def KJ (T:List n9) (i l:Nat):Bool:=match T[i]?,T[l]? with
 | some x,some y=>UO x y
 | _,_=>false
theorem Jb (i l:Nat):KJ (oI md ops) i l=uk ops i l:=by
 unfold KJ uk;rw[pW,pW]
 cases ops[i]? <;>cases ops[l]? <;>simp[vm]
def Ic (ops:Array Oper) (T:List n9) (n wrm:Nat) (S:List (Nat×Nat×Nat)) (goal:Nat):Nat→Nat→Nat→Bool
 | 0,dn,_=>Nat.beq dn goal
 | m+1,dn,rm=> !(iP dn T 0).isEmpty&&(iP dn T 0).all fun j=>ngG ops j&&(S.any fun x=>x.1==j&&Ng rm j x.2.2&&(x.2.1==11 || (x.2.1==12&&iH wrm j)))&&Ic ops T n wrm S goal m (p8 n dn j) (rm-2^j)
theorem InvN.same {n:Nat} {x y:Array Bool} {dn:Nat} (h:InvN n x dn) (j:InvN n y dn):x=y:=by
 refine Array.ext (by rw[h.sz,j.sz]) fun i h1 h2=>?_;have e1:=h.f i;have e2:=j.f i;rw[←e2] at e1;simpa [h1,h2] using e1
theorem CF {wrm:Nat} {wr:Nat→Bool} (hw:∀j,wr j=iH wrm j) {S:List (Nat×Nat×Nat)} {goal:Array Bool} {gm:Nat} (hg:InvN ops.size goal gm):∀(m:Nat) (sl:Array Bool) (dn rm:Nat),InvN ops.size sl dn→
 Ic ops (oI .any ops) ops.size wrm S gm m dn rm=true→yR .any ops wr S goal m sl rm=true
 | 0,sl,dn,rm,h,hs=>by
   unfold Ic at hs;unfold yR;have e:=akM hs;subst e;exact beq_iff_eq.2 (h.same hg)
 | m+1,sl,dn,rm,h,hs=>by
   unfold Ic at hs;unfold yR;rw[eD h];rw[ajs] at hs ⊢;refine⟨hs.1,aj4.2 fun j hj=>?_⟩;have h2:=aj4.1 hs.2 j hj;rw[ajs] at h2 ⊢;rw[hw];exact⟨h2.1,CF hw hg m _ _ _ (h.set j) h2.2⟩
def fH (ops:Array Oper) (T:List n9) (n wrm:Nat):Nat→List (Nat×Option Nat)→List (Nat×Nat×Nat)→Bool
 | dn,L,[]=>L.isEmpty&&(iP dn T 0).isEmpty
 | dn,L,(i,t,p)::r=>match t with
   | 0=>(iP dn T 0).contains i&&!(bT L).contains i&&Qq T wrm dn i&&(bT L).all (KJ T i)&&fH ops T n wrm (p8 n dn i) L r
   | 1=>(iP dn T 0).contains i&&(iP (Bv n dn (bT L)) T 0==[i])&&(bT L).all (KJ T i)&&fH ops T n wrm (p8 n dn i) L r
   | 2=>(iP dn T 0).contains i&&(iP (Bv n dn (bT L)) T 0==[i])&&(bT L).all (KJ T i)&&iH wrm i&&fH ops T n wrm (p8 n dn i) L r
   | 3=>L.contains (i,none)&&(iP (Bv n dn (bT (L.filter fun x=>x.1 !=i))) T 0).all (fun j=>(bT L).contains j)&&fH ops T n wrm (p8 n dn i) (L.filter fun x=>x.1 !=i) r
   | 4=>(iP dn T 0).contains i&&!(bT L).contains i&&mkG ops i&&(bT L).all (KJ T i)&&fH ops T n wrm dn ((i,none)::L) r
   | 5=>(iP dn T 0).contains i&&!(bT L).contains i&&Jt ops i&&Qj T dn i&&(bT L).all (KJ T i)&&fH ops T n wrm (p8 n dn i) L r
   | 6=>false
   | 7=>false
   | 8=>L.isEmpty&&(iP dn T 0).contains i&&(iP dn T 0).contains p&&(iP dn T 0).all (fun j=>j==i || j==p)&&(iP (p8 n dn i) T 0==[p])&&(iP (p8 n dn p) T 0==[i])&&lsG ops i p&&iH wrm p&&KJ T i p&&fH ops T n wrm (p8 n (p8 n dn i) p) [] r
   | 9=>false
   | 10=>L.isEmpty&&Ic ops T n wrm (r.take i) (Bv n dn ((r.take i).map (·.1))) i dn p&&fH ops T n wrm (Bv n dn ((r.take i).map (·.1))) [] r
   | 11=>fH ops T n wrm dn L r
   | 12=>fH ops T n wrm dn L r
   | _=>false
theorem uC {wrm:Nat} {wr:Nat→Bool} (hw:∀j,wr j=iH wrm j):∀(S:List (Nat×Nat×Nat)) (L:List (Nat×Option Nat)) (sl:Array Bool) (dn:Nat),InvN ops.size sl dn→
 fH ops (oI .any ops) ops.size wrm dn L S=true→bS .any ops wr sl L S=true
 | [],L,sl,dn,h,hs=>by
   unfold bS;rw[eD h];exact hs
 | (i,t,p)::r,L,sl,dn,h,hs=>by
   have ih:=uC hw r;unfold fH at hs;unfold bS;have ap:(bT L).all (KJ (oI .any ops) i)=(bT L).all (uk ops i):=by congr 1;funext l;exact Jb i l
   match t,hs with
   | 0,hs=>
     simp only[ajs] at hs ⊢;rw[eD h,←ap];exact⟨⟨⟨hs.1.1.1,M3 h hw hs.1.1.2⟩,hs.1.2⟩,ih _ _ _ (h.set i) hs.2⟩
   | 1,hs=>
     simp only[ajs] at hs ⊢;rw[eD h,←ap,eD h.lst];exact⟨hs.1,ih _ _ _ (h.set i) hs.2⟩
   | 2,hs=>
     simp only[ajs] at hs ⊢;rw[eD h,←ap,eD h.lst,hw];exact⟨hs.1,ih _ _ _ (h.set i) hs.2⟩
   | 3,hs=>
     simp only[ajs] at hs ⊢;rw[eD h.lst];exact⟨hs.1,ih _ _ _ (h.set i) hs.2⟩
   | 4,hs=>
     simp only[ajs] at hs ⊢;rw[eD h,←ap];exact⟨hs.1,ih _ _ _ h hs.2⟩
   | 5,hs=>
     simp only[ajs] at hs ⊢;rw[eD h,←ap];exact⟨⟨⟨hs.1.1.1.1,KL h hs.1.1.1.2 hs.1.1.2⟩,hs.1.2⟩,ih _ _ _ (h.set i) hs.2⟩
   | 6,hs=>exact absurd hs (by simp)
   | 7,hs=>exact absurd hs (by simp)
   | 8,hs=>
     simp only[ajs] at hs ⊢;rw[eD h,eD (h.set i),eD (h.set p),hw,←Jb (md:=.any)];exact⟨hs.1,ih _ _ _ ((h.set i).set p) hs.2⟩
   | 9,hs=>exact absurd hs (by simp)
   | 10,hs=>
     simp only[ajs] at hs ⊢;exact⟨⟨hs.1.1,CF hw h.lst _ _ _ _ h hs.1.2⟩,ih _ _ _ h.lst hs.2⟩
   | 11,hs=>exact ih _ _ _ h hs
   | 12,hs=>exact ih _ _ _ h hs
   | t+13,hs=>exact absurd hs (by simp)
end
def Ym (S:List (Nat×Nat×Nat)):List Nat:=S.flatMap fun p=>(bif p.2.1==2 || p.2.1==7 || p.2.1==12 then [p.1] else [])++(bif (p.2.1==8 || p.2.1==9) then [p.2.2] else [])
theorem Pj (S:List (Nat×Nat×Nat)) (j:Nat):(S.any fun p=>(p.1==j&&(p.2.1==2 || p.2.1==7 || p.2.1==12)) || ((p.2.1==8 || p.2.1==9)&&p.2.2==j))=iH (wq (Ym S) 0) j:=by
 rw[ig]
 induction S with
 | nil=>rfl
 | cons p S ih=>
   have e:Ym (p::S)=((bif p.2.1==2 || p.2.1==7 || p.2.1==12 then [p.1] else [])++(bif (p.2.1==8 || p.2.1==9) then [p.2.2] else []))++Ym S:=by simp[Ym]
   rw[List.any_cons,ih,e,List.contains_append,List.contains_append]
   congr 1
   congr 1
   · cases (p.2.1==2 || p.2.1==7 || p.2.1==12)
     · simp
     · simp only[Bool.and_true,cond_true,List.contains_cons,List.contains_nil,alZ];exact BEq.comm
   · cases (p.2.1==8 || p.2.1==9)
     · simp
     · simp only[akD,cond_true,List.contains_cons,List.contains_nil,alZ];exact BEq.comm
def nG (n:Nat) (pl:aI):Code→Bool
 | .region id ops draw=>(ops.toList.all fun o=>o.dst.all (· <n))&&(!draw || (Region.noSelect ops&&fH ops (oI .any ops) ops.size (wq (Ym (pl id)) 0) 0 [] (pl id)))
 | .seq a b=>nG n pl a&&nG n pl b
 | .cond _ a b=>nG n pl a&&nG n pl b
 | .block _ c=>nG n pl c
 | .loop c=>nG n pl c
 | .scope c=>nG n pl c
 | _=>true
theorem ff {n:Nat} {pl:aI}:∀{c:Code},nG n pl c=true→chk n pl c=true
 | .region id ops draw,h=>by
   unfold nG at h;unfold chk;rw[ajs] at h ⊢;refine⟨h.1,?_⟩;have h2:=h.2;rw[ak1] at h2 ⊢;refine h2.imp (fun h4=>h4) fun h3=>?_;rw[ajs] at h3 ⊢;refine⟨h3.1,uC (fun j=>Pj (pl id) j) _ _ _ 0 ⟨by simp,fun j=>?_⟩ h3.2⟩;rw[jk];simp only[Array.getD_eq_getD_getElem?,Array.getElem?_replicate]
   split<;>rfl
 | .seq a b,h=>by
   unfold nG at h;unfold chk;rw[ajs] at h ⊢;exact⟨ff h.1,ff h.2⟩
 | .cond _ a b,h=>by
   unfold nG at h;unfold chk;rw[ajs] at h ⊢;exact⟨ff h.1,ff h.2⟩
 | .block _ c,h=>ff (c:=c) h
 | .loop c,h=>ff (c:=c) h
 | .scope c,h=>ff (c:=c) h
 | .skip,_=>rfl
 | .exit _,_=>rfl
 | .ret,_=>rfl
 | .label _,_=>rfl
 | .rangeFunc ..,_=>rfl
 | .goto _,_=>rfl
 | .refuse _,_=>rfl
theorem Ls {P:Program} {f:FuncId} {fn:Func} {c:Code} {vs:List V} {σ:St} {r:V} {s:St} (pl:aI) (hm:P.follows .mixedOrders=true) (hcf:∀(args:Array Value) (w:World),(callFunc f args).run P w=.ok (.enter f args) w)
 (hf:P.funcs[f]? =some fn) (hb:fn.body=some c) (hc:nG fn.ntmps pl c=true) (hs:Nat.ble vs.length fn.ntmps=true) (rs:List ResultVar) (hr:fn.results.toList=rs)
 (h:∀Q:V→St→Prop,Q r s→ei true P σ.length pl c (Fs 0 vs) σ (qA P rs (te σ.length Q))):aA P f vs σ r s:=
 PH pl hm hcf hf hb (ff hc) hs rs hr h
end Go.Vx
namespace Go.Vx
open Go.Eng
set_option linter.unusedSimpArgs false
set_option linter.unusedVariables false
section
variable {w w':World} {Im:Nat→Prop} {μ:Mu} {σ:St}
theorem LH (r:Rel μ Im σ w):Frz μ Im σ (fun _=>true) (fun b=>b<w.heap.size):=
 ⟨fun b hb=>(r.im b hb).1,fun o b n ob _ h2 h3=>r.lt (aG.2 ⟨o,n,ob,h3,h2⟩)⟩
theorem ou (r:Rel μ Im σ w) {us₀ us:List V} {vs:List Value} (h:qn (fun _=>true) [] σ us₀ us) (hr:bh w Im μ us vs):bh w (fun b=>b<w.heap.size) [] us₀ vs:=fD (π:=[]) r (LH r) h hr
end
def qi:V→Bool
 | .lit _=>true
 | .agg l=>plnL l
 | .tup l=>plnL l
 | _=>false
where plnL:List V→Bool
 | []=>true
 | v::vs=>qi v&&plnL vs
mutual
theorem wP {w:World} {Im Im':Nat→Prop} {μ μ':Mu}:∀{u:V} {v:Value},qi u=true→RepV w Im μ u v→RepV w Im' μ' u v
 | .lit x,v,_,h=>by cases h with | lit h=>exact .lit h
 | .agg l,v,hp,h=>by
   cases h with
   | agg hn ho hr=>
     have:=sL (Im':=Im') (μ':=μ') hp ⟨hn,hr⟩
     exact .agg this.1 ho this.2
 | .tup l,v,hp,h=>by
   cases h with
   | tup hn hr=>
     have:=sL (Im':=Im') (μ':=μ') hp ⟨hn,hr⟩
     exact .tup this.1 this.2
 | .row _ _,_,hp,_=>by simp[qi] at hp
 | .xrow _ _,_,hp,_=>by simp[qi] at hp
 | .rref _ _ _ _,_,hp,_=>by simp[qi] at hp
 | .ref _ _ _ _,_,hp,_=>by simp[qi] at hp
 | .sl _ _ _ _,_,hp,_=>by simp[qi] at hp
 | .clo _ _,_,hp,_=>by simp[qi] at hp
theorem sL {w:World} {Im Im':Nat→Prop} {μ μ':Mu}:∀{us:List V} {vs:List Value},qi.plnL us=true→bh w Im μ us vs→bh w Im' μ' us vs
 | [],vs,_,hr=>⟨hr.1,by simp⟩
 | u::us,vs,h,hr=>by
   simp only[qi.plnL,ajs] at h;obtain ⟨v,vs,rfl,h1,h2⟩:=hr.uncons;exact .cons (wP h.1 h1) (sL h.2 h2)
end
theorem Hh {β:Type} {L:List β} {f:β→List PV} {z len:Nat} (h:L.length=len):vB (.row z (L.map f)) z 0 len (L.map f)=True:=by
 subst h;simp[vB,←als]
theorem Dp {z len:Nat} {l:List (List PV)} (h:l.length=len):vB (.row z l) z 0 len l=True:=by
 subst h;simp[vB]
attribute [go_sem ↓ high] Hh Dp
theorem aW {P:Program} {e:Bool} {f:FuncId} {vs vs₀:List V} {σ:St} {r:V} {K:KV} (spec:aA P f vs₀ [] r []) (hk:K true r σ)
 (hr:qi r=true:=by rfl)
 (hm:qn (fun _=>true) [] σ vs₀ vs:=by simp(disch:=(first | omega | (simp only[ajj,ajR,ajr,ajA,ajF,ajt,ajY,ajl,ajo,true_and,and_true];(try omega);done) | fail)) only[go_sem,Int.reduceEq,Int.reduceToNat,Nat.reduceAdd,Nat.reduceMul,Nat.reduceEqDiff, ↓reduceIte,true_and,and_true,and_self,ajE,ajz,ajp,V.lit.injEq,Value.int.injEq,Value.bool.injEq];try (first | omega | (simp;done) | (simp;omega))):dB P e f vs σ K:=by
 refine nR spec.1 fun μ Im w args rl hl=>?_;have r0:Rel [] (fun b=>b<w.heap.size) [] w:=⟨rfl,fun o ob h=>by simp at h,fun o o' ob ob' b n n' h=>by simp at h,fun b hb=>⟨hb,fun hb'=>by simp[live] at hb'⟩,fun e he=>⟨(rl.im _ (rl.lay e he).1).1,(rl.lay e he).2⟩⟩;refine(spec.2 [] _ w args r0 (ou rl hm hl)).mono ?_;rintro v w' ⟨u,s,μ₁,Im₁,r₁,s₁,hlen,hu,rfl,rfl⟩;have hx:Ext [] w w':=s₁.ext.mono (by simp[live]);obtain ⟨q1,q2⟩:=rl.still hx;exact⟨u,σ,μ,Im,q1,q2,fun _=>hx,wP hr hu,hk⟩
def pnP:PV→Bool
 | .lit _=>true
 | _=>false
def FR:V→Bool
 | .lit _=>true
 | .ref _ _ _ _=>true
 | .sl _ _ _ _=>true
 | .agg l=>pnL l
 | .tup l=>pnL l
 | _=>false
where pnL:List V→Bool
 | []=>true
 | v::vs=>FR v&&pnL vs
def Mf:Ob→Prop
 | .cells l=>FR.pnL l=true
 | .row _ l=>∀e∈l,∀p∈e,pnP p=true
def Qv (s:St):Prop:=match s with
 | []=>True
 | none::s=>Qv s
 | some ob::s=>Mf ob∧Qv s
theorem p6:∀{s:St} {j:Nat} {ob:Ob},Qv s→s[j]? =some (some ob)→Mf ob
 | [],j,ob,_,h=>by simp at h
 | x::s,0,ob,hs,h=>by
   simp at h;subst h;exact hs.1
 | x::s,j+1,ob,hs,h=>by
   have h':s[j]? =some (some ob):=by simpa using h
   cases x with
   | none=>exact p6 (s:=s) hs h'
   | some y=>exact p6 (s:=s) hs.2 h'
theorem IB {kd:IntKind} {L:List Int} {z:Nat}:Mf (.row z (L.map (ie kd)))=True:=eq_true fun e he p hp=>by
 obtain ⟨x,_,rfl⟩:=akh.1 he;simp only[ie,akf] at hp;subst hp
 rfl
theorem EF {L:List Bool} {z:Nat}:Mf (.row z (L.map be))=True:=eq_true fun e he p hp=>by
 obtain ⟨x,_,rfl⟩:=akh.1 he;simp only[be,akf] at hp;subst hp
 rfl
attribute [go_sem] IB EF
mutual
theorem wz {w:World} {Im Im':Nat→Prop} {μ:Mu}:∀{u:V} {v:Value},FR u=true→RepV w Im μ u v→RepV w Im' μ u v
 | .lit x,v,_,h=>by cases h with | lit h=>exact .lit h
 | .ref _ _ _ _,_,_,h=>by cases h with | ref h=>exact .ref h
 | .sl _ _ _ _,_,_,h=>by cases h with | sl h=>exact .sl h
 | .agg l,v,hp,h=>by
   cases h with
   | agg hn ho hr=>
     have:=p5 (Im':=Im') hp ⟨hn,hr⟩
     exact .agg this.1 ho this.2
 | .tup l,v,hp,h=>by
   cases h with
   | tup hn hr=>
     have:=p5 (Im':=Im') hp ⟨hn,hr⟩
     exact .tup this.1 this.2
 | .row _ _,_,hp,_=>by simp[FR] at hp
 | .xrow _ _,_,hp,_=>by simp[FR] at hp
 | .rref _ _ _ _,_,hp,_=>by simp[FR] at hp
 | .clo _ _,_,hp,_=>by simp[FR] at hp
theorem p5 {w:World} {Im Im':Nat→Prop} {μ:Mu}:∀{us:List V} {vs:List Value},FR.pnL us=true→bh w Im μ us vs→bh w Im' μ us vs
 | [],vs,_,hr=>⟨hr.1,by simp⟩
 | u::us,vs,h,hr=>by
   simp only[FR.pnL,ajs] at h;obtain ⟨v,vs,rfl,h1,h2⟩:=hr.uncons;exact .cons (wz h.1 h1) (p5 h.2 h2)
end
theorem L7 {w:World} {Im Im':Nat→Prop} {p:PV} {c:Value} (hp:pnP p=true) (h:RepP w Im p c):RepP w Im' p c:=by
 cases h with
 | lit h=>exact .lit h
 | row=>simp[pnP] at hp
 | ptr=>simp[pnP] at hp
theorem CB {w:World} {Im Im':Nat→Prop} {μ:Mu} {loc:Option (Nat×Nat)} {ob:Ob} (hp:Mf ob) (h:fA w Im μ loc ob):fA w Im' μ loc ob:=by
 cases ob with
 | cells l=>
   obtain ⟨b,C,D,rfl,hB,ho,hl⟩:=h;exact⟨b,C,D,rfl,hB,ho,p5 hp hl⟩
 | row z l=>
   obtain ⟨hz,h⟩:=h;refine⟨hz,?_⟩;rcases h with h | ⟨b,C,rfl,hB,hl,hr⟩
   · exact .inl h
   · refine .inr ⟨b,C,rfl,hB,hl,fun i c p h1 h2=>L7 ?_ (hr i c p h1 h2)⟩
     obtain ⟨e,he,hpe⟩:=List.mem_flatten.1 (aka h2);exact hp e he p hpe
theorem bI {P:Program} {e:Bool} {f:FuncId} {vs vs₀:List V} {σ s:St} {r:V} {K:KV} (spec:aA P f vs₀ [] r s) (hk:K true (lY (fun j=>σ.length+j) r) (σ++tn (fun j=>σ.length+j) s))
 (hr:FR r=true:=by rfl) (hs:Qv s:=by simp only[Qv,go_sem,and_self,and_true,true_and];try (first | trivial | rfl | (simp;done)))
 (hm:qn (fun _=>true) [] σ vs₀ vs:=by simp(disch:=(first | omega | (simp only[ajj,ajR,ajr,ajA,ajF,ajt,ajY,ajl,ajo,true_and,and_true];(try omega);done) | fail)) only[go_sem,Int.reduceEq,Int.reduceToNat,Nat.reduceAdd,Nat.reduceMul,Nat.reduceEqDiff, ↓reduceIte,true_and,and_true,and_self,ajE,ajz,ajp,V.lit.injEq,Value.int.injEq,Value.bool.injEq];try (first | omega | (simp;done) | (simp;omega))):dB P e f vs σ K:=by
 refine nR spec.1 fun μ Im w args rl hl=>?_;have r0:Rel [] (fun b=>b<w.heap.size) [] w:=⟨rfl,fun o ob h=>by simp at h,fun o o' ob ob' b n n' h=>by simp at h,fun b hb=>⟨hb,fun hb'=>by simp[live] at hb'⟩,fun e he=>⟨(rl.im _ (rl.lay e he).1).1,(rl.lay e he).2⟩⟩;refine(spec.2 [] _ w args r0 (ou rl hm hl)).mono ?_;rintro v w' ⟨u,s',μ₁,Im₁,r₁,s₁,hlen,hu,rfl,rfl⟩;have hx:Ext [] w w':=s₁.ext.mono (by simp[live]);obtain ⟨q1,q2⟩:=rl.still hx;have hN:μ.length=σ.length:=rl.len
 have hfr:∀b∈live μ₁ s',w.heap.size≤b:=fun b hb=>by
  rcases s₁.live b hb with h | h
  · simp[live] at h
  · exact h
 have hf:∀(j:Nat) x,μ₁[j]? =some x→(μ++μ₁)[σ.length+j]? =some x:=fun j x h=>by
  rw[ajx zo,←h]
  congr 1;omega
 have hold:∀(j:Nat) x,μ[j]? =some x→(μ++μ₁)[j]? =some x:=fun j x h=>wh (akC _ _) h;have hmono:Mono μ Im w' (μ++μ₁) Im w':=⟨akC _ _,fun _ h=>h,fun _ _=>rfl⟩
 have hsl:∀(o:Nat) ob,(σ++tn (fun j=>σ.length+j) s')[o]? =some (some ob)→(o<σ.length∧σ[o]? =some (some ob))∨∃j ob',o=σ.length+j∧s'[j]? =some (some ob')∧ob=Gf (fun j=>σ.length+j) ob':=fun o ob h=>by
  rcases akT o σ.length with ho | ho
  · rw[ajw ho] at h
    exact .inl ⟨ho,h⟩
  · rw[ajx ho,nQ,aj1] at h
    cases hx:s'[o-σ.length]? with
    | none=>rw[hx] at h;cases h
    | some y=>
      rw[hx] at h
      cases y with
      | none=>simp[yr] at h
      | some y=>
        simp[yr] at h;exact .inr ⟨o-σ.length,y,by omega,hx,h.symm⟩
 have hin:∀(o:Nat) x,(μ++μ₁)[o]? =some x→(o<σ.length∧μ[o]? =some x)∨(σ.length≤o∧μ₁[o-σ.length]? =some x):=fun o x h=>by
  rcases akT o σ.length with ho | ho
  · rw[ajw zo] at h
    exact .inl ⟨ho,h⟩
  · rw[ajx zo,hN] at h
    exact .inr ⟨ho,h⟩
 have hlv:∀b,b∈live (μ++μ₁) (σ++tn (fun j=>σ.length+j) s')→b∈live μ σ∨b∈live μ₁ s':=fun b hb=>by
  obtain ⟨o,n,ob,h1,h2⟩:=aG.1 hb;rcases hsl o ob h2 with⟨ho,h⟩ | ⟨j,ob',rfl,hj,rfl⟩
  · rcases hin o _ h1 with⟨_,h'⟩ | ⟨h',_⟩
    · exact .inl (aG.2 ⟨o,n,ob,h',h⟩)
    · omega
  · rcases hin _ _ h1 with⟨h',_⟩ | ⟨_,h'⟩
    · omega
    · rw[show σ.length+j-σ.length=j by omega] at h'
      exact .inr (aG.2 ⟨j,n,ob',h',hj⟩)
 refine⟨lY (fun j=>σ.length+j) u,σ++tn (fun j=>σ.length+j) s',μ++μ₁,Im,⟨?_,?_,?_,?_,q1.lay⟩,⟨akC _ _,fun _ h=>h,hx.mono (by simp),fun b hb=>?_,fun _ h=>.inl h⟩,fun _=>hx,(wz hr hu).ren hf,hk⟩
 · rw[ajj,ajj,nQ,ajl,hN,r₁.len]
 · intro o ob h
   rcases hsl o ob h with⟨ho,h⟩ | ⟨j,ob',rfl,hj,rfl⟩
   · obtain ⟨loc,h1,h2⟩:=q1.rep o ob h
     exact⟨loc,hold _ _ h1,h2.mono hmono (fun _ _ _=>rfl)⟩
   · obtain ⟨loc,h1,h2⟩:=r₁.rep j ob' hj
     exact⟨loc,hf _ _ h1,(CB (p6 hs hj) h2).ren hf⟩
 · intro o o' ob ob' b n n' h1 h2 h3 h4
   rcases hsl o ob h1 with⟨ho,a1⟩ | ⟨j,x,rfl,a1,_⟩<;>rcases hsl o' ob' h2 with⟨ho',a2⟩ | ⟨j',x',rfl,a2,_⟩
   · rcases hin _ _ h3 with⟨_,b1⟩ | ⟨b1,_⟩
     · rcases hin _ _ h4 with⟨_,b2⟩ | ⟨b2,_⟩
       · exact rl.inj o o' ob ob' b n n' a1 a2 b1 b2
       · omega
     · omega
   · rcases hin _ _ h3 with⟨_,b1⟩ | ⟨b1,_⟩
     · rcases hin _ _ h4 with⟨b2,_⟩ | ⟨_,b2⟩
       · omega
       · rw[show σ.length+j'-σ.length=j' by omega] at b2
         have c1:=rl.lt (aG.2 ⟨o,n,ob,b1,a1⟩);have c2:=hfr b (aG.2 ⟨j',n',x',b2,a2⟩);omega
     · omega
   · rcases hin _ _ h3 with⟨b1,_⟩ | ⟨_,b1⟩
     · omega
     · rw[show σ.length+j-σ.length=j by omega] at b1
       rcases hin _ _ h4 with⟨_,b2⟩ | ⟨b2,_⟩
       · have c1:=rl.lt (aG.2 ⟨o',n',ob',b2,a2⟩)
         have c2:=hfr b (aG.2 ⟨j,n,x,b1,a1⟩);omega
       · omega
   · rcases hin _ _ h3 with⟨b1,_⟩ | ⟨_,b1⟩
     · omega
     · rcases hin _ _ h4 with⟨b2,_⟩ | ⟨_,b2⟩
       · omega
       · rw[show σ.length+j-σ.length=j by omega] at b1
         rw[show σ.length+j'-σ.length=j' by omega] at b2;rw[r₁.inj j j' x x' b n n' a1 a2 b1 b2]
 · intro b hb
   have hb':=rl.im b hb;refine⟨aj2 hb'.1 hx.size,fun hl'=>?_⟩;rcases hlv b hl' with h | h
   · exact hb'.2 h
   · have:=hfr b h
     omega
 · rcases hlv b hb with h | h
   · exact .inl h
   · exact .inr (hfr b h)
end Go.Vx
namespace Go.Vx
open Go.Eng Go.ChangeShapes Go.WideShapes
set_option linter.unusedSimpArgs false
set_option linter.unusedVariables false
inductive Sh where
 | int (k:IntKind)
 | bool
 | str
 | row (e:Sh)
 | nil
 | cons (a b:Sh)
def wd:Sh→Nat
 | .nil=>0
 | .cons a b=>wd a+wd b
 | _=>1
def Dt:Sh→Type
 | .int _=>Int
 | .bool=>Bool
 | .str=>ByteArray
 | .row e=>List (Dt e)
 | .nil=>Unit
 | .cons a b=>Dt a×Dt b
def okD:(s:Sh)→Dt s→Prop
 | .int k,n=> @LE.le Int _ k.min n∧ @LE.le Int _ n k.max
 | .bool,_=>True
 | .str,s=>ByteArray.size s≤maxLen
 | .row e,l=>List.length (α:=Dt e) l≤maxLen∧∀x:Dt e,@Membership.mem (Dt e) (List (Dt e)) _ l x→okD e x
 | .nil,_=>True
 | .cons a b,d=>okD a d.1∧okD b d.2
def s7:(s:Sh)→Dt s→List PV
 | .int k,n=> [.lit (.int k n)]
 | .bool,b=> [.lit (.bool b)]
 | .str,s=> [.lit (.string s)]
 | .row e,l=> [.row (wd e) (List.map (s7 e) l)]
 | .nil,_=> []
 | .cons a b,d=>s7 a d.1++s7 b d.2
theorem jA:∀(s:Sh) (d:Dt s),(s7 s d).length=wd s
 | .int _,_=>rfl
 | .bool,_=>rfl
 | .str,_=>rfl
 | .row _,_=>rfl
 | .nil,_=>rfl
 | .cons a b,d=>by
   show(s7 a d.1++s7 b d.2).length=wd a+wd b
   rw[ajj,jA a,jA b]
def yM (s:Sh):Nat→Sh
 | 0=>.nil
 | n+1=>.cons s (yM s n)
def zw (P:Program) (sh:TypeId→Option Sh):List Field→Nat→Option Sh
 | [],_=>some .nil
 | f::fs,o=>match sh f.type with
   | some s=>if f.offset=o∧P.cellsOf f.type=wd s then(zw P sh fs (o+wd s)).map (Sh.cons s) else none
   | none=>none
def r5 (P:Program):Nat→TypeId→Option Sh
 | 0,_=>none
 | n+1,t=>match P.underlying t with
   | some .bool=>some .bool
   | some (.int k)=>some (.int k)
   | some .string=>some .str
   | some (.slice e)=>(match r5 P n e with | some s=>if P.cellsOf e=wd s then some (.row s) else none | none=>none)
   | some (.struct fs)=>(match zw P (r5 P n) fs.toList 0 with | some s=>if P.cellsOf t=wd s then some s else none | none=>none)
   | some (.array m e)=>(match r5 P n e with | some s=>if P.cellsOf e=wd s∧P.cellsOf t=wd (yM s m) then some (yM s m) else none | none=>none)
   | _=>none
theorem BE {k:IntKind} {n:Int} (h:(Lit.int k n).wf=true):k.min≤n∧n≤k.max:=Go.Proofs.YtcnlmelpnflhnaaGreat.wf_bounds h
def Told (w:World) (s:Sh) (cs:List Value):Prop:=cs.length=wd s∧(∀c∈cs,bF c=true)∧∃d,okD s d∧∀(i:Nat) c p,cs[i]? =some c→(s7 s d)[i]? =some p→RepP w (fun b=>b<w.heap.size) p c
theorem Told.append {w:World} {a b:Sh} {xs ys:List Value} (h:Told w a xs) (k:Told w b ys):Told w (.cons a b) (xs++ys):=by
 obtain ⟨h1,h2,d,h3,h4⟩:=h;obtain ⟨k1,k2,e,k3,k4⟩:=k;refine⟨by rw[ajj,h1,k1];rfl,fun c hc=>?_,(d,e),⟨h3,k3⟩,fun i c p hc hp=>?_⟩
 · rcases akU.1 hc with h | h
   · exact h2 c h
   · exact k2 c h
 · have hp':(s7 a d++s7 b e)[i]? =some p:=hp
   have hl:=jA a d;rcases akT i xs.length with hi | hi
   · rw[ajw hi] at hc
     rw[ajw zo] at hp';exact h4 i c p hc hp'
   · rw[ajx hi] at hc
     rw[ajx zo] at hp';rw[hl,←h1] at hp';exact k4 _ c p hc hp'
section
variable {H:Type} {enc:TypeId×Value→H} {P:Program} {w:World} {base:Nat} {spare:Nat→Bool} {held:Bool}
theorem me {α:Type} (l:List α) (o a:Nat):(l.drop o).take a++l.drop (o+a)=l.drop o:=by
 rw[←List.drop_drop,alj]
theorem CU {n m:Nat} {cs:List Value} (ih:∀t s,r5 P n t=some s→∀fuel cs (x:DataW H×List MemPlace),DataW.trod enc P w base spare held fuel t cs=some x→Told w s cs):
 ∀(fs:List Field) (o:Nat) (s:Sh),zw P (r5 P n) fs o=some s→cs.length=o+wd s→(∀(i:Nat) (f:Field),fs[i]? =some f→∃x,DataW.trod enc P w base spare held m f.type ((cs.drop f.offset).take (P.cellsOf f.type))=some x)→Told w s (cs.drop o)
 | [],o,s,h,hl,hf=>by
   cases h
   exact⟨by simp[hl],fun c hc=>by rw[al2 (by rw[hl];exact ajp _)] at hc;simp at hc,(),trivial,fun i c p _ hp=>by cases hp⟩
 | f::fs,o,s,h,hl,hf=>by
   unfold zw at h
   split at h
   · rename_i sf hsf
     split at h
     · rename_i hc
       obtain ⟨rfl,hcf⟩:=hc
       cases hr:zw P (r5 P n) fs (f.offset+wd sf) with
       | none=>rw[hr] at h;cases h
       | some r=>
         rw[hr] at h
         cases h
         obtain ⟨x,hx⟩:=hf 0 f rfl;rw[hcf] at hx;have h1:=ih _ _ hsf _ _ _ hx;have h2:=CU ih fs (f.offset+wd sf) r hr (by rw[hl];show f.offset+(wd sf+wd r)=_;omega) (fun i g hg=>hf (i+1) g (by simpa using hg));rw[←me cs f.offset (wd sf)];exact h1.append h2
     · cases h
   · cases h
theorem yB {n m:Nat} {cs:List Value} {e:TypeId} {se:Sh} (hse:∀fuel cs (x:DataW H×List MemPlace),DataW.trod enc P w base spare held fuel e cs=some x→Told w se cs) (hc:P.cellsOf e=wd se):
 ∀(k i:Nat),i+k=m→cs.length=i*wd se+wd (yM se k)→(∀j,j<m→∃x,DataW.trod enc P w base spare held n e ((cs.drop (j*P.cellsOf e)).take (P.cellsOf e))=some x)→Told w (yM se k) (cs.drop (i*wd se))
 | 0,i,hk,hl,hf=>⟨by simp[hl,yM,wd],fun c hc=>by rw[al2 (by rw[hl];exact ajp _)] at hc;simp at hc,(),trivial,fun i c p _ hp=>by cases hp⟩
 | k+1,i,hk,hl,hf=>by
   obtain ⟨x,hx⟩:=hf i zo;rw[hc] at hx;have h1:=hse _ _ _ hx;have h2:=yB hse hc k (i+1) zo (by rw[hl,ajG,akH];show _+(wd se+wd (yM se k))=_;omega) hf;rw[←me cs (i*wd se) (wd se)];rw[ajG,akH] at h2;exact h1.append h2
theorem vD {α:Type} {z:Nat} (f:Nat→List α) (hz:∀i,(f i).length=z):∀(n i r:Nat),i<n→r<z→((List.range n).flatMap f)[i*z+r]? =(f i)[r]?
 | 0,i,r,hi,_=>by omega
 | n+1,i,r,hi,hr=>by
   have hl:∀m,((List.range m).flatMap f).length=m*z:=fun m=>by
    induction m with
    | zero=>simp
    | succ m ih=>rw[al0,List.flatMap_append,ajj,ih];simp[hz,ajG]
   rw[al0,List.flatMap_append]
   by_cases h:i<n
   · have hm:i*z+z≤n*z:=by
      have:=ajP z (show i+1≤n by omega)
      rw[ajG,akH] at this;exact this
     rw[ajw (by rw[hl];omega)];exact vD f hz n i r h hr
   · obtain rfl:i=n:=by omega
     rw[ajx (by rw[hl];omega),hl,show i*z+r-i*z=r by omega]
     simp
theorem xV {α:Type} {z:Nat} (f:Nat→List α) (hz:∀i,(f i).length=z) (m:Nat):((List.range m).flatMap f).length=m*z:=by
 induction m with
 | zero=>simp
 | succ m ih=>rw[al0,List.flatMap_append,ajj,ih];simp[hz,ajG]
theorem told:∀(n:Nat) (t:TypeId) (s:Sh),r5 P n t=some s→∀(fuel:Nat) (cs:List Value) (x:DataW H×List MemPlace),DataW.trod enc P w base spare held fuel t cs=some x→Told w s cs
 | 0,t,s,h,_,_,_,_=>by cases h
 | n+1,t,s,h,fuel,cs,x,hx=>by
   have ih:=told n;unfold r5 at h
   split at h
   · rename_i ht
     cases h
     obtain ⟨b,rfl,_⟩:=DataW.trod_bool ht hx
     exact⟨rfl,fun c hc=>by simp at hc;subst hc;rfl,b,trivial,fun i c p hc hp=>by
      cases i with
      | zero=>cases hc;cases hp;exact .lit rfl
      | succ i=>simp at hc⟩
   · rename_i k ht
     cases h
     obtain ⟨m,rfl,_,hw⟩:=DataW.trod_int ht hx
     exact⟨rfl,fun c hc=>by simp at hc;subst hc;rfl,m,BE hw,fun i c p hc hp=>by
      cases i with
      | zero=>cases hc;cases hp;exact .lit rfl
      | succ i=>simp at hc⟩
   · rename_i ht
     cases h
     obtain ⟨b,rfl,_,hw⟩:=DataW.trod_string ht hx
     exact⟨rfl,fun c hc=>by simp at hc;subst hc;rfl,b,hw,fun i c p hc hp=>by
      cases i with
      | zero=>cases hc;cases hp;exact .lit rfl
      | succ i=>simp at hc⟩
   · rename_i e ht
     split at h
     · rename_i se hse
       split at h
       · rename_i hc
         cases h
         have ihe:=ih e se hse;rcases Go.Deep.open_slice ht hx with⟨rfl,_⟩ | ⟨a,len,cap,m,nn,D,Pl,rfl,hb,hl,hm,hmm,_,hall⟩
         · refine⟨rfl,fun c hc=>by simp at hc;subst hc;rfl,([]:List (Dt se)),⟨by simp,by simp⟩,fun i c p hc hp=>?_⟩
           cases i with
           | zero=>
             cases hc;cases hp
             exact .row (C:=[]) rfl (ajp _) (by simp) (Row.nil _ _) (fun h=>absurd rfl h) (by simp) (by simp) (by simp)
           | succ i=>simp at hc
         · have hlm:len≤m:=by rw[hmm];split<;>omega
           by_cases h0:len=0
           · subst h0
             refine⟨rfl,fun c hc=>by simp at hc;subst hc;rfl,([]:List (Dt se)),⟨by simp,by simp⟩,fun i c p hc hp=>?_⟩
             cases i with
             | zero=>
               cases hc;cases hp
               exact .row (C:=[]) rfl (ajH _) (by simp) (Row.nil _ _) (fun h=>absurd rfl h) (by simp) (by simp) (by simp)
             | succ i=>simp at hc
           have h1:∀i,i<len→∃cd:List Value×Dt se,cd.1.length=wd se∧(∀c∈cd.1,bF c=true)∧okD se cd.2∧(∀(r:Nat) c p,cd.1[r]? =some c→(s7 se cd.2)[r]? =some p→RepP w (fun b=>b<w.heap.size) p c)∧∀r,r<wd se→w.cell? (a.add (i*wd se+r))=cd.1[r]? :=fun i hi=>by
            obtain ⟨cs',hcs,htr⟩:=hall i zo;obtain ⟨q1,q2,d,q3,q4⟩:=ihe _ _ _ htr;refine⟨(cs',d),q1,q2,q3,q4,fun r hr=>?_⟩;rw[hc] at hcs;unfold World.cells? at hcs
            split at hcs
            · have:=mapM_some_get hcs r r (by rw[alf hr])
              rw[←this]
              congr 1
              unfold Addr.add
              split<;>split<;>(try split)<;>simp_all<;>omega
            · cases hcs
           have h2:∀i,∃cd:List Value×Dt se,cd.1.length=wd se∧(∀c∈cd.1,bF c=true)∧okD se cd.2∧(∀(r:Nat) c p,cd.1[r]? =some c→(s7 se cd.2)[r]? =some p→RepP w (fun b=>b<w.heap.size) p c)∧(i<len→∀r,r<wd se→w.cell? (a.add (i*wd se+r))=cd.1[r]?):=fun i=>by
            by_cases hi:i<len
            · obtain ⟨cd,a1,a2,a3,a4,a5⟩:=h1 i hi
              exact⟨cd,a1,a2,a3,a4,fun _=>a5⟩
            · obtain ⟨cd,a1,a2,a3,a4,a5⟩:=h1 0 zo
              exact⟨cd,a1,a2,a3,a4,fun h=>absurd h hi⟩
           obtain ⟨F,hF⟩:=Classical.axiomOfChoice h2;have hfl:=xV (fun i=>(F i).1) (fun i=>(hF i).1) len
           have hget:∀i c,((List.range len).flatMap fun i=>(F i).1)[i]? =some c→i/wd se<len∧(F (i/wd se)).1[i%wd se]? =some c:=fun i c hc=>by
            have hi:=(akn.1 hc).1;rw[hfl] at hi
            have hz:0<wd se:=by
             rcases ajW (wd se) with h | h
             · rw[h] at hi;omega
             · exact h
            have hq:i/wd se<len:=(ajX hz).2 hi;refine⟨hq,?_⟩
            have:=vD (fun i=>(F i).1) (fun i=>(hF i).1) len (i/wd se) (i%wd se) hq (ajI _ hz)
            rw[ajJ,ajT] at this;rw[←this,hc]
           have hpl:(((List.range len).map fun i=>(F i).2).map (s7 se)).flatten=(List.range len).flatMap fun i=>s7 se (F i).2:=by
            rw[List.map_map];rfl
           refine⟨rfl,fun c hc=>by simp at hc;subst hc;rfl,((List.range len).map fun i=>(F i).2:List (Dt se)),⟨by simp;omega,fun x hx=>?_⟩,fun i c p hc hp=>?_⟩
           · obtain ⟨i,_,rfl⟩:=akh.1 hx
             exact(hF i).2.2.1
           · cases i with
             | succ i=>simp at hc
             | zero=>
               cases hc;cases hp
               refine .row (C:=(List.range len).flatMap fun i=>(F i).1) (by simp) hl (fun e he=>?_) (Go.Proofs.YtcnlmelpnflhnaaGreat.row_cells (fun i hi=>?_)) (fun hne=>?_) hfl (fun c hc=>?_) (fun i c p hc hp=>?_)
               · obtain ⟨d,_,rfl⟩:=akh.1 he
                 exact jA _ _
               · have hg:=ajm hi
                 obtain ⟨g1,g2⟩:=hget i _ hg
                 have hz:0<wd se:=by
                  rcases ajW (wd se) with h | h
                  · rw[hfl,h] at hi;omega
                  · exact h
                 have:=(hF (i/wd se)).2.2.2.2 g1 (i%wd se) (ajI _ hz)
                 rw[ajJ,ajT,g2] at this;exact this
               · have hpos:0<((List.range len).flatMap fun i=>(F i).1).length:=alU.2 hne
                 obtain ⟨g1,g2⟩:=hget 0 _ (ajm hpos)
                 have hz:0<wd se:=by
                  rcases ajW (wd se) with h | h
                  · rw[hfl,h] at hpos;omega
                  · exact h
                 have:=(hF 0).2.2.2.2 zo 0 hz
                 rw[akK,ajU] at this;have e0:(F 0).1[0]? =some (((List.range len).flatMap fun i=>(F i).1)[0]):=by simpa using g2
                 rw[e0] at this
                 have:=World.block_lt_of_cell? _ _ this
                 simpa [ab,Addr.add] using this
               · obtain ⟨i,hi,rfl⟩:=akI.1 hc
                 obtain ⟨g1,g2⟩:=hget i _ (ajm hi);exact(hF (i/wd se)).2.1 _ (aka g2)
               · obtain ⟨g1,g2⟩:=hget i _ hc
                 rw[hpl] at hp;have hi:=(akn.1 hc).1
                 have hz:0<wd se:=by
                  rcases ajW (wd se) with h | h
                  · rw[hfl,h] at hi;omega
                  · exact h
                 have:=vD (fun i=>s7 se (F i).2) (fun i=>jA _ _) len (i/wd se) (i%wd se) g1 (ajI _ hz)
                 rw[ajJ,ajT,hp] at this;exact(hF (i/wd se)).2.2.2.1 _ c p g2 this.symm
       · cases h
     · cases h
   · rename_i fs ht
     split at h
     · rename_i s' hs
       split at h
       · rename_i hc
         cases h
         obtain ⟨xs,m,rfl,_,hlen,hxl,hall⟩:=DataW.trod_struct ht hx
         have:=CU (m:=m) (cs:=cs) ih fs.toList 0 s hs (by rw[hlen,hc];omega) (fun i f hf=>by
          have hf':fs[i]? =some f:=by simpa using hf
          have hi:i<xs.length:=by
           have:=(ak4.1 hf').1
           omega
          exact⟨xs[i],by rw[hall i f hf',ajm hi]⟩)
         simpa using this
       · cases h
     · cases h
   · rename_i m e ht
     split at h
     · rename_i se hse
       split at h
       · rename_i hc
         cases h
         obtain ⟨xs,mm,rfl,_,hlen,hxl,hall⟩:=DataW.trod_array ht hx
         have:=yB (n:=mm) (m:=m) (cs:=cs) (e:=e) (ih e se hse) hc.1 m 0 zo (by rw[hlen,hc.2];omega) (fun j hj=>⟨xs[j]'zo,by rw[hall j hj,ajm zo]⟩)
         simpa using this
       · cases h
     · cases h
   · cases h
def UI:(s:Sh)→Dt s→V
 | .int k,n=>.lit (.int k n)
 | .bool,b=>.lit (.bool b)
 | .str,s=>.lit (.string s)
 | .row e,l=>.row (wd e) (List.map (s7 e) l)
 | .nil,_=>.agg []
 | .cons a b,d=>.agg ((s7 (.cons a b) d).map V.ofP)
theorem kt {n:Nat} {t:TypeId} {s:Sh} {v:Value} {d:DataW H} {ps:List MemPlace} {r:Reach} {b0:Nat} (hs:r5 P n t=some s) (hk:DataW.Trod enc P w base spare held t v d ps) (hv:Value.okWide P w r b0 t v):
 ∃d:Dt s,okD s d∧RepV w (fun b=>b<w.heap.size) [] (UI s d) v:=by
 obtain ⟨fuel,hf⟩:=hk;have ht:=told n t s hs fuel _ _ hf;obtain ⟨hl,ho,d,hd,hr⟩:=ht;refine⟨d,hd,?_⟩
 have agg:∀cs:Array Value,v=.agg cs→∀ps:List PV,cs.toList.length=ps.length→(∀(i:Nat) c p,v.cells.toList[i]? =some c→ps[i]? =some p→RepP w (fun b=>b<w.heap.size) p c)→RepV w (fun b=>b<w.heap.size) [] (.agg (ps.map V.ofP)) v:=fun cs e ps hlen hrr=>by
  subst e
  have:=RepV.agg (w:=w) (Im:=fun b=>b<w.heap.size) (μ:=[]) (l:=ps.map V.ofP) (C:=cs.toList) (by simpa using hlen) ho (fun i u c h1 h2=>by
   rw[aj1] at h1
   cases hp:ps[i]? with
   | none=>rw[hp] at h1;cases h1
   | some p=>rw[hp] at h1;cases h1;exact(hrr i c p h2 hp).toV)
  simpa using this
 cases n with
 | zero=>cases hs
 | succ n=>
   unfold r5 at hs
   split at hs
   · rename_i hu
     cases hs
     obtain ⟨b,rfl⟩:=okWide_bool hu hv;exact(hr 0 _ _ rfl rfl).toV
   · rename_i k hu
     cases hs
     obtain ⟨b,rfl⟩:=okWide_int hu hv;exact(hr 0 _ _ rfl rfl).toV
   · rename_i hu
     cases hs
     obtain ⟨b,rfl⟩:=okWide_string hu hv;exact(hr 0 _ _ rfl rfl).toV
   · rename_i e hu
     split at hs
     · split at hs
       · cases hs
         obtain ⟨a,len,cap,rfl⟩:=okWide_slice hu hv;exact(hr 0 _ _ rfl rfl).toV
       · cases hs
     · cases hs
   · rename_i fs hu
     split at hs
     · rename_i s' hs'
       split at hs
       · cases hs
         obtain ⟨cs,rfl,_⟩:=okWide_struct hu hv;have hA:=agg cs rfl (s7 s d) (by rw[jA];exact hl) hr
         cases hq:fs.toList with
         | nil=>rw[hq] at hs';cases hs';exact hA
         | cons f fs'=>
           rw[hq] at hs';unfold zw at hs'
           split at hs'
           · split at hs'
             · cases hx:zw P (r5 P n) fs' (0+wd ‹Sh›) with
               | none=>rw[hx] at hs';cases hs'
               | some r=>rw[hx] at hs';cases hs';exact hA
             · cases hs'
           · cases hs'
       · cases hs
     · cases hs
   · rename_i m e hu
     split at hs
     · rename_i se hse
       split at hs
       · cases hs
         have hcs:∃cs,v=.agg cs:=by
          simp only[Value.okWide,hu] at hv;obtain ⟨cs,h1,_⟩:=hv;exact⟨cs,h1⟩
         obtain ⟨cs,rfl⟩:=hcs;have hA:=agg cs rfl (s7 (yM se m) d) (by rw[jA];exact hl) hr
         cases m with
         | zero=>exact hA
         | succ m=>exact hA
       · cases hs
     · cases hs
   · cases hs
end
end Go.Vx
namespace Go.Vx
open Go.Eng
theorem zF {P:Program} {f:FuncId} {fn:Func} {c:Code} {vs:List V} {σ:St} {r:V} {s:St} (pl:aI) (hcf:∀(args:Array Value) (w:World),(callFunc f args).run P w=.ok (.enter f args) w) (hf:P.funcs[f]? =some fn) (rs:List ResultVar)
 (h:∀Q:V→St→Prop,Q r s→ei true P σ.length pl c (Fs 0 vs) σ (qA P rs (te σ.length Q))) (hm:P.follows .mixedOrders=true:=by kernel_rfl) (hb:fn.body=some c:=by exact rfl) (hc:nG fn.ntmps pl c=true:=by kernel_rfl) (hs:Nat.ble vs.length fn.ntmps=true:=by exact rfl) (hr:fn.results.toList=rs:=by kernel_rfl):aA P f vs σ r s:=
 Ls pl hm hcf hf hb hc hs rs hr h
theorem zC {P:Program} {e:Bool} {f:FuncId} {vs:List V} {σ:St} {r:V} {K:KV} {q:Prop} (spec:aA P f vs [] r []) (hq:q) (h1:lh.plnL vs=true:=by exact rfl) (h2:lh r=true:=by exact rfl) (h:K true r σ=q:=by simp(maxSteps:=1000000) (disch:=(first | omega | (simp only[cQ,ajl,ajo,true_and,and_true];(try omega);done) | fail)) only[go_sem,Int.reduceEq,Int.reduceToNat,Nat.reduceAdd,Nat.reduceMul,Nat.reduceEqDiff, ↓reduceIte];rfl):dB P e f vs σ K:=aB spec h1 h2 (h.symm▸hq)
theorem zW {P:Program} {e:Bool} {f:FuncId} {vs vs₀:List V} {σ σ₀ s:St} {r:V} {K:KV} {q:Prop} (π:Pi) (F:List Nat) (spec:aA P f vs₀ σ₀ r s) (hq:q) (h1:(RX π&&π.all (fun p=>match p with | some p=>decide (p<σ.length)&&!F.contains p | none=>true))=true:=by rfl) (h2:nM F.contains π σ σ₀ π:=by simp(disch:=(first | omega | (simp only[ajj,ajR,ajr,ajA,ajF,ajt,ajY,ajl,ajo,true_and,and_true];(try omega);done) | fail)) only[go_sem,Int.reduceEq,Int.reduceToNat,Nat.reduceAdd,Nat.reduceMul,Nat.reduceEqDiff, ↓reduceIte,true_and,and_true,and_self,ajE,ajz,ajp,V.lit.injEq,Value.int.injEq,Value.bool.injEq];try (first | omega | (simp;done) | (simp;omega))) (h3:qn F.contains π σ vs₀ vs:=by simp(disch:=(first | omega | (simp only[ajj,ajR,ajr,ajA,ajF,ajt,ajY,ajl,ajo,true_and,and_true];(try omega);done) | fail)) only[go_sem,Int.reduceEq,Int.reduceToNat,Nat.reduceAdd,Nat.reduceMul,Nat.reduceEqDiff, ↓reduceIte,true_and,and_true,and_self,ajE,ajz,ajp,V.lit.injEq,Value.int.injEq,Value.bool.injEq];try (first | omega | (simp;done) | (simp;omega))) (he:e=true→σ₀=[]:=by simp) (h:K true (lY (wF (iZ σ.length π) (σ.length+j4 π)) r) (r7 π F σ s)=q:=by simp(maxSteps:=1000000) (disch:=(first | omega | (simp only[cQ,ajl,ajo,true_and,and_true];(try omega);done) | fail)) only[go_sem,Int.reduceEq,Int.reduceToNat,Nat.reduceAdd,Nat.reduceMul,Nat.reduceEqDiff, ↓reduceIte];rfl):dB P e f vs σ K:=aF π F spec (h.symm▸hq) h1 h2 h3 he
theorem zE {p:Prop} {k:Nat} {Q:V→St→Prop} {u:V} {s:St} (π:Pi) {u₀:V} {s₀:St} (hq:Q u₀ s₀) (h:p=te k Q u s:=by simp(maxSteps:=1000000) (disch:=(first | omega | (simp only[cQ,ajl,ajo,true_and,and_true];(try omega);done) | fail)) only[go_sem,Int.reduceEq,Int.reduceToNat,Nat.reduceAdd,Nat.reduceMul,Nat.reduceEqDiff, ↓reduceIte];rfl) (h1:(Ev π s₀&&tA k π)=true:=by rfl) (h2:nM (mW π) π s s₀ π:=by simp(disch:=(first | omega | (simp only[ajj,ajR,ajr,ajA,ajF,ajt,ajY,ajl,ajo,true_and,and_true];(try omega);done) | fail)) only[go_sem,Int.reduceEq,Int.reduceToNat,Nat.reduceAdd,Nat.reduceMul,Nat.reduceEqDiff, ↓reduceIte,true_and,and_true,and_self,ajE,ajz,ajp,V.lit.injEq,Value.int.injEq,Value.bool.injEq];try (first | omega | (simp;done) | (simp;omega))) (h3:mV (mW π) π s u₀ u:=by simp(disch:=(first | omega | (simp only[ajj,ajR,ajr,ajA,ajF,ajt,ajY,ajl,ajo,true_and,and_true];(try omega);done) | fail)) only[go_sem,Int.reduceEq,Int.reduceToNat,Nat.reduceAdd,Nat.reduceMul,Nat.reduceEqDiff, ↓reduceIte,true_and,and_true,and_self,ajE,ajz,ajp,V.lit.injEq,Value.int.injEq,Value.bool.injEq];try (first | omega | (simp;done) | (simp;omega))):p:=h.symm▸ak π hq h1 h2 h3
end Go.Vx
