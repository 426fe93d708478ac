import Derived.Test.YtcnlmelpnflhnaaGreatE2
import Derived.Test.YtcnlmelpnflhnaaGreatE1
import Derived.Below
import Derived.Test.YtcnlmelpnflhnaaGreatVl
import Derived.Test.YtcnlmelpnflhnaaGreatVFacts
import Derived.Deep.Slices
import Derived.OpenShut
import Derived.ChangeArms
import Derived.WideShapes
namespace Go.Eng
set_option linter.unusedSimpArgs false
set_option linter.unusedVariables false
def u8v (b:UInt8):Value:=.int .u8 (b.toNat:Int)
theorem Row.get {α:Type} [Inhabited α] {enc:α→Value} {w:World} {a:Option Addr} {l:List α} (h:Row w a (l.map enc)) {m:Nat} (hm:m<l.length) (F:Bool→Value→Prop):
 Eng.cellK w ⟨ab a,ao a+m,none⟩ F=F true (enc (l.getD m default)):=by
 rw[h.cellK (m:=m) (by simpa using hm)];simp[akf,akh hm]
theorem H8 (op:BinOp) (k:IntKind) (B:Nat) (hB:k.bits=B) (hs:k.signed=false) (x y:Nat) (hx:x<2^B) (hy:y<2^B):
 bS .xor k (x:Int) (y:Int)=((x^^^y:Nat):Int)∧bS .and k (x:Int) (y:Int)=((x&&&y:Nat):Int)∧bS .or k (x:Int) (y:Int)=((x ||| y:Nat):Int):=by
 subst hB
 have hw:∀z:Nat,z<2^k.bits→k.wrap (z:Int)=(z:Int):=fun z hz=>by
  unfold IntKind.wrap;rw[hs]
  have:((z:Int)%(2^k.bits:Int))=z:=Int.emod_eq_of_lt zo (by exact_mod_cast hz)
  simp[this]
 have e1:(BitVec.ofInt k.bits (x:Int)^^^BitVec.ofInt k.bits (y:Int)).toNat=x^^^y:=by
  rw[BitVec.toNat_xor,BitVec.ofInt_natCast,BitVec.ofInt_natCast,BitVec.toNat_ofNat,BitVec.toNat_ofNat,akG hx,akG hy]
 have e2:(BitVec.ofInt k.bits (x:Int)&&&BitVec.ofInt k.bits (y:Int)).toNat=x&&&y:=by
  rw[BitVec.toNat_and,BitVec.ofInt_natCast,BitVec.ofInt_natCast,BitVec.toNat_ofNat,BitVec.toNat_ofNat,akG hx,akG hy]
 have e3:(BitVec.ofInt k.bits (x:Int) ||| BitVec.ofInt k.bits (y:Int)).toNat=x ||| y:=by
  rw[BitVec.toNat_or,BitVec.ofInt_natCast,BitVec.ofInt_natCast,BitVec.toNat_ofNat,BitVec.toNat_ofNat,akG hx,akG hy]
 refine⟨?_,?_,?_⟩
 · show k.wrap ((BitVec.ofInt k.bits (x:Int)^^^BitVec.ofInt k.bits (y:Int)).toNat:Int)=_
   rw[e1];exact hw _ (alC hx hy)
 · show k.wrap ((BitVec.ofInt k.bits (x:Int)&&&BitVec.ofInt k.bits (y:Int)).toNat:Int)=_
   rw[e2];exact hw _ (Nat.and_lt_two_pow _ hy)
 · show k.wrap ((BitVec.ofInt k.bits (x:Int) ||| BitVec.ofInt k.bits (y:Int)).toNat:Int)=_
   rw[e3];exact hw _ (Nat.or_lt_two_pow hx hy)
theorem wk {x y:Nat} (hx:x<4294967296) (hy:y<4294967296):bS .xor .u32 (x:Int) (y:Int)=((x^^^y:Nat):Int):=(H8 .xor .u32 32 rfl rfl x y hx hy).1
theorem Je {x y:Nat} (hx:x<256) (hy:y<256):bS .xor .u8 (x:Int) (y:Int)=((x^^^y:Nat):Int):=(H8 .xor .u8 8 rfl rfl x y hx hy).1
theorem Pz {x y:Nat} (hx:x<256) (hy:y<256):bS .or .u8 (x:Int) (y:Int)=((x ||| y:Nat):Int):=(H8 .xor .u8 8 rfl rfl x y hx hy).2.2
theorem MQ {x y:Nat} (hx:x<18446744073709551616) (hy:y<18446744073709551616):bS .and .u64 (x:Int) (y:Int)=((x&&&y:Nat):Int):=(H8 .xor .u64 64 rfl rfl x y hx hy).2.1
theorem iK {x y:Nat} (hx:x<18446744073709551616) (hy:y<18446744073709551616):bS .or .u64 (x:Int) (y:Int)=((x ||| y:Nat):Int):=(H8 .xor .u64 64 rfl rfl x y hx hy).2.2
end Go.Eng
namespace Go.Proofs.YtcnlmelpnflhnaaGreat
open Go.Eng
open Go.RowKit
set_option linter.unusedSimpArgs false
set_option linter.unusedVariables false
theorem toBelow {w w':World} (h:Ext [] w w'):Below w.heap.size w w':=⟨h.os,h.tape,h.output,h.size,fun k hk=>h.block k hk (by simp)⟩
theorem Gt {w:World} {x:Addr} {v:Value} (h:w.cell? x=some v):x.spot=none:=by
 unfold World.cell? at h
 split at h
 · split at h
   · simp at h
   · rename_i hn;simpa using hn
 · simp at h
theorem row_cells {w:World} {x:Addr} {cs:List Value} (h:∀i (hi:i<cs.length),w.cell? (x.add i)=some cs[i]):Row w (some x) cs:=by
 have hs:0<cs.length→x=⟨x.block,x.off,none⟩:=fun h0=>by
  have:=Gt (h 0 h0)
  cases x
  simpa [Addr.add] using this
 refine⟨fun h0=>congrArg some (hs h0),fun i hi=>?_⟩;have h1:=h i hi;have h2:=hs zo
 have:x.add i=⟨x.block,x.off+i,none⟩:=by rw[h2];simp[Addr.add]
 rw[this] at h1;exact h1
theorem wf_bounds {k:IntKind} {n:Int} (h:(Lit.int k n).wf=true):k.min≤n∧n≤k.max:=by
 have h':(decide (k.min≤n)&&decide (n≤k.max))=true:=h;simpa using h'
theorem Kp {P:Program} {f:FuncId} {args:List Value} {w:World} (h:v5 P f args w fun v w'=>v=.bool true∧Ext [] w w'):
 Calls P f args.toArray w fun e w'=>e=.returned (.bool true)∧Below w.heap.size w w':=
 Calls.mono h fun e w' ⟨v,he,hv,hw⟩=>⟨by rw[he,hv],toBelow hw⟩
open Go.Eng Go.Vx Go.RowKit
theorem so {α:Type} (f:α→PV) (l:List α):(l.map fun x=> [f x]).flatten=l.map f:=by
 induction l with
 | nil=>rfl
 | cons x l ih=>simp[ih]
def gQ (B:List Int):Prop:=∀x∈B,0≤x∧x≤255
theorem G8 {P:Program} {f:FuncId} {vs:List V} {args:List Value} {w:World} (h:aA P f vs [] (.lit (.bool true)) []) (hr:bd w (fun b=>b<w.heap.size) [] vs args) (hlay:rK w (fun b=>b<w.heap.size):=by intro e he;simp[QL] at he):
 Calls P f args.toArray w fun e w'=>e=.returned (.bool true)∧Below w.heap.size w w':=Kp (BA (u:=.lit (.bool true)) h hr (fun u s h=>h.1) hlay)
end Go.Proofs.YtcnlmelpnflhnaaGreat
attribute [go_sem] decide_true decide_false beq_true beq_false Bool.true_beq Bool.false_beq Bool.not_not Bool.not_true Bool.not_false List.drop_zero List.map_cons List.map_nil List.length_cons List.length_nil List.cons_append List.nil_append List.set_cons_zero List.set_cons_succ List.getElem?_cons_zero List.getElem?_cons_succ List.length_map Int.toNat_natCast Nat.zero_add Nat.add_zero
namespace Go.Vx
open Go.Eng
set_option linter.unusedSimpArgs false
set_option linter.unusedVariables false
theorem cS {α:Type}:(∀a b:List α,(a++b).length=a.length+b.length)∧(∀(l:List α) i x,(l.set i x).length=l.length)∧(∀(x:α) l,(x::l).length=l.length+1)∧([]:List α).length=0∧(∀n (x:α),(List.replicate n x).length=n)∧(∀n (l:List α),(l.take n).length=min n l.length)∧(∀n (l:List α),(l.drop n).length=l.length-n):=
 ⟨fun _ _=>ake,fun _ _ _=>akJ,fun _ _=>rfl,rfl,fun _ _=>akB,fun _ _=>akr,fun _ _=>akW⟩
theorem ae {p q:Prop} (hq:q) (h:p=q:=by simp(maxSteps:=1000000) (disch:=(first | omega | (simp only[cS,aki,akj,true_and,and_true];(try omega);done) | fail)) only[go_sem,Int.reduceEq,Int.reduceToNat,Nat.reduceAdd,Nat.reduceMul,Nat.reduceEqDiff, ↓reduceIte];rfl):p:=h.symm▸hq
theorem bg {p q A0:Prop} (f0:A0) (hq:q) (h:A0→p=q:=by intro f0;simp(maxSteps:=1000000) (disch:=(first | omega | (simp only[cS,aki,akj,true_and,and_true];(try omega);done) | fail)) only[go_sem,f0,Int.reduceEq,Int.reduceToNat,Nat.reduceAdd,Nat.reduceMul,Nat.reduceEqDiff, ↓reduceIte];rfl):p:=(h f0).symm▸hq
theorem eo {p q A0 A1:Prop} (f0:A0) (f1:A1) (hq:q) (h:A0→A1→p=q:=by intro f0 f1;simp(maxSteps:=1000000) (disch:=(first | omega | (simp only[cS,aki,akj,true_and,and_true];(try omega);done) | fail)) only[go_sem,f0,f1,Int.reduceEq,Int.reduceToNat,Nat.reduceAdd,Nat.reduceMul,Nat.reduceEqDiff, ↓reduceIte];rfl):p:=(h f0 f1).symm▸hq
theorem LM {p q A0 A1 A2 A3:Prop} (f0:A0) (f1:A1) (f2:A2) (f3:A3) (hq:q) (h:A0→A1→A2→A3→p=q:=by intro f0 f1 f2 f3;simp(maxSteps:=1000000) (disch:=(first | omega | (simp only[cS,aki,akj,true_and,and_true];(try omega);done) | fail)) only[go_sem,f0,f1,f2,f3,Int.reduceEq,Int.reduceToNat,Nat.reduceAdd,Nat.reduceMul,Nat.reduceEqDiff, ↓reduceIte];rfl):p:=(h f0 f1 f2 f3).symm▸hq
theorem qm {p q A0 A1 A2:Prop} (f0:A0) (f1:A1) (f2:A2) (hq:q) (h:A0→A1→A2→p=q:=by intro f0 f1 f2;simp(maxSteps:=1000000) (disch:=(first | omega | (simp only[cS,aki,akj,true_and,and_true];(try omega);done) | fail)) only[go_sem,f0,f1,f2,Int.reduceEq,Int.reduceToNat,Nat.reduceAdd,Nat.reduceMul,Nat.reduceEqDiff, ↓reduceIte];rfl):p:=(h f0 f1 f2).symm▸hq
theorem Oc {p q A0 A1 A2 A3 A4:Prop} (f0:A0) (f1:A1) (f2:A2) (f3:A3) (f4:A4) (hq:q) (h:A0→A1→A2→A3→A4→p=q:=by intro f0 f1 f2 f3 f4;simp(maxSteps:=1000000) (disch:=(first | omega | (simp only[cS,aki,akj,true_and,and_true];(try omega);done) | fail)) only[go_sem,f0,f1,f2,f3,f4,Int.reduceEq,Int.reduceToNat,Nat.reduceAdd,Nat.reduceMul,Nat.reduceEqDiff, ↓reduceIte];rfl):p:=(h f0 f1 f2 f3 f4).symm▸hq
theorem Ya {p q:Prop} (hq:q) (h:p=q:=by simp(maxSteps:=1000000) (disch:=(first | omega | (simp only[cS,aki,akj,true_and,and_true];(try omega);done) | fail)) only[go_sem,List.isEmpty_nil,Int.reduceEq,Int.reduceToNat,Nat.reduceAdd,Nat.reduceMul,Nat.reduceEqDiff, ↓reduceIte];rfl):p:=(h).symm▸hq
theorem zq6 {p q:Prop} (hq:q) (h:p=q:=by simp(maxSteps:=1000000) (disch:=(first | omega | (simp only[cS,aki,akj,true_and,and_true];(try omega);done) | fail)) only[go_sem,amo,Int.reduceEq,Int.reduceToNat,Nat.reduceAdd,Nat.reduceMul,Nat.reduceEqDiff, ↓reduceIte];rfl):p:=(h).symm▸hq
theorem zq7 {p q:Prop} (hq:q) (h:p=q:=by simp(maxSteps:=1000000) (disch:=(first | omega | (simp only[cS,aki,akj,true_and,and_true];(try omega);done) | fail)) only[go_sem,and_self,Int.reduceEq,Int.reduceToNat,Nat.reduceAdd,Nat.reduceMul,Nat.reduceEqDiff, ↓reduceIte];rfl):p:=(h).symm▸hq
theorem zq8 {p q:Prop} (hq:q) (h:p=q:=by simp(maxSteps:=1000000) (disch:=(first | omega | (simp only[cS,aki,akj,true_and,and_true];(try omega);done) | fail)) only[go_sem,beq_self_eq_true,Int.reduceEq,Int.reduceToNat,Nat.reduceAdd,Nat.reduceMul,Nat.reduceEqDiff, ↓reduceIte];rfl):p:=(h).symm▸hq
theorem Mi {p q A0 A1 A2 A3 A4 A5:Prop} (f0:A0) (f1:A1) (f2:A2) (f3:A3) (f4:A4) (f5:A5) (hq:q) (h:A0→A1→A2→A3→A4→A5→p=q:=by intro f0 f1 f2 f3 f4 f5;simp(maxSteps:=1000000) (disch:=(first | omega | (simp only[cS,aki,akj,true_and,and_true];(try omega);done) | fail)) only[go_sem,f0,f1,f2,f3,f4,f5,Int.reduceEq,Int.reduceToNat,Nat.reduceAdd,Nat.reduceMul,Nat.reduceEqDiff, ↓reduceIte];rfl):p:=(h f0 f1 f2 f3 f4 f5).symm▸hq
theorem aap {p q A0 A1 A2 A3 A4 A5 A6:Prop} (f0:A0) (f1:A1) (f2:A2) (f3:A3) (f4:A4) (f5:A5) (f6:A6) (hq:q) (h:A0→A1→A2→A3→A4→A5→A6→p=q:=by intro f0 f1 f2 f3 f4 f5 f6;simp(maxSteps:=1000000) (disch:=(first | omega | (simp only[cS,aki,akj,true_and,and_true];(try omega);done) | fail)) only[go_sem,f0,f1,f2,f3,f4,f5,f6,Int.reduceEq,Int.reduceToNat,Nat.reduceAdd,Nat.reduceMul,Nat.reduceEqDiff, ↓reduceIte];rfl):p:=(h f0 f1 f2 f3 f4 f5 f6).symm▸hq
theorem Sr {p q A0 A1 A2 A3 A4 A5 A6 A7:Prop} (f0:A0) (f1:A1) (f2:A2) (f3:A3) (f4:A4) (f5:A5) (f6:A6) (f7:A7) (hq:q) (h:A0→A1→A2→A3→A4→A5→A6→A7→p=q:=by intro f0 f1 f2 f3 f4 f5 f6 f7;simp(maxSteps:=1000000) (disch:=(first | omega | (simp only[cS,aki,akj,true_and,and_true];(try omega);done) | fail)) only[go_sem,f0,f1,f2,f3,f4,f5,f6,f7,Int.reduceEq,Int.reduceToNat,Nat.reduceAdd,Nat.reduceMul,Nat.reduceEqDiff, ↓reduceIte];rfl):p:=(h f0 f1 f2 f3 f4 f5 f6 f7).symm▸hq
theorem QI {p q A0 A1:Prop} (f0:A0) (f1:A1) (hq:q) (h:A0→A1→p=q:=by intro f0 f1;simp(maxSteps:=1000000) (disch:=(first | omega | (simp only[cS,aki,akj,true_and,and_true];(try omega);done) | fail)) only[go_sem,f0,f1,ak0,Int.reduceEq,Int.reduceToNat,Nat.reduceAdd,Nat.reduceMul,Nat.reduceEqDiff, ↓reduceIte];rfl):p:=(h f0 f1).symm▸hq
theorem Fw {p q:Prop} (hq:q) (h:p=q:=by simp(maxSteps:=1000000) (disch:=(first | omega | (simp only[cS,aki,akj,true_and,and_true];(try omega);done) | fail)) only[go_sem,decide_true,Int.reduceEq,Int.reduceToNat,Nat.reduceAdd,Nat.reduceMul,Nat.reduceEqDiff, ↓reduceIte];rfl):p:=(h).symm▸hq
theorem HG {p q:Prop} (hq:q) (h:p=q:=by simp(maxSteps:=1000000) (disch:=(first | omega | (simp only[cS,aki,akj,true_and,and_true];(try omega);done) | fail)) only[go_sem,decide_false,Int.reduceEq,Int.reduceToNat,Nat.reduceAdd,Nat.reduceMul,Nat.reduceEqDiff, ↓reduceIte];rfl):p:=(h).symm▸hq
theorem Gb {p q A0:Prop} (f0:A0) (hq:q) (h:A0→p=q:=by intro f0;simp(maxSteps:=1000000) (disch:=(first | omega | (simp only[cS,aki,akj,true_and,and_true];(try omega);done) | fail)) only[go_sem,f0,akv,Int.reduceEq,Int.reduceToNat,Nat.reduceAdd,Nat.reduceMul,Nat.reduceEqDiff, ↓reduceIte];rfl):p:=(h f0).symm▸hq
theorem Sf {p q A0 A1 A2:Prop} (f0:A0) (f1:A1) (f2:A2) (hq:q) (h:A0→A1→A2→p=q:=by intro f0 f1 f2;simp(maxSteps:=1000000) (disch:=(first | omega | (simp only[cS,aki,akj,true_and,and_true];(try omega);done) | fail)) only[go_sem,f0,f1,f2,amz,Int.reduceEq,Int.reduceToNat,Nat.reduceAdd,Nat.reduceMul,Nat.reduceEqDiff, ↓reduceIte];rfl):p:=(h f0 f1 f2).symm▸hq
theorem ahM {p q:Prop} (hq:q) (h:p=q:=by simp(maxSteps:=1000000) (disch:=(first | omega | (simp only[cS,aki,akj,true_and,and_true];(try omega);done) | fail)) only[go_sem,Bool.toNat_true,decide_true,Int.reduceEq,Int.reduceToNat,Nat.reduceAdd,Nat.reduceMul,Nat.reduceEqDiff, ↓reduceIte];rfl):p:=(h).symm▸hq
theorem agL {p q:Prop} (hq:q) (h:p=q:=by simp(maxSteps:=1000000) (disch:=(first | omega | (simp only[cS,aki,akj,true_and,and_true];(try omega);done) | fail)) only[go_sem,Bool.toNat_false,Int.reduceEq,Int.reduceToNat,Nat.reduceAdd,Nat.reduceMul,Nat.reduceEqDiff, ↓reduceIte];rfl):p:=(h).symm▸hq
theorem E4 {p:Prop} (h:p=True:=by simp(maxSteps:=1000000) (disch:=(first | omega | (simp only[cS,aki,akj,true_and,and_true];(try omega);done) | fail)) only[go_sem,Int.reduceEq,Int.reduceToNat,Nat.reduceAdd,Nat.reduceMul,Nat.reduceEqDiff, ↓reduceIte]):p:=of_eq_true (h)
theorem ae9 {p q A0 A1 A2 A3 A4 A5 A6 A7 A8 A9:Prop} (f0:A0) (f1:A1) (f2:A2) (f3:A3) (f4:A4) (f5:A5) (f6:A6) (f7:A7) (f8:A8) (f9:A9) (hq:q) (h:A0→A1→A2→A3→A4→A5→A6→A7→A8→A9→p=q:=by intro f0 f1 f2 f3 f4 f5 f6 f7 f8 f9;simp(maxSteps:=1000000) (disch:=(first | omega | (simp only[cS,aki,akj,true_and,and_true];(try omega);done) | fail)) only[go_sem,f0,f1,f2,f3,f4,f5,f6,f7,f8,f9,Int.reduceEq,Int.reduceToNat,Nat.reduceAdd,Nat.reduceMul,Nat.reduceEqDiff, ↓reduceIte];rfl):p:=(h f0 f1 f2 f3 f4 f5 f6 f7 f8 f9).symm▸hq
theorem agX {p q:Prop} (hq:q) (h:p=q:=by simp(maxSteps:=1000000) (disch:=(first | omega | (simp only[cS,aki,akj,true_and,and_true];(try omega);done) | fail)) only[go_sem,Nat.sub_zero,Int.reduceEq,Int.reduceToNat,Nat.reduceAdd,Nat.reduceMul,Nat.reduceEqDiff, ↓reduceIte];rfl):p:=(h).symm▸hq
theorem afh {p q A0:Prop} (f0:A0) (hq:q) (h:A0→p=q:=by intro f0;simp(maxSteps:=1000000) (disch:=(first | omega | (simp only[cS,aki,akj,true_and,and_true];(try omega);done) | fail)) only[go_sem,f0,akw,Int.reduceEq,Int.reduceToNat,Nat.reduceAdd,Nat.reduceMul,Nat.reduceEqDiff, ↓reduceIte];rfl):p:=(h f0).symm▸hq
theorem eT {p q:Prop} (hq:q) (h:p=q:=by simp(maxSteps:=1000000) (disch:=(first | omega | (simp only[cS,aki,akj,true_and,and_true];(try omega);done) | fail)) only[go_sem,and_self,and_true,Int.reduceEq,Int.reduceToNat,Nat.reduceAdd,Nat.reduceMul,Nat.reduceEqDiff, ↓reduceIte];rfl):p:=(h).symm▸hq
theorem NO {p q:Prop} (hq:q) (h:p=q:=by simp(maxSteps:=1000000) (disch:=(first | omega | (simp only[cS,aki,akj,true_and,and_true];(try omega);done) | fail)) only[go_sem,and_true,true_and,Int.reduceEq,Int.reduceToNat,Nat.reduceAdd,Nat.reduceMul,Nat.reduceEqDiff, ↓reduceIte];rfl):p:=(h).symm▸hq
theorem aha {p q A0 A1:Prop} (f0:A0) (f1:A1) (hq:q) (h:A0→A1→p=q:=by intro f0 f1;simp(maxSteps:=1000000) (disch:=(first | omega | (simp only[cS,aki,akj,true_and,and_true];(try omega);done) | fail)) only[go_sem,f0,f1,amo,and_self,decide_true,Int.reduceEq,Int.reduceToNat,Nat.reduceAdd,Nat.reduceMul,Nat.reduceEqDiff, ↓reduceIte];rfl):p:=(h f0 f1).symm▸hq
theorem agy {p q A0:Prop} (f0:A0) (hq:q) (h:A0→p=q:=by intro f0;simp(maxSteps:=1000000) (disch:=(first | omega | (simp only[cS,aki,akj,true_and,and_true];(try omega);done) | fail)) only[go_sem,f0,amo,decide_true,Int.reduceEq,Int.reduceToNat,Nat.reduceAdd,Nat.reduceMul,Nat.reduceEqDiff, ↓reduceIte];rfl):p:=(h f0).symm▸hq
theorem ahm {p:Prop} (h:p=True:=by simp(maxSteps:=1000000) (disch:=(first | omega | (simp only[cS,aki,akj,true_and,and_true];(try omega);done) | fail)) only[go_sem,and_self,Int.reduceEq,Int.reduceToNat,Nat.reduceAdd,Nat.reduceMul,Nat.reduceEqDiff, ↓reduceIte]):p:=of_eq_true (h)
theorem afY {p q A0:Prop} (f0:A0) (hq:q) (h:A0→p=q:=by intro f0;simp(maxSteps:=1000000) (disch:=(first | omega | (simp only[cS,aki,akj,true_and,and_true];(try omega);done) | fail)) only[go_sem,f0,Bool.toNat_true,Int.reduceEq,Int.reduceToNat,Nat.reduceAdd,Nat.reduceMul,Nat.reduceEqDiff, ↓reduceIte];rfl):p:=(h f0).symm▸hq
theorem ahn {p q A0:Prop} (f0:A0) (hq:q) (h:A0→p=q:=by intro f0;simp(maxSteps:=1000000) (disch:=(first | omega | (simp only[cS,aki,akj,true_and,and_true];(try omega);done) | fail)) only[go_sem,f0,Bool.toNat_false,Int.reduceEq,Int.reduceToNat,Nat.reduceAdd,Nat.reduceMul,Nat.reduceEqDiff, ↓reduceIte];rfl):p:=(h f0).symm▸hq
theorem Yq {p q A0 A1 A2 A3 A4 A5:Prop} (f0:A0) (f1:A1) (f2:A2) (f3:A3) (f4:A4) (f5:A5) (hq:q) (h:A0→A1→A2→A3→A4→A5→p=q:=by intro f0 f1 f2 f3 f4 f5;simp(maxSteps:=1000000) (disch:=(first | omega | (simp only[cS,aki,akj,true_and,and_true];(try omega);done) | fail)) only[go_sem,f0,f1,f2,f3,f4,f5,Int.add_zero,Int.reduceEq,Int.reduceToNat,Nat.reduceAdd,Nat.reduceMul,Nat.reduceEqDiff, ↓reduceIte];rfl):p:=(h f0 f1 f2 f3 f4 f5).symm▸hq
theorem agT {p q:Prop} (hq:q) (h:p=q:=by simp(maxSteps:=1000000) (disch:=(first | omega | (simp only[cS,aki,akj,true_and,and_true];(try omega);done) | fail)) only[go_sem,akv,Int.reduceEq,Int.reduceToNat,Nat.reduceAdd,Nat.reduceMul,Nat.reduceEqDiff, ↓reduceIte];rfl):p:=(h).symm▸hq
theorem WJ {p q A0 A1 A2 A3 A4:Prop} (f0:A0) (f1:A1) (f2:A2) (f3:A3) (f4:A4) (hq:q) (h:A0→A1→A2→A3→A4→p=q:=by intro f0 f1 f2 f3 f4;simp(maxSteps:=1000000) (disch:=(first | omega | (simp only[cS,aki,akj,true_and,and_true];(try omega);done) | fail)) only[go_sem,f0,f1,f2,f3,f4,and_self,and_true,Int.reduceEq,Int.reduceToNat,Nat.reduceAdd,Nat.reduceMul,Nat.reduceEqDiff, ↓reduceIte];rfl):p:=(h f0 f1 f2 f3 f4).symm▸hq
theorem Zk {p q A0 A1 A2 A3 A4:Prop} (f0:A0) (f1:A1) (f2:A2) (f3:A3) (f4:A4) (hq:q) (h:A0→A1→A2→A3→A4→p=q:=by intro f0 f1 f2 f3 f4;simp(maxSteps:=1000000) (disch:=(first | omega | (simp only[cS,aki,akj,true_and,and_true];(try omega);done) | fail)) only[go_sem,f0,f1,f2,f3,f4,ak0,Int.reduceEq,Int.reduceToNat,Nat.reduceAdd,Nat.reduceMul,Nat.reduceEqDiff, ↓reduceIte];rfl):p:=(h f0 f1 f2 f3 f4).symm▸hq
theorem zM {p:Prop} (h:p:=by simp(disch:=(first | omega | (simp only[cS,aki,akj,true_and,and_true];(try omega);done) | fail)) only[go_sem,Int.reduceEq,Int.reduceToNat,Nat.reduceAdd,Nat.reduceMul,Nat.reduceEqDiff, ↓reduceIte,true_and,and_true,and_self,akv,akw,akk,V.lit.injEq,Value.int.injEq,Value.bool.injEq];try (first | omega | (simp;done) | (simp;omega))):p:=h
theorem aF {P:Program} {e:Bool} {f:FuncId} {vs vs₀:List V} {σ σ₀ s:St} {r:V} {K:KV} (π:Pi) (F:List Nat) (spec:aA P f vs₀ σ₀ r s)
 (hk:K true (l9 (w7 (je σ.length π) (σ.length+ku π)) r) (sK π F σ s))
 (h1:(Tp π&&π.all (fun p=>match p with | some p=>decide (p<σ.length)&&!F.contains p | none=>true))=true:=by rfl)
 (h2:nZ F.contains π σ σ₀ π:=by simp(disch:=(first | omega | (simp only[ake,akJ,akm,akz,akB,akr,akW,aki,akj,true_and,and_true];(try omega);done) | fail)) only[go_sem,Int.reduceEq,Int.reduceToNat,Nat.reduceAdd,Nat.reduceMul,Nat.reduceEqDiff, ↓reduceIte,true_and,and_true,and_self,akv,akw,akk,V.lit.injEq,Value.int.injEq,Value.bool.injEq];try (first | omega | (simp;done) | (simp;omega)))
 (h3:tH F.contains π σ vs₀ vs:=by simp(disch:=(first | omega | (simp only[ake,akJ,akm,akz,akB,akr,akW,aki,akj,true_and,and_true];(try omega);done) | fail)) only[go_sem,Int.reduceEq,Int.reduceToNat,Nat.reduceAdd,Nat.reduceMul,Nat.reduceEqDiff, ↓reduceIte,true_and,and_true,and_self,akv,akw,akk,V.lit.injEq,Value.int.injEq,Value.bool.injEq];try (first | omega | (simp;done) | (simp;omega))) (he:e=true→σ₀=[]:=by simp):dT P e f vs σ K:=Hq π F spec h1 h2 h3 he hk
theorem ai {k:Nat} {Q:V→St→Prop} {u:V} {s:St} (π:Pi) {u₀:V} {s₀:St} (hq:Q u₀ s₀) (h1:(Fc π s₀&&t7 k π)=true:=by rfl)
 (h2:nZ (nj π) π s s₀ π:=by simp(disch:=(first | omega | (simp only[ake,akJ,akm,akz,akB,akr,akW,aki,akj,true_and,and_true];(try omega);done) | fail)) only[go_sem,Int.reduceEq,Int.reduceToNat,Nat.reduceAdd,Nat.reduceMul,Nat.reduceEqDiff, ↓reduceIte,true_and,and_true,and_self,akv,akw,akk,V.lit.injEq,Value.int.injEq,Value.bool.injEq];try (first | omega | (simp;done) | (simp;omega)))
 (h3:mV (nj π) π s u₀ u:=by simp(disch:=(first | omega | (simp only[ake,akJ,akm,akz,akB,akr,akW,aki,akj,true_and,and_true];(try omega);done) | fail)) only[go_sem,Int.reduceEq,Int.reduceToNat,Nat.reduceAdd,Nat.reduceMul,Nat.reduceEqDiff, ↓reduceIte,true_and,and_true,and_self,akv,akw,akk,V.lit.injEq,Value.int.injEq,Value.bool.injEq];try (first | omega | (simp;done) | (simp;omega))):tP k Q u s:=lX π u₀ s₀ h1 h2 h3 hq
theorem aU {X:Type} {k:Nat} {body:Vg→St→gG→Prop} {ρ:Vg} {σ:St} {Q:gG} (st:X→Vg×St) (inv:X→Prop) (m:X→Nat) (x₀:X) (π:Pi) (hi:inv x₀) (round:∀x,inv x→body (st x).1 (st x).2 (mf (fun _=>xx k st inv m x) Q))
 (h1:(Fc π (st x₀).2&&t7 k π)=true:=by rfl) (h2:nZ (nj π) π σ (st x₀).2 π:=by simp(disch:=(first | omega | (simp only[cS,aki,akj,true_and,and_true];(try omega);done) | fail)) only[go_sem,Int.reduceEq,Int.reduceToNat,Nat.reduceAdd,Nat.reduceMul,Nat.reduceEqDiff, ↓reduceIte,true_and,and_true,and_self,akv,akw,akk,V.lit.injEq,Value.int.injEq,Value.bool.injEq];try (first | omega | (simp;done) | (simp;omega))) (h3:mG (nj π) π σ (st x₀).1 ρ:=by simp(disch:=(first | omega | (simp only[cS,aki,akj,true_and,and_true];(try omega);done) | fail)) only[go_sem,Int.reduceEq,Int.reduceToNat,Nat.reduceAdd,Nat.reduceMul,Nat.reduceEqDiff, ↓reduceIte,true_and,and_true,and_self,akv,akw,akk,V.lit.injEq,Value.int.injEq,Value.bool.injEq];try (first | omega | (simp;done) | (simp;omega))):yr k body ρ σ Q:=aW st inv m x₀ π h1 h2 h3 hi round
theorem aR {X:Type} {k:Nat} {st:X→Vg×St} {inv:X→Prop} {m:X→Nat} {x:X} {ρ:Vg} {σ:St} (x':X) (π:Pi) (hi:inv x') (hm:m x'<m x) (h1:(Fc π (st x').2&&t7 k π)=true:=by rfl)
 (h2:nZ (nj π) π σ (st x').2 π:=by simp(disch:=(first | omega | (simp only[ake,akJ,akm,akz,akB,akr,akW,aki,akj,true_and,and_true];(try omega);done) | fail)) only[go_sem,Int.reduceEq,Int.reduceToNat,Nat.reduceAdd,Nat.reduceMul,Nat.reduceEqDiff, ↓reduceIte,true_and,and_true,and_self,akv,akw,akk,V.lit.injEq,Value.int.injEq,Value.bool.injEq];try (first | omega | (simp;done) | (simp;omega)))
 (h3:mG (nj π) π σ (st x').1 ρ:=by simp(disch:=(first | omega | (simp only[ake,akJ,akm,akz,akB,akr,akW,aki,akj,true_and,and_true];(try omega);done) | fail)) only[go_sem,Int.reduceEq,Int.reduceToNat,Nat.reduceAdd,Nat.reduceMul,Nat.reduceEqDiff, ↓reduceIte,true_and,and_true,and_self,akv,akw,akk,V.lit.injEq,Value.int.injEq,Value.bool.injEq];try (first | omega | (simp;done) | (simp;omega))):xx k st inv m x ρ σ:=aI x' π h1 h2 h3 hi hm
theorem sF {P:Program} {f:FuncId} {vs:List V} {σ:St} {u u₀:V} {s s₀:St} (π:Pi) (h:aA P f vs σ u s) (h1:(Fc π s₀&&t7 σ.length π)=true:=by rfl)
 (h2:nZ (nj π) π s s₀ π:=by simp(disch:=(first | omega | (simp only[ake,akJ,akm,akz,akB,akr,akW,aki,akj,true_and,and_true];(try omega);done) | fail)) only[go_sem,Int.reduceEq,Int.reduceToNat,Nat.reduceAdd,Nat.reduceMul,Nat.reduceEqDiff, ↓reduceIte,true_and,and_true,and_self,akv,akw,akk,V.lit.injEq,Value.int.injEq,Value.bool.injEq];try (first | omega | (simp;done) | (simp;omega)))
 (h3:mV (nj π) π s u₀ u:=by simp(disch:=(first | omega | (simp only[ake,akJ,akm,akz,akB,akr,akW,aki,akj,true_and,and_true];(try omega);done) | fail)) only[go_sem,Int.reduceEq,Int.reduceToNat,Nat.reduceAdd,Nat.reduceMul,Nat.reduceEqDiff, ↓reduceIte,true_and,and_true,and_self,akv,akw,akk,V.lit.injEq,Value.int.injEq,Value.bool.injEq];try (first | omega | (simp;done) | (simp;omega))):aA P f vs σ u₀ s₀:=Fn.tell h fun u' s' ⟨e1,e2⟩=>by
 subst e1 e2;exact lX π u₀ s₀ h1 h2 h3 ⟨rfl,rfl⟩
def iO (x j:Nat):Bool:=Nat.beq (Nat.land (Nat.shiftRight x j) 1) 1
def PY (s k:Nat):Nat:=Nat.lor s (Nat.shiftLeft 1 k)
def wX:List Nat→Nat→Nat
 | [],s=>s
 | k::r,s=>wX r (PY s k)
theorem ld (x j:Nat):iO x j=x.testBit j:=by
 rw[Nat.testBit_eq_decide_div_mod_eq];unfold iO
 have h:Nat.land (Nat.shiftRight x j) 1=x/2^j%2:=by
  show(x>>>j)&&&1=_
  rw[Nat.and_one_is_mod,Nat.shiftRight_eq_div_pow]
 rw[h]
 by_cases e:x/2^j%2=1
 · rw[e];simp
 · rw[akg e]
   exact al1.2 fun hb=>e (alM hb)
theorem qD (s k j:Nat):iO (PY s k) j=(iO s j || k==j):=by
 rw[ld,ld];show Nat.testBit (s ||| 1<<<k) j=_;rw[Nat.testBit_or,Nat.one_shiftLeft,Nat.testBit_two_pow]
 rfl
theorem Di:∀(l:List Nat) (s j:Nat),iO (wX l s) j=(iO s j || l.contains j)
 | [],s,j=>by simp[wX]
 | k::r,s,j=>by
   rw[wX,Di r,qD,List.contains_cons,Bool.or_assoc]
   congr 2
   exact BEq.comm
theorem jz (j:Nat):iO 0 j=false:=by rw[ld];simp
theorem iv (l:List Nat) (j:Nat):iO (wX l 0) j=l.contains j:=by rw[Di,jz,amI]
theorem kX (x y j:Nat):iO (Nat.land x y) j=(iO x j&&iO y j):=by
 rw[ld,ld,ld];exact Nat.testBit_and x y j
theorem DZ {x y:Nat} (h:∀j,iO x j=iO y j):x=y:=al5 fun j=>by rw[←ld,←ld];exact h j
theorem G2 (l:List Nat) (d:Nat):Nat.beq (Nat.land (wX l 0) d) (wX l 0)=l.all (iO d):=by
 rw[Bool.eq_iff_iff];constructor
 · intro h
   have h:=alM h;refine akZ.2 fun k hk=>?_;have h1:=congrArg (iO · k) h;simp only[kX,iv] at h1;rw[show l.contains k=true by simpa using hk,alB] at h1;exact h1
 · intro h
   have e:Nat.land (wX l 0) d=wX l 0:=DZ fun j=>by
    rw[kX,iv]
    by_cases hj:l.contains j=true
    · rw[hj,alB];exact akZ.1 h j (by simpa using hj)
    · rw[Bool.not_eq_true] at hj;rw[hj,amz]
   rw[e];exact Nat.beq_refl _
theorem JX (l:List Nat) (d:Nat):Nat.beq (Nat.land (wX l 0) d) 0= !l.any (iO d):=by
 rw[Bool.eq_iff_iff];constructor
 · intro h
   have h:=alM h;rw[amK,List.any_eq_false];intro k hk;have h1:=congrArg (iO · k) h;simp only[kX,iv,jz] at h1;rw[show l.contains k=true by simpa using hk,alB] at h1;rw[h1];decide
 · intro h
   rw[amK,List.any_eq_false] at h
   have e:Nat.land (wX l 0) d=0:=DZ fun j=>by
    rw[kX,iv,jz]
    by_cases hj:l.contains j=true
    · rw[hj,alB];exact al1.2 (h j (by simpa using hj))
    · rw[Bool.not_eq_true] at hj;rw[hj,amz]
   rw[e];exact Nat.beq_refl _
abbrev oC:=Nat×Option Tmp×Nat
def wu (md:Region.Mode) (o:Oper):List Nat:=(o.after.toList.filter (Region.binds md)).map (·.on)
def ov (md:Region.Mode) (ops:Array Oper) (o:Oper):oC:=(wX (wu md o) 0,o.dst,wX (o.looksAt ops) 0)
def oV (md:Region.Mode) (ops:Array Oper):List oC:=ops.toList.map (ov md ops)
def V7 (x y:oC):Bool:=
 (match x.2.1 with
  | some d=> !iO y.2.2 d&&y.2.1 !=some d
  | none=>true)&&
 (match y.2.1 with
  | some d=> !iO x.2.2 d
  | none=>true)
section
variable {md:Region.Mode} {ops:Array Oper}
theorem vQ (x y:Oper):V7 (ov md ops x) (ov md ops y)=x.apart ops y:=by
 unfold V7 ov Oper.apart;simp only[iv]
 cases x.dst<;>cases y.dst<;>rfl
theorem DH (o:Oper) (f:Nat→Bool):(wu md o).any f=o.after.any fun e=>Region.binds md e&&f e.on:=by
 unfold wu;rw[←Array.any_toList,List.any_map,List.any_filter]
 rfl
theorem Ma (o:Oper) (f:Nat→Bool):(wu md o).all f=o.after.all fun e=> !Region.binds md e || f e.on:=by
 unfold wu;rw[←Array.all_toList,List.all_map,List.all_filter]
 rfl
theorem MR (o:Oper) (i:Nat):iO (wX (wu md o) 0) i=o.after.any fun e=>Region.binds md e&&e.on==i:=by
 rw[iv,←DH o (· ==i),Bool.eq_iff_iff]
 simp
theorem pT (o:Oper) (i:Nat):iO (ov md ops o).1 i=o.after.any fun e=>Region.binds md e&&e.on==i:=MR o i
structure InvN (n:Nat) (sl:Array Bool) (dn:Nat):Prop where
 sz:sl.size=n
 f:∀j,sl.getD j false=iO dn j
theorem InvN.t {n:Nat} {sl:Array Bool} {dn:Nat} (h:InvN n sl dn) (j:Nat):sl.getD j true=(iO dn j || Nat.ble n j):=by
 have h1:=h.f j;have h2:=h.sz;rw[←h1]
 by_cases hj:j<sl.size
 · have e:Nat.ble n j=false:=al1.2 fun hb=>by have:=am5 hb;omega
   rw[e,amX];simp[hj]
 · have e:Nat.ble n j=true:=Nat.ble_eq_true_of_le zo
   rw[e,Bool.or_true];simp[hj]
def qy (n dn i:Nat):Nat:=bif Nat.ble n i then dn else PY dn i
theorem InvN.set {n:Nat} {sl:Array Bool} {dn:Nat} (h:InvN n sl dn) (i:Nat):InvN n (sl.setIfInBounds i true) (qy n dn i):=by
 refine⟨by rw[Array.size_setIfInBounds,h.sz],fun j=>?_⟩;rw[bc,h.f j];unfold qy
 by_cases hi:n≤i
 · rw[Nat.ble_eq_true_of_le hi,cond_true,if_neg (by have:=h.sz;omega)]
 · have e:Nat.ble n i=false:=al1.2 fun hb=>hi (am5 hb)
   rw[e,cond_false,qD]
   have:=h.sz
   by_cases hj:i=j
   · rw[if_pos ⟨hj,by omega⟩,hj];simp
   · rw[if_neg (fun e=>hj e.1)];simp[hj]
def BW (n:Nat):Nat→List Nat→Nat
 | dn,[]=>dn
 | dn,i::r=>BW n (qy n dn i) r
theorem InvN.lst {n:Nat}:∀{l:List Nat} {sl:Array Bool} {dn:Nat},InvN n sl dn→InvN n (pB sl l) (BW n dn l)
 | [],_,_,h=>h
 | i::r,_,_,h=>InvN.lst (l:=r) (h.set i)
def iW (dn:Nat):List oC→Nat→List Nat
 | [],_=> []
 | a::r,j=>bif !iO dn j&&Nat.beq (Nat.land a.1 dn) a.1 then j::iW dn r (j+1) else iW dn r (j+1)
theorem x7 {sl:Array Bool} {dn:Nat} (h:InvN ops.size sl dn):∀(l pre:List Oper),ops.toList=pre++l→
 iW dn (l.map (ov md ops)) pre.length=(List.range' pre.length l.length).filter fun i=>
  !sl.getD i true&&((ops[i]?).map (·.after.all fun e=> !Region.binds md e || sl.getD e.on false)).getD false
 | [],pre,_=>by simp[iW]
 | o::l,pre,hp=>by
   have ih:=x7 h l (pre++[o]) (by rw[hp];simp);have ho:ops[pre.length]? =some o:=by rw[←alD,hp];simp
   have hlt:pre.length<ops.size:=by rw[←amk,hp];simp
   rw[ake,akm,akz] at ih;rw[akK,iW,ih,akm,List.range'_succ,List.filter_cons,ho]
   have e1:sl.getD pre.length true=iO dn pre.length:=by
    rw[h.t,al1.2 (fun hb=>absurd (am5 hb) zo),amX]
   have e2:Nat.beq (Nat.land (ov md ops o).1 dn) (ov md ops o).1=o.after.all fun e=> !Region.binds md e || sl.getD e.on false:=by
    show Nat.beq (Nat.land (wX (wu md o) 0) dn) (wX (wu md o) 0)=_;rw[G2,Ma]
    congr 1
    funext e
    rw[h.f]
   rw[e1,e2,ald,amQ]
   cases (!iO dn pre.length&&o.after.all fun e=> !Region.binds md e || sl.getD e.on false)<;>rfl
theorem eF {sl:Array Bool} {dn:Nat} (h:InvN ops.size sl dn):Region.ready md ops sl=iW dn (oV md ops) 0:=by
 have:=x7 (md:=md) h ops.toList [] rfl
 rw[akz,amk] at this;unfold Region.ready oV;rw[List.range_eq_range'];exact this.symm
def Aj (f:oC→Nat→Bool):List oC→Nat→Bool
 | [],_=>true
 | y::r,j=>f y j&&Aj f r (j+1)
theorem x5 {f:oC→Nat→Bool}:∀(l pre:List Oper),ops.toList=pre++l→Aj f (l.map (ov md ops)) pre.length=true→
 ∀(j:Nat) o,pre.length≤j→ops[j]? =some o→f (ov md ops o) j=true
 | [],pre,hp,_,j,o,hj,ho=>by
   have:j<ops.size:=(al6.1 ho).1
   rw[←amk,hp] at this;simp at this;omega
 | x::l,pre,hp,h,j,o,hj,ho=>by
   rw[akK,Aj,akn] at h;rcases Nat.eq_or_lt_of_le hj with rfl | hlt
   · have hx:ops[pre.length]? =some x:=by rw[←alD,hp];simp
     rw[hx] at ho
     cases ho
     exact h.1
   · exact x5 l (pre++[x]) (by rw[hp];simp) (by simpa using h.2) j o (by simp;omega) ho
theorem pn {f:oC→Nat→Bool} (h:Aj f (oV md ops) 0=true) (j:Nat) (o:Oper) (ho:ops[j]? =some o):f (ov md ops o) j=true:=
 x5 ops.toList [] rfl h j o (akF _) ho
theorem l6 {n:Nat} {f:Nat→Bool} (h:∀j,j<n→f j=true):(List.range n).all f=true:=
 akZ.2 fun j hj=>h j (amg.1 hj)
def Er (i:Nat):List oC→Nat→Nat→Nat
 | [],_,D=>D
 | y::r,j,D=>Er i r (j+1) (bif Nat.beq (Nat.land y.1 (PY D i)) 0 then D else PY D j)
def RK (T:List oC) (wrm dn i:Nat):Bool:=match T[i]? with
 | none=>false
 | some x=>Aj (fun y j=>Nat.beq j i || iO dn j || iO y.1 i || (V7 x y&&!iO wrm j)) T 0 ||
   (Nat.beq (Nat.land (Er i T 0 0) dn) 0&&Aj (fun y j=>Nat.beq j i || iO dn j || iO (Er i T 0 0) j || (V7 x y&&!iO wrm j)) T 0)
theorem qp {i:Nat}:(oV md ops)[i]? =(ops[i]?).map (ov md ops):=by
 unfold oV;rw[akX,alD]
theorem pf (A:Array Bool) (b:Bool) (k:Nat):(A.push b).getD k false=if k=A.size then b else A.getD k false:=by
 simp only[Array.getD_eq_getD_getElem?,Array.getElem?_push]
 split<;>simp
theorem yA {i:Nat}:∀(l pre:List Oper) (A:Array Bool) (D:Nat),ops.toList=pre++l→A.size=pre.length→(∀k,A.getD k false=iO D k)→
 (∀(j:Nat) o,ops[j]? =some o→A.getD j false=true→(o.after.any fun e=>Region.binds md e&&(e.on==i || A.getD e.on false))=true)→
 ∃A':Array Bool,((List.range' pre.length l.length).foldl (fun D j=>D.push (match ops[j]? with | some oj=>oj.after.any (fun e=>Region.binds md e&&(e.on==i || D.getD e.on false)) | none=>false)) A)=A'∧
  A'.size=ops.size∧(∀k,A'.getD k false=iO (Er i (l.map (ov md ops)) pre.length D) k)∧
  (∀(j:Nat) o,ops[j]? =some o→A'.getD j false=true→(o.after.any fun e=>Region.binds md e&&(e.on==i || A'.getD e.on false))=true)
 | [],pre,A,D,hp,hs,hA,hC=>⟨A,rfl,by rw[hs,←amk,hp];simp,hA,hC⟩
 | o::l,pre,A,D,hp,hs,hA,hC=>by
   have ho:ops[pre.length]? =some o:=by rw[←alD,hp];simp
   obtain ⟨b,hb⟩:∃b,(o.after.any fun e=>Region.binds md e&&(e.on==i || A.getD e.on false))=b:=⟨_,rfl⟩
   have hm:Nat.beq (Nat.land (ov md ops o).1 (PY D i)) 0= !b:=by
    show Nat.beq (Nat.land (wX (wu md o) 0) (PY D i)) 0=_;rw[JX,DH,←hb]
    congr 2
    funext e
    rw[qD,hA,Bool.or_comm]
    congr 2
    exact BEq.comm
   have hsz:pre.length<ops.size:=by rw[←amk,hp];simp
   have hmono:∀k,A.getD k false=true→(A.push b).getD k false=true:=fun k hk=>by
    rw[pf]
    split
    · rename_i e
      rw[e] at hk;simp at hk
    · exact hk
   obtain ⟨A',h1,h2,h3,h4⟩:=yA l (pre++[o]) (A.push b) (bif !b then D else PY D pre.length) (by rw[hp];simp) (by simp[hs])
    (fun k=>by
     rw[pf,hs,hA]
     cases b
     · simp only[amL,cond_true]
       split
       · rename_i e
         have:=hA k
         rw[←this];simp[e,hs]
       · rfl
     · simp only[amo,cond_false]
       rw[qD]
       split
       · rename_i e;rw[e];simp
       · rename_i e;rw[show(pre.length==k)=false by simpa using fun h=>e h.symm];simp)
    (fun j oj hj hbj=>by
     rw[pf] at hbj
     have step:∀oo:Oper,(oo.after.any fun e=>Region.binds md e&&(e.on==i || A.getD e.on false))=true→(oo.after.any fun e=>Region.binds md e&&(e.on==i || (A.push b).getD e.on false))=true:=fun oo hh=>by
      rw[Array.any_eq_true'] at hh ⊢;obtain ⟨e,he,h⟩:=hh;refine⟨e,he,?_⟩;rw[akn,al2] at h ⊢;exact⟨h.1,h.2.imp id (hmono _)⟩
     split at hbj
     · rename_i e
       rw[hs] at e;rw[e,ho] at hj
       cases hj
       exact step _ (by rw[hb];exact hbj)
     · exact step _ (hC j oj hj hbj))
   refine⟨A',?_,h2,?_,h4⟩
   · rw[akm,List.range'_succ,List.foldl_cons,ho]
     simp only[ake,akm,akz] at h1
     show(List.range' (pre.length+1) l.length).foldl _ (A.push (o.after.any fun e=>Region.binds md e&&(e.on==i || A.getD e.on false)))=A'
     rw[hb];exact h1
   · intro k
     rw[h3,akK,Er,hm];simp only[ake,akm,akz]
theorem Ow {sl:Array Bool} {dn wrm i:Nat} {wr:Nat→Bool} (h:InvN ops.size sl dn) (hw:∀j,wr j=iO wrm j) (hf:RK (oV md ops) wrm dn i=true):vw md ops wr sl i=true:=by
 unfold RK at hf;rw[qp] at hf;unfold vw
 cases hi:ops[i]? with
 | none=>rw[hi] at hf;exact absurd hf (by simp)
 | some oi=>
   rw[hi,ald] at hf;simp only at hf ⊢;rw[al2] at hf ⊢;rcases hf with hf | hf
   · refine .inl (l6 fun j hj=>?_)
     have hoj:ops[j]? =some ops[j]:=alu hj
     have:=pn hf j _ hoj
     rw[hoj];simp only at this ⊢;rw[pT,vQ] at this;rw[h.t,hw j];simp only[al2,akn] at this ⊢;rcases this with((h1 | h1) | h1) | h1
     · exact .inl (.inl (by simpa using alM h1))
     · exact .inl (.inr (.inl h1))
     · exact .inr (.inl h1)
     · exact .inr (.inr h1)
   · right
     rw[akn] at hf;obtain ⟨A',h1,h2,h3,h4⟩:=yA (md:=md) (i:=i) ops.toList [] #[] 0 rfl rfl (fun k=>by rw[jz];simp) (fun j o _ hb=>by simp at hb)
     have hD:sE md ops i=A':=by
      unfold sE;rw[List.range_eq_range'];rw[akz,amk] at h1;exact h1
     rw[akz] at h3;have h3':∀k,A'.getD k false=iO (Er i (oV md ops) 0 0) k:=h3;rw[hD,akn];refine⟨?_,?_⟩
     · unfold Kq
       rw[akn];refine⟨by simp[h2],l6 fun j hj=>?_⟩;have hoj:ops[j]? =some ops[j]:=alu hj;rw[hoj]
       cases hAj:A'.getD j false with
       | false=>rfl
       | true=>
         have hz:=alM hf.1;have hb:=congrArg (iO · j) hz;simp only[kX,jz] at hb;rw[←h3',hAj,alB] at hb;simp only[amo,amI,akn];exact⟨by rw[h.f,hb];rfl,h4 j _ hoj hAj⟩
     · unfold Hh
       rw[hi];refine l6 fun j hj=>?_;have hoj:ops[j]? =some ops[j]:=alu hj
       have:=pn hf.2 j _ hoj
       rw[hoj];simp only at this ⊢;rw[vQ] at this;rw[h.t,hw j,h3'];simp only[al2,akn] at this ⊢;rcases this with((h1 | h1) | h1) | h1
       · exact .inl (.inl (by simpa using alM h1))
       · exact .inl (.inr (.inl h1))
       · exact .inr (.inl h1)
       · exact .inr (.inr h1)
def KX (ops:Array Oper) (i:Nat):Bool:=match ops[i]? with
 | none=>false
 | some oi=>oi.guard.isNone&&(match oi.op with | .move _ | .assign _ | .pick .. | .binOp .. | .unOp .. | .convert .. | .slice .. | .fieldAddr .. | .field .. | .indexAddr .. | .index .. | .extract .. | .nilCheck .. | .build .. | .call {callee:=.builtin .min,.. } | .call {callee:=.builtin .max,.. }=>true | _=>false)
def RF (T:List oC) (dn i:Nat):Bool:=match T[i]? with
 | none=>false
 | some x=>Aj (fun y j=>Nat.beq j i || iO dn j || iO y.1 i || V7 x y) T 0
theorem Md {sl:Array Bool} {dn i:Nat} (h:InvN ops.size sl dn) (hk:KX ops i=true) (hf:RF (oV md ops) dn i=true):CK md ops sl i=true:=by
 unfold RF at hf;rw[qp] at hf;unfold KX at hk;unfold CK
 cases hi:ops[i]? with
 | none=>rw[hi] at hf;exact absurd hf (by simp)
 | some oi=>
   rw[hi] at hk;rw[hi,ald] at hf;simp only at hf hk ⊢;rw[akn];refine⟨?_,l6 fun j hj=>?_⟩
   · rw[akn] at hk ⊢
     refine⟨hk.1,?_⟩;have h2:=hk.2
     revert h2
     cases oi.op<;>exact id
   · have hoj:ops[j]? =some ops[j]:=alu hj
     have:=pn hf j _ hoj
     rw[hoj];simp only at this ⊢;rw[pT,vQ] at this;rw[h.t];simp only[al2,akn] at this ⊢;rcases this with((h1 | h1) | h1) | h1
     · exact .inl (.inl (by simpa using alM h1))
     · exact .inl (.inr (.inl h1))
     · exact .inr (.inl h1)
     · exact .inr (.inr h1)
def Mb (T:List oC) (i l:Nat):Bool:=match T[i]?,T[l]? with
 | some x,some y=>V7 x y
 | _,_=>false
theorem Ks (i l:Nat):Mb (oV md ops) i l=uP ops i l:=by
 unfold Mb uP;rw[qp,qp]
 cases ops[i]? <;>cases ops[l]? <;>simp[vQ]
def Jv (ops:Array Oper) (T:List oC) (n wrm:Nat) (S:List (Nat×Nat×Nat)) (goal:Nat):Nat→Nat→Nat→Bool
 | 0,dn,_=>Nat.beq dn goal
 | m+1,dn,rm=> !(iW dn T 0).isEmpty&&(iW dn T 0).all fun j=>ngG ops j&&(S.any fun x=>x.1==j&&OJ rm j x.2.2&&(x.2.1==11 || (x.2.1==12&&iO wrm j)))&&Jv ops T n wrm S goal m (qy n dn j) (rm-2^j)
theorem InvN.same {n:Nat} {x y:Array Bool} {dn:Nat} (h:InvN n x dn) (j:InvN n y dn):x=y:=by
 refine Array.ext (by rw[h.sz,j.sz]) fun i h1 h2=>?_;have e1:=h.f i;have e2:=j.f i;rw[←e2] at e1;simpa [h1,h2] using e1
theorem Dh {wrm:Nat} {wr:Nat→Bool} (hw:∀j,wr j=iO wrm j) {S:List (Nat×Nat×Nat)} {goal:Array Bool} {gm:Nat} (hg:InvN ops.size goal gm):∀(m:Nat) (sl:Array Bool) (dn rm:Nat),InvN ops.size sl dn→
 Jv ops (oV .any ops) ops.size wrm S gm m dn rm=true→zh .any ops wr S goal m sl rm=true
 | 0,sl,dn,rm,h,hs=>by
   unfold Jv at hs;unfold zh;have e:=alM hs;subst e;exact beq_iff_eq.2 (h.same hg)
 | m+1,sl,dn,rm,h,hs=>by
   unfold Jv at hs;unfold zh;rw[eF h];rw[akn] at hs ⊢;refine⟨hs.1,akZ.2 fun j hj=>?_⟩;have h2:=akZ.1 hs.2 j hj;rw[akn] at h2 ⊢;rw[hw];exact⟨h2.1,Dh hw hg m _ _ _ (h.set j) h2.2⟩
def fU (ops:Array Oper) (T:List oC) (n wrm:Nat):Nat→List (Nat×Option Nat)→List (Nat×Nat×Nat)→Bool
 | dn,L,[]=>L.isEmpty&&(iW dn T 0).isEmpty
 | dn,L,(i,t,p)::r=>match t with
   | 0=>(iW dn T 0).contains i&&!(bQ L).contains i&&RK T wrm dn i&&(bQ L).all (Mb T i)&&fU ops T n wrm (qy n dn i) L r
   | 1=>(iW dn T 0).contains i&&(iW (BW n dn (bQ L)) T 0==[i])&&(bQ L).all (Mb T i)&&fU ops T n wrm (qy n dn i) L r
   | 2=>(iW dn T 0).contains i&&(iW (BW n dn (bQ L)) T 0==[i])&&(bQ L).all (Mb T i)&&iO wrm i&&fU ops T n wrm (qy n dn i) L r
   | 3=>L.contains (i,none)&&(iW (BW n dn (bQ (L.filter fun x=>x.1 !=i))) T 0).all (fun j=>(bQ L).contains j)&&fU ops T n wrm (qy n dn i) (L.filter fun x=>x.1 !=i) r
   | 4=>(iW dn T 0).contains i&&!(bQ L).contains i&&mkG ops i&&(bQ L).all (Mb T i)&&fU ops T n wrm dn ((i,none)::L) r
   | 5=>(iW dn T 0).contains i&&!(bQ L).contains i&&KX ops i&&RF T dn i&&(bQ L).all (Mb T i)&&fU ops T n wrm (qy n dn i) L r
   | 6=>false
   | 7=>false
   | 8=>L.isEmpty&&(iW dn T 0).contains i&&(iW dn T 0).contains p&&(iW dn T 0).all (fun j=>j==i || j==p)&&(iW (qy n dn i) T 0==[p])&&(iW (qy n dn p) T 0==[i])&&lsG ops i p&&iO wrm p&&Mb T i p&&fU ops T n wrm (qy n (qy n dn i) p) [] r
   | 9=>false
   | 10=>L.isEmpty&&Jv ops T n wrm (r.take i) (BW n dn ((r.take i).map (·.1))) i dn p&&fU ops T n wrm (BW n dn ((r.take i).map (·.1))) [] r
   | 11=>fU ops T n wrm dn L r
   | 12=>fU ops T n wrm dn L r
   | _=>false
theorem vd {wrm:Nat} {wr:Nat→Bool} (hw:∀j,wr j=iO wrm j):∀(S:List (Nat×Nat×Nat)) (L:List (Nat×Option Nat)) (sl:Array Bool) (dn:Nat),InvN ops.size sl dn→
 fU ops (oV .any ops) ops.size wrm dn L S=true→bP .any ops wr sl L S=true
 | [],L,sl,dn,h,hs=>by
   unfold bP;rw[eF h];exact hs
 | (i,t,p)::r,L,sl,dn,h,hs=>by
   have ih:=vd hw r;unfold fU at hs;unfold bP;have ap:(bQ L).all (Mb (oV .any ops) i)=(bQ L).all (uP ops i):=by congr 1;funext l;exact Ks i l
   match t,hs with
   | 0,hs=>
     simp only[akn] at hs ⊢;rw[eF h,←ap];exact⟨⟨⟨hs.1.1.1,Ow h hw hs.1.1.2⟩,hs.1.2⟩,ih _ _ _ (h.set i) hs.2⟩
   | 1,hs=>
     simp only[akn] at hs ⊢;rw[eF h,←ap,eF h.lst];exact⟨hs.1,ih _ _ _ (h.set i) hs.2⟩
   | 2,hs=>
     simp only[akn] at hs ⊢;rw[eF h,←ap,eF h.lst,hw];exact⟨hs.1,ih _ _ _ (h.set i) hs.2⟩
   | 3,hs=>
     simp only[akn] at hs ⊢;rw[eF h.lst];exact⟨hs.1,ih _ _ _ (h.set i) hs.2⟩
   | 4,hs=>
     simp only[akn] at hs ⊢;rw[eF h,←ap];exact⟨hs.1,ih _ _ _ h hs.2⟩
   | 5,hs=>
     simp only[akn] at hs ⊢;rw[eF h,←ap];exact⟨⟨⟨hs.1.1.1.1,Md h hs.1.1.1.2 hs.1.1.2⟩,hs.1.2⟩,ih _ _ _ (h.set i) hs.2⟩
   | 6,hs=>exact absurd hs (by simp)
   | 7,hs=>exact absurd hs (by simp)
   | 8,hs=>
     simp only[akn] at hs ⊢;rw[eF h,eF (h.set i),eF (h.set p),hw,←Ks (md:=.any)];exact⟨hs.1,ih _ _ _ ((h.set i).set p) hs.2⟩
   | 9,hs=>exact absurd hs (by simp)
   | 10,hs=>
     simp only[akn] at hs ⊢;exact⟨⟨hs.1.1,Dh hw h.lst _ _ _ _ h hs.1.2⟩,ih _ _ _ h.lst hs.2⟩
   | 11,hs=>exact ih _ _ _ h hs
   | 12,hs=>exact ih _ _ _ h hs
   | t+13,hs=>exact absurd hs (by simp)
end
def ZA (S:List (Nat×Nat×Nat)):List Nat:=S.flatMap fun p=>(bif p.2.1==2 || p.2.1==7 || p.2.1==12 then [p.1] else [])++(bif (p.2.1==8 || p.2.1==9) then [p.2.2] else [])
theorem QE (S:List (Nat×Nat×Nat)) (j:Nat):(S.any fun p=>(p.1==j&&(p.2.1==2 || p.2.1==7 || p.2.1==12)) || ((p.2.1==8 || p.2.1==9)&&p.2.2==j))=iO (wX (ZA S) 0) j:=by
 rw[iv]
 induction S with
 | nil=>rfl
 | cons p S ih=>
   have e:ZA (p::S)=((bif p.2.1==2 || p.2.1==7 || p.2.1==12 then [p.1] else [])++(bif (p.2.1==8 || p.2.1==9) then [p.2.2] else []))++ZA S:=by simp[ZA]
   rw[List.any_cons,ih,e,List.contains_append,List.contains_append]
   congr 1
   congr 1
   · cases (p.2.1==2 || p.2.1==7 || p.2.1==12)
     · simp
     · simp only[Bool.and_true,cond_true,List.contains_cons,List.contains_nil,amX];exact BEq.comm
   · cases (p.2.1==8 || p.2.1==9)
     · simp
     · simp only[alB,cond_true,List.contains_cons,List.contains_nil,amX];exact BEq.comm
def nT (n:Nat) (pl:aK):Code→Bool
 | .region id ops draw=>(ops.toList.all fun o=>o.dst.all (· <n))&&(!draw || (Region.noSelect ops&&fU ops (oV .any ops) ops.size (wX (ZA (pl id)) 0) 0 [] (pl id)))
 | .seq a b=>nT n pl a&&nT n pl b
 | .cond _ a b=>nT n pl a&&nT n pl b
 | .block _ c=>nT n pl c
 | .loop c=>nT n pl c
 | .scope c=>nT n pl c
 | _=>true
theorem ft {n:Nat} {pl:aK}:∀{c:Code},nT n pl c=true→chk n pl c=true
 | .region id ops draw,h=>by
   unfold nT at h;unfold chk;rw[akn] at h ⊢;refine⟨h.1,?_⟩;have h2:=h.2;rw[al2] at h2 ⊢;refine h2.imp (fun h4=>h4) fun h3=>?_;rw[akn] at h3 ⊢;refine⟨h3.1,vd (fun j=>QE (pl id) j) _ _ _ 0 ⟨by simp,fun j=>?_⟩ h3.2⟩;rw[jz];simp only[Array.getD_eq_getD_getElem?,Array.getElem?_replicate]
   split<;>rfl
 | .seq a b,h=>by
   unfold nT at h;unfold chk;rw[akn] at h ⊢;exact⟨ft h.1,ft h.2⟩
 | .cond _ a b,h=>by
   unfold nT at h;unfold chk;rw[akn] at h ⊢;exact⟨ft h.1,ft h.2⟩
 | .block _ c,h=>ft (c:=c) h
 | .loop c,h=>ft (c:=c) h
 | .scope c,h=>ft (c:=c) h
 | .skip,_=>rfl
 | .exit _,_=>rfl
 | .ret,_=>rfl
 | .label _,_=>rfl
 | .rangeFunc ..,_=>rfl
 | .goto _,_=>rfl
 | .refuse _,_=>rfl
theorem MM {P:Program} {f:FuncId} {fn:Func} {c:Code} {vs:List V} {σ:St} {r:V} {s:St} (pl:aK) (hm:P.follows .mixedOrders=true) (hcf:∀(args:Array Value) (w:World),(callFunc f args).run P w=.ok (.enter f args) w)
 (hf:P.funcs[f]? =some fn) (hb:fn.body=some c) (hc:nT fn.ntmps pl c=true) (hs:Nat.ble vs.length fn.ntmps=true) (rs:List ResultVar) (hr:fn.results.toList=rs)
 (h:∀Q:V→St→Prop,Q r s→ek true P σ.length pl c (Gg 0 vs) σ (qV P rs (tP σ.length Q))):aA P f vs σ r s:=
 Q4 pl hm hcf hf hb (ft hc) hs rs hr h
end Go.Vx
namespace Go.Vx
open Go.Eng
set_option linter.unusedSimpArgs false
set_option linter.unusedVariables false
section
variable {w w':World} {Im:Nat→Prop} {μ:Mu} {σ:St}
theorem M4 (r:Rel μ Im σ w):Frz μ Im σ (fun _=>true) (fun b=>b<w.heap.size):=
 ⟨fun b hb=>(r.im b hb).1,fun o b n ob _ h2 h3=>r.lt (aJ.2 ⟨o,n,ob,h3,h2⟩)⟩
theorem ue (r:Rel μ Im σ w) {us₀ us:List V} {vs:List Value} (h:tH (fun _=>true) [] σ us₀ us) (hr:bd w Im μ us vs):bd w (fun b=>b<w.heap.size) [] us₀ vs:=fO (π:=[]) r (M4 r) h hr
end
def qG:V→Bool
 | .lit _=>true
 | .agg l=>plnL l
 | .tup l=>plnL l
 | _=>false
where plnL:List V→Bool
 | []=>true
 | v::vs=>qG v&&plnL vs
mutual
theorem xk {w:World} {Im Im':Nat→Prop} {μ μ':Mu}:∀{u:V} {v:Value},qG u=true→RepV w Im μ u v→RepV w Im' μ' u v
 | .lit x,v,_,h=>by cases h with | lit h=>exact .lit h
 | .agg l,v,hp,h=>by
   cases h with
   | agg hn ho hr=>
     have:=tq (Im':=Im') (μ':=μ') hp ⟨hn,hr⟩
     exact .agg this.1 ho this.2
 | .tup l,v,hp,h=>by
   cases h with
   | tup hn hr=>
     have:=tq (Im':=Im') (μ':=μ') hp ⟨hn,hr⟩
     exact .tup this.1 this.2
 | .row _ _,_,hp,_=>by simp[qG] at hp
 | .xrow _ _,_,hp,_=>by simp[qG] at hp
 | .rref _ _ _ _,_,hp,_=>by simp[qG] at hp
 | .ref _ _ _ _,_,hp,_=>by simp[qG] at hp
 | .sl _ _ _ _,_,hp,_=>by simp[qG] at hp
 | .clo _ _,_,hp,_=>by simp[qG] at hp
theorem tq {w:World} {Im Im':Nat→Prop} {μ μ':Mu}:∀{us:List V} {vs:List Value},qG.plnL us=true→bd w Im μ us vs→bd w Im' μ' us vs
 | [],vs,_,hr=>⟨hr.1,by simp⟩
 | u::us,vs,h,hr=>by
   simp only[qG.plnL,akn] at h;obtain ⟨v,vs,rfl,h1,h2⟩:=hr.uncons;exact .cons (xk h.1 h1) (tq h.2 h2)
end
theorem Ie {β:Type} {L:List β} {f:β→List PV} {z len:Nat} (h:L.length=len):vZ (.row z (L.map f)) z 0 len (L.map f)=True:=by
 subst h;simp[vZ,←amn]
theorem D7 {z len:Nat} {l:List (List PV)} (h:l.length=len):vZ (.row z l) z 0 len l=True:=by
 subst h;simp[vZ]
attribute [go_sem ↓ high] Ie D7
theorem ch {P:Program} {e:Bool} {f:FuncId} {vs vs₀:List V} {σ:St} {r:V} {K:KV} (spec:aA P f vs₀ [] r []) (hk:K true r σ)
 (hr:qG r=true:=by rfl)
 (hm:tH (fun _=>true) [] σ vs₀ vs:=by simp(disch:=(first | omega | (simp only[ake,akJ,akm,akz,akB,akr,akW,aki,akj,true_and,and_true];(try omega);done) | fail)) only[go_sem,Int.reduceEq,Int.reduceToNat,Nat.reduceAdd,Nat.reduceMul,Nat.reduceEqDiff, ↓reduceIte,true_and,and_true,and_self,akv,akw,akk,V.lit.injEq,Value.int.injEq,Value.bool.injEq];try (first | omega | (simp;done) | (simp;omega))):dT P e f vs σ K:=by
 refine sG spec.1 fun μ Im w args rl hl=>?_;have r0:Rel [] (fun b=>b<w.heap.size) [] w:=⟨rfl,fun o ob h=>by simp at h,fun o o' ob ob' b n n' h=>by simp at h,fun b hb=>⟨hb,fun hb'=>by simp[live] at hb'⟩,fun e he=>⟨(rl.im _ (rl.lay e he).1).1,(rl.lay e he).2⟩⟩;refine(spec.2 [] _ w args r0 (ue rl hm hl)).mono ?_;rintro v w' ⟨u,s,μ₁,Im₁,r₁,s₁,hlen,hu,rfl,rfl⟩;have hx:Ext [] w w':=s₁.ext.mono (by simp[live]);obtain ⟨q1,q2⟩:=rl.still hx;exact⟨u,σ,μ,Im,q1,q2,fun _=>hx,xk hr hu,hk⟩
def pnP:PV→Bool
 | .lit _=>true
 | _=>false
def HP:V→Bool
 | .lit _=>true
 | .ref _ _ _ _=>true
 | .sl _ _ _ _=>true
 | .agg l=>pnL l
 | .tup l=>pnL l
 | _=>false
where pnL:List V→Bool
 | []=>true
 | v::vs=>HP v&&pnL vs
def NG:Ob→Prop
 | .cells l=>HP.pnL l=true
 | .row _ l=>∀e∈l,∀p∈e,pnP p=true
def YV (s:St):Prop:=match s with
 | []=>True
 | none::s=>YV s
 | some ob::s=>NG ob∧YV s
theorem wC:∀{s:St} {j:Nat} {ob:Ob},YV s→s[j]? =some (some ob)→NG ob
 | [],j,ob,_,h=>by simp at h
 | x::s,0,ob,hs,h=>by
   simp at h;subst h;exact hs.1
 | x::s,j+1,ob,hs,h=>by
   have h':s[j]? =some (some ob):=by simpa using h
   cases x with
   | none=>exact wC (s:=s) hs h'
   | some y=>exact wC (s:=s) hs.2 h'
theorem JQ {kd:IntKind} {L:List Int} {z:Nat}:NG (.row z (L.map (ie kd)))=True:=eq_true fun e he p hp=>by
 obtain ⟨x,_,rfl⟩:=alb.1 he;simp only[ie,ak1] at hp;subst hp
 rfl
theorem Fp {L:List Bool} {z:Nat}:NG (.row z (L.map be))=True:=eq_true fun e he p hp=>by
 obtain ⟨x,_,rfl⟩:=alb.1 he;simp only[be,ak1] at hp;subst hp
 rfl
attribute [go_sem] JQ Fp
mutual
theorem D3 {w:World} {Im Im':Nat→Prop} {μ:Mu}:∀{u:V} {v:Value},HP u=true→RepV w Im μ u v→RepV w Im' μ u v
 | .lit x,v,_,h=>by cases h with | lit h=>exact .lit h
 | .ref _ _ _ _,_,_,h=>by cases h with | ref h=>exact .ref h
 | .sl _ _ _ _,_,_,h=>by cases h with | sl h=>exact .sl h
 | .agg l,v,hp,h=>by
   cases h with
   | agg hn ho hr=>
     have:=qu (Im':=Im') hp ⟨hn,hr⟩
     exact .agg this.1 ho this.2
 | .tup l,v,hp,h=>by
   cases h with
   | tup hn hr=>
     have:=qu (Im':=Im') hp ⟨hn,hr⟩
     exact .tup this.1 this.2
 | .row _ _,_,hp,_=>by simp[HP] at hp
 | .xrow _ _,_,hp,_=>by simp[HP] at hp
 | .rref _ _ _ _,_,hp,_=>by simp[HP] at hp
 | .clo _ _,_,hp,_=>by simp[HP] at hp
theorem qu {w:World} {Im Im':Nat→Prop} {μ:Mu}:∀{us:List V} {vs:List Value},HP.pnL us=true→bd w Im μ us vs→bd w Im' μ us vs
 | [],vs,_,hr=>⟨hr.1,by simp⟩
 | u::us,vs,h,hr=>by
   simp only[HP.pnL,akn] at h;obtain ⟨v,vs,rfl,h1,h2⟩:=hr.uncons;exact .cons (D3 h.1 h1) (qu h.2 h2)
end
theorem Nz {w:World} {Im Im':Nat→Prop} {p:PV} {c:Value} (hp:pnP p=true) (h:RepP w Im p c):RepP w Im' p c:=by
 cases h with
 | lit h=>exact .lit h
 | row=>simp[pnP] at hp
 | ptr=>simp[pnP] at hp
theorem Nf {w:World} {Im Im':Nat→Prop} {μ:Mu} {loc:Option (Nat×Nat)} {ob:Ob} (hp:NG ob) (h:fK w Im μ loc ob):fK w Im' μ loc ob:=by
 cases ob with
 | cells l=>
   obtain ⟨b,C,D,rfl,hB,ho,hl⟩:=h;exact⟨b,C,D,rfl,hB,ho,qu hp hl⟩
 | row z l=>
   obtain ⟨hz,h⟩:=h;refine⟨hz,?_⟩;rcases h with h | ⟨b,C,rfl,hB,hl,hr⟩
   · exact .inl h
   · refine .inr ⟨b,C,rfl,hB,hl,fun i c p h1 h2=>Nz ?_ (hr i c p h1 h2)⟩
     obtain ⟨e,he,hpe⟩:=List.mem_flatten.1 (ak5 h2);exact hp e he p hpe
theorem dk {P:Program} {e:Bool} {f:FuncId} {vs vs₀:List V} {σ s:St} {r:V} {K:KV} (spec:aA P f vs₀ [] r s) (hk:K true (l9 (fun j=>σ.length+j) r) (σ++tY (fun j=>σ.length+j) s))
 (hr:HP r=true:=by rfl) (hs:YV s:=by simp only[YV,go_sem,and_self,and_true,true_and];try (first | trivial | rfl | (simp;done)))
 (hm:tH (fun _=>true) [] σ vs₀ vs:=by simp(disch:=(first | omega | (simp only[ake,akJ,akm,akz,akB,akr,akW,aki,akj,true_and,and_true];(try omega);done) | fail)) only[go_sem,Int.reduceEq,Int.reduceToNat,Nat.reduceAdd,Nat.reduceMul,Nat.reduceEqDiff, ↓reduceIte,true_and,and_true,and_self,akv,akw,akk,V.lit.injEq,Value.int.injEq,Value.bool.injEq];try (first | omega | (simp;done) | (simp;omega))):dT P e f vs σ K:=by
 refine sG spec.1 fun μ Im w args rl hl=>?_;have r0:Rel [] (fun b=>b<w.heap.size) [] w:=⟨rfl,fun o ob h=>by simp at h,fun o o' ob ob' b n n' h=>by simp at h,fun b hb=>⟨hb,fun hb'=>by simp[live] at hb'⟩,fun e he=>⟨(rl.im _ (rl.lay e he).1).1,(rl.lay e he).2⟩⟩;refine(spec.2 [] _ w args r0 (ue rl hm hl)).mono ?_;rintro v w' ⟨u,s',μ₁,Im₁,r₁,s₁,hlen,hu,rfl,rfl⟩;have hx:Ext [] w w':=s₁.ext.mono (by simp[live]);obtain ⟨q1,q2⟩:=rl.still hx;have hN:μ.length=σ.length:=rl.len
 have hfr:∀b∈live μ₁ s',w.heap.size≤b:=fun b hb=>by
  rcases s₁.live b hb with h | h
  · simp[live] at h
  · exact h
 have hf:∀(j:Nat) x,μ₁[j]? =some x→(μ++μ₁)[σ.length+j]? =some x:=fun j x h=>by
  rw[akq zo,←h]
  congr 1;omega
 have hold:∀(j:Nat) x,μ[j]? =some x→(μ++μ₁)[j]? =some x:=fun j x h=>wQ (alA _ _) h;have hmono:Mono μ Im w' (μ++μ₁) Im w':=⟨alA _ _,fun _ h=>h,fun _ _=>rfl⟩
 have hsl:∀(o:Nat) ob,(σ++tY (fun j=>σ.length+j) s')[o]? =some (some ob)→(o<σ.length∧σ[o]? =some (some ob))∨∃j ob',o=σ.length+j∧s'[j]? =some (some ob')∧ob=G3 (fun j=>σ.length+j) ob':=fun o ob h=>by
  rcases alY o σ.length with ho | ho
  · rw[akp ho] at h
    exact .inl ⟨ho,h⟩
  · rw[akq ho,n8,akX] at h
    cases hx:s'[o-σ.length]? with
    | none=>rw[hx] at h;cases h
    | some y=>
      rw[hx] at h
      cases y with
      | none=>simp[yO] at h
      | some y=>
        simp[yO] at h;exact .inr ⟨o-σ.length,y,by omega,hx,h.symm⟩
 have hin:∀(o:Nat) x,(μ++μ₁)[o]? =some x→(o<σ.length∧μ[o]? =some x)∨(σ.length≤o∧μ₁[o-σ.length]? =some x):=fun o x h=>by
  rcases alY o σ.length with ho | ho
  · rw[akp zo] at h
    exact .inl ⟨ho,h⟩
  · rw[akq zo,hN] at h
    exact .inr ⟨ho,h⟩
 have hlv:∀b,b∈live (μ++μ₁) (σ++tY (fun j=>σ.length+j) s')→b∈live μ σ∨b∈live μ₁ s':=fun b hb=>by
  obtain ⟨o,n,ob,h1,h2⟩:=aJ.1 hb;rcases hsl o ob h2 with⟨ho,h⟩ | ⟨j,ob',rfl,hj,rfl⟩
  · rcases hin o _ h1 with⟨_,h'⟩ | ⟨h',_⟩
    · exact .inl (aJ.2 ⟨o,n,ob,h',h⟩)
    · omega
  · rcases hin _ _ h1 with⟨h',_⟩ | ⟨_,h'⟩
    · omega
    · rw[show σ.length+j-σ.length=j by omega] at h'
      exact .inr (aJ.2 ⟨j,n,ob',h',hj⟩)
 refine⟨l9 (fun j=>σ.length+j) u,σ++tY (fun j=>σ.length+j) s',μ++μ₁,Im,⟨?_,?_,?_,?_,q1.lay⟩,⟨alA _ _,fun _ h=>h,hx.mono (by simp),fun b hb=>?_,fun _ h=>.inl h⟩,fun _=>hx,(D3 hr hu).ren hf,hk⟩
 · rw[ake,ake,n8,aki,hN,r₁.len]
 · intro o ob h
   rcases hsl o ob h with⟨ho,h⟩ | ⟨j,ob',rfl,hj,rfl⟩
   · obtain ⟨loc,h1,h2⟩:=q1.rep o ob h
     exact⟨loc,hold _ _ h1,h2.mono hmono (fun _ _ _=>rfl)⟩
   · obtain ⟨loc,h1,h2⟩:=r₁.rep j ob' hj
     exact⟨loc,hf _ _ h1,(Nf (wC hs hj) h2).ren hf⟩
 · intro o o' ob ob' b n n' h1 h2 h3 h4
   rcases hsl o ob h1 with⟨ho,a1⟩ | ⟨j,x,rfl,a1,_⟩<;>rcases hsl o' ob' h2 with⟨ho',a2⟩ | ⟨j',x',rfl,a2,_⟩
   · rcases hin _ _ h3 with⟨_,b1⟩ | ⟨b1,_⟩
     · rcases hin _ _ h4 with⟨_,b2⟩ | ⟨b2,_⟩
       · exact rl.inj o o' ob ob' b n n' a1 a2 b1 b2
       · omega
     · omega
   · rcases hin _ _ h3 with⟨_,b1⟩ | ⟨b1,_⟩
     · rcases hin _ _ h4 with⟨b2,_⟩ | ⟨_,b2⟩
       · omega
       · rw[show σ.length+j'-σ.length=j' by omega] at b2
         have c1:=rl.lt (aJ.2 ⟨o,n,ob,b1,a1⟩);have c2:=hfr b (aJ.2 ⟨j',n',x',b2,a2⟩);omega
     · omega
   · rcases hin _ _ h3 with⟨b1,_⟩ | ⟨_,b1⟩
     · omega
     · rw[show σ.length+j-σ.length=j by omega] at b1
       rcases hin _ _ h4 with⟨_,b2⟩ | ⟨b2,_⟩
       · have c1:=rl.lt (aJ.2 ⟨o',n',ob',b2,a2⟩)
         have c2:=hfr b (aJ.2 ⟨j,n,x,b1,a1⟩);omega
       · omega
   · rcases hin _ _ h3 with⟨b1,_⟩ | ⟨_,b1⟩
     · omega
     · rcases hin _ _ h4 with⟨b2,_⟩ | ⟨_,b2⟩
       · omega
       · rw[show σ.length+j-σ.length=j by omega] at b1
         rw[show σ.length+j'-σ.length=j' by omega] at b2;rw[r₁.inj j j' x x' b n n' a1 a2 b1 b2]
 · intro b hb
   have hb':=rl.im b hb;refine⟨akT hb'.1 hx.size,fun hl'=>?_⟩;rcases hlv b hl' with h | h
   · exact hb'.2 h
   · have:=hfr b h
     omega
 · rcases hlv b hb with h | h
   · exact .inl h
   · exact .inr (hfr b h)
end Go.Vx
namespace Go.Vx
open Go.Eng Go.ChangeShapes Go.WideShapes
set_option linter.unusedSimpArgs false
set_option linter.unusedVariables false
inductive Sh where
 | int (k:IntKind)
 | bool
 | str
 | row (e:Sh)
 | nil
 | cons (a b:Sh)
def wd:Sh→Nat
 | .nil=>0
 | .cons a b=>wd a+wd b
 | _=>1
def Dt:Sh→Type
 | .int _=>Int
 | .bool=>Bool
 | .str=>ByteArray
 | .row e=>List (Dt e)
 | .nil=>Unit
 | .cons a b=>Dt a×Dt b
def okD:(s:Sh)→Dt s→Prop
 | .int k,n=> @LE.le Int _ k.min n∧ @LE.le Int _ n k.max
 | .bool,_=>True
 | .str,s=>ByteArray.size s≤maxLen
 | .row e,l=>List.length (α:=Dt e) l≤maxLen∧∀x:Dt e,@Membership.mem (Dt e) (List (Dt e)) _ l x→okD e x
 | .nil,_=>True
 | .cons a b,d=>okD a d.1∧okD b d.2
def vG:(s:Sh)→Dt s→List PV
 | .int k,n=> [.lit (.int k n)]
 | .bool,b=> [.lit (.bool b)]
 | .str,s=> [.lit (.string s)]
 | .row e,l=> [.row (wd e) (List.map (vG e) l)]
 | .nil,_=> []
 | .cons a b,d=>vG a d.1++vG b d.2
theorem jO:∀(s:Sh) (d:Dt s),(vG s d).length=wd s
 | .int _,_=>rfl
 | .bool,_=>rfl
 | .str,_=>rfl
 | .row _,_=>rfl
 | .nil,_=>rfl
 | .cons a b,d=>by
   show(vG a d.1++vG b d.2).length=wd a+wd b
   rw[ake,jO a,jO b]
def za (s:Sh):Nat→Sh
 | 0=>.nil
 | n+1=>.cons s (za s n)
def zY (P:Program) (sh:TypeId→Option Sh):List Field→Nat→Option Sh
 | [],_=>some .nil
 | f::fs,o=>match sh f.type with
   | some s=>if f.offset=o∧P.cellsOf f.type=wd s then(zY P sh fs (o+wd s)).map (Sh.cons s) else none
   | none=>none
def sI (P:Program):Nat→TypeId→Option Sh
 | 0,_=>none
 | n+1,t=>match P.underlying t with
   | some .bool=>some .bool
   | some (.int k)=>some (.int k)
   | some .string=>some .str
   | some (.slice e)=>(match sI P n e with | some s=>if P.cellsOf e=wd s then some (.row s) else none | none=>none)
   | some (.struct fs)=>(match zY P (sI P n) fs.toList 0 with | some s=>if P.cellsOf t=wd s then some s else none | none=>none)
   | some (.array m e)=>(match sI P n e with | some s=>if P.cellsOf e=wd s∧P.cellsOf t=wd (za s m) then some (za s m) else none | none=>none)
   | _=>none
theorem Cd {k:IntKind} {n:Int} (h:(Lit.int k n).wf=true):k.min≤n∧n≤k.max:=Go.Proofs.YtcnlmelpnflhnaaGreat.wf_bounds h
def Told (w:World) (s:Sh) (cs:List Value):Prop:=cs.length=wd s∧(∀c∈cs,bD c=true)∧∃d,okD s d∧∀(i:Nat) c p,cs[i]? =some c→(vG s d)[i]? =some p→RepP w (fun b=>b<w.heap.size) p c
theorem Told.append {w:World} {a b:Sh} {xs ys:List Value} (h:Told w a xs) (k:Told w b ys):Told w (.cons a b) (xs++ys):=by
 obtain ⟨h1,h2,d,h3,h4⟩:=h;obtain ⟨k1,k2,e,k3,k4⟩:=k;refine⟨by rw[ake,h1,k1];rfl,fun c hc=>?_,(d,e),⟨h3,k3⟩,fun i c p hc hp=>?_⟩
 · rcases alK.1 hc with h | h
   · exact h2 c h
   · exact k2 c h
 · have hp':(vG a d++vG b e)[i]? =some p:=hp
   have hl:=jO a d;rcases alY i xs.length with hi | hi
   · rw[akp hi] at hc
     rw[akp zo] at hp';exact h4 i c p hc hp'
   · rw[akq hi] at hc
     rw[akq zo] at hp';rw[hl,←h1] at hp';exact k4 _ c p hc hp'
section
variable {H:Type} {enc:TypeId×Value→H} {P:Program} {w:World} {base:Nat} {spare:Nat→Bool} {held:Bool}
theorem mg {α:Type} (l:List α) (o a:Nat):(l.drop o).take a++l.drop (o+a)=l.drop o:=by
 rw[←List.drop_drop,alT]
theorem Dy {n m:Nat} {cs:List Value} (ih:∀t s,sI P n t=some s→∀fuel cs (x:DataW H×List MemPlace),DataW.trod enc P w base spare held fuel t cs=some x→Told w s cs):
 ∀(fs:List Field) (o:Nat) (s:Sh),zY P (sI P n) fs o=some s→cs.length=o+wd s→(∀(i:Nat) (f:Field),fs[i]? =some f→∃x,DataW.trod enc P w base spare held m f.type ((cs.drop f.offset).take (P.cellsOf f.type))=some x)→Told w s (cs.drop o)
 | [],o,s,h,hl,hf=>by
   cases h
   exact⟨by simp[hl],fun c hc=>by rw[am0 (by rw[hl];exact akk _)] at hc;simp at hc,(),trivial,fun i c p _ hp=>by cases hp⟩
 | f::fs,o,s,h,hl,hf=>by
   unfold zY at h
   split at h
   · rename_i sf hsf
     split at h
     · rename_i hc
       obtain ⟨rfl,hcf⟩:=hc
       cases hr:zY P (sI P n) fs (f.offset+wd sf) with
       | none=>rw[hr] at h;cases h
       | some r=>
         rw[hr] at h
         cases h
         obtain ⟨x,hx⟩:=hf 0 f rfl;rw[hcf] at hx;have h1:=ih _ _ hsf _ _ _ hx;have h2:=Dy ih fs (f.offset+wd sf) r hr (by rw[hl];show f.offset+(wd sf+wd r)=_;omega) (fun i g hg=>hf (i+1) g (by simpa using hg));rw[←mg cs f.offset (wd sf)];exact h1.append h2
     · cases h
   · cases h
theorem yW {n m:Nat} {cs:List Value} {e:TypeId} {se:Sh} (hse:∀fuel cs (x:DataW H×List MemPlace),DataW.trod enc P w base spare held fuel e cs=some x→Told w se cs) (hc:P.cellsOf e=wd se):
 ∀(k i:Nat),i+k=m→cs.length=i*wd se+wd (za se k)→(∀j,j<m→∃x,DataW.trod enc P w base spare held n e ((cs.drop (j*P.cellsOf e)).take (P.cellsOf e))=some x)→Told w (za se k) (cs.drop (i*wd se))
 | 0,i,hk,hl,hf=>⟨by simp[hl,za,wd],fun c hc=>by rw[am0 (by rw[hl];exact akk _)] at hc;simp at hc,(),trivial,fun i c p _ hp=>by cases hp⟩
 | k+1,i,hk,hl,hf=>by
   obtain ⟨x,hx⟩:=hf i zo;rw[hc] at hx;have h1:=hse _ _ _ hx;have h2:=yW hse hc k (i+1) zo (by rw[hl,akA,alG];show _+(wd se+wd (za se k))=_;omega) hf;rw[←mg cs (i*wd se) (wd se)];rw[akA,alG] at h2;exact h1.append h2
theorem v7 {α:Type} {z:Nat} (f:Nat→List α) (hz:∀i,(f i).length=z):∀(n i r:Nat),i<n→r<z→((List.range n).flatMap f)[i*z+r]? =(f i)[r]?
 | 0,i,r,hi,_=>by omega
 | n+1,i,r,hi,hr=>by
   have hl:∀m,((List.range m).flatMap f).length=m*z:=fun m=>by
    induction m with
    | zero=>simp
    | succ m ih=>rw[amY,List.flatMap_append,ake,ih];simp[hz,akA]
   rw[amY,List.flatMap_append]
   by_cases h:i<n
   · have hm:i*z+z≤n*z:=by
      have:=akI z (show i+1≤n by omega)
      rw[akA,alG] at this;exact this
     rw[akp (by rw[hl];omega)];exact v7 f hz n i r h hr
   · obtain rfl:i=n:=by omega
     rw[akq (by rw[hl];omega),hl,show i*z+r-i*z=r by omega]
     simp
theorem yo {α:Type} {z:Nat} (f:Nat→List α) (hz:∀i,(f i).length=z) (m:Nat):((List.range m).flatMap f).length=m*z:=by
 induction m with
 | zero=>simp
 | succ m ih=>rw[amY,List.flatMap_append,ake,ih];simp[hz,akA]
theorem told:∀(n:Nat) (t:TypeId) (s:Sh),sI P n t=some s→∀(fuel:Nat) (cs:List Value) (x:DataW H×List MemPlace),DataW.trod enc P w base spare held fuel t cs=some x→Told w s cs
 | 0,t,s,h,_,_,_,_=>by cases h
 | n+1,t,s,h,fuel,cs,x,hx=>by
   have ih:=told n;unfold sI at h
   split at h
   · rename_i ht
     cases h
     obtain ⟨b,rfl,_⟩:=DataW.trod_bool ht hx
     exact⟨rfl,fun c hc=>by simp at hc;subst hc;rfl,b,trivial,fun i c p hc hp=>by
      cases i with
      | zero=>cases hc;cases hp;exact .lit rfl
      | succ i=>simp at hc⟩
   · rename_i k ht
     cases h
     obtain ⟨m,rfl,_,hw⟩:=DataW.trod_int ht hx
     exact⟨rfl,fun c hc=>by simp at hc;subst hc;rfl,m,Cd hw,fun i c p hc hp=>by
      cases i with
      | zero=>cases hc;cases hp;exact .lit rfl
      | succ i=>simp at hc⟩
   · rename_i ht
     cases h
     obtain ⟨b,rfl,_,hw⟩:=DataW.trod_string ht hx
     exact⟨rfl,fun c hc=>by simp at hc;subst hc;rfl,b,hw,fun i c p hc hp=>by
      cases i with
      | zero=>cases hc;cases hp;exact .lit rfl
      | succ i=>simp at hc⟩
   · rename_i e ht
     split at h
     · rename_i se hse
       split at h
       · rename_i hc
         cases h
         have ihe:=ih e se hse;rcases Go.Deep.open_slice ht hx with⟨rfl,_⟩ | ⟨a,len,cap,m,nn,D,Pl,rfl,hb,hl,hm,hmm,_,hall⟩
         · refine⟨rfl,fun c hc=>by simp at hc;subst hc;rfl,([]:List (Dt se)),⟨by simp,by simp⟩,fun i c p hc hp=>?_⟩
           cases i with
           | zero=>
             cases hc;cases hp
             exact .row (C:=[]) rfl (akk _) (by simp) (Row.nil _ _) (fun h=>absurd rfl h) (by simp) (by simp) (by simp)
           | succ i=>simp at hc
         · have hlm:len≤m:=by rw[hmm];split<;>omega
           by_cases h0:len=0
           · subst h0
             refine⟨rfl,fun c hc=>by simp at hc;subst hc;rfl,([]:List (Dt se)),⟨by simp,by simp⟩,fun i c p hc hp=>?_⟩
             cases i with
             | zero=>
               cases hc;cases hp
               exact .row (C:=[]) rfl (akF _) (by simp) (Row.nil _ _) (fun h=>absurd rfl h) (by simp) (by simp) (by simp)
             | succ i=>simp at hc
           have h1:∀i,i<len→∃cd:List Value×Dt se,cd.1.length=wd se∧(∀c∈cd.1,bD c=true)∧okD se cd.2∧(∀(r:Nat) c p,cd.1[r]? =some c→(vG se cd.2)[r]? =some p→RepP w (fun b=>b<w.heap.size) p c)∧∀r,r<wd se→w.cell? (a.add (i*wd se+r))=cd.1[r]? :=fun i hi=>by
            obtain ⟨cs',hcs,htr⟩:=hall i zo;obtain ⟨q1,q2,d,q3,q4⟩:=ihe _ _ _ htr;refine⟨(cs',d),q1,q2,q3,q4,fun r hr=>?_⟩;rw[hc] at hcs;unfold World.cells? at hcs
            split at hcs
            · have:=mapM_some_get hcs r r (by rw[amj hr])
              rw[←this]
              congr 1
              unfold Addr.add
              split<;>split<;>(try split)<;>simp_all<;>omega
            · cases hcs
           have h2:∀i,∃cd:List Value×Dt se,cd.1.length=wd se∧(∀c∈cd.1,bD c=true)∧okD se cd.2∧(∀(r:Nat) c p,cd.1[r]? =some c→(vG se cd.2)[r]? =some p→RepP w (fun b=>b<w.heap.size) p c)∧(i<len→∀r,r<wd se→w.cell? (a.add (i*wd se+r))=cd.1[r]?):=fun i=>by
            by_cases hi:i<len
            · obtain ⟨cd,a1,a2,a3,a4,a5⟩:=h1 i hi
              exact⟨cd,a1,a2,a3,a4,fun _=>a5⟩
            · obtain ⟨cd,a1,a2,a3,a4,a5⟩:=h1 0 zo
              exact⟨cd,a1,a2,a3,a4,fun h=>absurd h hi⟩
           obtain ⟨F,hF⟩:=Classical.axiomOfChoice h2;have hfl:=yo (fun i=>(F i).1) (fun i=>(hF i).1) len
           have hget:∀i c,((List.range len).flatMap fun i=>(F i).1)[i]? =some c→i/wd se<len∧(F (i/wd se)).1[i%wd se]? =some c:=fun i c hc=>by
            have hi:=(ali.1 hc).1;rw[hfl] at hi
            have hz:0<wd se:=by
             rcases akQ (wd se) with h | h
             · rw[h] at hi;omega
             · exact h
            have hq:i/wd se<len:=(akR hz).2 hi;refine⟨hq,?_⟩
            have:=v7 (fun i=>(F i).1) (fun i=>(hF i).1) len (i/wd se) (i%wd se) hq (akD _ hz)
            rw[akC,akO] at this;rw[←this,hc]
           have hpl:(((List.range len).map fun i=>(F i).2).map (vG se)).flatten=(List.range len).flatMap fun i=>vG se (F i).2:=by
            rw[List.map_map];rfl
           refine⟨rfl,fun c hc=>by simp at hc;subst hc;rfl,((List.range len).map fun i=>(F i).2:List (Dt se)),⟨by simp;omega,fun x hx=>?_⟩,fun i c p hc hp=>?_⟩
           · obtain ⟨i,_,rfl⟩:=alb.1 hx
             exact(hF i).2.2.1
           · cases i with
             | succ i=>simp at hc
             | zero=>
               cases hc;cases hp
               refine .row (C:=(List.range len).flatMap fun i=>(F i).1) (by simp) hl (fun e he=>?_) (Go.Proofs.YtcnlmelpnflhnaaGreat.row_cells (fun i hi=>?_)) (fun hne=>?_) hfl (fun c hc=>?_) (fun i c p hc hp=>?_)
               · obtain ⟨d,_,rfl⟩:=alb.1 he
                 exact jO _ _
               · have hg:=akh hi
                 obtain ⟨g1,g2⟩:=hget i _ hg
                 have hz:0<wd se:=by
                  rcases akQ (wd se) with h | h
                  · rw[hfl,h] at hi;omega
                  · exact h
                 have:=(hF (i/wd se)).2.2.2.2 g1 (i%wd se) (akD _ hz)
                 rw[akC,akO,g2] at this;exact this
               · have hpos:0<((List.range len).flatMap fun i=>(F i).1).length:=amT.2 hne
                 obtain ⟨g1,g2⟩:=hget 0 _ (akh hpos)
                 have hz:0<wd se:=by
                  rcases akQ (wd se) with h | h
                  · rw[hfl,h] at hpos;omega
                  · exact h
                 have:=(hF 0).2.2.2.2 zo 0 hz
                 rw[alF,akP] at this;have e0:(F 0).1[0]? =some (((List.range len).flatMap fun i=>(F i).1)[0]):=by simpa using g2
                 rw[e0] at this
                 have:=World.block_lt_of_cell? _ _ this
                 simpa [ab,Addr.add] using this
               · obtain ⟨i,hi,rfl⟩:=alH.1 hc
                 obtain ⟨g1,g2⟩:=hget i _ (akh hi);exact(hF (i/wd se)).2.1 _ (ak5 g2)
               · obtain ⟨g1,g2⟩:=hget i _ hc
                 rw[hpl] at hp;have hi:=(ali.1 hc).1
                 have hz:0<wd se:=by
                  rcases akQ (wd se) with h | h
                  · rw[hfl,h] at hi;omega
                  · exact h
                 have:=v7 (fun i=>vG se (F i).2) (fun i=>jO _ _) len (i/wd se) (i%wd se) g1 (akD _ hz)
                 rw[akC,akO,hp] at this;exact(hF (i/wd se)).2.2.2.1 _ c p g2 this.symm
       · cases h
     · cases h
   · rename_i fs ht
     split at h
     · rename_i s' hs
       split at h
       · rename_i hc
         cases h
         obtain ⟨xs,m,rfl,_,hlen,hxl,hall⟩:=DataW.trod_struct ht hx
         have:=Dy (m:=m) (cs:=cs) ih fs.toList 0 s hs (by rw[hlen,hc];omega) (fun i f hf=>by
          have hf':fs[i]? =some f:=by simpa using hf
          have hi:i<xs.length:=by
           have:=(al6.1 hf').1
           omega
          exact⟨xs[i],by rw[hall i f hf',akh hi]⟩)
         simpa using this
       · cases h
     · cases h
   · rename_i m e ht
     split at h
     · rename_i se hse
       split at h
       · rename_i hc
         cases h
         obtain ⟨xs,mm,rfl,_,hlen,hxl,hall⟩:=DataW.trod_array ht hx
         have:=yW (n:=mm) (m:=m) (cs:=cs) (e:=e) (ih e se hse) hc.1 m 0 zo (by rw[hlen,hc.2];omega) (fun j hj=>⟨xs[j]'zo,by rw[hall j hj,akh zo]⟩)
         simpa using this
       · cases h
     · cases h
   · cases h
def vOf:(s:Sh)→Dt s→V
 | .int k,n=>.lit (.int k n)
 | .bool,b=>.lit (.bool b)
 | .str,s=>.lit (.string s)
 | .row e,l=>.row (wd e) (List.map (vG e) l)
 | .nil,_=>.agg []
 | .cons a b,d=>.agg ((vG (.cons a b) d).map V.ofP)
theorem rq {n:Nat} {t:TypeId} {s:Sh} {v:Value} {d:DataW H} {ps:List MemPlace} {r:Reach} {b0:Nat} (hs:sI P n t=some s) (hk:DataW.Trod enc P w base spare held t v d ps) (hv:Value.okWide P w r b0 t v):
 ∃d:Dt s,okD s d∧RepV w (fun b=>b<w.heap.size) [] (vOf s d) v:=by
 obtain ⟨fuel,hf⟩:=hk;have ht:=told n t s hs fuel _ _ hf;obtain ⟨hl,ho,d,hd,hr⟩:=ht;refine⟨d,hd,?_⟩
 have agg:∀cs:Array Value,v=.agg cs→∀ps:List PV,cs.toList.length=ps.length→(∀(i:Nat) c p,v.cells.toList[i]? =some c→ps[i]? =some p→RepP w (fun b=>b<w.heap.size) p c)→RepV w (fun b=>b<w.heap.size) [] (.agg (ps.map V.ofP)) v:=fun cs e ps hlen hrr=>by
  subst e
  have:=RepV.agg (w:=w) (Im:=fun b=>b<w.heap.size) (μ:=[]) (l:=ps.map V.ofP) (C:=cs.toList) (by simpa using hlen) ho (fun i u c h1 h2=>by
   rw[akX] at h1
   cases hp:ps[i]? with
   | none=>rw[hp] at h1;cases h1
   | some p=>rw[hp] at h1;cases h1;exact(hrr i c p h2 hp).toV)
  simpa using this
 cases n with
 | zero=>cases hs
 | succ n=>
   unfold sI at hs
   split at hs
   · rename_i hu
     cases hs
     obtain ⟨b,rfl⟩:=okWide_bool hu hv;exact(hr 0 _ _ rfl rfl).toV
   · rename_i k hu
     cases hs
     obtain ⟨b,rfl⟩:=okWide_int hu hv;exact(hr 0 _ _ rfl rfl).toV
   · rename_i hu
     cases hs
     obtain ⟨b,rfl⟩:=okWide_string hu hv;exact(hr 0 _ _ rfl rfl).toV
   · rename_i e hu
     split at hs
     · split at hs
       · cases hs
         obtain ⟨a,len,cap,rfl⟩:=okWide_slice hu hv;exact(hr 0 _ _ rfl rfl).toV
       · cases hs
     · cases hs
   · rename_i fs hu
     split at hs
     · rename_i s' hs'
       split at hs
       · cases hs
         obtain ⟨cs,rfl,_⟩:=okWide_struct hu hv;have hA:=agg cs rfl (vG s d) (by rw[jO];exact hl) hr
         cases hq:fs.toList with
         | nil=>rw[hq] at hs';cases hs';exact hA
         | cons f fs'=>
           rw[hq] at hs';unfold zY at hs'
           split at hs'
           · split at hs'
             · cases hx:zY P (sI P n) fs' (0+wd ‹Sh›) with
               | none=>rw[hx] at hs';cases hs'
               | some r=>rw[hx] at hs';cases hs';exact hA
             · cases hs'
           · cases hs'
       · cases hs
     · cases hs
   · rename_i m e hu
     split at hs
     · rename_i se hse
       split at hs
       · cases hs
         have hcs:∃cs,v=.agg cs:=by
          simp only[Value.okWide,hu] at hv;obtain ⟨cs,h1,_⟩:=hv;exact⟨cs,h1⟩
         obtain ⟨cs,rfl⟩:=hcs;have hA:=agg cs rfl (vG (za se m) d) (by rw[jO];exact hl) hr
         cases m with
         | zero=>exact hA
         | succ m=>exact hA
       · cases hs
     · cases hs
   · cases hs
end
end Go.Vx
namespace Go.Vx
open Go.Eng
theorem zF {P:Program} {f:FuncId} {fn:Func} {c:Code} {vs:List V} {σ:St} {r:V} {s:St} (pl:aK) (hcf:∀(args:Array Value) (w:World),(callFunc f args).run P w=.ok (.enter f args) w) (hf:P.funcs[f]? =some fn) (rs:List ResultVar)
 (h:∀Q:V→St→Prop,Q r s→ek true P σ.length pl c (Gg 0 vs) σ (qV P rs (tP σ.length Q))) (hm:P.follows .mixedOrders=true:=by kernel_rfl) (hb:fn.body=some c:=by exact rfl) (hc:nT fn.ntmps pl c=true:=by kernel_rfl) (hs:Nat.ble vs.length fn.ntmps=true:=by exact rfl) (hr:fn.results.toList=rs:=by kernel_rfl):aA P f vs σ r s:=
 MM pl hm hcf hf hb hc hs rs hr h
theorem zC {P:Program} {e:Bool} {f:FuncId} {vs:List V} {σ:St} {r:V} {K:KV} {q:Prop} (spec:aA P f vs [] r []) (hq:q) (h1:lB.plnL vs=true:=by exact rfl) (h2:lB r=true:=by exact rfl) (h:K true r σ=q:=by simp(maxSteps:=1000000) (disch:=(first | omega | (simp only[cS,aki,akj,true_and,and_true];(try omega);done) | fail)) only[go_sem,Int.reduceEq,Int.reduceToNat,Nat.reduceAdd,Nat.reduceMul,Nat.reduceEqDiff, ↓reduceIte];rfl):dT P e f vs σ K:=aC spec h1 h2 (h.symm▸hq)
theorem zW {P:Program} {e:Bool} {f:FuncId} {vs vs₀:List V} {σ σ₀ s:St} {r:V} {K:KV} {q:Prop} (π:Pi) (F:List Nat) (spec:aA P f vs₀ σ₀ r s) (hq:q) (h1:(Tp π&&π.all (fun p=>match p with | some p=>decide (p<σ.length)&&!F.contains p | none=>true))=true:=by rfl) (h2:nZ F.contains π σ σ₀ π:=by simp(disch:=(first | omega | (simp only[ake,akJ,akm,akz,akB,akr,akW,aki,akj,true_and,and_true];(try omega);done) | fail)) only[go_sem,Int.reduceEq,Int.reduceToNat,Nat.reduceAdd,Nat.reduceMul,Nat.reduceEqDiff, ↓reduceIte,true_and,and_true,and_self,akv,akw,akk,V.lit.injEq,Value.int.injEq,Value.bool.injEq];try (first | omega | (simp;done) | (simp;omega))) (h3:tH F.contains π σ vs₀ vs:=by simp(disch:=(first | omega | (simp only[ake,akJ,akm,akz,akB,akr,akW,aki,akj,true_and,and_true];(try omega);done) | fail)) only[go_sem,Int.reduceEq,Int.reduceToNat,Nat.reduceAdd,Nat.reduceMul,Nat.reduceEqDiff, ↓reduceIte,true_and,and_true,and_self,akv,akw,akk,V.lit.injEq,Value.int.injEq,Value.bool.injEq];try (first | omega | (simp;done) | (simp;omega))) (he:e=true→σ₀=[]:=by simp) (h:K true (l9 (w7 (je σ.length π) (σ.length+ku π)) r) (sK π F σ s)=q:=by simp(maxSteps:=1000000) (disch:=(first | omega | (simp only[cS,aki,akj,true_and,and_true];(try omega);done) | fail)) only[go_sem,Int.reduceEq,Int.reduceToNat,Nat.reduceAdd,Nat.reduceMul,Nat.reduceEqDiff, ↓reduceIte];rfl):dT P e f vs σ K:=aF π F spec (h.symm▸hq) h1 h2 h3 he
theorem zE {p:Prop} {k:Nat} {Q:V→St→Prop} {u:V} {s:St} (π:Pi) {u₀:V} {s₀:St} (hq:Q u₀ s₀) (h:p=tP k Q u s:=by simp(maxSteps:=1000000) (disch:=(first | omega | (simp only[cS,aki,akj,true_and,and_true];(try omega);done) | fail)) only[go_sem,Int.reduceEq,Int.reduceToNat,Nat.reduceAdd,Nat.reduceMul,Nat.reduceEqDiff, ↓reduceIte];rfl) (h1:(Fc π s₀&&t7 k π)=true:=by rfl) (h2:nZ (nj π) π s s₀ π:=by simp(disch:=(first | omega | (simp only[ake,akJ,akm,akz,akB,akr,akW,aki,akj,true_and,and_true];(try omega);done) | fail)) only[go_sem,Int.reduceEq,Int.reduceToNat,Nat.reduceAdd,Nat.reduceMul,Nat.reduceEqDiff, ↓reduceIte,true_and,and_true,and_self,akv,akw,akk,V.lit.injEq,Value.int.injEq,Value.bool.injEq];try (first | omega | (simp;done) | (simp;omega))) (h3:mV (nj π) π s u₀ u:=by simp(disch:=(first | omega | (simp only[ake,akJ,akm,akz,akB,akr,akW,aki,akj,true_and,and_true];(try omega);done) | fail)) only[go_sem,Int.reduceEq,Int.reduceToNat,Nat.reduceAdd,Nat.reduceMul,Nat.reduceEqDiff, ↓reduceIte,true_and,and_true,and_self,akv,akw,akk,V.lit.injEq,Value.int.injEq,Value.bool.injEq];try (first | omega | (simp;done) | (simp;omega))):p:=h.symm▸ai π hq h1 h2 h3
abbrev V.I (n:Int):V:=.lit (.int .i64 n)
abbrev PV.I (n:Int):PV:=.lit (.int .i64 n)
end Go.Vx
