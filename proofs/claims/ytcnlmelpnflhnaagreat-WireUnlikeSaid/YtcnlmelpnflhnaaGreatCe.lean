import Derived.Test.YtcnlmelpnflhnaaGreatBv
namespace Go.Proofs.YtcnlmelpnflhnaaGreat
open Go.Eng Go.Vx
set_option linter.unusedSimpArgs false
set_option linter.unusedVariables false
set_option maxRecDepth 100000
theorem tu {Kd kk aa bb:Int} {S:List (Int×Int×Bool)} {M D Sc R C ck ca cb:Int} {W Ky:List Nat} {L0:List Bool} (hS:S.length≤9223372036854775807) (hL0:L0.length≤9223372036854775807) (hW:W.length≤9223372036854775807) (hw:∀x∈W,x<18446744073709551616) (hKy:Ky.length≤9223372036854775807) (hky:∀x∈Ky,x<18446744073709551616)
 {Kd' kk' aa' bb':Int} {S':List (Int×Int×Bool)} {M' D' Sc' R' C' ck' ca' cb':Int} {W' Ky':List Nat} {L0':List Bool} (hS':S'.length≤9223372036854775807) (hL0':L0'.length≤9223372036854775807) (hW':W'.length≤9223372036854775807) (hw':∀x∈W',x<18446744073709551616) (hKy':Ky'.length≤9223372036854775807) (hky':∀x∈Ky',x<18446744073709551616):
 aA Tryz.prog 5 [.agg (pN Kd kk aa bb S M D Sc R C ck ca cb W Ky L0),.agg (pN Kd' kk' aa' bb' S' M' D' Sc' R' C' ck' ca' cb' W' Ky' L0')] [] (.lit (.bool true)) []:=by
 obtain ⟨x,hx,it⟩:=vI (Kd:=Kd) (kk:=kk) (aa:=aa) (bb:=bb) (S:=S) (M:=M) (D:=D) (Sc:=Sc) (R:=R) (C:=C) (ck:=ck) (ca:=ca) (cb:=cb) (W:=W) (Ky:=Ky) (L0:=L0) hS hL0 hW hw hKy hky;obtain ⟨y,hy,it'⟩:=vI (Kd:=Kd') (kk:=kk') (aa:=aa') (bb:=bb') (S:=S') (M:=M') (D:=D') (Sc:=Sc') (R:=R') (C:=C') (ck:=ck') (ca:=ca') (cb:=cb') (W:=W') (Ky:=Ky') (L0:=L0') hS' hL0' hW' hw' hKy' hky';have aw:=rL;have en:=(Itm.enc hx).row;have hE:=(Itm.enc hx).1;have en':=(Itm.enc hy).row;have hE':=(Itm.enc hy).1;have sm:=Itm.same hx hy;rw[←ay] at hE hE';have rs:=qk (A:=nl x.E) (B:=nl y.E) zo zo;generalize decide (nl x.E=nl y.E)=r at*
 obtain ⟨c1,c2,c3,c4,c5,c6,c7,c8,c9,c10,hv,hp⟩:=Itm.parts (x:=x);obtain ⟨d1,d2,d3,d4,d5,d6,d7,d8,d9,d10,hv',hp'⟩:=Itm.parts (x:=y);rw[hv] at it en sm;rw[hv'] at it' en' sm;generalize nl x.E=B at*
 generalize x.t=t at*
 generalize nl y.E=B' at*
 generalize y.t=t' at*
 clear hx hv hy hv';refine zF pl5 Tryz.call5 Tryz.func5 [.tmp 4] fun Q hQ=>?_;refine ae ?_;refine zC aw ?_;refine aB it rfl (LZ hp) ?_;refine ae ?_;refine aB it' rfl (LZ hp') ?_;refine ae ?_;refine aB en (D7 hp) rfl ?_;refine ae ?_;refine aB en' (D7 hp') rfl ?_;refine ae ?_;refine zC rs ?_;refine aB sm (K8 hp hp') rfl ?_;refine Ze ?_;exact ak [] hQ
end Go.Proofs.YtcnlmelpnflhnaaGreat
