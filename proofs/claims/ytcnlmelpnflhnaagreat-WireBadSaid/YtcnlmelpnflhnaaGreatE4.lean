import Derived.Test.YtcnlmelpnflhnaaGreatE3
import Derived.Laws.BytesString
import Derived.Laws.IdiomStrings
import Derived.Test.YtcnlmelpnflhnaaGreatE2
namespace Go.Vx
open Go.Eng
set_option linter.unusedSimpArgs false
set_option linter.unusedVariables false
section
variable {w w':World} {Im:Nat→Prop} {μ:Mu} {σ:St} {ρ:Vg} {ρc:Rg} {P:Program}
theorem x9 {C:List Value} {n i:Nat} {p:PV} (h:(dV C n).flatten[i]? =some p):∃c,C[i%C.length]? =some c∧p=.lit c:=by
 have hz:∀e∈dV C n,e.length=C.length:=fun e he=>by
  unfold dV at he;rw[(amq.1 he).2]
  simp
 have hlt:=get_lt h;rw[eN hz] at hlt;have hn:(dV C n).length=n:=by simp[dV]
 rw[hn] at hlt
 have hC:0<C.length:=by
  rcases akQ C.length with h0 | h0
  · rw[h0] at hlt;omega
  · exact h0
 have e1:i=i/C.length*C.length+i%C.length:=by rw[akC];exact(akO _ _).symm
 have hd:i/C.length<n:=(akR hC).2 hlt
 have hel:(dV C n)[i/C.length]? =some (C.map PV.lit):=by
  unfold dV;rw[amV,if_pos hd]
 rw[e1,lj hz hel (akD _ hC),akX] at h
 cases hc:C[i%C.length]? with
 | none=>rw[hc] at h;cases h
 | some c=>rw[hc] at h;cases h;exact⟨c,rfl,rfl⟩
theorem BI {e:Bool} {t:TypeId} {l c:V} {a b:Value} {K:KV} (r:Rel μ Im σ w) (hl:RepV w Im μ l a) (hc:RepV w Im μ c b) (h:pq P t l c σ K):o9 e μ Im σ w K fun k=>LJ P t a b w k:=by
 intro k hk;unfold pq at h
 split at h
 · rename_i et z hel
   obtain ⟨ht,hz⟩:=cH hel
   split at h
   · rename_i C y hze hby
     unfold ki at h
     split at h
     · rename_i n m
       split at h
       · rename_i hcond
         obtain ⟨h0,rfl,hb,hlt,hy0,hCz⟩:=hcond;obtain ⟨hone,hK⟩:=fc.1 h
         cases hl;cases hc
         obtain ⟨N,rfl⟩:=al3 h0;rw[ak0] at hK
         obtain ⟨ti,hti,hbyt⟩:∃ti,P.info? et=some ti∧ti.bytes=y:=by
          unfold t9 at hby
          cases hi:P.info? et with
          | none=>rw[hi] at hby;cases hby
          | some ti=>rw[hi] at hby;exact⟨ti,rfl,by simpa using hby⟩
         obtain ⟨zv,hzv,hzc⟩:=pv hze;have hzs:zv.cells.size=z:=by rw[←hCz,←hzc];simp
         have fin:∀(Z:Array Value),(N*z≠0→Z=zv.cells)→kr ((do
          let a←newRow et ((Array.range (N*z)).map (Z[· %Z.size]!))
          pure (.slice (some a) N N):Sem Value).run P w) (k true):=by
          intro Z hZ
          obtain ⟨D,hD,hDs⟩:∃D:List Value,(Array.range (N*z)).map (Z[· %Z.size]!)=D.toArray∧∀(i:Nat) c,D[i]? =some c→i<N*z∧zv.cells[i%z]? =some c:=by
           refine⟨(List.range (N*z)).map (Z[· %Z.size]!),by apply Array.toList_inj.1;simp,fun i c hc=>?_⟩;rw[akX] at hc
           have hi:i<N*z:=by
            by_cases hi:i<N*z
            · exact hi
            · rw[alU (by simp;omega)] at hc;cases hc
           refine⟨hi,?_⟩;rw[amj hi] at hc;simp only[ald,Option.some.injEq] at hc
           have hz0:0<z:=by
            rcases akQ z with h | h
            · subst h;simp at hi
            · exact h
           rw[hZ (by omega),hzs] at hc;have hlt2:i%z<zv.cells.size:=by rw[hzs];exact akD _ hz0
           rw[getElem!_pos zv.cells _ hlt2] at hc;rw[alu hlt2,hc]
          have hDl:D.length=N*z:=by
           have:=congrArg Array.size hD
           simpa using this.symm
          rw[hD]
          obtain ⟨σ',μ',e1,e2,e3,e4⟩:=jX (t:=et) (ob:=.row z (dV C N)) r (C:=D) ⟨fun x hx=>by
           unfold dV at hx;rw[(amq.1 hx).2];simp[hCz],.inr ⟨_,D,rfl,iU.new _ _ _,by simp[dV,hDl],fun i c p hc hp=>by
           obtain ⟨c',h1,rfl⟩:=x9 hp;have h2:=(hDs i c hc).2;rw[hCz,←hzc,alD] at h1;rw[h1] at h2
           cases h2
           refine .lit ?_;refine gY hone _ ?_;rw[←hzc];exact ak5 (by rw[alD];exact h1)⟩⟩ hK
          have e5:RepV (w.alloc (.cells D.toArray et)) Im μ' (.sl σ.length z 0 N) (.slice (some ⟨w.heap.size,0,none⟩) N N):=.sl ⟨akk _,by rw[e3];exact⟨fun _=>by simp,by simp[hDl]⟩⟩;exact hk _ _ _ _ _ _ e1 e2 (fun _=>(Ext.refl [] w).alloc _) e5 e4
         unfold LJ runK Instr.makeSlice;simp only[Sem.run_bind,run_underlying ht,Result.andThen_ok,asInt,asIntOf,pure_bind,Go.Eng.run_typeInfo hti,hbyt];have hw:IntKind.i64.wrap (N:Int)=N:=wrap_i64 (by omega)
         have hbig:((y:Int)*(N:Int)>2^48)=False:=by
          rw[Int.mul_comm];simp only[eq_iff_iff,iff_false];omega
         rw[hw]
         have h1:(decide ((N:Int)<0) || decide ((y:Int)*(N:Int)>2^48))=false:=by
          rw[akg (by omega),akg (by rw[hbig];exact id)];rfl
         simp only[h1,amI,amX];rw[if_neg (by simp)]
         have hroomrun:∀(c:Nat) (w:World),(askRoom c).run P w=.ok () w:=fun c w=>by
          unfold askRoom
          split<;>rfl
         simp only[Sem.run_bind,hroomrun,Result.andThen_ok,Go.Eng.run_sizeOf hz,ak0]
         by_cases hz0:N*z=0
         · rw[if_pos hz0]
           exact fin #[] (fun h=>absurd hz0 h)
         · rw[if_neg hz0]
           simp only[Sem.run_bind,iJ hzv,Result.andThen_ok,pure_bind,bind_assoc];exact fin _ (fun _=>rfl)
       · exact h.elim
     · exact h.elim
   · exact h.elim
 · exact h.elim
theorem wZ {v:Value} {n z:Nat} {cs:List Value} {m:List (List PV)} (h:iR w v n z cs) (hm:m.length=n) (hz:∀e∈m,e.length=z) (hr:∀(i:Nat) c p,cs[i]? =some c→m.flatten[i]? =some p→RepP w Im p c):
 ∃loc,(∀b q,loc=some (b,q)→b∈uc v)∧(∀μ,fK w Im μ loc (.row z m))∧∀μ o,μ[o]? =some loc→RepV w Im μ (.sl o z 0 n) v:=by
 obtain ⟨hl,hor⟩:=h;rcases hor with⟨rfl,rfl⟩ | ⟨b,C,cap,rfl,hB,hC,hn,ht⟩
 · have:m=[]:=akx.1 hm
   subst this;exact⟨none,(fun b q e=>by cases e),fun μ=>⟨by simp,.inl ⟨rfl,rfl⟩⟩,fun μ o ho=>.sl ⟨akk _,by rw[ho];exact⟨rfl,rfl,rfl,rfl⟩⟩⟩
 · refine⟨some (b,C.length),(fun b' q e=>by cases e;simp[uc]),fun μ=>⟨hz,.inr ⟨b,C,rfl,hB,?_,fun i c p hc hp=>?_⟩⟩,fun μ o ho=>.sl ⟨hn,by rw[ho];exact⟨fun _=>by simp,by simpa using hC⟩⟩⟩
   · rw[hm]
     exact akE (akI z hn) hC
   · have hi:=get_lt hp
     rw[eN hz,hm] at hi;refine hr i c p ?_ hp;rw[←ht,ak2,if_pos hi];exact hc
theorem xY {l m:List (List PV)} {z i:Nat} {c:Value} {p:PV} {C D:List Value} (hC:C.length=l.length*z) (hz:∀e∈l,e.length=z) (hl:∀(i:Nat) c p,C[i]? =some c→l.flatten[i]? =some p→RepP w Im p c)
 (hm:∀(i:Nat) c p,D[i]? =some c→m.flatten[i]? =some p→RepP w Im p c) (hc:(C++D)[i]? =some c) (hp:(l++m).flatten[i]? =some p):RepP w Im p c:=by
 rw[List.flatten_append] at hp;have hf:=eN hz
 by_cases hi:i<C.length
 · rw[akp hi] at hc
   rw[akp (by omega)] at hp;exact hl i c p hc hp
 · rw[akq (by omega)] at hc
   rw[akq (by omega),hf,←hC] at hp;exact hm _ c p hc hp
theorem Aa {e:Bool} {t tx ty:TypeId} {cst:Array Bool} {u x:V} {a b:Value} {K:KV} (r:Rel μ Im σ w) (hu:RepV w Im μ u a) (hx:RepV w Im μ x b) (h:mW P e t tx u x σ K):o9 e μ Im σ w K fun k=>i9 P .append #[t,tx] ty cst [a,b] w k:=by
 intro k hk;unfold mW at h
 split at h
 · rename_i et z et' zx hel helx
   obtain ⟨ht,hz⟩:=cH hel;obtain ⟨htx,hzx⟩:=cH helx
   split at h
   · rename_i C y hze hby
     split at h
     · rename_i hcond
       obtain ⟨hy0,hCz,rfl⟩:=hcond;obtain ⟨m,ad,cap,D,rfl,hD,hG⟩:=kh r hx h;unfold oD at hG
       split at hG
       · rename_i o z' off len
         split at hG
         · rename_i hc1
           obtain ⟨rfl,rfl,rfl⟩:=hc1;obtain ⟨ob,hob,hG⟩:=cY hG;unfold tT at hG
           split at hG
           · rename_i z'' l
             split at hG
             · rename_i hc2
               obtain ⟨rfl,rfl,hbytes⟩:=hc2;obtain ⟨loc,hloc,hzl,hO⟩:=r.rep _ _ hob
               cases hu with
               | @sl _ _ _ _ capu adu hs=>
                 rw[hloc] at hs;obtain ⟨hlc,hs⟩:=hs
                 obtain ⟨cs,hown,hcr,hfp⟩:∃cs,iR w (.slice adu l.length capu) l.length z'' cs∧(∀(i:Nat) c p,cs[i]? =some c→l.flatten[i]? =some p→RepP w Im p c)∧(∀q∈uc (.slice adu l.length capu),∃n,loc=some (q,n)):=by
                  rcases hO with⟨rfl,rfl⟩ | ⟨bb,CC,rfl,hB,hCl,hr⟩
                  · obtain ⟨rfl,_,rfl,_⟩:=hs
                    exact⟨[],iR.nil _ _,by simp,by simp[uc]⟩
                  · obtain ⟨ha,hn⟩:=hs
                    have ha':=ha (.inr rfl);simp only[alF,akP] at ha' hn;subst ha';refine⟨CC.take (l.length*z''),⟨by simp;omega,.inr ⟨bb,CC,capu,rfl,hB,hn,hlc,rfl⟩⟩,fun i c p hc hp=>?_,fun q hq=>by simp[uc] at hq;subst hq;exact⟨_,rfl⟩⟩;rw[ak2] at hc
                    split at hc
                    · exact hr i c p hc hp
                    · cases hc
                 refine sH (ty:=ty) (cst:=cst) ht htx hz hby hy0 hze hCz hown hD.row hD.len hD.one (by omega) fun v' w' hv' hE hF=>?_
                 have hEl:Ext (live μ σ) w w':=hE.mono (fun q hq=>by
                  obtain ⟨n,rfl⟩:=hfp q hq;exact .inl (aJ.2 ⟨o,n,_,hloc,hob⟩))
                 have mn:Mono μ Im w μ Im w':=⟨alk _,fun _ h=>h,fun q hq=>hEl.block q (r.im q hq).1 (r.im q hq).2⟩;obtain ⟨loc',k1,k2,k3⟩:=wZ (Im:=Im) (m:=l++m) hv' (by simp) (fun e he=>(alK.1 he).elim (hzl e) (hD.siz e)) (fun i c p hc hp=>(xY hown.1 hzl hcr hD.rep hc hp).mono mn)
                 obtain ⟨r',s'⟩:=r.renew (loc':=loc') (ob':=.row z'' (l++m)) hob hloc hEl (fun c hc hne=>by
                  obtain ⟨_,_,_,hc1,hc2⟩:=aJ.1 hc;exact hE.block c (r.lt hc) (fun hm=>by obtain ⟨n,e⟩:=hfp c hm;exact hne n e)) (fun b q e=>by
                  rcases hF b (k1 b q e) with h | h
                  · exact .inl (hfp b h)
                  · exact .inr h) (k2 _)
                 refine hk _ _ _ _ _ _ r' s' (fun h=>by cases h) (k3 _ _ ?_) hG;rw[bH,if_neg (by simp[r.len]),if_pos (by simp[r.len])]
             · exact hG.elim
           · exact hG.elim
         · exact hG.elim
       · split at hG
         · rename_i hbytes
           cases hu
           refine sH (ty:=ty) (cst:=cst) ht htx hz hby hy0 hze hCz (iR.nil w _) hD.row hD.len hD.one (by rw[akP];exact hbytes) fun v' w' hv' hE hF=>?_;have hE':Ext [] w w':=hE.mono (by simp[uc]);have mn:Mono μ Im w μ Im w':=⟨alk _,fun _ h=>h,fun q hq=>hE'.block q (r.im q hq).1 (by simp)⟩;rw[aln,akP] at hv';obtain ⟨loc',k1,k2,k3⟩:=wZ (Im:=Im) (m:=m) hv' rfl hD.siz (fun i c p hc hp=>(hD.rep i c p hc hp).mono mn)
           obtain ⟨r',s'⟩:=r.add (loc:=loc') (ob:=.row zx m) hE' (fun b q e=>by
            rcases hF b (k1 b q e) with h | h
            · simp[uc] at h
            · exact h) (k2 _)
           refine hk _ _ _ _ _ _ r' s' (fun _=>hE') (k3 _ _ ?_) hG;rw[bH,if_neg (by simp[r.len]),if_pos (by simp[r.len])]
         · exact hG.elim
       · split at hG
         · rename_i z' l hc1
           obtain ⟨rfl,hm0,hbytes⟩:=hc1
           cases hu with
           | @xrow _ len _ adu hp=>
             cases hp with
             | @row _ _ _ _ _ CC hl hcap hzl hR hI hn ho hr=>
               subst hl;refine wy (ty:=ty) (cst:=cst) (n:=l.length) (m:=m.length) ht htx hz hby hy0 hze hCz hR hn hD.row hD.len hD.one (by omega) (by omega) fun v' w' hv' hE' hF=>?_;have mn:Mono μ Im w μ Im w':=⟨alk _,fun _ h=>h,fun q hq=>hE'.block q (r.im q hq).1 (by simp)⟩;obtain ⟨loc',k1,k2,k3⟩:=wZ (Im:=Im) (m:=l++m) hv' (by simp) (fun e he=>(alK.1 he).elim (hzl e) (hD.siz e)) (fun i c p hc hp=>(xY hn hzl hr hD.rep hc hp).mono mn);obtain ⟨r',s'⟩:=r.add (loc:=loc') (ob:=.row z' (l++m)) hE' (fun b q e=>hF b (k1 b q e)) (k2 _);refine hk _ _ _ _ _ _ r' s' (fun _=>hE') (k3 _ _ ?_) hG;rw[bH,if_neg (by simp[r.len]),if_pos (by simp[r.len])]
         · exact hG.elim
       · exact hG.elim
     · exact h.elim
   · exact h.elim
 · exact h.elim
theorem r6 {t:TypeId} (h:zn P t=true):∃e,P.underlying t=some (.slice e)∧P.underlying e=some (.int .u8):=by
 unfold zn at h
 split at h
 · rename_i e he
   split at h
   · rename_i h1 h2;exact⟨e,he,h1⟩
   · cases h
 · cases h
theorem tD:∀{m:List (List PV)} {G:List UInt8→Prop} {C:List Value},Mc m G→C.length=m.length→(∀(i:Nat) c p,C[i]? =some c→m.flatten[i]? =some p→RepP w Im p c)→∃ns:List Int,C=ns.map (Value.int .u8)∧G (ns.map fun n=>UInt8.ofNat n.toNat)
 | [],G,C,h,hl,_=>⟨[],akx.1 (by simpa using hl),h⟩
 | e::m,G,C,h,hl,hr=>by
   unfold Mc at h
   split at h
   · rename_i heq;cases heq
   · rename_i n r heq
     cases heq
     cases C with
     | nil=>simp at hl
     | cons c C=>
       have h0:=hr 0 c (.lit (.int .u8 n)) rfl (by simp)
       cases h0
       obtain ⟨ns,rfl,hG⟩:=tD h (by simpa using hl) (fun i c p h1 h2=>hr (i+1) c p (by simpa using h1) (by simpa using h2));exact⟨n::ns,rfl,hG⟩
   · exact h.elim
theorem s5:∀(ns:List Int) (s:List UInt8),ns.foldl (fun(r:ByteArray) n=>r.push (UInt8.ofNat n.toNat)) (bs s)=bs (s++ns.map fun n=>UInt8.ofNat n.toNat)
 | [],s=>by simp
 | n::ns,s=>by
   have e:(bs s).push (UInt8.ofNat n.toNat)=bs (s++[UInt8.ofNat n.toNat]):=by
    unfold bs ByteArray.push
    simp
   rw[List.foldl_cons,e,s5 ns]
   simp
theorem s8 {s t:TypeId} {u:V} {a:Value} {F:FV} (r:Rel μ Im σ w) (hu:RepV w Im μ u a) (h:gC P s t u σ F):∃u' v',RepV w Im μ u' v'∧F true u'∧∀w',Ext [] w w'→∀k:Kv,tL P s t a w' k=k true v' w':=by
 unfold gC at h
 split at h
 · rename_i hc
   obtain ⟨e,hs,he⟩:=r6 hc.1;have ht:=fX hc.2;obtain ⟨m,ad,cap,C,rfl,hR,hG⟩:=kh r hu h;obtain ⟨ns,hC,hF⟩:=tD hG (by rw[hR.len,al9]) hR.rep;refine⟨_,_,.lit rfl,hF,fun w' hx k=>?_⟩;have hlen:ns.length=m.length:=by have:=hR.len;rw[hC] at this;simpa using this
   have hbs:(Conv.bytesToString (.slice ad m.length cap)).run P w'=.ok (.string (bs (ns.map fun n=>UInt8.ofNat n.toNat))) w':=by
    cases ad with
    | none=>
      have:ns=[]:=by
       cases ns with
       | nil=>rfl
       | cons n ns=>
         have:=hR.row.1 (by rw[hC];simp)
         cases this
      subst this
      rfl
    | some x=>
      have hrow:=hR.row.ext' hx
      have hld:(loadCells x m.length).run P w'=.ok (ns.map (Value.int .u8)).toArray w':=by
       cases ns with
       | nil=>
         have:m.length=0:=by simpa using hlen.symm
         rw[this]
         rfl
       | cons n ns=>
         have ha:=hrow.1 (by rw[hC];simp);have h2:=Go.Eng.run_loadCells (P:=P) (cs:=C) (b:=ab (some x)) (o:=ao (some x)) (fun i hi=>hrow.2 i hi);have hx':x=⟨ab (some x),ao (some x),none⟩:=Option.some.inj ha;rw[←hx',hC] at h2;rw[←hlen];simpa using h2
      rw[run_bytesToString w' x m.length cap ns hld]
      have:=s5 ns []
      simp only[aln] at this;exact congrArg (fun z=>Result.ok (Value.string z) w') this
   unfold tL runK convert;simp only[Sem.run_bind,run_underlying hs,run_underlying ht,Result.andThen_ok,run_underlying he,hbs]
   rfl
 · obtain ⟨u',v',h1,h2,h3⟩:=r8 hu h
   exact⟨u',v',h1,h2,fun w' _ k=>h3 w' k⟩
theorem Rel.grow (r:Rel μ Im σ w) (hx:Ext [] w w') {b:Nat} (h1:w.heap.size≤b) (h2:b<w'.heap.size):Rel μ (fun c=>Im c∨c=b) σ w'∧Stp μ Im σ w μ (fun c=>Im c∨c=b) σ w':=by
 have hm:Mono μ Im w μ (fun c=>Im c∨c=b) w':=⟨alk _,fun _ h=>.inl h,fun b hb=>hx.block b (r.im b hb).1 (by simp)⟩;refine⟨⟨r.len,fun o ob h=>?_,r.inj,fun c hc=>?_,r.lay.mono hm⟩,⟨alk _,fun _ h=>.inl h,hx.mono (by simp),fun _ h=>.inl h,fun c hc=>?_⟩⟩
 · obtain ⟨loc,h1,h2⟩:=r.rep o ob h
   refine⟨loc,h1,h2.mono hm (fun b n e=>?_)⟩;subst e;exact hx.block b (r.lt (aJ.2 ⟨o,n,ob,h1,h⟩)) (by simp)
 · rcases hc with hc | rfl
   · exact⟨akT (r.im c hc).1 hx.size,(r.im c hc).2⟩
   · exact⟨h2,fun hl=>by have:=r.lt hl;omega⟩
 · rcases hc with hc | rfl
   · exact .inl hc
   · exact .inr (.inr h1)
theorem Cm {e:Bool} {s t:TypeId} {u:V} {a:Value} {K:KV} (r:Rel μ Im σ w) (hu:RepV w Im μ u a) (h:og P s t u σ K):o9 e μ Im σ w K fun k=>tL P s t a w k:=by
 intro k hk;unfold og at h
 split at h
 · rename_i hc
   split at h
   · rename_i b
     cases hu
     obtain ⟨el,ht,he⟩:=r6 hc.2;unfold tL runK;rw[run_bytes_of_string w s t el b (fX hc.1) ht he];have hcap:=grownCap_ge w b.size 0 el;generalize grownCap w b.size 0 el=cap at*
     have hsz:b.data.toList.length=b.size:=amk;have hE:Ext [] w (w.drew.alloc (.cells (bytesRow b cap) el ((bytesRow b cap).size,(bytesRow b cap).size+1))):=(Ext.refl [] w).drew.alloc _;have hnew:(w.drew.alloc (.cells (bytesRow b cap) el ((bytesRow b cap).size,(bytesRow b cap).size+1))).heap[w.heap.size]? =some (.cells (bytesRow b cap) el ((bytesRow b cap).size,(bytesRow b cap).size+1)):=heap_alloc_new w.drew _
     have hlt:w.heap.size<(w.drew.alloc (.cells (bytesRow b cap) el ((bytesRow b cap).size,(bytesRow b cap).size+1))).heap.size:=by
      show w.heap.size<(w.heap.push _).size;rw[Array.size_push];omega
     generalize w.drew.alloc (.cells (bytesRow b cap) el ((bytesRow b cap).size,(bytesRow b cap).size+1))=w2 at*
     obtain ⟨r',s'⟩:=r.grow hE (akk _) hlt
     have hrow:Row w2 (some ⟨w.heap.size,0,none⟩) (b.data.toList.map fun x=>Value.int .u8 (x.toNat:Int)):=by
      refine⟨fun _=>rfl,fun i hi=>?_⟩;rw[aki] at hi;unfold World.cell?;simp only[ab,ao,ald,amQ,akP]
      show(match w2.heap[w.heap.size]? with | some (.cells c _ _)=>_ | _=>none)=_
      rw[hnew];simp only[Option.isSome_none,ala,if_false];unfold bytesRow;have hi2:i<b.data.size:=by simpa using hi
      rw[Array.getElem?_append_left (by simpa using hi2)];rw[Array.getElem?_map,alu hi2,List.getElem_map,Array.getElem_toList]
      rfl
     refine hk _ _ _ _ _ _ r' s' (fun _=>hE) (.row (.row (a:=some ⟨w.heap.size,0,none⟩) (C:=b.data.toList.map fun x=>Value.int .u8 (x.toNat:Int)) (by rw[aki,hsz]) hcap (fun e he=>by
      obtain ⟨x,_,rfl⟩:=alb.1 he
      rfl) hrow (fun _=>.inr rfl) (by rw[aki,hsz,al9]) (fun c hc=>by
      obtain ⟨x,_,rfl⟩:=alb.1 hc
      rfl) fun i c p h1 h2=>?_)) h
     have hfl:(b.data.toList.map fun x=> [PV.lit (.int .u8 (x.toNat:Int))]).flatten=b.data.toList.map fun x=>PV.lit (.int .u8 (x.toNat:Int)):=by
      induction b.data.toList with
      | nil=>rfl
      | cons x l ih=>simp[ih]
     rw[hfl,akX] at h2;rw[akX] at h1
     cases hx:b.data.toList[i]? with
     | none=>rw[hx] at h1;cases h1
     | some x=>
       rw[hx] at h1 h2
       cases h1;cases h2
       exact .lit rfl
   · exact h.elim
 · obtain ⟨u',v',h4,h5,h6⟩:=s8 r hu h
   rw[h6 w (Ext.refl _ _)];exact hk _ _ _ _ _ _ r (Stp.refl _ _ _ _) (fun _=>Ext.refl _ _) h4 h5
end
end Go.Vx
namespace Go.Vx
open Go.Eng
set_option linter.unusedSimpArgs false
set_option linter.unusedVariables false
section
variable {w w':World} {Im:Nat→Prop} {μ:Mu} {σ:St} {ρ:Vg} {ρc:Rg} {P:Program}
theorem sB {t tx et ty:TypeId} {cst:Array Bool} {a ad:Option Addr} {n c cap z:Nat} {k:Kv} (ht:P.underlying t=some (.slice et)) (hz:cU P et=some z):i9 P .copy #[t,tx] ty cst [.slice a n c,.slice ad 0 cap] w k=k true (.int .i64 (0:Nat)) w:=by
 have hrun:(Builtin.copy_ #[t,tx] ty #[.slice a n c,.slice ad 0 cap]).run P w=.ok (.int .i64 (0:Nat)) w:=by
  unfold Builtin.copy_;have hmin:Nat.min 0 n=0:=alh (akF _);simp only[alp,alW,amh,Sem.run_bind,run_underlying ht,Result.andThen_ok,Go.Eng.run_sizeOf hz,Builtin.lenOf,pure_bind,hmin]
  have hf:(Builtin.firstCells z 0 (.slice ad 0 cap)).run P w=.ok #[] w:=by
   have:=dy (P:=P) (w:=w) (a:=ad) (n:=0) (z:=z) (len:=0) (cap:=cap) (Row.nil w ad) (by simp) (by simp)
   simpa using this
  rw[hf]
  cases a<;>rfl
 unfold i9 gI runK builtin;simp only[Sem.run_bind,hrun,Result.andThen_ok]
 rfl
theorem JE {α:Type} {l:List α} {i:Nat} {x:α} (h:l[i]? =some x):l.set i x=l:=by
 apply List.ext_getElem?;intro j
 by_cases e:i=j
 · subst e;rw[aml (get_lt h),h]
 · rw[alr e]
theorem Ch {t tx ty:TypeId} {cst:Array Bool} {u x:V} {a b:Value} {K:KV} (r:Rel μ Im σ w) (hu:RepV w Im μ u a) (hx:RepV w Im μ x b) (h:AQ P t tx u x σ K):o9 false μ Im σ w K fun k=>i9 P .copy #[t,tx] ty cst [a,b] w k:=by
 intro k hk;unfold AQ at h
 split at h
 · rename_i et z et' zx hel helx
   obtain ⟨ht,hz⟩:=cH hel
   split at h
   · rename_i e
     subst e;obtain ⟨m,ad,cap,D,rfl,hD,hG⟩:=kh r hx h;unfold Ed at hG
     split at hG
     · rename_i o z' off len
       split at hG
       · rename_i hc
         obtain ⟨rfl,hml⟩:=hc;obtain ⟨ob,hob,hG⟩:=cY hG;unfold JN at hG
         split at hG
         · rename_i z'' l
           split at hG
           · rename_i hc2
             obtain ⟨rfl,hle⟩:=hc2
             cases hu with
             | @sl _ _ _ _ capu adu hs=>
               obtain ⟨hlc,hs⟩:=hs
               by_cases hm0:m.length=0
               · have:m=[]:=akx.1 hm0
                 subst this;have e1:(l.take off++[]++l.drop (off+([]:List (List PV)).length))=l:=by simp
                 rw[e1,JE hob] at hG;have e2:([]:List (List PV)).length=0:=rfl;rw[e2] at hG ⊢;rw[sB ht hz];exact hk _ _ _ _ _ _ r (Stp.refl _ _ _ _) (fun h=>by cases h) (.lit rfl) hG
               · obtain ⟨loc,hloc,hzl,hO⟩:=r.rep _ _ hob
                 rw[hloc] at hs;rcases hO with⟨rfl,rfl⟩ | ⟨bb,CC,rfl,hB,hCl,hr⟩
                 · obtain ⟨_,h0,_⟩:=hs;omega
                 · obtain ⟨ha,hn⟩:=hs
                   have ha':=ha (.inl (by omega));subst ha';have hmz:off*z''+m.length*z''≤l.length*z'':=by rw[←akA];exact akI z'' (by omega)
                   have hDl:=hD.len;rw[Fj (P:=P) ht hz hB hD.row hD.len hD.one hml (by omega)]
                   have hE:Ext [bb] w (if D=[] then w else eE w bb (dz CC (off*z'') D)):=by
                    split
                    · exact Ext.refl _ _
                    · exact jG _ _ _
                   have hlive:bb∈live μ σ:=aJ.2 ⟨o,_,_,hloc,hob⟩
                   have mn:Mono μ Im w μ Im (if D=[] then w else eE w bb (dz CC (off*z'') D)):=⟨alk _,fun _ h=>h,fun q hq=>hE.block q (r.im q hq).1 (by
                    simp only[ak1];intro e;subst e;exact(r.im q hq).2 hlive)⟩
                   have hB':iU (if D=[] then w else eE w bb (dz CC (off*z'') D)) bb (dz CC (off*z'') D):=by
                    split
                    · rename_i e;subst e;simpa [dz] using hB
                    · exact gi hB
                   have hlen:(dz CC (off*z'') D).length=CC.length:=gF _ _ _
                   have hzm:∀e∈l.take off++m++l.drop (off+m.length),e.length=z'':=by
                    intro e he;simp only[alK] at he;rcases he with(he | he) | he
                    · exact hzl e (akt he)
                    · exact hD.siz e he
                    · exact hzl e (alP he)
                   have hflat:(l.take off++m++l.drop (off+m.length)).flatten=l.flatten.take (off*z'')++m.flatten++l.flatten.drop (off*z''+m.length*z''):=by
                    rw[List.flatten_append,List.flatten_append,lJ off hzl,lC _ hzl,akA]
                   have hlf:=eN hzl;have hmf:=eN hD.siz
                   obtain ⟨r',s'⟩:=r.upd (ob':=.row z'' (l.take off++m++l.drop (off+m.length))) hob hloc hE ⟨hzm,.inr ⟨bb,dz CC (off*z'') D,by rw[hlen],hB',by
                    rw[hlen]
                    have:(l.take off++m++l.drop (off+m.length)).length=l.length:=by simp;omega
                    rw[this];exact hCl,fun i c p hc hp=>by
                    rw[jk _ _ _ _ (by omega)] at hc;rw[hflat] at hp
                    by_cases h1:i<off*z''
                    · rw[if_neg (by omega)] at hc
                      rw[akl,akp (by simp only[akr,ake,akW];omega),ak2,if_pos h1] at hp;exact(hr i c p hc hp).mono mn
                    · by_cases h2:i<off*z''+m.length*z''
                      · rw[if_pos (by omega)] at hc
                        rw[akl,akq (by simp only[akr,ake,akW];omega),akp (by simp only[akr,ake,akW];omega)] at hp;refine(hD.rep _ c p hc ?_).mono mn;rw[←hp]
                        congr 1
                        simp only[akr,ake,akW];omega
                      · rw[if_neg (by omega)] at hc
                        rw[akl,akq (by simp only[akr,ake,akW];omega),akq (by simp only[akr,ake,akW];omega),ak8] at hp;refine(hr i c p hc ?_).mono mn;rw[←hp]
                        congr 1
                        simp only[akr,ake,akW];omega⟩⟩
                   exact hk _ _ _ _ _ _ r' s' (fun h=>by cases h) (.lit rfl) hG
           · exact hG.elim
         · exact hG.elim
       · exact hG.elim
     · exact hG.elim
   · exact h.elim
 · exact h.elim
theorem zU {t et ty:TypeId} {z:Nat} {cst:Array Bool} {u:V} {a:Value} {F:FV} (hel:fC P t=some (et,z)) (hu:RepV w Im μ u a) (h:fL u F):Comes w Im μ F fun w' k=>i9 P .len #[t] ty cst [a] w' k:=by
 obtain ⟨ht,_⟩:=cH hel;unfold fL at h
 split at h
 · cases hu with
   | row hp=>cases hp with
     | row hl _ _ _ _ _ _ _=>subst hl;exact⟨_,_,.lit rfl,h,fun _ _=>fG ht⟩
 · cases hu with
   | xrow hp=>cases hp with
     | row hl _ _ _ _ _ _ _=>subst hl;exact⟨_,_,.lit rfl,h,fun _ _=>fG ht⟩
 · cases hu with
   | sl _=>exact⟨_,_,.lit rfl,h,fun _ _=>fG ht⟩
 · cases hu
   exact⟨_,_,.lit rfl,h,fun _ _=>fG ht⟩
 · exact h.elim
theorem AW {t ty:TypeId} {cst:Array Bool} {u:V} {a:Value} {F:FV} (hu:RepV w Im μ u a) (h:yI P t u F):Comes w Im μ F fun w' k=>i9 P .len #[t] ty cst [a] w' k:=by
 unfold yI at h
 split at h
 · rename_i s
   split at h
   · rename_i hst
     have ht:=fX hst
     cases hu
     refine⟨_,_,.lit rfl,h,fun w' k=>?_⟩;dsimp only;unfold i9 gI runK builtin Builtin.len_;simp only[Sem.run_bind,List.getElem?_toArray,List.getElem?_cons_zero];simp only[run_underlying ht,Result.andThen_ok]
     rfl
   · exact h.elim
 · split at h
   · rename_i ez hel
     exact zU (et:=ez.1) (z:=ez.2) hel hu h
   · exact h.elim
theorem Comes.runs {e:Bool} {K:KV} {op:World→Kv→Prop} (r:Rel μ Im σ w) (h:Comes w Im μ (fun τ u=>K τ u σ) op):o9 e μ Im σ w K fun k=>op w k:=by
 intro k hk;obtain ⟨u,v,h1,h2,h3⟩:=h;rw[h3];exact hk _ _ _ _ _ _ r (Stp.refl _ _ _ _) (fun _=>Ext.refl _ _) h1 h2
theorem pK {e:Bool} {f:Nat} {us:List V} {vs:List Value} {K:KV} (r:Rel μ Im σ w) (hr:bd w Im μ us vs) (h:dT P e f us σ K):o9 e μ Im σ w K fun k=>mh P f vs.toArray w k:=by
 intro k hk;exact Ge (h μ Im w vs r hr) fun v w' ⟨u,σ',μ',Im',h1,h2,h3,h4,h5⟩=>hk _ _ _ _ _ _ h1 h2 h3 h4 h5
theorem BP {e:Bool} {b:Builtin} {al:List TypeId} {ty:TypeId} {cst:Array Bool} {us:List V} {vs:List Value} {K:KV} (r:Rel μ Im σ w) (h4:bd w Im μ us vs) (h5:eL P e b al us σ K):o9 e μ Im σ w K fun k=>i9 P b al.toArray ty cst vs w k:=by
 unfold eL at h5
 split at h5
 · obtain ⟨v,vs',rfl,q1,q2⟩:=h4.uncons
   have:vs'=[]:=akx.1 (by simpa using q2.1)
   subst this;exact(AW q1 h5).runs r
 · obtain ⟨v,vs',rfl,q1,q2⟩:=h4.uncons
   obtain ⟨v2,vs',rfl,q3,q4⟩:=q2.uncons
   have:vs'=[]:=akx.1 (by simpa using q4.1)
   subst this;exact Aa r q1 q3 h5
 · obtain ⟨v,vs',rfl,q1,q2⟩:=h4.uncons
   obtain ⟨v2,vs',rfl,q3,q4⟩:=q2.uncons
   have:vs'=[]:=akx.1 (by simpa using q4.1)
   subst this
   cases e with
   | true=>exact(h5:False).elim
   | false=>exact Ch r q1 q3 h5
 · exact(uE h4 h5).runs r
 · exact(vh h4 h5).runs r
 · exact h5.elim
theorem G6 {t:TypeId} {name:String} {f:FuncId} {i:IntKind} {a:Int} {args:Array Value} (h:Mo P t name=some f) (w':World):(callMethod (.iface t (.int i a)) name args).run P w'=(callFunc f (#[.int i a]++args)).run P w':=by
 unfold Mo at h
 split at h
 · rename_i info hi
   split at h
   · rename_i m hm
     split at h
     · rename_i f' kk hp hf hu
       injection h with h;subst h;obtain ⟨nm,sig,path,func⟩:=m;dsimp only at hp hf
       have hpe:path=#[]:=by
        have:=congrArg List.toArray hp
        simpa using this
       subst hpe hf
       have hrun:∀n,(method (n+1) t (.int i a) name).run P w'=.ok (f',.int i a) w':=fun n=>by
        unfold method;rw[Sem.run_bind,Go.Eng.run_typeInfo hi,Result.andThen_ok];simp only[hm];rw[Sem.run_bind]
        show((follow [] t (Place.val (.int i a))).run P w').andThen _=_
        show((Result.ok (t,Place.val (.int i a)) w'):Result (TypeId×Place)).andThen _=_
        rw[Result.andThen_ok];dsimp only;rw[Sem.run_bind]
        have hrec:∀o,(receiverAt t (Place.val (.int i a)) false o).run P w'=.ok (.int i a) w':=fun o=>by
         unfold receiverAt;rw[Sem.run_bind,run_underlying hu,Result.andThen_ok]
         rfl
        rw[hrec,Result.andThen_ok]
        rfl
       have hpos:0<Made.depth:=by decide
       obtain ⟨n,hn⟩:∃n,P.types.size+Made.depth=n+1:=⟨P.types.size+Made.depth-1,by omega⟩;unfold callMethod;rw[Sem.run_bind]
       show((Result.ok P w':Result Program)).andThen _=_
       rw[Result.andThen_ok,Sem.run_bind,hn,hrun,Result.andThen_ok]
     · cases h
   · cases h
 · cases h
theorem AO {e:Bool} {u:V} {a:Value} {name:String} {us:List V} {vs:List Value} {K:KV} (r:Rel μ Im σ w) (hu:RepV w Im μ u a) (hr:bd w Im μ us vs) (h:p9 P e u name us σ K):o9 e μ Im σ w K fun k=>gI P (callMethod a name vs.toArray) w k:=by
 unfold p9 at h
 split at h
 · split at h
   · rename_i hf
     cases hu
     intro k hk;have h2:=pK r (.cons (.lit rfl) hr) h k hk;have h3:=lp h2;unfold gI runK at h3 ⊢;rw[G6 hf];have e:∀(v:Value),#[v]++vs.toArray=(v::vs).toArray:=fun v=>by simp
     rw[e];exact h3
   · exact h.elim
 · exact h.elim
set_option maxHeartbeats 2000000 in
theorem jH {τ e:Bool} {o:Oper} {K:KV} (r:Rel μ Im σ w) (hg:ei w Im μ ρ ρc) (h:eK τ e P o ρ σ K):o9 e μ Im σ w K fun k=>pd true P o ρc w k:=by
 obtain ⟨d,op,ty,pos,af,g⟩:=o;have plain:iT τ P ⟨d,op,ty,pos,af,g⟩ ρ (fun τ u=>K τ u σ)→o9 e μ Im σ w K fun k=>pd true P ⟨d,op,ty,pos,af,g⟩ ρc w k:=fun h=>(mM hg h).runs r;unfold eK at h
 cases op with
 | alloc t=>exact Ce r h
 | box t x=>
   intro k hk;obtain ⟨u,a,h1,h2,h3⟩:=aY hg h;show dA ρc x fun v=>SH P t v w k;rw[h3];exact Bu r h1 h2 k hk
 | build t ps=>
   intro k hk;obtain ⟨js,us,vs,h0,h1,h2,h3⟩:=iD hg h;show rG ρc ps.toList fun vs=>QB P t vs w k;rw[h3];exact(sb h0 h1 h2).runs r k hk
 | buildSlice t n ps=>
   intro k hk;obtain ⟨js,us,vs,h0,h1,h2,h3⟩:=iD hg h;show rG ρc ps.toList fun vs=>tZ P t n vs w k;rw[h3];exact Ao r h0 h1 h2 k hk
 | load t x=>
   intro k hk;obtain ⟨u,a,h1,h2,h3⟩:=aY hg h;show dA ρc x fun v=>dI P t v w k;rw[h3];obtain ⟨u',v',h4,h5,h6⟩:=jx r h1 h2;rw[h6];exact hk _ _ _ _ _ _ r (Stp.refl _ _ _ _) (fun _=>Ext.refl _ _) h4 h5
 | slice t x lo hi mx=>
   intro k hk;obtain ⟨u,a,h1,h2,h3⟩:=aY hg h;obtain ⟨ul,al,l1,l2,l3⟩:=fb hg h2;obtain ⟨uh,ah,i1,i2,i3⟩:=fb hg l2;obtain ⟨um,am,m1,m2,m3⟩:=fb hg i2;obtain ⟨u',v',h4,h5,h6⟩:=qJ r h1 l1 i1 m1 m2;have h7:∀w' (k:Kv),kU P t a al ah am w' k=k true v' w':=h6;show dA ρc x fun v'=>jJ ρc lo fun lo=>jJ ρc hi fun hi=>jJ ρc mx fun mx=>kU P t v' lo hi mx w k;rw[h3,l3,i3,m3,h7];exact hk _ _ _ _ _ _ r (Stp.refl _ _ _ _) (fun _=>Ext.refl _ _) h4 h5
 | convert s t x=>
   intro k hk;obtain ⟨u,a,h1,h2,h3⟩:=aY hg h;show dA ρc x fun v=>tL P s t v w k;rw[h3];exact Cm r h1 h2 k hk
 | store t x y=>
   intro k hk;obtain ⟨u,a,h1,h2,h3⟩:=aY hg h;obtain ⟨u',a',h4,h5,h6⟩:=aY hg h2
   cases e with
   | true=>
     show dA ρc x fun a=>dA ρc y fun v=>iI P t a v w fun τ w'=>k τ undef w';rw[h3,h6];obtain ⟨q1,q2⟩:=EB r h1 h4 h5;rw[q2];exact hk _ _ _ _ _ _ r (Stp.refl _ _ _ _) (fun _=>Ext.refl _ _) (.tup (C:=[]) rfl (fun i u c h=>by simp at h)) q1
   | false=>
     show dA ρc x fun a=>dA ρc y fun v=>iI P t a v w fun τ w'=>k τ undef w';rw[h3,h6];obtain ⟨w',σ',q1,q2,q3,q4⟩:=uH r h1 h4 h5;rw[q4];exact hk _ _ _ _ _ _ q1 q2 (fun h=>by cases h) (.tup (C:=[]) rfl (fun i u c h=>by simp at h)) q3
 | makeFunc fn first captured=>
   intro k hk;dsimp only at h
   split at h
   · rename_i f hf
     obtain ⟨us,vs,h1,h2,h3⟩:=dW hg h;show iA ρc first.toList fun f'=>iA ρc captured.toList fun c=>k true (.func (.func f) f'.toArray c.toArray) w;rw[hf];show iA ρc captured.toList fun c=>k true (.func (.func f) #[] c.toArray) w;rw[h3];exact hk _ _ _ _ _ _ r (Stp.refl _ _ _ _) (fun _=>Ext.refl _ _) (.clo h1.1 h1.2) h2
   · exact h.elim
 | makeSlice t l c=>
   intro k hk;obtain ⟨u,a,h1,h2,h3⟩:=aY hg h;obtain ⟨u',a',h4,h5,h6⟩:=aY hg h2;show dA ρc l fun l=>dA ρc c fun c=>LJ P t l c w k;rw[h3,h6];exact BI r h1 h4 h5 k hk
 | call c=>
   obtain ⟨callee,args,ats⟩:=c;intro k hk;dsimp only at h
   cases callee with
   | value f=>
     obtain ⟨u,a,h1,h2,h3⟩:=aY hg h;obtain ⟨us,vs,h4,h5,h6⟩:=dW hg h2;show dA ρc f fun f=>iA ρc args.toList fun args=>match f with | .func (.func g) first captured=>mh P g (first++args.toArray++captured) w k | _=>False
     rw[h3,h6];unfold OM at h5
     split at h5
     · cases h1 with
       | @clo f l C hn hr=>
         have e:(#[]++vs.toArray++C.toArray:Array Value)=(vs++C).toArray:=by simp
         show mh P _ (#[]++vs.toArray++C.toArray) w k;rw[e];exact pK r (h4.append ⟨hn,hr⟩) h5 k hk
     · exact h5.elim
   | builtin b=>
     obtain ⟨us,vs,h4,h5,h6⟩:=dW hg h;have hargs:args=args.toList.toArray:=by simp
     have hats:ats=ats.toList.toArray:=by simp
     rw[hargs,yj,h6];generalize args.toList=al at*
     generalize ats.toList=tl at*
     subst hats;exact BP r h4 h5 k hk
   | invoke rc name=>
     obtain ⟨u,a,h1,h2,h3⟩:=aY hg h;obtain ⟨us,vs,h4,h5,h6⟩:=dW hg h2;show dA ρc rc fun r=>iA ρc args.toList fun args=>gI P (callMethod r name args.toArray) w k;rw[h3,h6];exact AO r h1 h4 h5 k hk
 | _=>dsimp only at h;exact plain h
end
end Go.Vx
namespace Go.Vx
open Go.Eng
set_option linter.unusedSimpArgs false
set_option linter.unusedVariables false
abbrev Pi:=List (Option Nat)
def vZ (ob:Ob) (z off len:Nat) (l:List (List PV)):Prop:=match ob with
 | .row z'' l'=>z=z''∧off+len≤l'.length∧l=(l'.drop off).take len
 | _=>False
def tP0 (ok:Nat→Bool) (σ:St):V→PV→Prop
 | .lit v,.lit v'=>v'=v
 | .lit v,.row _ l=>v=.slice none 0 0∧l=[]
 | .row z l,.row z' l'=>z'=z∧l'=l
 | .xrow z l,.row z' l'=>z'=z∧l'=l
 | .sl o z off len,.row z' l=>z'=z∧ok o=true∧oI σ o fun ob=>vZ ob z off len l
 | .rref z l i off,.ptr z' l' i' off'=>z'=z∧l'=l∧i'=i∧off'=off
 | _,_=>False
def GU (f:V→PV→Prop):List V→List PV→Prop
 | [],[]=>True
 | u::us,p::ps=>f u p∧GU f us ps
 | _,_=>False
def tO (f:V→PV→Prop) (z:Nat) (l:List (List PV)) (i off z' i' off':Nat):Ob→Prop
 | .cells us=>(match l with | [ps]=>z=ps.length∧i=0∧off=vj z' i' off'∧GU f us ps | _=>False)
 | .row z'' L=>z=z'∧z''=z'∧l=L∧i=i'∧off=off'
def Px (f:V→PV→Prop) (z:Nat):List V→List (List PV)→Prop
 | _,[]=>True
 | us,e::l=>z≤us.length∧GU f (us.take z) e∧Px f z (us.drop z) l
def tR (f:V→PV→Prop) (z off len:Nat) (l:List (List PV)):Ob→Prop
 | .cells us=>off=0∧l.length=len∧Px f z us l
 | .row z'' L=>vZ (.row z'' L) z off len l
def GP (ok:Nat→Bool) (σ:St):Nat→V→PV→Prop
 | 0,u,p=>tP0 ok σ u p
 | n+1,u,p=>(match u,p with
   | .ref o z' i' off',.ptr z l i off=>ok o=true∧oI σ o fun ob=>tO (GP ok σ n) z l i off z' i' off' ob
   | .sl o z off len,.row z' l=>z'=z∧ok o=true∧oI σ o fun ob=>tR (GP ok σ n) z off len l ob
   | u,p=>tP0 ok σ u p)
mutual
def mV (ok:Nat→Bool) (π:Pi) (σ:St):V→V→Prop
 | .lit v,u=>u=.lit v
 | .row z l,u=>(match u with
   | .row z' l'=>z=z'∧l=l'
   | .xrow z' l'=>z=z'∧l=l'
   | .lit (.slice none 0 0)=>l=[]
   | .sl o z' off len=>z=z'∧ok o=true∧oI σ o fun ob=>tR (GP ok σ 4) z off len l ob
   | _=>False)
 | .xrow z l,u=>(match u with | .xrow z' l'=>z=z'∧l=l' | _=>False)
 | .ref o z i off,u=>(match u with | .ref o' z' i' off'=>π[o]? =some (some o')∧z=z'∧i=i'∧off=off' | _=>False)
 | .sl o z off len,u=>(match u with
   | .sl o' z' off' len'=>π[o]? =some (some o')∧z=z'∧off=off'∧len=len'
   | .lit (.slice none 0 0)=>π[o]? =some none∧off=0∧len=0
   | _=>False)
 | .rref z l i off,u=>(match u with
   | .rref z' l' i' off'=>z=z'∧l=l'∧i=i'∧off=off'
   | .ref o z' i' off'=>ok o=true∧oI σ o fun ob=>tO (GP ok σ 4) z l i off z' i' off' ob
   | _=>False)
 | .agg l,u=>(match u with | .agg m=>tH ok π σ l m | _=>False)
 | .tup l,u=>(match u with | .tup m=>tH ok π σ l m | _=>False)
 | .clo f l,u=>(match u with | .clo g m=>f=g∧tH ok π σ l m | _=>False)
def tH (ok:Nat→Bool) (π:Pi) (σ:St):List V→List V→Prop
 | [],[]=>True
 | u::us,v::vs=>mV ok π σ u v∧tH ok π σ us vs
 | _,_=>False
end
def Ay:List (List PV)→Option (List V)
 | []=>some []
 | [.lit v]::r=>(Ay r).map (V.lit v:: ·)
 | _::_=>none
def mO (ok:Nat→Bool) (π:Pi) (σ:St):Ob→Ob→Prop
 | .cells l,.cells m=>tH ok π σ l m
 | .row z l,.row z' m=>z=z'∧l=m
 | .row z l,.cells m=>z=1∧Ay l=some m
 | .cells m,.row _ l=>l≠ []∧m=l.flatten.map V.ofP
def nZ (ok:Nat→Bool) (π:Pi) (σ:St):St→Pi→Prop
 | [],[]=>True
 | none::s,_::ps=>nZ ok π σ s ps
 | some ob::s,some o::ps=>(oI σ o fun ob'=>mO ok π σ ob ob')∧nZ ok π σ s ps
 | some (.row _ l)::s,none::ps=>l=[]∧nZ ok π σ s ps
 | _,_=>False
def mG (ok:Nat→Bool) (π:Pi) (σ:St):Vg→Vg→Prop
 | [],_=>True
 | (t,u)::r,ρ=>(kx ρ t fun v=>mV ok π σ u v)∧mG ok π σ r ρ
def Tp (π:Pi):Bool:=decide ((π.filterMap id).Nodup)
def xm:Pi→St→List Nat
 | some o::π,some _::s=>o::xm π s
 | _::π,_::s=>xm π s
 | _,_=> []
def Fc (π:Pi) (s:St):Bool:=decide (xm π s).Nodup
def t7 (k:Nat) (π:Pi):Bool:=(List.range k).all fun i=>π[i]? ==some (some i)
def nj (π:Pi) (o:Nat):Bool:= !π.contains (some o)
def LS (k:Nat) (π:Pi) (ρ₀:Vg) (σ₀:St) (ρ:Vg) (σ:St):Prop:=(Fc π σ₀&&t7 k π)=true∧nZ (nj π) π σ σ₀ π∧mG (nj π) π σ ρ₀ ρ
def ahg (k:Nat) (π:Pi) (u₀:V) (σ₀:St) (u:V) (σ:St):Prop:=(Fc π σ₀&&t7 k π)=true∧nZ (nj π) π σ σ₀ π∧mV (nj π) π σ u₀ u
section
variable {w:World} {Im Im':Nat→Prop} {μ:Mu} {σ:St} {π:Pi} {ok:Nat→Bool}
def iB (μ:Mu) (π:Pi):Mu:=π.map fun p=>match p with | some o=>(μ[o]?).getD none | none=>none
theorem fW {j o:Nat} (h:π[j]? =some (some o)):(iB μ π)[j]? =some ((μ[o]?).getD none):=by simp[iB,h]
theorem jK {j:Nat} (h:π[j]? =some none):(iB μ π)[j]? =some none:=by simp[iB,h]
structure Frz (μ:Mu) (Im:Nat→Prop) (σ:St) (ok:Nat→Bool) (Im':Nat→Prop):Prop where
 old:∀b,Im b→Im' b
 new:∀(o:Nat) b n ob,ok o=true→σ[o]? =some (some ob)→μ[o]? =some (some (b,n))→Im' b
theorem RepP.im {p:PV} {v:Value} (h:RepP w Im p v) (hI:∀b,Im b→Im' b):RepP w Im' p v:=
 h.mono (μ:=[]) (μ':=[]) ⟨alk _,hI,fun _ _=>rfl⟩
theorem uy {o z off len cap:Nat} {a:Option Addr} {l:List (List PV)} (r:Rel μ Im σ w) (fz:Frz μ Im σ ok Im') (hok:ok o=true) (hob:σ[o]? =some (some (.row z l))) (hle:off+len≤l.length) (hs:MA μ[o]? z off len a cap):
 RepP w Im' (.row z ((l.drop off).take len)) (.slice a len cap):=by
 have hrow:iG (.sl o z off len) σ z (fun m=>m=(l.drop off).take len):=by
  unfold iG;simp only[if_true];unfold oI mq tJ;rw[hob];simp only[true_and];rw[if_pos hle]
  trivial
 obtain ⟨m,ad,cp,C,e,hR,hG⟩:=kh r (RepV.sl hs) hrow;subst hG;injection e with e1 e2 e3;subst e1 e3;refine .row (C:=C) (by simp;omega) hs.1 hR.siz hR.row (fun hne=>?_) (by rw[hR.len,←e2]) hR.one (fun i c p h1 h2=>(hR.rep i c p h1 h2).im fz.old);obtain ⟨loc,hloc,hz,hO⟩:=r.rep _ _ hob;rw[hloc] at hs;obtain ⟨hlc,hs⟩:=hs;rcases hO with⟨rfl,rfl⟩ | ⟨b,D,rfl,hB,hCl,hr⟩
 · obtain ⟨_,rfl,_⟩:=hs
   exact absurd (akx.1 (by rw[hR.len];simp)) hne
 · have hlen:0<len:=by
    rcases akQ len with h | h
    · subst h
      exact absurd (akx.1 (by rw[hR.len];simp)) hne
    · exact h
   rw[hs.1 (.inl hlen)];exact fz.new o b _ _ hok hob hloc
theorem ud (r:Rel μ Im σ w) (fz:Frz μ Im σ ok Im') {u:V} {p:PV} {c:Value} (h:tP0 ok σ u p) (hu:RepV w Im μ u c):RepP w Im' p c:=by
 cases u<;>cases p<;>simp only[tP0] at h
 · subst h
   cases hu with | lit h=>exact .lit h
 · obtain ⟨rfl,rfl⟩:=h
   cases hu
   exact .row (C:=[]) rfl (akk _) (by simp) (Row.nil _ _) (fun h=>absurd rfl h) (by simp) (by simp) (by simp)
 · obtain ⟨rfl,rfl⟩:=h
   cases hu with | row h=>exact h.im fz.old
 · obtain ⟨rfl,rfl⟩:=h
   cases hu with | xrow h=>exact h.im fz.old
 · obtain ⟨rfl,hok,h⟩:=h
   obtain ⟨ob,hob,h⟩:=cY h;unfold vZ at h
   split at h
   · obtain ⟨rfl,hle,rfl⟩:=h
     cases hu with | sl hs=>exact uy r fz hok hob hle hs
   · exact h.elim
 · obtain ⟨rfl,rfl,rfl,rfl⟩:=h
   cases hu with | rref q1 q2 q3 q4 q5 q6=>exact .ptr q1 q2 (fun h=>fz.old _ (q3 h)) q4 q5 (fun i c p h1 h2=>(q6 i c p h1 h2).im fz.old)
theorem oX {f:V→PV→Prop} (hf:∀(u:V) (p:PV) (c:Value),f u p→RepV w Im μ u c→RepP w Im' p c):∀{us:List V} {ps:List PV} {C:List Value},GU f us ps→bd w Im μ us C→ps.length=us.length∧∀(i:Nat) c p,C[i]? =some c→ps[i]? =some p→RepP w Im' p c
 | [],[],C,_,_=>⟨rfl,fun i c p _ h=>by simp at h⟩
 | u::us,p::ps,C,h,hr=>by
   obtain ⟨v,vs,rfl,h1,h2⟩:=hr.uncons;obtain ⟨e,ih⟩:=oX hf h.2 h2;refine⟨by simp[e],fun i c q hc hq=>?_⟩
   cases i with
   | zero=>simp at hc hq;subst hc hq;exact hf _ _ _ h.1 h1
   | succ i=>simp at hc hq;exact ih i c q hc hq
 | [],_::_,_,h,_=>by simp[GU] at h
 | _::_,[],_,h,_=>by simp[GU] at h
theorem uV {f:V→PV→Prop} {z:Nat} (hf:∀(u:V) (p:PV) (c:Value),f u p→RepV w Im μ u c→RepP w Im' p c):∀{l:List (List PV)} {us:List V} {C:List Value},Px f z us l→bd w Im μ us C→(∀e∈l,e.length=z)∧l.length*z≤us.length∧∀(i:Nat) c p,C[i]? =some c→l.flatten[i]? =some p→RepP w Im' p c
 | [],us,C,_,_=>⟨by simp,by simp,by simp⟩
 | e::l,us,C,h,hr=>by
   obtain ⟨h1,h2,h3⟩:=h;have p1:=hr.part 0 z;have p2:=hr.part z us.length;rw[akv,akv] at p1;rw[aku (by simp),aku (by simp[hr.1])] at p2;obtain ⟨e1,q1⟩:=oX hf h2 p1;obtain ⟨e2,e3,q2⟩:=uV hf h3 p2;rw[akr,alh h1] at e1;rw[akW] at e3;refine⟨fun x hx=>?_,?_,fun i c p hc hp=>?_⟩
   · rcases aky.1 hx with rfl | hx
     · exact e1
     · exact e2 x hx
   · rw[akm,Nat.succ_mul]
     omega
   · rw[alV] at hp
     by_cases hi:i<z
     · rw[akp (by omega)] at hp
       exact q1 i c p (by rw[ak2,if_pos hi];exact hc) hp
     · rw[akq (by omega),e1] at hp
       exact q2 (i-z) c p (by rw[ak8,←hc];congr 1;omega) hp
theorem Hg {z i off z' i' off':Nat} {l:List (List PV)} {us:List V} {f:V→PV→Prop} (h:tO f z l i off z' i' off' (.cells us)):∃ps,l=[ps]∧z=ps.length∧i=0∧off=vj z' i' off'∧GU f us ps:=by
 unfold tO at h;simp only at h
 match l,h with
 | [ps],h=>exact⟨ps,rfl,h⟩
theorem yk (r:Rel μ Im σ w) (fz:Frz μ Im σ ok Im') {f:V→PV→Prop} (hf:∀(u:V) (p:PV) (c:Value),f u p→RepV w Im μ u c→RepP w Im' p c) {o z i off z' i' off':Nat} {l:List (List PV)} {v:Value} (hok:ok o=true) (h:oI σ o fun ob=>tO f z l i off z' i' off' ob) (hu:RepV w Im μ (.ref o z' i' off') v):RepP w Im' (.ptr z l i off) v:=by
 obtain ⟨ob,hob,h⟩:=cY h;obtain ⟨loc,hloc,hO⟩:=r.rep _ _ hob
 cases hu with
 | @ref _ _ _ _ b n hm=>
   have hIm:Im' b:=fz.new o b n ob hok hob hm;rw[hloc] at hm
   cases hm
   cases ob with
   | cells us=>
     obtain ⟨ps,rfl,rfl,rfl,rfl,hps⟩:=Hg h;obtain ⟨b',C,D,e,hB,ho,hl⟩:=hO
     cases e
     obtain ⟨el,hrep⟩:=oX hf hps hl;have hR:Row w (some ⟨b,0,none⟩) C:=Row.of_blk hB (fun i hi=>by rw[akP];exact zm (akh hi))
     have:=RepP.ptr (z:=ps.length) (i:=0) (off:=vj z' i' off') (l:=[ps]) (Im:=Im') (w:=w) (fun e he=>by simp at he;rw[he]) hR (fun _=>by rw[gZ];exact hIm) (by simp[hl.1,el]) ho (fun i c p h1 h2=>hrep i c p h1 (by simpa using h2))
     rw[gZ,om,alF,akP] at this;exact this
   | row z'' L=>
     unfold tO at h;simp only at h;obtain ⟨e1,e2,e3,e4,e5⟩:=h;subst e3 e4 e5 e2 e1;obtain ⟨hz,hO⟩:=hO;rcases hO with⟨e,_⟩ | ⟨b',C,e,hB,hle,hrep⟩
     · cases e
     · cases e
       have hR:Row w (some ⟨b,0,none⟩) (C.take (l.length*z)):=Row.of_blk hB (fun i hi=>by simp at hi ⊢)
       have hfl:l.flatten.length=l.length*z:=by
        exact eN hz
       have hrep':∀(i:Nat) c p,(C.take (l.length*z))[i]? =some c→l.flatten[i]? =some p→RepP w Im' p c:=fun i c p h1 h2=>by
        have hi:=get_lt h2;rw[ak2,if_pos (by omega)] at h1;exact(hrep i c p h1 h2).im fz.old
       have:=RepP.ptr (z:=z) (i:=i) (off:=off) (l:=l) (Im:=Im') (w:=w) hz hR (fun _=>by rw[gZ];exact hIm) (by simp;omega) (fun c hc=>by
        obtain ⟨i,hi,rfl⟩:=alH.1 hc;have hi2:i<l.flatten.length:=by simp at hi;omega
        exact(hrep' i _ _ (akh hi) (akh hi2)).one) hrep'
       rw[gZ,om,akP] at this;exact this
theorem zA (r:Rel μ Im σ w) (fz:Frz μ Im σ ok Im') {f:V→PV→Prop} (hf:∀(u:V) (p:PV) (c:Value),f u p→RepV w Im μ u c→RepP w Im' p c) {o z off len:Nat} {l:List (List PV)} {v:Value} (hok:ok o=true) (h:oI σ o fun ob=>tR f z off len l ob) (hu:RepV w Im μ (.sl o z off len) v):RepP w Im' (.row z l) v:=by
 obtain ⟨ob,hob,h'⟩:=cY h;clear h
 cases hu with
 | @sl _ _ _ _ cap a hs=>
   cases ob with
   | row z'' L=>
     obtain ⟨rfl,hle,rfl⟩:=h';exact uy r fz hok hob hle hs
   | cells us=>
     obtain ⟨rfl,rfl,h'⟩:=h';obtain ⟨loc,hloc,hO⟩:=r.rep _ _ hob;obtain ⟨b,C,D,rfl,hB,ho,hl⟩:=hO;obtain ⟨e1,e2,hrep⟩:=uV hf h' hl;have hIm:Im' b:=fz.new o b _ _ hok hob hloc;rw[hloc] at hs;obtain ⟨hlc,ha,hn⟩:=hs;have ha':=ha (.inr rfl);rw[alF] at ha';subst ha';have hCl:=hl.1;refine .row (C:=C.take (l.length*z)) rfl hlc e1 (Row.of_blk hB (fun i hi=>?_)) (fun _=>by rw[gZ];exact hIm) (by rw[akr];omega) (fun c hc=>ho c (akt hc)) (fun i c p h1 h2=>?_)
     · rw[akP]
       exact zm (by rw[am2];exact akh _)
     · rw[ak2] at h1
       split at h1
       · exact hrep i c p h1 h2
       · cases h1
theorem lE (r:Rel μ Im σ w) (fz:Frz μ Im σ ok Im'):∀(n:Nat) (u:V) (p:PV) (c:Value),GP ok σ n u p→RepV w Im μ u c→RepP w Im' p c
 | 0,u,p,c,h,hu=>ud r fz h hu
 | n+1,u,p,c,h,hu=>by
   unfold GP at h
   split at h
   · exact yk r fz (lE r fz n) h.1 h.2 hu
   · obtain ⟨rfl,hok,h⟩:=h
     exact zA r fz (lE r fz n) hok h hu
   · exact ud r fz h hu
theorem RepP.toV {p:PV} {c:Value} (h:RepP w Im p c):RepV w Im μ (V.ofP p) c:=by
 cases h with
 | lit h=>exact .lit h
 | row q1 q2 q3 q4 q5 q6 q7 q8=>exact .row (.row q1 q2 q3 q4 q5 q6 q7 q8)
 | ptr q1 q2 q3 q4 q5 q6=>exact .rref q1 q2 q3 q4 q5 q6
mutual
theorem nG (r:Rel μ Im σ w) (fz:Frz μ Im σ ok Im'):∀{u₀ u:V} {v:Value},mV ok π σ u₀ u→RepV w Im μ u v→RepV w Im' (iB μ π) u₀ v
 | .lit x,u,v,h,hu=>by
   unfold mV at h;subst h
   cases hu with | lit h=>exact .lit h
 | .row z l,u,v,h,hu=>by
   unfold mV at h
   split at h
   · obtain ⟨rfl,rfl⟩:=h
     cases hu with | row h=>exact .row (h.im fz.old)
   · obtain ⟨rfl,rfl⟩:=h
     cases hu with | xrow h=>exact .row (h.im fz.old)
   · subst h
     cases hu
     exact .row (.row (C:=[]) rfl (akk _) (by simp) (Row.nil _ _) (fun h=>absurd rfl h) (by simp) (by simp) (by simp))
   · obtain ⟨rfl,hok,h⟩:=h
     exact .row (zA r fz (lE r fz 4) hok h hu)
   · exact h.elim
 | .xrow z l,u,v,h,hu=>by
   unfold mV at h
   split at h
   · obtain ⟨rfl,rfl⟩:=h
     cases hu with | xrow h=>exact .xrow (h.im fz.old)
   · exact h.elim
 | .ref o z i off,u,v,h,hu=>by
   unfold mV at h
   split at h
   · obtain ⟨hp,rfl,rfl,rfl⟩:=h
     cases hu with | ref hm=>exact .ref (by rw[fW hp,hm];rfl)
   · exact h.elim
 | .sl o z off len,u,v,h,hu=>by
   unfold mV at h
   split at h
   · obtain ⟨hp,rfl,rfl,rfl⟩:=h
     cases hu with
     | sl hs=>
       obtain ⟨x,hx⟩:=hs.some;refine .sl ?_;rw[fW hp,hx];rw[hx] at hs;exact hs
   · obtain ⟨hp,rfl,rfl⟩:=h
     cases hu
     exact .sl ⟨akk _,by rw[jK hp];exact⟨rfl,rfl,rfl,rfl⟩⟩
   · exact h.elim
 | .rref z l i off,u,v,h,hu=>by
   unfold mV at h
   split at h
   · obtain ⟨rfl,rfl,rfl,rfl⟩:=h
     cases hu with
     | rref q1 q2 q3 q4 q5 q6=>exact .rref q1 q2 (fun h=>fz.old _ (q3 h)) q4 q5 (fun i c p h1 h2=>(q6 i c p h1 h2).im fz.old)
   · exact(yk r fz (lE r fz 4) h.1 h.2 hu).toV
   · exact h.elim
 | .agg l,u,v,h,hu=>by
   unfold mV at h
   split at h
   · cases hu with
     | agg hn ho hr=>
       have:=fO r fz h ⟨hn,hr⟩
       exact .agg this.1 ho this.2
   · exact h.elim
 | .tup l,u,v,h,hu=>by
   unfold mV at h
   split at h
   · cases hu with
     | tup hn hr=>
       have:=fO r fz h ⟨hn,hr⟩
       exact .tup this.1 this.2
   · exact h.elim
 | .clo f l,u,v,h,hu=>by
   unfold mV at h
   split at h
   · obtain ⟨rfl,h⟩:=h
     cases hu with
     | clo hn hr=>
       have:=fO r fz h ⟨hn,hr⟩
       exact .clo this.1 this.2
   · exact h.elim
theorem fO (r:Rel μ Im σ w) (fz:Frz μ Im σ ok Im'):∀{us₀ us:List V} {vs:List Value},tH ok π σ us₀ us→bd w Im μ us vs→bd w Im' (iB μ π) us₀ vs
 | [],[],vs,_,hr=>⟨hr.1,by simp⟩
 | u₀::us₀,u::us,vs,h,hr=>by
   unfold tH at h;obtain ⟨v,vs,rfl,h1,h2⟩:=hr.uncons;exact .cons (nG r fz h.1 h1) (fO r fz h.2 h2)
 | [],_::_,_,h,_=>by simp[tH] at h
 | _::_,[],_,h,_=>by simp[tH] at h
end
theorem jA:∀{s:St} {ps:Pi},nZ ok π σ s ps→s.length=ps.length∧∀(j:Nat) ob,s[j]? =some (some ob)→(∃o ob',ps[j]? =some (some o)∧σ[o]? =some (some ob')∧mO ok π σ ob ob')∨(ps[j]? =some none∧∃z,ob=.row z [])
 | [],[],_=>⟨rfl,fun j ob h=>by simp at h⟩
 | none::s,p::ps,h=>by
   unfold nZ at h;obtain ⟨h1,h2⟩:=jA h;refine⟨by simp[h1],fun j ob hj=>?_⟩
   cases j with
   | zero=>simp at hj
   | succ j=>simpa using h2 j ob (by simpa using hj)
 | some ob::s,some o::ps,h=>by
   unfold nZ at h;obtain ⟨h1,h2⟩:=jA h.2;refine⟨by simp[h1],fun j ob' hj=>?_⟩
   cases j with
   | zero=>
     simp at hj;subst hj;obtain ⟨ob'',h3,h4⟩:=cY h.1;exact .inl ⟨o,ob'',rfl,h3,h4⟩
   | succ j=>simpa using h2 j ob' (by simpa using hj)
 | some (.row z l)::s,none::ps,h=>by
   unfold nZ at h;obtain ⟨h1,h2⟩:=jA h.2;refine⟨by simp[h1],fun j ob' hj=>?_⟩
   cases j with
   | zero=>
     simp at hj;subst hj;obtain ⟨rfl,_⟩:=h;exact .inr ⟨rfl,z,rfl⟩
   | succ j=>simpa using h2 j ob' (by simpa using hj)
 | some (.cells l)::s,none::ps,h=>by simp[nZ] at h
 | [],_::_,h=>by simp[nZ] at h
 | none::_,[],h=>by simp[nZ] at h
 | some _::_,[],h=>by simp[nZ] at h
theorem vD:∀{l:List (List PV)} {m:List V},Ay l=some m→∃vs:List Value,l=vs.map (fun v=> [PV.lit v])∧m=vs.map V.lit
 | [],m,h=>⟨[],rfl,by cases h;rfl⟩
 | [.lit v]::r,m,h=>by
   unfold Ay at h;obtain ⟨m',h1,rfl⟩:=Option.map_eq_some_iff.1 h;obtain ⟨vs,e1,e2⟩:=vD h1;exact⟨v::vs,by rw[e1];rfl,by rw[e2];rfl⟩
 | []::r,m,h=>by simp[Ay] at h
 | [.row _ _]::r,m,h=>by simp[Ay] at h
 | (_::_::_)::r,m,h=>by simp[Ay] at h
theorem so:∀vs:List Value,(vs.map fun v=> [PV.lit v]).flatten=vs.map PV.lit
 | []=>rfl
 | v::vs=>by rw[akK,alV,so vs];rfl
theorem Kx (r:Rel μ Im σ w) (fz:Frz μ Im σ ok Im') {loc:Option (Nat×Nat)} {ob₀ ob:Ob} (h:mO ok π σ ob₀ ob) (ho:fK w Im μ loc ob):fK w Im' (iB μ π) loc ob₀:=by
 unfold mO at h
 split at h
 · obtain ⟨b,C,D,e,hB,hone,hL⟩:=ho
   exact⟨b,C,D,e,hB,hone,fO r fz h hL⟩
 · obtain ⟨rfl,rfl⟩:=h
   obtain ⟨hz,hO⟩:=ho;refine⟨hz,hO.imp id ?_⟩;rintro ⟨b,C,e,hB,hl,hr⟩;exact⟨b,C,e,hB,hl,fun i c p h1 h2=>(hr i c p h1 h2).im fz.old⟩
 · obtain ⟨rfl,hc⟩:=h
   obtain ⟨vs,rfl,rfl⟩:=vD hc;obtain ⟨b,C,D,e,hB,hone,hL⟩:=ho;refine⟨fun x hx=>?_,.inr ⟨b,C++D,e,hB,?_,fun i c p h1 h2=>?_⟩⟩
   · obtain ⟨v,_,rfl⟩:=alb.1 hx
     rfl
   · have:=hL.1
     simp at this ⊢;omega
   · have hf:=so vs
     rw[hf,akX] at h2
     cases hv:vs[i]? with
     | none=>rw[hv] at h2;cases h2
     | some v=>
       rw[hv] at h2
       cases h2
       have hlt:=get_lt hv
       have:=hL.1
       rw[akp (by simp at this;omega)] at h1
       have:=hL.2 i (.lit v) c (by rw[akX,hv];rfl) h1
       cases this with
       | lit ho=>exact .lit ho
 · obtain ⟨hne,rfl⟩:=h
   rename_i l
   obtain ⟨hz,hO⟩:=ho;rcases hO with⟨_,e⟩ | ⟨b,C,e,hB,hl,hr⟩
   · exact absurd e hne
   · have hfl:=eN hz
     refine⟨b,C.take l.flatten.length,C.drop l.flatten.length,by rw[alT];exact e,by rw[alT];exact hB,fun c hc=>?_,?_,fun i u c h1 h2=>?_⟩
     · obtain ⟨j,hj,rfl⟩:=alH.1 hc
       have hj2:j<l.flatten.length:=by rw[akr] at hj;omega
       refine(hr j _ _ ?_ (akh hj2)).one;rw[am2];exact akh _
     · rw[akr,aki];omega
     · rw[akX] at h1
       cases hp:l.flatten[i]? with
       | none=>rw[hp] at h1;cases h1
       | some p=>
         rw[hp] at h1
         cases h1
         rw[ak2] at h2
         split at h2
         · exact((hr i c p h2 hp).im fz.old).toV
         · cases h2
theorem vR:∀{π:Pi} {s:St} {j o:Nat} {ob:Ob},π[j]? =some (some o)→s[j]? =some (some ob)→o∈xm π s
 | [],_,j,_,_,h,_=>by simp at h
 | _::_,[],j,_,_,_,h=>by simp at h
 | p::π,x::s,0,o,ob,h1,h2=>by
   simp at h1 h2;subst h1 h2;simp[xm]
 | p::π,x::s,j+1,o,ob,h1,h2=>by
   have ih:=vR (π:=π) (s:=s) (j:=j) (by simpa using h1) (by simpa using h2)
   cases p<;>cases x<;>simp[xm,ih]
theorem LX {s:St} (h:Fc π s=true) {i j o:Nat} {ob ob':Ob} (h1:π[i]? =some (some o)) (h2:π[j]? =some (some o)) (l1:s[i]? =some (some ob)) (l2:s[j]? =some (some ob')):i=j:=by
 have aux:∀(π:Pi) (s:St),(xm π s).Nodup→∀(i j:Nat) (ob ob':Ob),π[i]? =some (some o)→π[j]? =some (some o)→s[i]? =some (some ob)→s[j]? =some (some ob')→i=j:=by
  intro π
  induction π with
  | nil=>intro s _ i j _ _ h;simp at h
  | cons p π ih=>
    intro s hn i j ob ob' h1 h2 l1 l2
    cases s with
    | nil=>simp at l1
    | cons x s=>
      cases i with
      | zero=>
        cases j with
        | zero=>rfl
        | succ j=>
          simp at h1 l1;subst h1 l1;simp only[xm,amc] at hn;exact absurd (vR (by simpa using h2) (by simpa using l2)) hn.1
      | succ i=>
        cases j with
        | zero=>
          simp at h2 l2;subst h2 l2;simp only[xm,amc] at hn;exact absurd (vR (by simpa using h1) (by simpa using l1)) hn.1
        | succ j=>
          have hn':(xm π s).Nodup:=by
           cases p<;>cases x<;>simp only[xm,amc] at hn<;>first | exact hn | exact hn.2
          rw[ih s hn' i j ob ob' (by simpa using h1) (by simpa using h2) (by simpa using l1) (by simpa using l2)]
 exact aux π s (of_decide_eq_true h) i j ob ob' h1 h2 l1 l2
theorem z6 {s:St} (h:Tp π=true):Fc π s=true:=by
 have aux:∀(π:Pi) (s:St),(π.filterMap id).Nodup→(xm π s).Nodup∧∀o,o∈xm π s→o∈π.filterMap id:=by
  intro π
  induction π with
  | nil=>intro s _;simp[xm]
  | cons p π ih=>
    intro s hn
    cases s with
    | nil=>cases p<;>simp[xm]
    | cons x s=>
      cases p with
      | none=>
        simp only[List.filterMap_cons,id] at hn ⊢
        have:=ih s hn
        cases x<;>simpa [xm] using this
      | some o=>
        simp only[List.filterMap_cons,id,amc] at hn ⊢;obtain ⟨h1,h2⟩:=ih s hn.2
        cases x with
        | none=>exact⟨h1,fun q hq=>alI _ (h2 q hq)⟩
        | some ob=>
          simp only[xm,amc];refine⟨⟨fun h=>hn.1 (h2 o h),h1⟩,fun q hq=>?_⟩;rcases aky.1 hq with rfl | hq
          · exact amr ..
          · exact alI _ (h2 q hq)
 exact aks (aux π s (of_decide_eq_true h)).1
theorem Rel.part {σ₀:St} (r:Rel μ Im σ w) (fz:Frz μ Im σ ok Im') (hok:∀(j o:Nat),π[j]? =some (some o)→ok o=false) (hn:Fc π σ₀=true) (h:nZ ok π σ σ₀ π)
 (hI:∀b,Im' b→Im b∨∃(o n:Nat) (ob:Ob),ok o=true∧σ[o]? =some (some ob)∧μ[o]? =some (some (b,n))):Rel (iB μ π) Im' σ₀ w∧∀b∈live (iB μ π) σ₀,b∈live μ σ:=by
 obtain ⟨hl,hs⟩:=jA h
 have back:∀(j:Nat) ob₀ b n,σ₀[j]? =some (some ob₀)→(iB μ π)[j]? =some (some (b,n))→∃o ob,π[j]? =some (some o)∧σ[o]? =some (some ob)∧μ[o]? =some (some (b,n)):=by
  intro j ob₀ b n h1 h2;rcases hs j ob₀ h1 with⟨o,ob,h3,h4,_⟩ | ⟨h3,_⟩
  · rw[fW h3] at h2
    obtain ⟨loc,h5,_⟩:=r.rep o ob h4;rw[h5] at h2;exact⟨o,ob,h3,h4,by rw[h5];simpa using h2⟩
  · rw[jK h3] at h2
    cases h2
 have hlive:∀b∈live (iB μ π) σ₀,b∈live μ σ:=by
  intro b hb;obtain ⟨j,n,ob₀,h1,h2⟩:=aJ.1 hb;obtain ⟨o,ob,_,h4,h5⟩:=back j ob₀ b n h2 h1;exact aJ.2 ⟨o,n,ob,h5,h4⟩
 refine⟨⟨by simp[iB,hl],fun j ob₀ hj=>?_,fun i j q q' b n n' h1 h2 h3 h4=>?_,fun b hb=>?_,fun e he=>⟨fz.old _ (r.lay e he).1,(r.lay e he).2⟩⟩,hlive⟩
 · rcases hs j ob₀ hj with⟨o,ob,h3,h4,h5⟩ | ⟨h3,z,rfl⟩
   · obtain ⟨loc,h6,h7⟩:=r.rep o ob h4
     exact⟨loc,by rw[fW h3,h6];rfl,Kx r fz h5 h7⟩
   · exact⟨none,jK h3,by simp,.inl ⟨rfl,rfl⟩⟩
 · obtain ⟨o,ob,e1,e2,e3⟩:=back i q b n h1 h3
   obtain ⟨o',ob',e4,e5,e6⟩:=back j q' b n' h2 h4
   have:=r.inj o o' ob ob' b n n' e2 e5 e3 e6
   subst this;exact LX hn e1 e4 h1 h2
 · rcases hI b hb with h1 | ⟨o,n,ob,h1,h2,h3⟩
   · exact⟨(r.im b h1).1,fun h=>(r.im b h1).2 (hlive b h)⟩
   · refine⟨r.lt (aJ.2 ⟨o,n,ob,h3,h2⟩),fun h=>?_⟩
     obtain ⟨j,m,ob₀,h4,h5⟩:=aJ.1 h;obtain ⟨o',ob',h6,h7,h8⟩:=back j ob₀ b m h5 h4
     have:=r.inj o o' ob ob' b n m h2 h7 h3 h8
     subst this;rw[hok j o h6] at h1
     cases h1
end
end Go.Vx
namespace Go.Vx
open Go.Eng
set_option linter.unusedSimpArgs false
set_option linter.unusedVariables false
section
variable {w w':World} {Im:Nat→Prop} {μ:Mu} {σ:St} {ρ:Vg} {ρc:Rg} {P:Program}
theorem Rel.still (r:Rel μ Im σ w) (hx:Ext [] w w'):Rel μ Im σ w'∧Stp μ Im σ w μ Im σ w':=by
 have hm:Mono μ Im w μ Im w':=⟨alk _,fun _ h=>h,fun b hb=>hx.block b (r.im b hb).1 (by simp)⟩;refine⟨⟨r.len,fun o ob h=>?_,r.inj,fun b hb=>⟨akT (r.im b hb).1 hx.size,(r.im b hb).2⟩,r.lay.mono hm⟩,⟨alk _,fun _ h=>h,hx.mono (by simp),fun _ h=>.inl h,fun _ h=>.inl h⟩⟩;obtain ⟨loc,h1,h2⟩:=r.rep o ob h;refine⟨loc,h1,h2.mono hm (fun b n e=>?_)⟩;subst e;exact hx.block b (r.lt (aJ.2 ⟨o,n,ob,h1,h⟩)) (by simp)
theorem Rel.adopt (r:Rel μ Im σ w) {b n:Nat} {ob:Ob} (hf:b ∉ live μ σ) (hi:¬Im b) (ho:fK w Im (μ++[some (b,n)]) (some (b,n)) ob):
 Rel (μ++[some (b,n)]) Im (σ++[some ob]) w∧∀c∈live (μ++[some (b,n)]) (σ++[some ob]),c∈live μ σ∨c=b:=by
 have hl:=r.len;have hm:Mono μ Im w (μ++[some (b,n)]) Im w:=⟨alA _ _,fun _ h=>h,fun _ _=>rfl⟩
 have hlive:∀c∈live (μ++[some (b,n)]) (σ++[some ob]),c∈live μ σ∨c=b:=by
  intro c hc;obtain ⟨o,n',ob',h1,h2⟩:=aJ.1 hc;rw[bH] at h1 h2
  split at h1
  · rw[if_pos (by omega)] at h2
    exact .inl (aJ.2 ⟨o,n',ob',h1,h2⟩)
  · split at h1
    · cases h1
      exact .inr rfl
    · cases h1
 refine⟨⟨by simp[hl],fun o ob' h=>?_,fun o o' q q' c n1 n2 h1 h2 h3 h4=>?_,fun c hc=>⟨(r.im c hc).1,fun hc'=>?_⟩,r.lay⟩,hlive⟩
 · rw[bH] at h
   split at h
   · obtain ⟨loc',h1,h2⟩:=r.rep o ob' h
     exact⟨loc',by rw[bH,if_pos (by omega)];exact h1,h2.mono hm (fun _ _ _=>rfl)⟩
   · split at h
     · cases h
       rename_i _ e
       exact⟨_,by rw[bH,if_neg (by omega),if_pos (by omega)],ho⟩
     · cases h
 · rw[bH] at h1 h2 h3 h4
   split at h3
   · rw[if_pos (by omega)] at h1
     split at h4
     · rw[if_pos (by omega)] at h2
       exact r.inj o o' q q' c n1 n2 h1 h2 h3 h4
     · split at h4
       · cases h4
         exact absurd (aJ.2 ⟨o,n1,q,h3,h1⟩) hf
       · cases h4
   · split at h3
     · cases h3
       split at h4
       · rw[if_pos (by omega)] at h2
         exact absurd (aJ.2 ⟨o',n2,q',h4,h2⟩) hf
       · split at h4
         · omega
         · cases h4
     · cases h3
 · rcases hlive c hc' with h | h
   · exact(r.im c hc).2 h
   · subst h;exact hi hc
def Es (P:Program) (μ:Mu) (Im:Nat→Prop) (σ:St) (w:World) (K:KV) (op:World→Kv→Prop):Prop:=
 ∃(ob:Ob) (C:List Value) (ty:TypeId) (u:V) (f:Nat→Value),
  (∀w' (k:Kv),op w' k=k true (f w'.heap.size) (w'.alloc (.cells C.toArray ty)))∧K true u (σ++[some ob])∧(∀c∈C,bD c=true)∧
  ∀w1 b,Mono μ Im w (μ++[some (b,C.length)]) Im w1→iU w1 b C→fK w1 Im (μ++[some (b,C.length)]) (some (b,C.length)) ob∧RepV w1 Im (μ++[some (b,C.length)]) u (f b)
theorem Qy {t:TypeId} {K:KV} (r:Rel μ Im σ w) (h:dP P t σ K):Es P μ Im σ w K fun w' k=>wq P t w' k:=by
 unfold dP at h
 cases hz:gM P t with
 | none=>rw[hz] at h;exact h.elim
 | some C=>
   rw[hz] at h;obtain ⟨h1,h2⟩:=fc.1 h;refine⟨.cells (C.map V.lit),C,t,.ref σ.length 0 0 0,fun b=>.pointer (some ⟨b,0,none⟩),fun w' k=>oR hz,h2,gY h1,fun w1 b hm hB=>⟨fK.cells0 rfl hB (gY h1) (bd.lits h1),?_⟩⟩;have e5:=RepV.ref (w:=w1) (Im:=Im) (μ:=μ++[some (b,C.length)]) (o:=σ.length) (b:=b) (n:=C.length) (z:=0) (i:=0) (off:=0) (by rw[bH,if_neg (by rw[r.len];omega),if_pos r.len.symm]);simpa only[alF,akP] using e5
theorem Qz {t:TypeId} {n:Nat} {js:List Nat} {us:List V} {vs:List Value} {K:KV} (r:Rel μ Im σ w) (hj:js.length=us.length) (hr:bd w Im μ us vs) (h:gV P t n (js.zip us) σ K):Es P μ Im σ w K fun w' k=>tZ P t n (js.zip vs) w' k:=by
 unfold gV at h
 split at h
 · rename_i et z hel
   obtain ⟨ht,hz⟩:=cH hel
   split at h
   · rename_i hc
     obtain ⟨hze,hz0,hn⟩:=hc;have hze':=hze;unfold gM at hze;obtain ⟨Z,hZ⟩:=alS.1 hze
     cases hzz:(P.info? et).bind (·.zero) with
     | none=>rw[hzz] at hZ;cases hZ
     | some zv=>
       have key:∀(D:Array Value),D.size=n*z→∃l C,Instr.fill (fun i=>some (i*z,z)) D (js.zip vs)=some (C:List Value).toArray∧(∀w1 b,Mono μ Im w (μ++[some (b,C.length)]) Im w1→iU w1 b C→fK w1 Im (μ++[some (b,C.length)]) (some (b,C.length)) (.row z l))∧(∀c∈C,bD c=true)∧bK σ (.row z l) (fun o σ'=>K true (.sl o z 0 n) σ')∧C.length=n*z:=by
        intro D hD
        have hlen:us.length=n:=by
         have aux:∀(js:List Nat) (us:List V) (j:Nat) (G:List (List PV)→Prop),js.length=us.length→fD z j (js.zip us) G→∃l:List (List PV),l.length=us.length∧G l:=by
          intro js
          induction js with
          | nil=>intro us j G h1 h2;have:us=[]:=akx.1 (by simpa using h1.symm);subst this;exact⟨[],rfl,h2⟩
          | cons a js ih=>
            intro us j G h1 h2
            cases us with
            | nil=>simp at h1
            | cons u us=>
              simp only[ams,fD] at h2
              split at h2
              · have aux2:∀{u:V} {F:List V→Prop},bZ u F→∃l,F l:=by
                 intro u F h;unfold bZ at h
                 split at h
                 · exact⟨_,h⟩
                 · exact h.elim
                 · exact⟨_,h⟩
                obtain ⟨c,h3⟩:=aux2 h2;obtain ⟨_,h4⟩:=cK h3
                have aux3:∀{c:List V} {F:List PV→Prop},nP c F→∃l,F l:=by
                 intro c
                 induction c with
                 | nil=>intro F h;exact⟨_,h⟩
                 | cons u c ih=>
                   intro F h;simp only[nP] at h;unfold MB at h
                   split at h
                   · exact(ih h).elim fun _ h=>⟨_,h⟩
                   · exact(ih h).elim fun _ h=>⟨_,h⟩
                   · exact(ih h).elim fun _ h=>⟨_,h⟩
                   · exact(ih h).elim fun _ h=>⟨_,h⟩
                   · exact h.elim
                obtain ⟨ps,h5⟩:=aux3 h4;obtain ⟨l,h6,h7⟩:=ih us (j+1) _ (by simpa using h1) h5;exact⟨ps::l,by simp[h6],h7⟩
              · exact h2.elim
         obtain ⟨l,h1,h2⟩:=aux js us 0 _ hj h;obtain ⟨h3,_⟩:=cK h2;omega
        obtain ⟨l,C,e1,e2,e3,e4,e5,e6,e7⟩:=oZ (n:=n*z) (D:=D.toList) hj hr (by simpa using hD) (by simp) h (by rw[hlen,akP]);obtain ⟨_,e8⟩:=cK e7;simp only[alF,alf,aln,akY] at e6;exact⟨l,C,e6,fun w1 b hm hB=>⟨e2,.inr ⟨_,C,rfl,hB,by rw[e3,e1];exact akk _,fun i c p hc hp=>(e4 i c p hc hp).mono hm⟩⟩,e5,e8,by rw[e3,hlen]⟩
       have fin:∀(Z:Array Value),(∀(w':World) (k:Kv),tZ P t n (js.zip vs) w' k=kr ((do
        let some cells:=Instr.fill (fun i=>some (i*z,z)) ((Array.range (n*z)).map (Z[· %Z.size]!)) (js.zip vs).toArray.toList | stuck "buildSlice: a part of the wrong size"
        pure (.slice (some (←newRow et cells)) n n):Sem Value).run P w') (k true))→Es P μ Im σ w K fun w' k=>tZ P t n (js.zip vs) w' k:=by
        intro Z hZ;obtain ⟨l,C,f1,f2,f5,f3,f4⟩:=key ((Array.range (n*z)).map (Z[· %Z.size]!)) (by simp);have f1':Instr.fill (fun i=>some (i*z,z)) ((Array.range (n*z)).map (Z[· %Z.size]!)) (js.zip vs).toArray.toList=some C.toArray:=f1;refine⟨.row z l,C,et,.sl σ.length z 0 n,fun b=>.slice (some ⟨b,0,none⟩) n n,fun w' k=>?_,f3,f5,fun w1 b hm hB=>⟨f2 w1 b hm hB,.sl ⟨akk _,?_⟩⟩⟩
        · dsimp only
          rw[hZ,f1']
          rfl
        · rw[bH,if_neg (by rw[r.len];omega),if_pos r.len.symm]
          exact⟨fun _=>by simp,by simp[f4]⟩
       by_cases h0:n*z=0
       · refine fin #[] fun w' k=>?_
         unfold tZ runK Instr.buildSlice;rw[Sem.run_bind,run_underlying ht,Result.andThen_ok];simp only[Sem.run_bind,Go.Eng.run_sizeOf hz,Result.andThen_ok];rw[if_neg (by omega),if_pos h0];simp only[pure_bind]
         rfl
       · refine fin zv.cells fun w' k=>?_
         unfold tZ runK Instr.buildSlice;rw[Sem.run_bind,run_underlying ht,Result.andThen_ok];simp only[Sem.run_bind,Go.Eng.run_sizeOf hz,Result.andThen_ok];rw[if_neg (by omega),if_neg h0];simp only[Sem.run_bind,iJ hzz,Result.andThen_ok,pure_bind,bind_assoc]
         rfl
   · exact h.elim
 · exact h.elim
theorem Sw {t:TypeId} {l c:V} {a b:Value} {K:KV} (r:Rel μ Im σ w) (hl:RepV w Im μ l a) (hc:RepV w Im μ c b) (h:pq P t l c σ K):Es P μ Im σ w K fun w' k=>LJ P t a b w' k:=by
 unfold pq at h
 split at h
 · rename_i et z hel
   obtain ⟨ht,hz⟩:=cH hel
   split at h
   · rename_i C y hze hby
     unfold ki at h
     split at h
     · rename_i n m
       split at h
       · rename_i hcond
         obtain ⟨h0,rfl,hb,hlt,hy0,hCz⟩:=hcond;obtain ⟨hone,hK⟩:=fc.1 h
         cases hl;cases hc
         obtain ⟨N,rfl⟩:=al3 h0;rw[ak0] at hK
         obtain ⟨ti,hti,hbyt⟩:∃ti,P.info? et=some ti∧ti.bytes=y:=by
          unfold t9 at hby
          cases hi:P.info? et with
          | none=>rw[hi] at hby;cases hby
          | some ti=>rw[hi] at hby;exact⟨ti,rfl,by simpa using hby⟩
         obtain ⟨zv,hzv,hzc⟩:=pv hze;have hzs:zv.cells.size=z:=by rw[←hCz,←hzc];simp
         have fin:∀(Z:Array Value),(N*z≠0→Z=zv.cells)→(∀(w':World) (k:Kv),LJ P t (.int .i64 (Int.ofNat N)) (.int .i64 (Int.ofNat N)) w' k=kr ((do
          let a←newRow et ((Array.range (N*z)).map (Z[· %Z.size]!))
          pure (.slice (some a) N N):Sem Value).run P w') (k true))→Es P μ Im σ w K fun w' k=>LJ P t (.int .i64 (Int.ofNat N)) (.int .i64 (Int.ofNat N)) w' k:=by
          intro Z hZ hrun
          obtain ⟨D,hD,hDs⟩:∃D:List Value,(Array.range (N*z)).map (Z[· %Z.size]!)=D.toArray∧∀(i:Nat) c,D[i]? =some c→i<N*z∧zv.cells[i%z]? =some c:=by
           refine⟨(List.range (N*z)).map (Z[· %Z.size]!),by apply Array.toList_inj.1;simp,fun i c hc=>?_⟩;rw[akX] at hc
           have hi:i<N*z:=by
            by_cases hi:i<N*z
            · exact hi
            · rw[alU (by simp;omega)] at hc;cases hc
           refine⟨hi,?_⟩;rw[amj hi] at hc;simp only[ald,Option.some.injEq] at hc
           have hz0:0<z:=by
            rcases akQ z with h | h
            · subst h;simp at hi
            · exact h
           rw[hZ (by omega),hzs] at hc;have hlt2:i%z<zv.cells.size:=by rw[hzs];exact akD _ hz0
           rw[getElem!_pos zv.cells _ hlt2] at hc;rw[alu hlt2,hc]
          have hDl:D.length=N*z:=by
           have:=congrArg Array.size hD
           simpa using this.symm
          have hD1:∀c∈D,bD c=true:=fun c hc=>by
           obtain ⟨i,hi,rfl⟩:=alH.1 hc;have h2:=(hDs i _ (akh hi)).2;refine gY hone _ ?_;rw[←hzc];exact ak5 (by rw[alD];exact h2)
          refine⟨.row z (dV C N),D,et,.sl σ.length z 0 N,fun b=>.slice (some ⟨b,0,none⟩) N N,fun w' k=>?_,hK,hD1,fun w1 b hm hB=>⟨⟨fun x hx=>by
           unfold dV at hx;rw[(amq.1 hx).2];simp[hCz],.inr ⟨_,D,rfl,hB,by simp[dV,hDl],fun i c p hc hp=>by
           obtain ⟨c',h1,rfl⟩:=x9 hp;have h2:=(hDs i c hc).2;rw[hCz,←hzc,alD] at h1;rw[h1] at h2
           cases h2
           refine .lit ?_;refine gY hone _ ?_;rw[←hzc];exact ak5 (by rw[alD];exact h1)⟩⟩,.sl ⟨akk _,?_⟩⟩⟩
          · dsimp only
            rw[hrun,hD]
            rfl
          · rw[bH,if_neg (by rw[r.len];omega),if_pos r.len.symm]
            exact⟨fun _=>by simp,by simp[hDl]⟩
         have hw:IntKind.i64.wrap (N:Int)=N:=wrap_i64 (by omega)
         have hbig:((y:Int)*(N:Int)>2^48)=False:=by
          rw[Int.mul_comm];simp only[eq_iff_iff,iff_false];omega
         have h1:(decide ((N:Int)<0) || decide ((y:Int)*(N:Int)>2^48))=false:=by
          rw[akg (by omega),akg (by rw[hbig];exact id)];rfl
         have hroomrun:∀(c:Nat) (w:World),(askRoom c).run P w=.ok () w:=fun c w=>by
          unfold askRoom
          split<;>rfl
         by_cases hz0:N*z=0
         · refine fin #[] (fun h=>absurd hz0 h) fun w' k=>?_
           unfold LJ runK Instr.makeSlice;simp only[Sem.run_bind,run_underlying ht,Result.andThen_ok,asInt,asIntOf,pure_bind,Go.Eng.run_typeInfo hti,hbyt];rw[show IntKind.i64.wrap (Int.ofNat N)=(N:Int) from hw];simp only[h1,amI,amX];rw[if_neg (by simp)];simp only[Sem.run_bind,hroomrun,Result.andThen_ok,Go.Eng.run_sizeOf hz,ak0];rw[if_pos hz0]
           rfl
         · refine fin zv.cells (fun _=>rfl) fun w' k=>?_
           unfold LJ runK Instr.makeSlice;simp only[Sem.run_bind,run_underlying ht,Result.andThen_ok,asInt,asIntOf,pure_bind,Go.Eng.run_typeInfo hti,hbyt];rw[show IntKind.i64.wrap (Int.ofNat N)=(N:Int) from hw];simp only[h1,amI,amX];rw[if_neg (by simp)];simp only[Sem.run_bind,hroomrun,Result.andThen_ok,Go.Eng.run_sizeOf hz,ak0];rw[if_neg hz0];simp only[Sem.run_bind,iJ hzv,Result.andThen_ok,pure_bind,bind_assoc]
       · exact h.elim
     · exact h.elim
   · exact h.elim
 · exact h.elim
def mkB (o:Oper):Bool:=match o.op with | .alloc _ | .buildSlice .. | .makeSlice .. =>true | _=>false
theorem HS {τ:Bool} {o:Oper} {K:KV} (hm:mkB o=true) (r:Rel μ Im σ w) (hg:ei w Im μ ρ ρc) (h:eK τ true P o ρ σ K):Es P μ Im σ w K fun w' k=>pd true P o ρc w' k:=by
 obtain ⟨d,op,ty,pos,af,g⟩:=o;unfold eK at h
 cases op with
 | alloc t=>exact Qy r h
 | buildSlice t n ps=>
   obtain ⟨js,us,vs,h0,h1,h2,h3⟩:=iD hg h
   have:=Qz r h0 h1 h2
   have e:(fun w' k=>pd true P ⟨d,.buildSlice t n ps,ty,pos,af,g⟩ ρc w' k)=fun w' k=>tZ P t n (js.zip vs) w' k:=by
    funext w' k
    exact h3 (fun vs=>tZ P t n vs w' k)
   rw[e];exact this
 | makeSlice t l c=>
   obtain ⟨u,a,h1,h2,h3⟩:=aY hg h;obtain ⟨u',a',h4,h5,h6⟩:=aY hg h2
   have:=Sw r h1 h4 h5
   have e:(fun w' k=>pd true P ⟨d,.makeSlice t l c,ty,pos,af,g⟩ ρc w' k)=fun w' k=>LJ P t a a' w' k:=by
    funext w' k
    show(dA ρc l fun l=>dA ρc c fun c=>LJ P t l c w' k)=_
    rw[h3,h6]
   rw[e];exact this
 | _=>cases hm
theorem ry {o:Oper} {a:Act} {w w2:World} {s:Sem Value} {v:Value} (he:execOp a.eval o=(do pure (.value (←s)))) (h:runK P s w fun u w'=>w'=w2∧u=v):(execOp a.eval o).run P w=.ok (.value v) w2:=by
 rw[he];unfold runK at h;rw[Sem.run_bind]
 cases hs:s.run P w with
 | ok u w'=>rw[hs] at h;obtain ⟨rfl,rfl⟩:=h;rfl
 | halt x w'=>rw[hs] at h;exact h.elim
set_option maxHeartbeats 4000000 in
theorem DY {n:Nat} {o:Oper} {a:Act} {v:Value} {w w2:World} (hm:mkB o=true) (hok:Ok n a ρc) (h:∀k:Kv,pd true P o ρc w k=k true v w2):(execOp a.eval o).run P w=.ok (.value v) w2:=by
 have h:=(h fun _ u w'=>w'=w2∧u=v).mpr ⟨rfl,rfl⟩;obtain ⟨d,op,ty,pos,af,g⟩:=o
 cases op with
 | alloc t=>exact ry (s:=Instr.alloc t true (.tuple #[])) rfl h
 | buildSlice t m ps=>
   have h0:rG ρc ps.toList fun vs=>runK P (Instr.buildSlice t m vs.toArray) w fun u w'=>w'=w2∧u=v:=h;have h1:=eX hok h0;refine ry (s:=Instr.buildSlice t m (ps.map fun(i,x)=>(i,a.eval x))) rfl ?_
   have e:(ps.map fun(i,x)=>(i,a.eval x))=(ps.toList.map fun(i,x)=>(i,a.eval x)).toArray:=by
    rw[←als,akY]
   exact e▸h1
 | makeSlice t l c=>
   have h0:dA ρc l fun l=>dA ρc c fun c=>runK P (Instr.makeSlice t l c) w fun u w'=>w'=w2∧u=v:=h;have h1:=ak hok h0;have h2:=ak hok h1;exact ry (s:=Instr.makeSlice t (a.eval l) (a.eval c)) rfl h2
 | _=>cases hm
end
end Go.Vx
