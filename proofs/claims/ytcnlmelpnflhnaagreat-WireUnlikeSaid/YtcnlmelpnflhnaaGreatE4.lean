import Derived.Test.YtcnlmelpnflhnaaGreatE3
import Derived.Laws.BytesString
import Derived.Laws.IdiomStrings
import Derived.Test.YtcnlmelpnflhnaaGreatE2
namespace Go.Vx
open Go.Eng
set_option linter.unusedSimpArgs false
set_option linter.unusedVariables false
section
variable {w w':World} {Im:Nat→Prop} {μ:Mu} {σ:St} {ρ:Vg} {ρc:Rg} {P:Program}
theorem vA {C:List Value} {n i:Nat} {p:PV} (h:(dy C n).flatten[i]? =some p):∃c,C[i%C.length]? =some c∧p=.lit c:=by
 have hz:∀e∈dy C n,e.length=C.length:=fun e he=>by
  unfold dy at he;rw[(aiz.1 he).2]
  simp
 have hlt:=get_lt h;rw[ed hz] at hlt;have hn:(dy C n).length=n:=by simp[dy]
 rw[hn] at hlt
 have hC:0<C.length:=by
  rcases agX C.length with h0 | h0
  · rw[h0] at hlt;omega
  · exact h0
 have e1:i=i/C.length*C.length+i%C.length:=by rw[agK];exact(agT _ _).symm
 have hd:i/C.length<n:=(agY hC).2 hlt
 have hel:(dy C n)[i/C.length]? =some (C.map PV.lit):=by
  unfold dy;rw[aiV,if_pos hd]
 rw[e1,j5 hz hel (agJ _ hC),ag4] at h
 cases hc:C[i%C.length]? with
 | none=>rw[hc] at h;cases h
 | some c=>rw[hc] at h;cases h;exact⟨c,rfl,rfl⟩
theorem yR {e:Bool} {t:TypeId} {l c:V} {a b:Value} {K:KV} (r:Rel μ Im σ w) (hl:RepV w Im μ l a) (hc:RepV w Im μ c b) (h:nO P t l c σ K):nG e μ Im σ w K fun k=>HT P t a b w k:=by
 intro k hk;unfold nO at h
 split at h
 · rename_i et z hel
   obtain ⟨ht,hz⟩:=ch hel
   split at h
   · rename_i C y hze hby
     unfold jm at h
     split at h
     · rename_i n m
       split at h
       · rename_i hcond
         obtain ⟨h0,rfl,hb,hlt,hy0,hCz⟩:=hcond;obtain ⟨hone,hK⟩:=eA.1 h
         cases hl;cases hc
         obtain ⟨N,rfl⟩:=aiW h0;rw[ag9] at hK
         obtain ⟨ti,hti,hbyt⟩:∃ti,P.info? et=some ti∧ti.bytes=y:=by
          unfold rN at hby
          cases hi:P.info? et with
          | none=>rw[hi] at hby;cases hby
          | some ti=>rw[hi] at hby;exact⟨ti,rfl,by simpa using hby⟩
         obtain ⟨zv,hzv,hzc⟩:=nP hze;have hzs:zv.cells.size=z:=by rw[←hCz,←hzc];simp
         have fin:∀(Z:Array Value),(N*z≠0→Z=zv.cells)→ju ((do
          let a←newRow et ((Array.range (N*z)).map (Z[· %Z.size]!))
          pure (.slice (some a) N N):Sem Value).run P w) (k true):=by
          intro Z hZ
          obtain ⟨D,hD,hDs⟩:∃D:List Value,(Array.range (N*z)).map (Z[· %Z.size]!)=D.toArray∧∀(i:Nat) c,D[i]? =some c→i<N*z∧zv.cells[i%z]? =some c:=by
           refine⟨(List.range (N*z)).map (Z[· %Z.size]!),by apply Array.toList_inj.1;simp,fun i c hc=>?_⟩;rw[ag4] at hc
           have hi:i<N*z:=by
            by_cases hi:i<N*z
            · exact hi
            · rw[ahS (by simp;omega)] at hc;cases hc
           refine⟨hi,?_⟩;rw[aih hi] at hc;simp only[ahi,Option.some.injEq] at hc
           have hz0:0<z:=by
            rcases agX z with h | h
            · subst h;simp at hi
            · exact h
           rw[hZ (by omega),hzs] at hc;have hlt2:i%z<zv.cells.size:=by rw[hzs];exact agJ _ hz0
           rw[getElem!_pos zv.cells _ hlt2] at hc;rw[ahz hlt2,hc]
          have hDl:D.length=N*z:=by
           have:=congrArg Array.size hD
           simpa using this.symm
          rw[hD]
          obtain ⟨σ',μ',e1,e2,e3,e4⟩:=je (t:=et) (ob:=.row z (dy C N)) r (C:=D) ⟨fun x hx=>by
           unfold dy at hx;rw[(aiz.1 hx).2];simp[hCz],.inr ⟨_,D,rfl,gY.new _ _ _,by simp[dy,hDl],fun i c p hc hp=>by
           obtain ⟨c',h1,rfl⟩:=vA hp;have h2:=(hDs i c hc).2;rw[hCz,←hzc,ahF] at h1;rw[h1] at h2
           cases h2
           refine .lit ?_;refine fY hone _ ?_;rw[←hzc];exact ahc (by rw[ahF];exact h1)⟩⟩ hK
          have e5:RepV (w.alloc (.cells D.toArray et)) Im μ' (.sl σ.length z 0 N) (.slice (some ⟨w.heap.size,0,none⟩) N N):=.sl ⟨agt _,by rw[e3];exact⟨fun _=>by simp,by simp[hDl]⟩⟩;exact hk _ _ _ _ _ _ e1 e2 (fun _=>(Ext.refl [] w).alloc _) e5 e4
         unfold HT runK Instr.makeSlice;simp only[Sem.run_bind,run_underlying ht,Result.andThen_ok,asInt,asIntOf,pure_bind,Go.Eng.run_typeInfo hti,hbyt];have hw:IntKind.i64.wrap (N:Int)=N:=wrap_i64 (by omega)
         have hbig:((y:Int)*(N:Int)>2^48)=False:=by
          rw[Int.mul_comm];simp only[eq_iff_iff,iff_false];omega
         rw[hw]
         have h1:(decide ((N:Int)<0) || decide ((y:Int)*(N:Int)>2^48))=false:=by
          rw[agq (by omega),agq (by rw[hbig];exact id)];rfl
         simp only[h1,aiJ,aiY];rw[if_neg (by simp)]
         have hroomrun:∀(c:Nat) (w:World),(askRoom c).run P w=.ok () w:=fun c w=>by
          unfold askRoom
          split<;>rfl
         simp only[Sem.run_bind,hroomrun,Result.andThen_ok,Go.Eng.run_sizeOf hz,ag9]
         by_cases hz0:N*z=0
         · rw[if_pos hz0]
           exact fin #[] (fun h=>absurd hz0 h)
         · rw[if_neg hz0]
           simp only[Sem.run_bind,gQ hzv,Result.andThen_ok,pure_bind,bind_assoc];exact fin _ (fun _=>rfl)
       · exact h.elim
     · exact h.elim
   · exact h.elim
 · exact h.elim
theorem uj {v:Value} {n z:Nat} {cs:List Value} {m:List (List PV)} (h:gV w v n z cs) (hm:m.length=n) (hz:∀e∈m,e.length=z) (hr:∀(i:Nat) c p,cs[i]? =some c→m.flatten[i]? =some p→RepP w Im p c):
 ∃loc,(∀b q,loc=some (b,q)→b∈rQ v)∧(∀μ,eX w Im μ loc (.row z m))∧∀μ o,μ[o]? =some loc→RepV w Im μ (.sl o z 0 n) v:=by
 obtain ⟨hl,hor⟩:=h;rcases hor with⟨rfl,rfl⟩ | ⟨b,C,cap,rfl,hB,hC,hn,ht⟩
 · have:m=[]:=agD.1 hm
   subst this;exact⟨none,(fun b q e=>by cases e),fun μ=>⟨by simp,.inl ⟨rfl,rfl⟩⟩,fun μ o ho=>.sl ⟨agt _,by rw[ho];exact⟨rfl,rfl,rfl,rfl⟩⟩⟩
 · refine⟨some (b,C.length),(fun b' q e=>by cases e;simp[rQ]),fun μ=>⟨hz,.inr ⟨b,C,rfl,hB,?_,fun i c p hc hp=>?_⟩⟩,fun μ o ho=>.sl ⟨hn,by rw[ho];exact⟨fun _=>by simp,by simpa using hC⟩⟩⟩
   · rw[hm]
     exact agI (agP z hn) hC
   · have hi:=get_lt hp
     rw[ed hz,hm] at hi;refine hr i c p ?_ hp;rw[←ht,aha,if_pos hi];exact hc
theorem vt {l m:List (List PV)} {z i:Nat} {c:Value} {p:PV} {C D:List Value} (hC:C.length=l.length*z) (hz:∀e∈l,e.length=z) (hl:∀(i:Nat) c p,C[i]? =some c→l.flatten[i]? =some p→RepP w Im p c)
 (hm:∀(i:Nat) c p,D[i]? =some c→m.flatten[i]? =some p→RepP w Im p c) (hc:(C++D)[i]? =some c) (hp:(l++m).flatten[i]? =some p):RepP w Im p c:=by
 rw[List.flatten_append] at hp;have hf:=ed hz
 by_cases hi:i<C.length
 · rw[agx hi] at hc
   rw[agx (by omega)] at hp;exact hl i c p hc hp
 · rw[agy (by omega)] at hc
   rw[agy (by omega),hf,←hC] at hp;exact hm _ c p hc hp
theorem xx {e:Bool} {t tx ty:TypeId} {cst:Array Bool} {u x:V} {a b:Value} {K:KV} (r:Rel μ Im σ w) (hu:RepV w Im μ u a) (hx:RepV w Im μ x b) (h:lG P e t tx u x σ K):nG e μ Im σ w K fun k=>ik P .append #[t,tx] ty cst [a,b] w k:=by
 intro k hk;unfold lG at h
 split at h
 · rename_i et z et' zx hel helx
   obtain ⟨ht,hz⟩:=ch hel;obtain ⟨htx,hzx⟩:=ch helx
   split at h
   · rename_i C y hze hby
     split at h
     · rename_i hcond
       obtain ⟨hy0,hCz,rfl⟩:=hcond;obtain ⟨m,ad,cap,D,rfl,hD,hG⟩:=jl r hx h;unfold mZ at hG
       split at hG
       · rename_i o z' off len
         split at hG
         · rename_i hc1
           obtain ⟨rfl,rfl,rfl⟩:=hc1;obtain ⟨ob,hob,hG⟩:=cC hG;unfold rC at hG
           split at hG
           · rename_i z'' l
             split at hG
             · rename_i hc2
               obtain ⟨rfl,rfl,hbytes⟩:=hc2;obtain ⟨loc,hloc,hzl,hO⟩:=r.rep _ _ hob
               cases hu with
               | @sl _ _ _ _ capu adu hs=>
                 rw[hloc] at hs;obtain ⟨hlc,hs⟩:=hs
                 obtain ⟨cs,hown,hcr,hfp⟩:∃cs,gV w (.slice adu l.length capu) l.length z'' cs∧(∀(i:Nat) c p,cs[i]? =some c→l.flatten[i]? =some p→RepP w Im p c)∧(∀q∈rQ (.slice adu l.length capu),∃n,loc=some (q,n)):=by
                  rcases hO with⟨rfl,rfl⟩ | ⟨bb,CC,rfl,hB,hCl,hr⟩
                  · obtain ⟨rfl,_,rfl,_⟩:=hs
                    exact⟨[],gV.nil _ _,by simp,by simp[rQ]⟩
                  · obtain ⟨ha,hn⟩:=hs
                    have ha':=ha (.inr rfl);simp only[ahK,agU] at ha' hn;subst ha';refine⟨CC.take (l.length*z''),⟨by simp;omega,.inr ⟨bb,CC,capu,rfl,hB,hn,hlc,rfl⟩⟩,fun i c p hc hp=>?_,fun q hq=>by simp[rQ] at hq;subst hq;exact⟨_,rfl⟩⟩;rw[aha] at hc
                    split at hc
                    · exact hr i c p hc hp
                    · cases hc
                 refine qv (ty:=ty) (cst:=cst) ht htx hz hby hy0 hze hCz hown hD.row hD.len hD.one (by omega) fun v' w' hv' hE hF=>?_
                 have hEl:Ext (live μ σ) w w':=hE.mono (fun q hq=>by
                  obtain ⟨n,rfl⟩:=hfp q hq;exact .inl (aE.2 ⟨o,n,_,hloc,hob⟩))
                 have mn:Mono μ Im w μ Im w':=⟨ahr _,fun _ h=>h,fun q hq=>hEl.block q (r.im q hq).1 (r.im q hq).2⟩;obtain ⟨loc',k1,k2,k3⟩:=uj (Im:=Im) (m:=l++m) hv' (by simp) (fun e he=>(ah2.1 he).elim (hzl e) (hD.siz e)) (fun i c p hc hp=>(vt hown.1 hzl hcr hD.rep hc hp).mono mn)
                 obtain ⟨r',s'⟩:=r.renew (loc':=loc') (ob':=.row z'' (l++m)) hob hloc hEl (fun c hc hne=>by
                  obtain ⟨_,_,_,hc1,hc2⟩:=aE.1 hc;exact hE.block c (r.lt hc) (fun hm=>by obtain ⟨n,e⟩:=hfp c hm;exact hne n e)) (fun b q e=>by
                  rcases hF b (k1 b q e) with h | h
                  · exact .inl (hfp b h)
                  · exact .inr h) (k2 _)
                 refine hk _ _ _ _ _ _ r' s' (fun h=>by cases h) (k3 _ _ ?_) hG;rw[bu,if_neg (by simp[r.len]),if_pos (by simp[r.len])]
             · exact hG.elim
           · exact hG.elim
         · exact hG.elim
       · split at hG
         · rename_i hbytes
           cases hu
           refine qv (ty:=ty) (cst:=cst) ht htx hz hby hy0 hze hCz (gV.nil w _) hD.row hD.len hD.one (by rw[agU];exact hbytes) fun v' w' hv' hE hF=>?_;have hE':Ext [] w w':=hE.mono (by simp[rQ]);have mn:Mono μ Im w μ Im w':=⟨ahr _,fun _ h=>h,fun q hq=>hE'.block q (r.im q hq).1 (by simp)⟩;rw[aht,agU] at hv';obtain ⟨loc',k1,k2,k3⟩:=uj (Im:=Im) (m:=m) hv' rfl hD.siz (fun i c p hc hp=>(hD.rep i c p hc hp).mono mn)
           obtain ⟨r',s'⟩:=r.add (loc:=loc') (ob:=.row zx m) hE' (fun b q e=>by
            rcases hF b (k1 b q e) with h | h
            · simp[rQ] at h
            · exact h) (k2 _)
           refine hk _ _ _ _ _ _ r' s' (fun _=>hE') (k3 _ _ ?_) hG;rw[bu,if_neg (by simp[r.len]),if_pos (by simp[r.len])]
         · exact hG.elim
       · split at hG
         · rename_i z' l hc1
           obtain ⟨rfl,hm0,hbytes⟩:=hc1
           cases hu with
           | @xrow _ len _ adu hp=>
             cases hp with
             | @row _ _ _ _ _ CC hl hcap hzl hR hI hn ho hr=>
               subst hl;refine tT (ty:=ty) (cst:=cst) (n:=l.length) (m:=m.length) ht htx hz hby hy0 hze hCz hR hn hD.row hD.len hD.one (by omega) (by omega) fun v' w' hv' hE' hF=>?_;have mn:Mono μ Im w μ Im w':=⟨ahr _,fun _ h=>h,fun q hq=>hE'.block q (r.im q hq).1 (by simp)⟩;obtain ⟨loc',k1,k2,k3⟩:=uj (Im:=Im) (m:=l++m) hv' (by simp) (fun e he=>(ah2.1 he).elim (hzl e) (hD.siz e)) (fun i c p hc hp=>(vt hn hzl hr hD.rep hc hp).mono mn);obtain ⟨r',s'⟩:=r.add (loc:=loc') (ob:=.row z' (l++m)) hE' (fun b q e=>hF b (k1 b q e)) (k2 _);refine hk _ _ _ _ _ _ r' s' (fun _=>hE') (k3 _ _ ?_) hG;rw[bu,if_neg (by simp[r.len]),if_pos (by simp[r.len])]
         · exact hG.elim
       · exact hG.elim
     · exact h.elim
   · exact h.elim
 · exact h.elim
theorem qa {t:TypeId} (h:wT P t=true):∃e,P.underlying t=some (.slice e)∧P.underlying e=some (.int .u8):=by
 unfold wT at h
 split at h
 · rename_i e he
   split at h
   · rename_i h1 h2;exact⟨e,he,h1⟩
   · cases h
 · cases h
theorem ri:∀{m:List (List PV)} {G:List UInt8→Prop} {C:List Value},Il m G→C.length=m.length→(∀(i:Nat) c p,C[i]? =some c→m.flatten[i]? =some p→RepP w Im p c)→∃ns:List Int,C=ns.map (Value.int .u8)∧G (ns.map fun n=>UInt8.ofNat n.toNat)
 | [],G,C,h,hl,_=>⟨[],agD.1 (by simpa using hl),h⟩
 | e::m,G,C,h,hl,hr=>by
   unfold Il at h
   split at h
   · rename_i heq;cases heq
   · rename_i n r heq
     cases heq
     cases C with
     | nil=>simp at hl
     | cons c C=>
       have h0:=hr 0 c (.lit (.int .u8 n)) rfl (by simp)
       cases h0
       obtain ⟨ns,rfl,hG⟩:=ri h (by simpa using hl) (fun i c p h1 h2=>hr (i+1) c p (by simpa using h1) (by simpa using h2));exact⟨n::ns,rfl,hG⟩
   · exact h.elim
theorem qK:∀(ns:List Int) (s:List UInt8),ns.foldl (fun(r:ByteArray) n=>r.push (UInt8.ofNat n.toNat)) (bs s)=bs (s++ns.map fun n=>UInt8.ofNat n.toNat)
 | [],s=>by simp
 | n::ns,s=>by
   have e:(bs s).push (UInt8.ofNat n.toNat)=bs (s++[UInt8.ofNat n.toNat]):=by
    unfold bs ByteArray.push
    simp
   rw[List.foldl_cons,e,qK ns]
   simp
theorem qM {s t:TypeId} {u:V} {a:Value} {F:FV} (r:Rel μ Im σ w) (hu:RepV w Im μ u a) (h:fN P s t u σ F):∃u' v',RepV w Im μ u' v'∧F true u'∧∀w',Ext [] w w'→∀k:Kv,rv P s t a w' k=k true v' w':=by
 unfold fN at h
 split at h
 · rename_i hc
   obtain ⟨e,hs,he⟩:=qa hc.1;have ht:=fi hc.2;obtain ⟨m,ad,cap,C,rfl,hR,hG⟩:=jl r hu h;obtain ⟨ns,hC,hF⟩:=ri hG (by rw[hR.len,aid]) hR.rep;refine⟨_,_,.lit rfl,hF,fun w' hx k=>?_⟩;have hlen:ns.length=m.length:=by have:=hR.len;rw[hC] at this;simpa using this
   have hbs:(Conv.bytesToString (.slice ad m.length cap)).run P w'=.ok (.string (bs (ns.map fun n=>UInt8.ofNat n.toNat))) w':=by
    cases ad with
    | none=>
      have:ns=[]:=by
       cases ns with
       | nil=>rfl
       | cons n ns=>
         have:=hR.row.1 (by rw[hC];simp)
         cases this
      subst this
      rfl
    | some x=>
      have hrow:=hR.row.ext' hx
      have hld:(loadCells x m.length).run P w'=.ok (ns.map (Value.int .u8)).toArray w':=by
       cases ns with
       | nil=>
         have:m.length=0:=by simpa using hlen.symm
         rw[this]
         rfl
       | cons n ns=>
         have ha:=hrow.1 (by rw[hC];simp);have h2:=Go.Eng.run_loadCells (P:=P) (cs:=C) (b:=ab (some x)) (o:=ao (some x)) (fun i hi=>hrow.2 i hi);have hx':x=⟨ab (some x),ao (some x),none⟩:=Option.some.inj ha;rw[←hx',hC] at h2;rw[←hlen];simpa using h2
      rw[run_bytesToString w' x m.length cap ns hld]
      have:=qK ns []
      simp only[aht] at this;exact congrArg (fun z=>Result.ok (Value.string z) w') this
   unfold rv runK convert;simp only[Sem.run_bind,run_underlying hs,run_underlying ht,Result.andThen_ok,run_underlying he,hbs]
   rfl
 · obtain ⟨u',v',h1,h2,h3⟩:=qd hu h
   exact⟨u',v',h1,h2,fun w' _ k=>h3 w' k⟩
theorem Rel.grow (r:Rel μ Im σ w) (hx:Ext [] w w') {b:Nat} (h1:w.heap.size≤b) (h2:b<w'.heap.size):Rel μ (fun c=>Im c∨c=b) σ w'∧Stp μ Im σ w μ (fun c=>Im c∨c=b) σ w':=by
 have hm:Mono μ Im w μ (fun c=>Im c∨c=b) w':=⟨ahr _,fun _ h=>.inl h,fun b hb=>hx.block b (r.im b hb).1 (by simp)⟩;refine⟨⟨r.len,fun o ob h=>?_,r.inj,fun c hc=>?_,r.lay.mono hm⟩,⟨ahr _,fun _ h=>.inl h,hx.mono (by simp),fun _ h=>.inl h,fun c hc=>?_⟩⟩
 · obtain ⟨loc,h1,h2⟩:=r.rep o ob h
   refine⟨loc,h1,h2.mono hm (fun b n e=>?_)⟩;subst e;exact hx.block b (r.lt (aE.2 ⟨o,n,ob,h1,h⟩)) (by simp)
 · rcases hc with hc | rfl
   · exact⟨ag6 (r.im c hc).1 hx.size,(r.im c hc).2⟩
   · exact⟨h2,fun hl=>by have:=r.lt hl;omega⟩
 · rcases hc with hc | rfl
   · exact .inl hc
   · exact .inr (.inr h1)
theorem zn {e:Bool} {s t:TypeId} {u:V} {a:Value} {K:KV} (r:Rel μ Im σ w) (hu:RepV w Im μ u a) (h:mN P s t u σ K):nG e μ Im σ w K fun k=>rv P s t a w k:=by
 intro k hk;unfold mN at h
 split at h
 · rename_i hc
   split at h
   · rename_i b
     cases hu
     obtain ⟨el,ht,he⟩:=qa hc.2;unfold rv runK;rw[run_bytes_of_string w s t el b (fi hc.1) ht he];have hcap:=grownCap_ge w b.size 0 el;generalize grownCap w b.size 0 el=cap at*
     have hsz:b.data.toList.length=b.size:=aii;have hE:Ext [] w (w.drew.alloc (.cells (bytesRow b cap) el ((bytesRow b cap).size,(bytesRow b cap).size+1))):=(Ext.refl [] w).drew.alloc _;have hnew:(w.drew.alloc (.cells (bytesRow b cap) el ((bytesRow b cap).size,(bytesRow b cap).size+1))).heap[w.heap.size]? =some (.cells (bytesRow b cap) el ((bytesRow b cap).size,(bytesRow b cap).size+1)):=heap_alloc_new w.drew _
     have hlt:w.heap.size<(w.drew.alloc (.cells (bytesRow b cap) el ((bytesRow b cap).size,(bytesRow b cap).size+1))).heap.size:=by
      show w.heap.size<(w.heap.push _).size;rw[Array.size_push];omega
     generalize w.drew.alloc (.cells (bytesRow b cap) el ((bytesRow b cap).size,(bytesRow b cap).size+1))=w2 at*
     obtain ⟨r',s'⟩:=r.grow hE (agt _) hlt
     have hrow:Row w2 (some ⟨w.heap.size,0,none⟩) (b.data.toList.map fun x=>Value.int .u8 (x.toNat:Int)):=by
      refine⟨fun _=>rfl,fun i hi=>?_⟩;rw[agr] at hi;unfold World.cell?;simp only[ab,ao,ahi,aiQ,agU]
      show(match w2.heap[w.heap.size]? with | some (.cells c _ _)=>_ | _=>none)=_
      rw[hnew];simp only[Option.isSome_none,ahg,if_false];unfold bytesRow;have hi2:i<b.data.size:=by simpa using hi
      rw[Array.getElem?_append_left (by simpa using hi2)];rw[Array.getElem?_map,ahz hi2,List.getElem_map,Array.getElem_toList]
      rfl
     refine hk _ _ _ _ _ _ r' s' (fun _=>hE) (.row (.row (a:=some ⟨w.heap.size,0,none⟩) (C:=b.data.toList.map fun x=>Value.int .u8 (x.toNat:Int)) (by rw[agr,hsz]) hcap (fun e he=>by
      obtain ⟨x,_,rfl⟩:=aho.1 he
      rfl) hrow (fun _=>.inr rfl) (by rw[agr,hsz,aid]) (fun c hc=>by
      obtain ⟨x,_,rfl⟩:=aho.1 hc
      rfl) fun i c p h1 h2=>?_)) h
     have hfl:(b.data.toList.map fun x=> [PV.lit (.int .u8 (x.toNat:Int))]).flatten=b.data.toList.map fun x=>PV.lit (.int .u8 (x.toNat:Int)):=by
      induction b.data.toList with
      | nil=>rfl
      | cons x l ih=>simp[ih]
     rw[hfl,ag4] at h2;rw[ag4] at h1
     cases hx:b.data.toList[i]? with
     | none=>rw[hx] at h1;cases h1
     | some x=>
       rw[hx] at h1 h2
       cases h1;cases h2
       exact .lit rfl
   · exact h.elim
 · obtain ⟨u',v',h4,h5,h6⟩:=qM r hu h
   rw[h6 w (Ext.refl _ _)];exact hk _ _ _ _ _ _ r (Stp.refl _ _ _ _) (fun _=>Ext.refl _ _) h4 h5
end
end Go.Vx
namespace Go.Vx
open Go.Eng
set_option linter.unusedSimpArgs false
set_option linter.unusedVariables false
section
variable {w w':World} {Im:Nat→Prop} {μ:Mu} {σ:St} {ρ:Vg} {ρc:Rg} {P:Program}
theorem qp {t tx et ty:TypeId} {cst:Array Bool} {a ad:Option Addr} {n c cap z:Nat} {k:Kv} (ht:P.underlying t=some (.slice et)) (hz:cz P et=some z):ik P .copy #[t,tx] ty cst [.slice a n c,.slice ad 0 cap] w k=k true (.int .i64 (0:Nat)) w:=by
 have hrun:(Builtin.copy_ #[t,tx] ty #[.slice a n c,.slice ad 0 cap]).run P w=.ok (.int .i64 (0:Nat)) w:=by
  unfold Builtin.copy_;have hmin:Nat.min 0 n=0:=ahm (agM _);simp only[ahu,ahU,aie,Sem.run_bind,run_underlying ht,Result.andThen_ok,Go.Eng.run_sizeOf hz,Builtin.lenOf,pure_bind,hmin]
  have hf:(Builtin.firstCells z 0 (.slice ad 0 cap)).run P w=.ok #[] w:=by
   have:=cS (P:=P) (w:=w) (a:=ad) (n:=0) (z:=z) (len:=0) (cap:=cap) (Row.nil w ad) (by simp) (by simp)
   simpa using this
  rw[hf]
  cases a<;>rfl
 unfold ik fL runK builtin;simp only[Sem.run_bind,hrun,Result.andThen_ok]
 rfl
theorem Gl {α:Type} {l:List α} {i:Nat} {x:α} (h:l[i]? =some x):l.set i x=l:=by
 apply List.ext_getElem?;intro j
 by_cases e:i=j
 · subst e;rw[aij (get_lt h),h]
 · rw[ahw e]
theorem zi {t tx ty:TypeId} {cst:Array Bool} {u x:V} {a b:Value} {K:KV} (r:Rel μ Im σ w) (hu:RepV w Im μ u a) (hx:RepV w Im μ x b) (h:ya P t tx u x σ K):nG false μ Im σ w K fun k=>ik P .copy #[t,tx] ty cst [a,b] w k:=by
 intro k hk;unfold ya at h
 split at h
 · rename_i et z et' zx hel helx
   obtain ⟨ht,hz⟩:=ch hel
   split at h
   · rename_i e
     subst e;obtain ⟨m,ad,cap,D,rfl,hD,hG⟩:=jl r hx h;unfold Bl at hG
     split at hG
     · rename_i o z' off len
       split at hG
       · rename_i hc
         obtain ⟨rfl,hml⟩:=hc;obtain ⟨ob,hob,hG⟩:=cC hG;unfold Gv at hG
         split at hG
         · rename_i z'' l
           split at hG
           · rename_i hc2
             obtain ⟨rfl,hle⟩:=hc2
             cases hu with
             | @sl _ _ _ _ capu adu hs=>
               obtain ⟨hlc,hs⟩:=hs
               by_cases hm0:m.length=0
               · have:m=[]:=agD.1 hm0
                 subst this;have e1:(l.take off++[]++l.drop (off+([]:List (List PV)).length))=l:=by simp
                 rw[e1,Gl hob] at hG;have e2:([]:List (List PV)).length=0:=rfl;rw[e2] at hG ⊢;rw[qp ht hz];exact hk _ _ _ _ _ _ r (Stp.refl _ _ _ _) (fun h=>by cases h) (.lit rfl) hG
               · obtain ⟨loc,hloc,hzl,hO⟩:=r.rep _ _ hob
                 rw[hloc] at hs;rcases hO with⟨rfl,rfl⟩ | ⟨bb,CC,rfl,hB,hCl,hr⟩
                 · obtain ⟨_,h0,_⟩:=hs;omega
                 · obtain ⟨ha,hn⟩:=hs
                   have ha':=ha (.inl (by omega));subst ha';have hmz:off*z''+m.length*z''≤l.length*z'':=by rw[←agH];exact agP z'' (by omega)
                   have hDl:=hD.len;rw[Co (P:=P) ht hz hB hD.row hD.len hD.one hml (by omega)]
                   have hE:Ext [bb] w (if D=[] then w else dS w bb (cX CC (off*z'') D)):=by
                    split
                    · exact Ext.refl _ _
                    · exact iS _ _ _
                   have hlive:bb∈live μ σ:=aE.2 ⟨o,_,_,hloc,hob⟩
                   have mn:Mono μ Im w μ Im (if D=[] then w else dS w bb (cX CC (off*z'') D)):=⟨ahr _,fun _ h=>h,fun q hq=>hE.block q (r.im q hq).1 (by
                    simp only[ahf];intro e;subst e;exact(r.im q hq).2 hlive)⟩
                   have hB':gY (if D=[] then w else dS w bb (cX CC (off*z'') D)) bb (cX CC (off*z'') D):=by
                    split
                    · rename_i e;subst e;simpa [cX] using hB
                    · exact ft hB
                   have hlen:(cX CC (off*z'') D).length=CC.length:=fH _ _ _
                   have hzm:∀e∈l.take off++m++l.drop (off+m.length),e.length=z'':=by
                    intro e he;simp only[ah2] at he;rcases he with(he | he) | he
                    · exact hzl e (ag5 he)
                    · exact hD.siz e he
                    · exact hzl e (ahW he)
                   have hflat:(l.take off++m++l.drop (off+m.length)).flatten=l.flatten.take (off*z'')++m.flatten++l.flatten.drop (off*z''+m.length*z''):=by
                    rw[List.flatten_append,List.flatten_append,kx off hzl,kh _ hzl,agH]
                   have hlf:=ed hzl;have hmf:=ed hD.siz
                   obtain ⟨r',s'⟩:=r.upd (ob':=.row z'' (l.take off++m++l.drop (off+m.length))) hob hloc hE ⟨hzm,.inr ⟨bb,cX CC (off*z'') D,by rw[hlen],hB',by
                    rw[hlen]
                    have:(l.take off++m++l.drop (off+m.length)).length=l.length:=by simp;omega
                    rw[this];exact hCl,fun i c p hc hp=>by
                    rw[iC _ _ _ _ (by omega)] at hc;rw[hflat] at hp
                    by_cases h1:i<off*z''
                    · rw[if_neg (by omega)] at hc
                      rw[agw,agx (by simp only[agz,agn,ag3];omega),aha,if_pos h1] at hp;exact(hr i c p hc hp).mono mn
                    · by_cases h2:i<off*z''+m.length*z''
                      · rw[if_pos (by omega)] at hc
                        rw[agw,agy (by simp only[agz,agn,ag3];omega),agx (by simp only[agz,agn,ag3];omega)] at hp;refine(hD.rep _ c p hc ?_).mono mn;rw[←hp]
                        congr 1
                        simp only[agz,agn,ag3];omega
                      · rw[if_neg (by omega)] at hc
                        rw[agw,agy (by simp only[agz,agn,ag3];omega),agy (by simp only[agz,agn,ag3];omega),ahh] at hp;refine(hr i c p hc ?_).mono mn;rw[←hp]
                        congr 1
                        simp only[agz,agn,ag3];omega⟩⟩
                   exact hk _ _ _ _ _ _ r' s' (fun h=>by cases h) (.lit rfl) hG
           · exact hG.elim
         · exact hG.elim
       · exact hG.elim
     · exact hG.elim
   · exact h.elim
 · exact h.elim
theorem xm {t et ty:TypeId} {z:Nat} {cst:Array Bool} {u:V} {a:Value} {F:FV} (hel:eP P t=some (et,z)) (hu:RepV w Im μ u a) (h:eY u F):Comes w Im μ F fun w' k=>ik P .len #[t] ty cst [a] w' k:=by
 obtain ⟨ht,_⟩:=ch hel;unfold eY at h
 split at h
 · cases hu with
   | row hp=>cases hp with
     | row hl _ _ _ _ _ _ _=>subst hl;exact⟨_,_,.lit rfl,h,fun _ _=>eU ht⟩
 · cases hu with
   | xrow hp=>cases hp with
     | row hl _ _ _ _ _ _ _=>subst hl;exact⟨_,_,.lit rfl,h,fun _ _=>eU ht⟩
 · cases hu with
   | sl _=>exact⟨_,_,.lit rfl,h,fun _ _=>eU ht⟩
 · cases hu
   exact⟨_,_,.lit rfl,h,fun _ _=>eU ht⟩
 · exact h.elim
theorem yi {t ty:TypeId} {cst:Array Bool} {u:V} {a:Value} {F:FV} (hu:RepV w Im μ u a) (h:v8 P t u F):Comes w Im μ F fun w' k=>ik P .len #[t] ty cst [a] w' k:=by
 unfold v8 at h
 split at h
 · rename_i s
   split at h
   · rename_i hst
     have ht:=fi hst
     cases hu
     refine⟨_,_,.lit rfl,h,fun w' k=>?_⟩;dsimp only;unfold ik fL runK builtin Builtin.len_;simp only[Sem.run_bind,List.getElem?_toArray,List.getElem?_cons_zero];simp only[run_underlying ht,Result.andThen_ok]
     rfl
   · exact h.elim
 · split at h
   · rename_i ez hel
     exact xm (et:=ez.1) (z:=ez.2) hel hu h
   · exact h.elim
theorem Comes.runs {e:Bool} {K:KV} {op:World→Kv→Prop} (r:Rel μ Im σ w) (h:Comes w Im μ (fun τ u=>K τ u σ) op):nG e μ Im σ w K fun k=>op w k:=by
 intro k hk;obtain ⟨u,v,h1,h2,h3⟩:=h;rw[h3];exact hk _ _ _ _ _ _ r (Stp.refl _ _ _ _) (fun _=>Ext.refl _ _) h1 h2
theorem nY {e:Bool} {f:Nat} {us:List V} {vs:List Value} {K:KV} (r:Rel μ Im σ w) (hr:aW w Im μ us vs) (h:dv P e f us σ K):nG e μ Im σ w K fun k=>k7 P f vs.toArray w k:=by
 intro k hk;exact Dh (h μ Im w vs r hr) fun v w' ⟨u,σ',μ',Im',h1,h2,h3,h4,h5⟩=>hk _ _ _ _ _ _ h1 h2 h3 h4 h5
theorem yU {e:Bool} {b:Builtin} {al:List TypeId} {ty:TypeId} {cst:Array Bool} {us:List V} {vs:List Value} {K:KV} (r:Rel μ Im σ w) (h4:aW w Im μ us vs) (h5:ec P e b al us σ K):nG e μ Im σ w K fun k=>ik P b al.toArray ty cst vs w k:=by
 unfold ec at h5
 split at h5
 · obtain ⟨v,vs',rfl,q1,q2⟩:=h4.uncons
   have:vs'=[]:=agD.1 (by simpa using q2.1)
   subst this;exact(yi q1 h5).runs r
 · obtain ⟨v,vs',rfl,q1,q2⟩:=h4.uncons
   obtain ⟨v2,vs',rfl,q3,q4⟩:=q2.uncons
   have:vs'=[]:=agD.1 (by simpa using q4.1)
   subst this;exact xx r q1 q3 h5
 · obtain ⟨v,vs',rfl,q1,q2⟩:=h4.uncons
   obtain ⟨v2,vs',rfl,q3,q4⟩:=q2.uncons
   have:vs'=[]:=agD.1 (by simpa using q4.1)
   subst this
   cases e with
   | true=>exact(h5:False).elim
   | false=>exact zi r q1 q3 h5
 · exact(sn h4 h5).runs r
 · exact(sU h4 h5).runs r
 · exact h5.elim
theorem D8 {t:TypeId} {name:String} {f:FuncId} {i:IntKind} {a:Int} {args:Array Value} (h:Iy P t name=some f) (w':World):(callMethod (.iface t (.int i a)) name args).run P w'=(callFunc f (#[.int i a]++args)).run P w':=by
 unfold Iy at h
 split at h
 · rename_i info hi
   split at h
   · rename_i m hm
     split at h
     · rename_i f' kk hp hf hu
       injection h with h;subst h;obtain ⟨nm,sig,path,func⟩:=m;dsimp only at hp hf
       have hpe:path=#[]:=by
        have:=congrArg List.toArray hp
        simpa using this
       subst hpe hf
       have hrun:∀n,(method (n+1) t (.int i a) name).run P w'=.ok (f',.int i a) w':=fun n=>by
        unfold method;rw[Sem.run_bind,Go.Eng.run_typeInfo hi,Result.andThen_ok];simp only[hm];rw[Sem.run_bind]
        show((follow [] t (Place.val (.int i a))).run P w').andThen _=_
        show((Result.ok (t,Place.val (.int i a)) w'):Result (TypeId×Place)).andThen _=_
        rw[Result.andThen_ok];dsimp only;rw[Sem.run_bind]
        have hrec:∀o,(receiverAt t (Place.val (.int i a)) false o).run P w'=.ok (.int i a) w':=fun o=>by
         unfold receiverAt;rw[Sem.run_bind,run_underlying hu,Result.andThen_ok]
         rfl
        rw[hrec,Result.andThen_ok]
        rfl
       have hpos:0<Made.depth:=by decide
       obtain ⟨n,hn⟩:∃n,P.types.size+Made.depth=n+1:=⟨P.types.size+Made.depth-1,by omega⟩;unfold callMethod;rw[Sem.run_bind]
       show((Result.ok P w':Result Program)).andThen _=_
       rw[Result.andThen_ok,Sem.run_bind,hn,hrun,Result.andThen_ok]
     · cases h
   · cases h
 · cases h
theorem x8 {e:Bool} {u:V} {a:Value} {name:String} {us:List V} {vs:List Value} {K:KV} (r:Rel μ Im σ w) (hu:RepV w Im μ u a) (hr:aW w Im μ us vs) (h:oh P e u name us σ K):nG e μ Im σ w K fun k=>fL P (callMethod a name vs.toArray) w k:=by
 unfold oh at h
 split at h
 · split at h
   · rename_i hf
     cases hu
     intro k hk;have h2:=nY r (.cons (.lit rfl) hr) h k hk;have h3:=j6 h2;unfold fL runK at h3 ⊢;rw[D8 hf];have e:∀(v:Value),#[v]++vs.toArray=(v::vs).toArray:=fun v=>by simp
     rw[e];exact h3
   · exact h.elim
 · exact h.elim
set_option maxHeartbeats 2000000 in
theorem iT {τ e:Bool} {o:Oper} {K:KV} (r:Rel μ Im σ w) (hg:dH w Im μ ρ ρc) (h:dZ τ e P o ρ σ K):nG e μ Im σ w K fun k=>nI true P o ρc w k:=by
 obtain ⟨d,op,ty,pos,af,g⟩:=o;have plain:gW τ P ⟨d,op,ty,pos,af,g⟩ ρ (fun τ u=>K τ u σ)→nG e μ Im σ w K fun k=>nI true P ⟨d,op,ty,pos,af,g⟩ ρc w k:=fun h=>(lz hg h).runs r;unfold dZ at h
 cases op with
 | alloc t=>exact zf r h
 | box t x=>
   intro k hk;obtain ⟨u,a,h1,h2,h3⟩:=aN hg h;show cZ ρc x fun v=>Ot P t v w k;rw[h3];exact yF r h1 h2 k hk
 | build t ps=>
   intro k hk;obtain ⟨js,us,vs,h0,h1,h2,h3⟩:=gJ hg h;show pN ρc ps.toList fun vs=>Mx P t vs w k;rw[h3];exact(qf h0 h1 h2).runs r k hk
 | buildSlice t n ps=>
   intro k hk;obtain ⟨js,us,vs,h0,h1,h2,h3⟩:=gJ hg h;show pN ρc ps.toList fun vs=>rI P t n vs w k;rw[h3];exact xK r h0 h1 h2 k hk
 | load t x=>
   intro k hk;obtain ⟨u,a,h1,h2,h3⟩:=aN hg h;show cZ ρc x fun v=>df P t v w k;rw[h3];obtain ⟨u',v',h4,h5,h6⟩:=iK r h1 h2;rw[h6];exact hk _ _ _ _ _ _ r (Stp.refl _ _ _ _) (fun _=>Ext.refl _ _) h4 h5
 | slice t x lo hi mx=>
   intro k hk;obtain ⟨u,a,h1,h2,h3⟩:=aN hg h;obtain ⟨ul,al,l1,l2,l3⟩:=eu hg h2;obtain ⟨uh,ah,i1,i2,i3⟩:=eu hg l2;obtain ⟨um,am,m1,m2,m3⟩:=eu hg i2;obtain ⟨u',v',h4,h5,h6⟩:=o8 r h1 l1 i1 m1 m2;have h7:∀w' (k:Kv),jU P t a al ah am w' k=k true v' w':=h6;show cZ ρc x fun v'=>iV ρc lo fun lo=>iV ρc hi fun hi=>iV ρc mx fun mx=>jU P t v' lo hi mx w k;rw[h3,l3,i3,m3,h7];exact hk _ _ _ _ _ _ r (Stp.refl _ _ _ _) (fun _=>Ext.refl _ _) h4 h5
 | convert s t x=>
   intro k hk;obtain ⟨u,a,h1,h2,h3⟩:=aN hg h;show cZ ρc x fun v=>rv P s t v w k;rw[h3];exact zn r h1 h2 k hk
 | store t x y=>
   intro k hk;obtain ⟨u,a,h1,h2,h3⟩:=aN hg h;obtain ⟨u',a',h4,h5,h6⟩:=aN hg h2
   cases e with
   | true=>
     show cZ ρc x fun a=>cZ ρc y fun v=>gP P t a v w fun τ w'=>k τ undef w';rw[h3,h6];obtain ⟨q1,q2⟩:=BJ r h1 h4 h5;rw[q2];exact hk _ _ _ _ _ _ r (Stp.refl _ _ _ _) (fun _=>Ext.refl _ _) (.tup (C:=[]) rfl (fun i u c h=>by simp at h)) q1
   | false=>
     show cZ ρc x fun a=>cZ ρc y fun v=>gP P t a v w fun τ w'=>k τ undef w';rw[h3,h6];obtain ⟨w',σ',q1,q2,q3,q4⟩:=sw r h1 h4 h5;rw[q4];exact hk _ _ _ _ _ _ q1 q2 (fun h=>by cases h) (.tup (C:=[]) rfl (fun i u c h=>by simp at h)) q3
 | makeFunc fn first captured=>
   intro k hk;dsimp only at h
   split at h
   · rename_i f hf
     obtain ⟨us,vs,h1,h2,h3⟩:=dz hg h;show gF ρc first.toList fun f'=>gF ρc captured.toList fun c=>k true (.func (.func f) f'.toArray c.toArray) w;rw[hf];show gF ρc captured.toList fun c=>k true (.func (.func f) #[] c.toArray) w;rw[h3];exact hk _ _ _ _ _ _ r (Stp.refl _ _ _ _) (fun _=>Ext.refl _ _) (.clo h1.1 h1.2) h2
   · exact h.elim
 | makeSlice t l c=>
   intro k hk;obtain ⟨u,a,h1,h2,h3⟩:=aN hg h;obtain ⟨u',a',h4,h5,h6⟩:=aN hg h2;show cZ ρc l fun l=>cZ ρc c fun c=>HT P t l c w k;rw[h3,h6];exact yR r h1 h4 h5 k hk
 | call c=>
   obtain ⟨callee,args,ats⟩:=c;intro k hk;dsimp only at h
   cases callee with
   | value f=>
     obtain ⟨u,a,h1,h2,h3⟩:=aN hg h;obtain ⟨us,vs,h4,h5,h6⟩:=dz hg h2;show cZ ρc f fun f=>gF ρc args.toList fun args=>match f with | .func (.func g) first captured=>k7 P g (first++args.toArray++captured) w k | _=>False
     rw[h3,h6];unfold KQ at h5
     split at h5
     · cases h1 with
       | @clo f l C hn hr=>
         have e:(#[]++vs.toArray++C.toArray:Array Value)=(vs++C).toArray:=by simp
         show k7 P _ (#[]++vs.toArray++C.toArray) w k;rw[e];exact nY r (h4.append ⟨hn,hr⟩) h5 k hk
     · exact h5.elim
   | builtin b=>
     obtain ⟨us,vs,h4,h5,h6⟩:=dz hg h;have hargs:args=args.toList.toArray:=by simp
     have hats:ats=ats.toList.toArray:=by simp
     rw[hargs,vI,h6];generalize args.toList=al at*
     generalize ats.toList=tl at*
     subst hats;exact yU r h4 h5 k hk
   | invoke rc name=>
     obtain ⟨u,a,h1,h2,h3⟩:=aN hg h;obtain ⟨us,vs,h4,h5,h6⟩:=dz hg h2;show cZ ρc rc fun r=>gF ρc args.toList fun args=>fL P (callMethod r name args.toArray) w k;rw[h3,h6];exact x8 r h1 h4 h5 k hk
 | _=>dsimp only at h;exact plain h
end
end Go.Vx
namespace Go.Vx
open Go.Eng
set_option linter.unusedSimpArgs false
set_option linter.unusedVariables false
abbrev Pi:=List (Option Nat)
def tE (ob:Ob) (z off len:Nat) (l:List (List PV)):Prop:=match ob with
 | .row z'' l'=>z=z''∧off+len≤l'.length∧l=(l'.drop off).take len
 | _=>False
def tP0 (ok:Nat→Bool) (σ:St):V→PV→Prop
 | .lit v,.lit v'=>v'=v
 | .lit v,.row _ l=>v=.slice none 0 0∧l=[]
 | .row z l,.row z' l'=>z'=z∧l'=l
 | .xrow z l,.row z' l'=>z'=z∧l'=l
 | .sl o z off len,.row z' l=>z'=z∧ok o=true∧m7 σ o fun ob=>tE ob z off len l
 | .rref z l i off,.ptr z' l' i' off'=>z'=z∧l'=l∧i'=i∧off'=off
 | _,_=>False
def DW (f:V→PV→Prop):List V→List PV→Prop
 | [],[]=>True
 | u::us,p::ps=>f u p∧DW f us ps
 | _,_=>False
def tO (f:V→PV→Prop) (z:Nat) (l:List (List PV)) (i off z' i' off':Nat):Ob→Prop
 | .cells us=>(match l with | [ps]=>z=ps.length∧i=0∧off=sW z' i' off'∧DW f us ps | _=>False)
 | .row z'' L=>z=z'∧z''=z'∧l=L∧i=i'∧off=off'
def Lz (f:V→PV→Prop) (z:Nat):List V→List (List PV)→Prop
 | _,[]=>True
 | us,e::l=>z≤us.length∧DW f (us.take z) e∧Lz f z (us.drop z) l
def tR (f:V→PV→Prop) (z off len:Nat) (l:List (List PV)):Ob→Prop
 | .cells us=>off=0∧l.length=len∧Lz f z us l
 | .row z'' L=>tE (.row z'' L) z off len l
def DQ (ok:Nat→Bool) (σ:St):Nat→V→PV→Prop
 | 0,u,p=>tP0 ok σ u p
 | n+1,u,p=>(match u,p with
   | .ref o z' i' off',.ptr z l i off=>ok o=true∧m7 σ o fun ob=>tO (DQ ok σ n) z l i off z' i' off' ob
   | .sl o z off len,.row z' l=>z'=z∧ok o=true∧m7 σ o fun ob=>tR (DQ ok σ n) z off len l ob
   | u,p=>tP0 ok σ u p)
mutual
def mV (ok:Nat→Bool) (π:Pi) (σ:St):V→V→Prop
 | .lit v,u=>u=.lit v
 | .row z l,u=>(match u with
   | .row z' l'=>z=z'∧l=l'
   | .xrow z' l'=>z=z'∧l=l'
   | .lit (.slice none 0 0)=>l=[]
   | .sl o z' off len=>z=z'∧ok o=true∧m7 σ o fun ob=>tR (DQ ok σ 4) z off len l ob
   | _=>False)
 | .xrow z l,u=>(match u with | .xrow z' l'=>z=z'∧l=l' | _=>False)
 | .ref o z i off,u=>(match u with | .ref o' z' i' off'=>π[o]? =some (some o')∧z=z'∧i=i'∧off=off' | _=>False)
 | .sl o z off len,u=>(match u with
   | .sl o' z' off' len'=>π[o]? =some (some o')∧z=z'∧off=off'∧len=len'
   | .lit (.slice none 0 0)=>π[o]? =some none∧off=0∧len=0
   | _=>False)
 | .rref z l i off,u=>(match u with
   | .rref z' l' i' off'=>z=z'∧l=l'∧i=i'∧off=off'
   | .ref o z' i' off'=>ok o=true∧m7 σ o fun ob=>tO (DQ ok σ 4) z l i off z' i' off' ob
   | _=>False)
 | .agg l,u=>(match u with | .agg m=>rn ok π σ l m | _=>False)
 | .tup l,u=>(match u with | .tup m=>rn ok π σ l m | _=>False)
 | .clo f l,u=>(match u with | .clo g m=>f=g∧rn ok π σ l m | _=>False)
def rn (ok:Nat→Bool) (π:Pi) (σ:St):List V→List V→Prop
 | [],[]=>True
 | u::us,v::vs=>mV ok π σ u v∧rn ok π σ us vs
 | _,_=>False
end
def xP:List (List PV)→Option (List V)
 | []=>some []
 | [.lit v]::r=>(xP r).map (V.lit v:: ·)
 | _::_=>none
def mO (ok:Nat→Bool) (π:Pi) (σ:St):Ob→Ob→Prop
 | .cells l,.cells m=>rn ok π σ l m
 | .row z l,.row z' m=>z=z'∧l=m
 | .row z l,.cells m=>z=1∧xP l=some m
 | .cells m,.row _ l=>l≠ []∧m=l.flatten.map V.ofP
def mE (ok:Nat→Bool) (π:Pi) (σ:St):St→Pi→Prop
 | [],[]=>True
 | none::s,_::ps=>mE ok π σ s ps
 | some ob::s,some o::ps=>(m7 σ o fun ob'=>mO ok π σ ob ob')∧mE ok π σ s ps
 | some (.row _ l)::s,none::ps=>l=[]∧mE ok π σ s ps
 | _,_=>False
def mG (ok:Nat→Bool) (π:Pi) (σ:St):Vg→Vg→Prop
 | [],_=>True
 | (t,u)::r,ρ=>(jA ρ t fun v=>mV ok π σ u v)∧mG ok π σ r ρ
def O2 (π:Pi):Bool:=decide ((π.filterMap id).Nodup)
def uH:Pi→St→List Nat
 | some o::π,some _::s=>o::uH π s
 | _::π,_::s=>uH π s
 | _,_=> []
def Ch (π:Pi) (s:St):Bool:=decide (uH π s).Nodup
def rL (k:Nat) (π:Pi):Bool:=(List.range k).all fun i=>π[i]? ==some (some i)
def lP (π:Pi) (o:Nat):Bool:= !π.contains (some o)
def H2 (k:Nat) (π:Pi) (ρ₀:Vg) (σ₀:St) (ρ:Vg) (σ:St):Prop:=(Ch π σ₀&&rL k π)=true∧mE (lP π) π σ σ₀ π∧mG (lP π) π σ ρ₀ ρ
def acP (k:Nat) (π:Pi) (u₀:V) (σ₀:St) (u:V) (σ:St):Prop:=(Ch π σ₀&&rL k π)=true∧mE (lP π) π σ σ₀ π∧mV (lP π) π σ u₀ u
section
variable {w:World} {Im Im':Nat→Prop} {μ:Mu} {σ:St} {π:Pi} {ok:Nat→Bool}
def gG (μ:Mu) (π:Pi):Mu:=π.map fun p=>match p with | some o=>(μ[o]?).getD none | none=>none
theorem fh {j o:Nat} (h:π[j]? =some (some o)):(gG μ π)[j]? =some ((μ[o]?).getD none):=by simp[gG,h]
theorem iW {j:Nat} (h:π[j]? =some none):(gG μ π)[j]? =some none:=by simp[gG,h]
structure Frz (μ:Mu) (Im:Nat→Prop) (σ:St) (ok:Nat→Bool) (Im':Nat→Prop):Prop where
 old:∀b,Im b→Im' b
 new:∀(o:Nat) b n ob,ok o=true→σ[o]? =some (some ob)→μ[o]? =some (some (b,n))→Im' b
theorem RepP.im {p:PV} {v:Value} (h:RepP w Im p v) (hI:∀b,Im b→Im' b):RepP w Im' p v:=
 h.mono (μ:=[]) (μ':=[]) ⟨ahr _,hI,fun _ _=>rfl⟩
theorem sa {o z off len cap:Nat} {a:Option Addr} {l:List (List PV)} (r:Rel μ Im σ w) (fz:Frz μ Im σ ok Im') (hok:ok o=true) (hob:σ[o]? =some (some (.row z l))) (hle:off+len≤l.length) (hs:II μ[o]? z off len a cap):
 RepP w Im' (.row z ((l.drop off).take len)) (.slice a len cap):=by
 have hrow:gM (.sl o z off len) σ z (fun m=>m=(l.drop off).take len):=by
  unfold gM;simp only[if_true];unfold m7 lO rq;rw[hob];simp only[true_and];rw[if_pos hle]
  trivial
 obtain ⟨m,ad,cp,C,e,hR,hG⟩:=jl r (RepV.sl hs) hrow;subst hG;injection e with e1 e2 e3;subst e1 e3;refine .row (C:=C) (by simp;omega) hs.1 hR.siz hR.row (fun hne=>?_) (by rw[hR.len,←e2]) hR.one (fun i c p h1 h2=>(hR.rep i c p h1 h2).im fz.old);obtain ⟨loc,hloc,hz,hO⟩:=r.rep _ _ hob;rw[hloc] at hs;obtain ⟨hlc,hs⟩:=hs;rcases hO with⟨rfl,rfl⟩ | ⟨b,D,rfl,hB,hCl,hr⟩
 · obtain ⟨_,rfl,_⟩:=hs
   exact absurd (agD.1 (by rw[hR.len];simp)) hne
 · have hlen:0<len:=by
    rcases agX len with h | h
    · subst h
      exact absurd (agD.1 (by rw[hR.len];simp)) hne
    · exact h
   rw[hs.1 (.inl hlen)];exact fz.new o b _ _ hok hob hloc
theorem rR (r:Rel μ Im σ w) (fz:Frz μ Im σ ok Im') {u:V} {p:PV} {c:Value} (h:tP0 ok σ u p) (hu:RepV w Im μ u c):RepP w Im' p c:=by
 cases u<;>cases p<;>simp only[tP0] at h
 · subst h
   cases hu with | lit h=>exact .lit h
 · obtain ⟨rfl,rfl⟩:=h
   cases hu
   exact .row (C:=[]) rfl (agt _) (by simp) (Row.nil _ _) (fun h=>absurd rfl h) (by simp) (by simp) (by simp)
 · obtain ⟨rfl,rfl⟩:=h
   cases hu with | row h=>exact h.im fz.old
 · obtain ⟨rfl,rfl⟩:=h
   cases hu with | xrow h=>exact h.im fz.old
 · obtain ⟨rfl,hok,h⟩:=h
   obtain ⟨ob,hob,h⟩:=cC h;unfold tE at h
   split at h
   · obtain ⟨rfl,hle,rfl⟩:=h
     cases hu with | sl hs=>exact sa r fz hok hob hle hs
   · exact h.elim
 · obtain ⟨rfl,rfl,rfl,rfl⟩:=h
   cases hu with | rref q1 q2 q3 q4 q5 q6=>exact .ptr q1 q2 (fun h=>fz.old _ (q3 h)) q4 q5 (fun i c p h1 h2=>(q6 i c p h1 h2).im fz.old)
theorem nA {f:V→PV→Prop} (hf:∀(u:V) (p:PV) (c:Value),f u p→RepV w Im μ u c→RepP w Im' p c):∀{us:List V} {ps:List PV} {C:List Value},DW f us ps→aW w Im μ us C→ps.length=us.length∧∀(i:Nat) c p,C[i]? =some c→ps[i]? =some p→RepP w Im' p c
 | [],[],C,_,_=>⟨rfl,fun i c p _ h=>by simp at h⟩
 | u::us,p::ps,C,h,hr=>by
   obtain ⟨v,vs,rfl,h1,h2⟩:=hr.uncons;obtain ⟨e,ih⟩:=nA hf h.2 h2;refine⟨by simp[e],fun i c q hc hq=>?_⟩
   cases i with
   | zero=>simp at hc hq;subst hc hq;exact hf _ _ _ h.1 h1
   | succ i=>simp at hc hq;exact ih i c q hc hq
 | [],_::_,_,h,_=>by simp[DW] at h
 | _::_,[],_,h,_=>by simp[DW] at h
theorem sJ {f:V→PV→Prop} {z:Nat} (hf:∀(u:V) (p:PV) (c:Value),f u p→RepV w Im μ u c→RepP w Im' p c):∀{l:List (List PV)} {us:List V} {C:List Value},Lz f z us l→aW w Im μ us C→(∀e∈l,e.length=z)∧l.length*z≤us.length∧∀(i:Nat) c p,C[i]? =some c→l.flatten[i]? =some p→RepP w Im' p c
 | [],us,C,_,_=>⟨by simp,by simp,by simp⟩
 | e::l,us,C,h,hr=>by
   obtain ⟨h1,h2,h3⟩:=h;have p1:=hr.part 0 z;have p2:=hr.part z us.length;rw[agO,agO] at p1;rw[agB (by simp),agB (by simp[hr.1])] at p2;obtain ⟨e1,q1⟩:=nA hf h2 p1;obtain ⟨e2,e3,q2⟩:=sJ hf h3 p2;rw[agz,ahm h1] at e1;rw[ag3] at e3;refine⟨fun x hx=>?_,?_,fun i c p hc hp=>?_⟩
   · rcases agG.1 hx with rfl | hx
     · exact e1
     · exact e2 x hx
   · rw[agu,Nat.succ_mul]
     omega
   · rw[ahT] at hp
     by_cases hi:i<z
     · rw[agx (by omega)] at hp
       exact q1 i c p (by rw[aha,if_pos hi];exact hc) hp
     · rw[agy (by omega),e1] at hp
       exact q2 (i-z) c p (by rw[ahh,←hc];congr 1;omega) hp
theorem Ei {z i off z' i' off':Nat} {l:List (List PV)} {us:List V} {f:V→PV→Prop} (h:tO f z l i off z' i' off' (.cells us)):∃ps,l=[ps]∧z=ps.length∧i=0∧off=sW z' i' off'∧DW f us ps:=by
 unfold tO at h;simp only at h
 match l,h with
 | [ps],h=>exact⟨ps,rfl,h⟩
theorem vJ (r:Rel μ Im σ w) (fz:Frz μ Im σ ok Im') {f:V→PV→Prop} (hf:∀(u:V) (p:PV) (c:Value),f u p→RepV w Im μ u c→RepP w Im' p c) {o z i off z' i' off':Nat} {l:List (List PV)} {v:Value} (hok:ok o=true) (h:m7 σ o fun ob=>tO f z l i off z' i' off' ob) (hu:RepV w Im μ (.ref o z' i' off') v):RepP w Im' (.ptr z l i off) v:=by
 obtain ⟨ob,hob,h⟩:=cC h;obtain ⟨loc,hloc,hO⟩:=r.rep _ _ hob
 cases hu with
 | @ref _ _ _ _ b n hm=>
   have hIm:Im' b:=fz.new o b n ob hok hob hm;rw[hloc] at hm
   cases hm
   cases ob with
   | cells us=>
     obtain ⟨ps,rfl,rfl,rfl,rfl,hps⟩:=Ei h;obtain ⟨b',C,D,e,hB,ho,hl⟩:=hO
     cases e
     obtain ⟨el,hrep⟩:=nA hf hps hl;have hR:Row w (some ⟨b,0,none⟩) C:=Row.of_blk hB (fun i hi=>by rw[agU];exact wQ (agp hi))
     have:=RepP.ptr (z:=ps.length) (i:=0) (off:=sW z' i' off') (l:=[ps]) (Im:=Im') (w:=w) (fun e he=>by simp at he;rw[he]) hR (fun _=>by rw[fZ];exact hIm) (by simp[hl.1,el]) ho (fun i c p h1 h2=>hrep i c p h1 (by simpa using h2))
     rw[fZ,mQ,ahK,agU] at this;exact this
   | row z'' L=>
     unfold tO at h;simp only at h;obtain ⟨e1,e2,e3,e4,e5⟩:=h;subst e3 e4 e5 e2 e1;obtain ⟨hz,hO⟩:=hO;rcases hO with⟨e,_⟩ | ⟨b',C,e,hB,hle,hrep⟩
     · cases e
     · cases e
       have hR:Row w (some ⟨b,0,none⟩) (C.take (l.length*z)):=Row.of_blk hB (fun i hi=>by simp at hi ⊢)
       have hfl:l.flatten.length=l.length*z:=by
        exact ed hz
       have hrep':∀(i:Nat) c p,(C.take (l.length*z))[i]? =some c→l.flatten[i]? =some p→RepP w Im' p c:=fun i c p h1 h2=>by
        have hi:=get_lt h2;rw[aha,if_pos (by omega)] at h1;exact(hrep i c p h1 h2).im fz.old
       have:=RepP.ptr (z:=z) (i:=i) (off:=off) (l:=l) (Im:=Im') (w:=w) hz hR (fun _=>by rw[fZ];exact hIm) (by simp;omega) (fun c hc=>by
        obtain ⟨i,hi,rfl⟩:=ahP.1 hc;have hi2:i<l.flatten.length:=by simp at hi;omega
        exact(hrep' i _ _ (agp hi) (agp hi2)).one) hrep'
       rw[fZ,mQ,agU] at this;exact this
theorem w6 (r:Rel μ Im σ w) (fz:Frz μ Im σ ok Im') {f:V→PV→Prop} (hf:∀(u:V) (p:PV) (c:Value),f u p→RepV w Im μ u c→RepP w Im' p c) {o z off len:Nat} {l:List (List PV)} {v:Value} (hok:ok o=true) (h:m7 σ o fun ob=>tR f z off len l ob) (hu:RepV w Im μ (.sl o z off len) v):RepP w Im' (.row z l) v:=by
 obtain ⟨ob,hob,h'⟩:=cC h;clear h
 cases hu with
 | @sl _ _ _ _ cap a hs=>
   cases ob with
   | row z'' L=>
     obtain ⟨rfl,hle,rfl⟩:=h';exact sa r fz hok hob hle hs
   | cells us=>
     obtain ⟨rfl,rfl,h'⟩:=h';obtain ⟨loc,hloc,hO⟩:=r.rep _ _ hob;obtain ⟨b,C,D,rfl,hB,ho,hl⟩:=hO;obtain ⟨e1,e2,hrep⟩:=sJ hf h' hl;have hIm:Im' b:=fz.new o b _ _ hok hob hloc;rw[hloc] at hs;obtain ⟨hlc,ha,hn⟩:=hs;have ha':=ha (.inr rfl);rw[ahK] at ha';subst ha';have hCl:=hl.1;refine .row (C:=C.take (l.length*z)) rfl hlc e1 (Row.of_blk hB (fun i hi=>?_)) (fun _=>by rw[fZ];exact hIm) (by rw[agz];omega) (fun c hc=>ho c (ag5 hc)) (fun i c p h1 h2=>?_)
     · rw[agU]
       exact wQ (by rw[ai2];exact agp _)
     · rw[aha] at h1
       split at h1
       · exact hrep i c p h1 h2
       · cases h1
theorem kj (r:Rel μ Im σ w) (fz:Frz μ Im σ ok Im'):∀(n:Nat) (u:V) (p:PV) (c:Value),DQ ok σ n u p→RepV w Im μ u c→RepP w Im' p c
 | 0,u,p,c,h,hu=>rR r fz h hu
 | n+1,u,p,c,h,hu=>by
   unfold DQ at h
   split at h
   · exact vJ r fz (kj r fz n) h.1 h.2 hu
   · obtain ⟨rfl,hok,h⟩:=h
     exact w6 r fz (kj r fz n) hok h hu
   · exact rR r fz h hu
theorem RepP.toV {p:PV} {c:Value} (h:RepP w Im p c):RepV w Im μ (V.ofP p) c:=by
 cases h with
 | lit h=>exact .lit h
 | row q1 q2 q3 q4 q5 q6 q7 q8=>exact .row (.row q1 q2 q3 q4 q5 q6 q7 q8)
 | ptr q1 q2 q3 q4 q5 q6=>exact .rref q1 q2 q3 q4 q5 q6
mutual
theorem ma (r:Rel μ Im σ w) (fz:Frz μ Im σ ok Im'):∀{u₀ u:V} {v:Value},mV ok π σ u₀ u→RepV w Im μ u v→RepV w Im' (gG μ π) u₀ v
 | .lit x,u,v,h,hu=>by
   unfold mV at h;subst h
   cases hu with | lit h=>exact .lit h
 | .row z l,u,v,h,hu=>by
   unfold mV at h
   split at h
   · obtain ⟨rfl,rfl⟩:=h
     cases hu with | row h=>exact .row (h.im fz.old)
   · obtain ⟨rfl,rfl⟩:=h
     cases hu with | xrow h=>exact .row (h.im fz.old)
   · subst h
     cases hu
     exact .row (.row (C:=[]) rfl (agt _) (by simp) (Row.nil _ _) (fun h=>absurd rfl h) (by simp) (by simp) (by simp))
   · obtain ⟨rfl,hok,h⟩:=h
     exact .row (w6 r fz (kj r fz 4) hok h hu)
   · exact h.elim
 | .xrow z l,u,v,h,hu=>by
   unfold mV at h
   split at h
   · obtain ⟨rfl,rfl⟩:=h
     cases hu with | xrow h=>exact .xrow (h.im fz.old)
   · exact h.elim
 | .ref o z i off,u,v,h,hu=>by
   unfold mV at h
   split at h
   · obtain ⟨hp,rfl,rfl,rfl⟩:=h
     cases hu with | ref hm=>exact .ref (by rw[fh hp,hm];rfl)
   · exact h.elim
 | .sl o z off len,u,v,h,hu=>by
   unfold mV at h
   split at h
   · obtain ⟨hp,rfl,rfl,rfl⟩:=h
     cases hu with
     | sl hs=>
       obtain ⟨x,hx⟩:=hs.some;refine .sl ?_;rw[fh hp,hx];rw[hx] at hs;exact hs
   · obtain ⟨hp,rfl,rfl⟩:=h
     cases hu
     exact .sl ⟨agt _,by rw[iW hp];exact⟨rfl,rfl,rfl,rfl⟩⟩
   · exact h.elim
 | .rref z l i off,u,v,h,hu=>by
   unfold mV at h
   split at h
   · obtain ⟨rfl,rfl,rfl,rfl⟩:=h
     cases hu with
     | rref q1 q2 q3 q4 q5 q6=>exact .rref q1 q2 (fun h=>fz.old _ (q3 h)) q4 q5 (fun i c p h1 h2=>(q6 i c p h1 h2).im fz.old)
   · exact(vJ r fz (kj r fz 4) h.1 h.2 hu).toV
   · exact h.elim
 | .agg l,u,v,h,hu=>by
   unfold mV at h
   split at h
   · cases hu with
     | agg hn ho hr=>
       have:=fa r fz h ⟨hn,hr⟩
       exact .agg this.1 ho this.2
   · exact h.elim
 | .tup l,u,v,h,hu=>by
   unfold mV at h
   split at h
   · cases hu with
     | tup hn hr=>
       have:=fa r fz h ⟨hn,hr⟩
       exact .tup this.1 this.2
   · exact h.elim
 | .clo f l,u,v,h,hu=>by
   unfold mV at h
   split at h
   · obtain ⟨rfl,h⟩:=h
     cases hu with
     | clo hn hr=>
       have:=fa r fz h ⟨hn,hr⟩
       exact .clo this.1 this.2
   · exact h.elim
theorem fa (r:Rel μ Im σ w) (fz:Frz μ Im σ ok Im'):∀{us₀ us:List V} {vs:List Value},rn ok π σ us₀ us→aW w Im μ us vs→aW w Im' (gG μ π) us₀ vs
 | [],[],vs,_,hr=>⟨hr.1,by simp⟩
 | u₀::us₀,u::us,vs,h,hr=>by
   unfold rn at h;obtain ⟨v,vs,rfl,h1,h2⟩:=hr.uncons;exact .cons (ma r fz h.1 h1) (fa r fz h.2 h2)
 | [],_::_,_,h,_=>by simp[rn] at h
 | _::_,[],_,h,_=>by simp[rn] at h
end
theorem iM:∀{s:St} {ps:Pi},mE ok π σ s ps→s.length=ps.length∧∀(j:Nat) ob,s[j]? =some (some ob)→(∃o ob',ps[j]? =some (some o)∧σ[o]? =some (some ob')∧mO ok π σ ob ob')∨(ps[j]? =some none∧∃z,ob=.row z [])
 | [],[],_=>⟨rfl,fun j ob h=>by simp at h⟩
 | none::s,p::ps,h=>by
   unfold mE at h;obtain ⟨h1,h2⟩:=iM h;refine⟨by simp[h1],fun j ob hj=>?_⟩
   cases j with
   | zero=>simp at hj
   | succ j=>simpa using h2 j ob (by simpa using hj)
 | some ob::s,some o::ps,h=>by
   unfold mE at h;obtain ⟨h1,h2⟩:=iM h.2;refine⟨by simp[h1],fun j ob' hj=>?_⟩
   cases j with
   | zero=>
     simp at hj;subst hj;obtain ⟨ob'',h3,h4⟩:=cC h.1;exact .inl ⟨o,ob'',rfl,h3,h4⟩
   | succ j=>simpa using h2 j ob' (by simpa using hj)
 | some (.row z l)::s,none::ps,h=>by
   unfold mE at h;obtain ⟨h1,h2⟩:=iM h.2;refine⟨by simp[h1],fun j ob' hj=>?_⟩
   cases j with
   | zero=>
     simp at hj;subst hj;obtain ⟨rfl,_⟩:=h;exact .inr ⟨rfl,z,rfl⟩
   | succ j=>simpa using h2 j ob' (by simpa using hj)
 | some (.cells l)::s,none::ps,h=>by simp[mE] at h
 | [],_::_,h=>by simp[mE] at h
 | none::_,[],h=>by simp[mE] at h
 | some _::_,[],h=>by simp[mE] at h
theorem tc:∀{l:List (List PV)} {m:List V},xP l=some m→∃vs:List Value,l=vs.map (fun v=> [PV.lit v])∧m=vs.map V.lit
 | [],m,h=>⟨[],rfl,by cases h;rfl⟩
 | [.lit v]::r,m,h=>by
   unfold xP at h;obtain ⟨m',h1,rfl⟩:=Option.map_eq_some_iff.1 h;obtain ⟨vs,e1,e2⟩:=tc h1;exact⟨v::vs,by rw[e1];rfl,by rw[e2];rfl⟩
 | []::r,m,h=>by simp[xP] at h
 | [.row _ _]::r,m,h=>by simp[xP] at h
 | (_::_::_)::r,m,h=>by simp[xP] at h
theorem qj:∀vs:List Value,(vs.map fun v=> [PV.lit v]).flatten=vs.map PV.lit
 | []=>rfl
 | v::vs=>by rw[agR,ahT,qj vs];rfl
theorem G9 (r:Rel μ Im σ w) (fz:Frz μ Im σ ok Im') {loc:Option (Nat×Nat)} {ob₀ ob:Ob} (h:mO ok π σ ob₀ ob) (ho:eX w Im μ loc ob):eX w Im' (gG μ π) loc ob₀:=by
 unfold mO at h
 split at h
 · obtain ⟨b,C,D,e,hB,hone,hL⟩:=ho
   exact⟨b,C,D,e,hB,hone,fa r fz h hL⟩
 · obtain ⟨rfl,rfl⟩:=h
   obtain ⟨hz,hO⟩:=ho;refine⟨hz,hO.imp id ?_⟩;rintro ⟨b,C,e,hB,hl,hr⟩;exact⟨b,C,e,hB,hl,fun i c p h1 h2=>(hr i c p h1 h2).im fz.old⟩
 · obtain ⟨rfl,hc⟩:=h
   obtain ⟨vs,rfl,rfl⟩:=tc hc;obtain ⟨b,C,D,e,hB,hone,hL⟩:=ho;refine⟨fun x hx=>?_,.inr ⟨b,C++D,e,hB,?_,fun i c p h1 h2=>?_⟩⟩
   · obtain ⟨v,_,rfl⟩:=aho.1 hx
     rfl
   · have:=hL.1
     simp at this ⊢;omega
   · have hf:=qj vs
     rw[hf,ag4] at h2
     cases hv:vs[i]? with
     | none=>rw[hv] at h2;cases h2
     | some v=>
       rw[hv] at h2
       cases h2
       have hlt:=get_lt hv
       have:=hL.1
       rw[agx (by simp at this;omega)] at h1
       have:=hL.2 i (.lit v) c (by rw[ag4,hv];rfl) h1
       cases this with
       | lit ho=>exact .lit ho
 · obtain ⟨hne,rfl⟩:=h
   rename_i l
   obtain ⟨hz,hO⟩:=ho;rcases hO with⟨_,e⟩ | ⟨b,C,e,hB,hl,hr⟩
   · exact absurd e hne
   · have hfl:=ed hz
     refine⟨b,C.take l.flatten.length,C.drop l.flatten.length,by rw[ail];exact e,by rw[ail];exact hB,fun c hc=>?_,?_,fun i u c h1 h2=>?_⟩
     · obtain ⟨j,hj,rfl⟩:=ahP.1 hc
       have hj2:j<l.flatten.length:=by rw[agz] at hj;omega
       refine(hr j _ _ ?_ (agp hj2)).one;rw[ai2];exact agp _
     · rw[agz,agr];omega
     · rw[ag4] at h1
       cases hp:l.flatten[i]? with
       | none=>rw[hp] at h1;cases h1
       | some p=>
         rw[hp] at h1
         cases h1
         rw[aha] at h2
         split at h2
         · exact((hr i c p h2 hp).im fz.old).toV
         · cases h2
theorem tu:∀{π:Pi} {s:St} {j o:Nat} {ob:Ob},π[j]? =some (some o)→s[j]? =some (some ob)→o∈uH π s
 | [],_,j,_,_,h,_=>by simp at h
 | _::_,[],j,_,_,_,h=>by simp at h
 | p::π,x::s,0,o,ob,h1,h2=>by
   simp at h1 h2;subst h1 h2;simp[uH]
 | p::π,x::s,j+1,o,ob,h1,h2=>by
   have ih:=tu (π:=π) (s:=s) (j:=j) (by simpa using h1) (by simpa using h2)
   cases p<;>cases x<;>simp[uH,ih]
theorem H6 {s:St} (h:Ch π s=true) {i j o:Nat} {ob ob':Ob} (h1:π[i]? =some (some o)) (h2:π[j]? =some (some o)) (l1:s[i]? =some (some ob)) (l2:s[j]? =some (some ob')):i=j:=by
 have aux:∀(π:Pi) (s:St),(uH π s).Nodup→∀(i j:Nat) (ob ob':Ob),π[i]? =some (some o)→π[j]? =some (some o)→s[i]? =some (some ob)→s[j]? =some (some ob')→i=j:=by
  intro π
  induction π with
  | nil=>intro s _ i j _ _ h;simp at h
  | cons p π ih=>
    intro s hn i j ob ob' h1 h2 l1 l2
    cases s with
    | nil=>simp at l1
    | cons x s=>
      cases i with
      | zero=>
        cases j with
        | zero=>rfl
        | succ j=>
          simp at h1 l1;subst h1 l1;simp only[uH,aia] at hn;exact absurd (tu (by simpa using h2) (by simpa using l2)) hn.1
      | succ i=>
        cases j with
        | zero=>
          simp at h2 l2;subst h2 l2;simp only[uH,aia] at hn;exact absurd (tu (by simpa using h1) (by simpa using l1)) hn.1
        | succ j=>
          have hn':(uH π s).Nodup:=by
           cases p<;>cases x<;>simp only[uH,aia] at hn<;>first | exact hn | exact hn.2
          rw[ih s hn' i j ob ob' (by simpa using h1) (by simpa using h2) (by simpa using l1) (by simpa using l2)]
 exact aux π s (of_decide_eq_true h) i j ob ob' h1 h2 l1 l2
theorem xr {s:St} (h:O2 π=true):Ch π s=true:=by
 have aux:∀(π:Pi) (s:St),(π.filterMap id).Nodup→(uH π s).Nodup∧∀o,o∈uH π s→o∈π.filterMap id:=by
  intro π
  induction π with
  | nil=>intro s _;simp[uH]
  | cons p π ih=>
    intro s hn
    cases s with
    | nil=>cases p<;>simp[uH]
    | cons x s=>
      cases p with
      | none=>
        simp only[List.filterMap_cons,id] at hn ⊢
        have:=ih s hn
        cases x<;>simpa [uH] using this
      | some o=>
        simp only[List.filterMap_cons,id,aia] at hn ⊢;obtain ⟨h1,h2⟩:=ih s hn.2
        cases x with
        | none=>exact⟨h1,fun q hq=>ahI _ (h2 q hq)⟩
        | some ob=>
          simp only[uH,aia];refine⟨⟨fun h=>hn.1 (h2 o h),h1⟩,fun q hq=>?_⟩;rcases agG.1 hq with rfl | hq
          · exact aim ..
          · exact ahI _ (h2 q hq)
 exact agC (aux π s (of_decide_eq_true h)).1
theorem Rel.part {σ₀:St} (r:Rel μ Im σ w) (fz:Frz μ Im σ ok Im') (hok:∀(j o:Nat),π[j]? =some (some o)→ok o=false) (hn:Ch π σ₀=true) (h:mE ok π σ σ₀ π)
 (hI:∀b,Im' b→Im b∨∃(o n:Nat) (ob:Ob),ok o=true∧σ[o]? =some (some ob)∧μ[o]? =some (some (b,n))):Rel (gG μ π) Im' σ₀ w∧∀b∈live (gG μ π) σ₀,b∈live μ σ:=by
 obtain ⟨hl,hs⟩:=iM h
 have back:∀(j:Nat) ob₀ b n,σ₀[j]? =some (some ob₀)→(gG μ π)[j]? =some (some (b,n))→∃o ob,π[j]? =some (some o)∧σ[o]? =some (some ob)∧μ[o]? =some (some (b,n)):=by
  intro j ob₀ b n h1 h2;rcases hs j ob₀ h1 with⟨o,ob,h3,h4,_⟩ | ⟨h3,_⟩
  · rw[fh h3] at h2
    obtain ⟨loc,h5,_⟩:=r.rep o ob h4;rw[h5] at h2;exact⟨o,ob,h3,h4,by rw[h5];simpa using h2⟩
  · rw[iW h3] at h2
    cases h2
 have hlive:∀b∈live (gG μ π) σ₀,b∈live μ σ:=by
  intro b hb;obtain ⟨j,n,ob₀,h1,h2⟩:=aE.1 hb;obtain ⟨o,ob,_,h4,h5⟩:=back j ob₀ b n h2 h1;exact aE.2 ⟨o,n,ob,h5,h4⟩
 refine⟨⟨by simp[gG,hl],fun j ob₀ hj=>?_,fun i j q q' b n n' h1 h2 h3 h4=>?_,fun b hb=>?_,fun e he=>⟨fz.old _ (r.lay e he).1,(r.lay e he).2⟩⟩,hlive⟩
 · rcases hs j ob₀ hj with⟨o,ob,h3,h4,h5⟩ | ⟨h3,z,rfl⟩
   · obtain ⟨loc,h6,h7⟩:=r.rep o ob h4
     exact⟨loc,by rw[fh h3,h6];rfl,G9 r fz h5 h7⟩
   · exact⟨none,iW h3,by simp,.inl ⟨rfl,rfl⟩⟩
 · obtain ⟨o,ob,e1,e2,e3⟩:=back i q b n h1 h3
   obtain ⟨o',ob',e4,e5,e6⟩:=back j q' b n' h2 h4
   have:=r.inj o o' ob ob' b n n' e2 e5 e3 e6
   subst this;exact H6 hn e1 e4 h1 h2
 · rcases hI b hb with h1 | ⟨o,n,ob,h1,h2,h3⟩
   · exact⟨(r.im b h1).1,fun h=>(r.im b h1).2 (hlive b h)⟩
   · refine⟨r.lt (aE.2 ⟨o,n,ob,h3,h2⟩),fun h=>?_⟩
     obtain ⟨j,m,ob₀,h4,h5⟩:=aE.1 h;obtain ⟨o',ob',h6,h7,h8⟩:=back j ob₀ b m h5 h4
     have:=r.inj o o' ob ob' b n m h2 h7 h3 h8
     subst this;rw[hok j o h6] at h1
     cases h1
end
end Go.Vx
namespace Go.Vx
open Go.Eng
set_option linter.unusedSimpArgs false
set_option linter.unusedVariables false
section
variable {w w':World} {Im:Nat→Prop} {μ:Mu} {σ:St} {ρ:Vg} {ρc:Rg} {P:Program}
theorem Rel.still (r:Rel μ Im σ w) (hx:Ext [] w w'):Rel μ Im σ w'∧Stp μ Im σ w μ Im σ w':=by
 have hm:Mono μ Im w μ Im w':=⟨ahr _,fun _ h=>h,fun b hb=>hx.block b (r.im b hb).1 (by simp)⟩;refine⟨⟨r.len,fun o ob h=>?_,r.inj,fun b hb=>⟨ag6 (r.im b hb).1 hx.size,(r.im b hb).2⟩,r.lay.mono hm⟩,⟨ahr _,fun _ h=>h,hx.mono (by simp),fun _ h=>.inl h,fun _ h=>.inl h⟩⟩;obtain ⟨loc,h1,h2⟩:=r.rep o ob h;refine⟨loc,h1,h2.mono hm (fun b n e=>?_)⟩;subst e;exact hx.block b (r.lt (aE.2 ⟨o,n,ob,h1,h⟩)) (by simp)
theorem Rel.adopt (r:Rel μ Im σ w) {b n:Nat} {ob:Ob} (hf:b ∉ live μ σ) (hi:¬Im b) (ho:eX w Im (μ++[some (b,n)]) (some (b,n)) ob):
 Rel (μ++[some (b,n)]) Im (σ++[some ob]) w∧∀c∈live (μ++[some (b,n)]) (σ++[some ob]),c∈live μ σ∨c=b:=by
 have hl:=r.len;have hm:Mono μ Im w (μ++[some (b,n)]) Im w:=⟨ahD _ _,fun _ h=>h,fun _ _=>rfl⟩
 have hlive:∀c∈live (μ++[some (b,n)]) (σ++[some ob]),c∈live μ σ∨c=b:=by
  intro c hc;obtain ⟨o,n',ob',h1,h2⟩:=aE.1 hc;rw[bu] at h1 h2
  split at h1
  · rw[if_pos (by omega)] at h2
    exact .inl (aE.2 ⟨o,n',ob',h1,h2⟩)
  · split at h1
    · cases h1
      exact .inr rfl
    · cases h1
 refine⟨⟨by simp[hl],fun o ob' h=>?_,fun o o' q q' c n1 n2 h1 h2 h3 h4=>?_,fun c hc=>⟨(r.im c hc).1,fun hc'=>?_⟩,r.lay⟩,hlive⟩
 · rw[bu] at h
   split at h
   · obtain ⟨loc',h1,h2⟩:=r.rep o ob' h
     exact⟨loc',by rw[bu,if_pos (by omega)];exact h1,h2.mono hm (fun _ _ _=>rfl)⟩
   · split at h
     · cases h
       rename_i _ e
       exact⟨_,by rw[bu,if_neg (by omega),if_pos (by omega)],ho⟩
     · cases h
 · rw[bu] at h1 h2 h3 h4
   split at h3
   · rw[if_pos (by omega)] at h1
     split at h4
     · rw[if_pos (by omega)] at h2
       exact r.inj o o' q q' c n1 n2 h1 h2 h3 h4
     · split at h4
       · cases h4
         exact absurd (aE.2 ⟨o,n1,q,h3,h1⟩) hf
       · cases h4
   · split at h3
     · cases h3
       split at h4
       · rw[if_pos (by omega)] at h2
         exact absurd (aE.2 ⟨o',n2,q',h4,h2⟩) hf
       · split at h4
         · omega
         · cases h4
     · cases h3
 · rcases hlive c hc' with h | h
   · exact(r.im c hc).2 h
   · subst h;exact hi hc
def Bz (P:Program) (μ:Mu) (Im:Nat→Prop) (σ:St) (w:World) (K:KV) (op:World→Kv→Prop):Prop:=
 ∃(ob:Ob) (C:List Value) (ty:TypeId) (u:V) (f:Nat→Value),
  (∀w' (k:Kv),op w' k=k true (f w'.heap.size) (w'.alloc (.cells C.toArray ty)))∧K true u (σ++[some ob])∧(∀c∈C,bj c=true)∧
  ∀w1 b,Mono μ Im w (μ++[some (b,C.length)]) Im w1→gY w1 b C→eX w1 Im (μ++[some (b,C.length)]) (some (b,C.length)) ob∧RepV w1 Im (μ++[some (b,C.length)]) u (f b)
theorem Mt {t:TypeId} {K:KV} (r:Rel μ Im σ w) (h:dx P t σ K):Bz P μ Im σ w K fun w' k=>tN P t w' k:=by
 unfold dx at h
 cases hz:fR P t with
 | none=>rw[hz] at h;exact h.elim
 | some C=>
   rw[hz] at h;obtain ⟨h1,h2⟩:=eA.1 h;refine⟨.cells (C.map V.lit),C,t,.ref σ.length 0 0 0,fun b=>.pointer (some ⟨b,0,none⟩),fun w' k=>np hz,h2,fY h1,fun w1 b hm hB=>⟨eX.cells0 rfl hB (fY h1) (aW.lits h1),?_⟩⟩;have e5:=RepV.ref (w:=w1) (Im:=Im) (μ:=μ++[some (b,C.length)]) (o:=σ.length) (b:=b) (n:=C.length) (z:=0) (i:=0) (off:=0) (by rw[bu,if_neg (by rw[r.len];omega),if_pos r.len.symm]);simpa only[ahK,agU] using e5
theorem Mv {t:TypeId} {n:Nat} {js:List Nat} {us:List V} {vs:List Value} {K:KV} (r:Rel μ Im σ w) (hj:js.length=us.length) (hr:aW w Im μ us vs) (h:fW P t n (js.zip us) σ K):Bz P μ Im σ w K fun w' k=>rI P t n (js.zip vs) w' k:=by
 unfold fW at h
 split at h
 · rename_i et z hel
   obtain ⟨ht,hz⟩:=ch hel
   split at h
   · rename_i hc
     obtain ⟨hze,hz0,hn⟩:=hc;have hze':=hze;unfold fR at hze;obtain ⟨Z,hZ⟩:=ahR.1 hze
     cases hzz:(P.info? et).bind (·.zero) with
     | none=>rw[hzz] at hZ;cases hZ
     | some zv=>
       have key:∀(D:Array Value),D.size=n*z→∃l C,Instr.fill (fun i=>some (i*z,z)) D (js.zip vs)=some (C:List Value).toArray∧(∀w1 b,Mono μ Im w (μ++[some (b,C.length)]) Im w1→gY w1 b C→eX w1 Im (μ++[some (b,C.length)]) (some (b,C.length)) (.row z l))∧(∀c∈C,bj c=true)∧bw σ (.row z l) (fun o σ'=>K true (.sl o z 0 n) σ')∧C.length=n*z:=by
        intro D hD
        have hlen:us.length=n:=by
         have aux:∀(js:List Nat) (us:List V) (j:Nat) (G:List (List PV)→Prop),js.length=us.length→eQ z j (js.zip us) G→∃l:List (List PV),l.length=us.length∧G l:=by
          intro js
          induction js with
          | nil=>intro us j G h1 h2;have:us=[]:=agD.1 (by simpa using h1.symm);subst this;exact⟨[],rfl,h2⟩
          | cons a js ih=>
            intro us j G h1 h2
            cases us with
            | nil=>simp at h1
            | cons u us=>
              simp only[ain,eQ] at h2
              split at h2
              · have aux2:∀{u:V} {F:List V→Prop},bN u F→∃l,F l:=by
                 intro u F h;unfold bN at h
                 split at h
                 · exact⟨_,h⟩
                 · exact h.elim
                 · exact⟨_,h⟩
                obtain ⟨c,h3⟩:=aux2 h2;obtain ⟨_,h4⟩:=cq h3
                have aux3:∀{c:List V} {F:List PV→Prop},mq c F→∃l,F l:=by
                 intro c
                 induction c with
                 | nil=>intro F h;exact⟨_,h⟩
                 | cons u c ih=>
                   intro F h;simp only[mq] at h;unfold IJ at h
                   split at h
                   · exact(ih h).elim fun _ h=>⟨_,h⟩
                   · exact(ih h).elim fun _ h=>⟨_,h⟩
                   · exact(ih h).elim fun _ h=>⟨_,h⟩
                   · exact(ih h).elim fun _ h=>⟨_,h⟩
                   · exact h.elim
                obtain ⟨ps,h5⟩:=aux3 h4;obtain ⟨l,h6,h7⟩:=ih us (j+1) _ (by simpa using h1) h5;exact⟨ps::l,by simp[h6],h7⟩
              · exact h2.elim
         obtain ⟨l,h1,h2⟩:=aux js us 0 _ hj h;obtain ⟨h3,_⟩:=cq h2;omega
        obtain ⟨l,C,e1,e2,e3,e4,e5,e6,e7⟩:=nD (n:=n*z) (D:=D.toList) hj hr (by simpa using hD) (by simp) h (by rw[hlen,agU]);obtain ⟨_,e8⟩:=cq e7;simp only[ahK,ahk,aht,ag7] at e6;exact⟨l,C,e6,fun w1 b hm hB=>⟨e2,.inr ⟨_,C,rfl,hB,by rw[e3,e1];exact agt _,fun i c p hc hp=>(e4 i c p hc hp).mono hm⟩⟩,e5,e8,by rw[e3,hlen]⟩
       have fin:∀(Z:Array Value),(∀(w':World) (k:Kv),rI P t n (js.zip vs) w' k=ju ((do
        let some cells:=Instr.fill (fun i=>some (i*z,z)) ((Array.range (n*z)).map (Z[· %Z.size]!)) (js.zip vs).toArray.toList | stuck "buildSlice: a part of the wrong size"
        pure (.slice (some (←newRow et cells)) n n):Sem Value).run P w') (k true))→Bz P μ Im σ w K fun w' k=>rI P t n (js.zip vs) w' k:=by
        intro Z hZ;obtain ⟨l,C,f1,f2,f5,f3,f4⟩:=key ((Array.range (n*z)).map (Z[· %Z.size]!)) (by simp);have f1':Instr.fill (fun i=>some (i*z,z)) ((Array.range (n*z)).map (Z[· %Z.size]!)) (js.zip vs).toArray.toList=some C.toArray:=f1;refine⟨.row z l,C,et,.sl σ.length z 0 n,fun b=>.slice (some ⟨b,0,none⟩) n n,fun w' k=>?_,f3,f5,fun w1 b hm hB=>⟨f2 w1 b hm hB,.sl ⟨agt _,?_⟩⟩⟩
        · dsimp only
          rw[hZ,f1']
          rfl
        · rw[bu,if_neg (by rw[r.len];omega),if_pos r.len.symm]
          exact⟨fun _=>by simp,by simp[f4]⟩
       by_cases h0:n*z=0
       · refine fin #[] fun w' k=>?_
         unfold rI runK Instr.buildSlice;rw[Sem.run_bind,run_underlying ht,Result.andThen_ok];simp only[Sem.run_bind,Go.Eng.run_sizeOf hz,Result.andThen_ok];rw[if_neg (by omega),if_pos h0];simp only[pure_bind]
         rfl
       · refine fin zv.cells fun w' k=>?_
         unfold rI runK Instr.buildSlice;rw[Sem.run_bind,run_underlying ht,Result.andThen_ok];simp only[Sem.run_bind,Go.Eng.run_sizeOf hz,Result.andThen_ok];rw[if_neg (by omega),if_neg h0];simp only[Sem.run_bind,gQ hzz,Result.andThen_ok,pure_bind,bind_assoc]
         rfl
   · exact h.elim
 · exact h.elim
theorem Oe {t:TypeId} {l c:V} {a b:Value} {K:KV} (r:Rel μ Im σ w) (hl:RepV w Im μ l a) (hc:RepV w Im μ c b) (h:nO P t l c σ K):Bz P μ Im σ w K fun w' k=>HT P t a b w' k:=by
 unfold nO at h
 split at h
 · rename_i et z hel
   obtain ⟨ht,hz⟩:=ch hel
   split at h
   · rename_i C y hze hby
     unfold jm at h
     split at h
     · rename_i n m
       split at h
       · rename_i hcond
         obtain ⟨h0,rfl,hb,hlt,hy0,hCz⟩:=hcond;obtain ⟨hone,hK⟩:=eA.1 h
         cases hl;cases hc
         obtain ⟨N,rfl⟩:=aiW h0;rw[ag9] at hK
         obtain ⟨ti,hti,hbyt⟩:∃ti,P.info? et=some ti∧ti.bytes=y:=by
          unfold rN at hby
          cases hi:P.info? et with
          | none=>rw[hi] at hby;cases hby
          | some ti=>rw[hi] at hby;exact⟨ti,rfl,by simpa using hby⟩
         obtain ⟨zv,hzv,hzc⟩:=nP hze;have hzs:zv.cells.size=z:=by rw[←hCz,←hzc];simp
         have fin:∀(Z:Array Value),(N*z≠0→Z=zv.cells)→(∀(w':World) (k:Kv),HT P t (.int .i64 (Int.ofNat N)) (.int .i64 (Int.ofNat N)) w' k=ju ((do
          let a←newRow et ((Array.range (N*z)).map (Z[· %Z.size]!))
          pure (.slice (some a) N N):Sem Value).run P w') (k true))→Bz P μ Im σ w K fun w' k=>HT P t (.int .i64 (Int.ofNat N)) (.int .i64 (Int.ofNat N)) w' k:=by
          intro Z hZ hrun
          obtain ⟨D,hD,hDs⟩:∃D:List Value,(Array.range (N*z)).map (Z[· %Z.size]!)=D.toArray∧∀(i:Nat) c,D[i]? =some c→i<N*z∧zv.cells[i%z]? =some c:=by
           refine⟨(List.range (N*z)).map (Z[· %Z.size]!),by apply Array.toList_inj.1;simp,fun i c hc=>?_⟩;rw[ag4] at hc
           have hi:i<N*z:=by
            by_cases hi:i<N*z
            · exact hi
            · rw[ahS (by simp;omega)] at hc;cases hc
           refine⟨hi,?_⟩;rw[aih hi] at hc;simp only[ahi,Option.some.injEq] at hc
           have hz0:0<z:=by
            rcases agX z with h | h
            · subst h;simp at hi
            · exact h
           rw[hZ (by omega),hzs] at hc;have hlt2:i%z<zv.cells.size:=by rw[hzs];exact agJ _ hz0
           rw[getElem!_pos zv.cells _ hlt2] at hc;rw[ahz hlt2,hc]
          have hDl:D.length=N*z:=by
           have:=congrArg Array.size hD
           simpa using this.symm
          have hD1:∀c∈D,bj c=true:=fun c hc=>by
           obtain ⟨i,hi,rfl⟩:=ahP.1 hc;have h2:=(hDs i _ (agp hi)).2;refine fY hone _ ?_;rw[←hzc];exact ahc (by rw[ahF];exact h2)
          refine⟨.row z (dy C N),D,et,.sl σ.length z 0 N,fun b=>.slice (some ⟨b,0,none⟩) N N,fun w' k=>?_,hK,hD1,fun w1 b hm hB=>⟨⟨fun x hx=>by
           unfold dy at hx;rw[(aiz.1 hx).2];simp[hCz],.inr ⟨_,D,rfl,hB,by simp[dy,hDl],fun i c p hc hp=>by
           obtain ⟨c',h1,rfl⟩:=vA hp;have h2:=(hDs i c hc).2;rw[hCz,←hzc,ahF] at h1;rw[h1] at h2
           cases h2
           refine .lit ?_;refine fY hone _ ?_;rw[←hzc];exact ahc (by rw[ahF];exact h1)⟩⟩,.sl ⟨agt _,?_⟩⟩⟩
          · dsimp only
            rw[hrun,hD]
            rfl
          · rw[bu,if_neg (by rw[r.len];omega),if_pos r.len.symm]
            exact⟨fun _=>by simp,by simp[hDl]⟩
         have hw:IntKind.i64.wrap (N:Int)=N:=wrap_i64 (by omega)
         have hbig:((y:Int)*(N:Int)>2^48)=False:=by
          rw[Int.mul_comm];simp only[eq_iff_iff,iff_false];omega
         have h1:(decide ((N:Int)<0) || decide ((y:Int)*(N:Int)>2^48))=false:=by
          rw[agq (by omega),agq (by rw[hbig];exact id)];rfl
         have hroomrun:∀(c:Nat) (w:World),(askRoom c).run P w=.ok () w:=fun c w=>by
          unfold askRoom
          split<;>rfl
         by_cases hz0:N*z=0
         · refine fin #[] (fun h=>absurd hz0 h) fun w' k=>?_
           unfold HT runK Instr.makeSlice;simp only[Sem.run_bind,run_underlying ht,Result.andThen_ok,asInt,asIntOf,pure_bind,Go.Eng.run_typeInfo hti,hbyt];rw[show IntKind.i64.wrap (Int.ofNat N)=(N:Int) from hw];simp only[h1,aiJ,aiY];rw[if_neg (by simp)];simp only[Sem.run_bind,hroomrun,Result.andThen_ok,Go.Eng.run_sizeOf hz,ag9];rw[if_pos hz0]
           rfl
         · refine fin zv.cells (fun _=>rfl) fun w' k=>?_
           unfold HT runK Instr.makeSlice;simp only[Sem.run_bind,run_underlying ht,Result.andThen_ok,asInt,asIntOf,pure_bind,Go.Eng.run_typeInfo hti,hbyt];rw[show IntKind.i64.wrap (Int.ofNat N)=(N:Int) from hw];simp only[h1,aiJ,aiY];rw[if_neg (by simp)];simp only[Sem.run_bind,hroomrun,Result.andThen_ok,Go.Eng.run_sizeOf hz,ag9];rw[if_neg hz0];simp only[Sem.run_bind,gQ hzv,Result.andThen_ok,pure_bind,bind_assoc]
       · exact h.elim
     · exact h.elim
   · exact h.elim
 · exact h.elim
def WX (o:Oper):Bool:=match o.op with | .alloc _ | .buildSlice .. | .makeSlice .. =>true | _=>false
theorem EP {τ:Bool} {o:Oper} {K:KV} (hm:WX o=true) (r:Rel μ Im σ w) (hg:dH w Im μ ρ ρc) (h:dZ τ true P o ρ σ K):Bz P μ Im σ w K fun w' k=>nI true P o ρc w' k:=by
 obtain ⟨d,op,ty,pos,af,g⟩:=o;unfold dZ at h
 cases op with
 | alloc t=>exact Mt r h
 | buildSlice t n ps=>
   obtain ⟨js,us,vs,h0,h1,h2,h3⟩:=gJ hg h
   have:=Mv r h0 h1 h2
   have e:(fun w' k=>nI true P ⟨d,.buildSlice t n ps,ty,pos,af,g⟩ ρc w' k)=fun w' k=>rI P t n (js.zip vs) w' k:=by
    funext w' k
    exact h3 (fun vs=>rI P t n vs w' k)
   rw[e];exact this
 | makeSlice t l c=>
   obtain ⟨u,a,h1,h2,h3⟩:=aN hg h;obtain ⟨u',a',h4,h5,h6⟩:=aN hg h2
   have:=Oe r h1 h4 h5
   have e:(fun w' k=>nI true P ⟨d,.makeSlice t l c,ty,pos,af,g⟩ ρc w' k)=fun w' k=>HT P t a a' w' k:=by
    funext w' k
    show(cZ ρc l fun l=>cZ ρc c fun c=>HT P t l c w' k)=_
    rw[h3,h6]
   rw[e];exact this
 | _=>cases hm
theorem pG {o:Oper} {a:Act} {w w2:World} {s:Sem Value} {v:Value} (he:execOp a.eval o=(do pure (.value (←s)))) (h:runK P s w fun u w'=>w'=w2∧u=v):(execOp a.eval o).run P w=.ok (.value v) w2:=by
 rw[he];unfold runK at h;rw[Sem.run_bind]
 cases hs:s.run P w with
 | ok u w'=>rw[hs] at h;obtain ⟨rfl,rfl⟩:=h;rfl
 | halt x w'=>rw[hs] at h;exact h.elim
set_option maxHeartbeats 4000000 in
theorem AX {n:Nat} {o:Oper} {a:Act} {v:Value} {w w2:World} (hm:WX o=true) (hok:Ok n a ρc) (h:∀k:Kv,nI true P o ρc w k=k true v w2):(execOp a.eval o).run P w=.ok (.value v) w2:=by
 have h:=(h fun _ u w'=>w'=w2∧u=v).mpr ⟨rfl,rfl⟩;obtain ⟨d,op,ty,pos,af,g⟩:=o
 cases op with
 | alloc t=>exact pG (s:=Instr.alloc t true (.tuple #[])) rfl h
 | buildSlice t m ps=>
   have h0:pN ρc ps.toList fun vs=>runK P (Instr.buildSlice t m vs.toArray) w fun u w'=>w'=w2∧u=v:=h;have h1:=ep hok h0;refine pG (s:=Instr.buildSlice t m (ps.map fun(i,x)=>(i,a.eval x))) rfl ?_
   have e:(ps.map fun(i,x)=>(i,a.eval x))=(ps.toList.map fun(i,x)=>(i,a.eval x)).toArray:=by
    rw[←ahx,ag7]
   exact e▸h1
 | makeSlice t l c=>
   have h0:cZ ρc l fun l=>cZ ρc c fun c=>runK P (Instr.makeSlice t l c) w fun u w'=>w'=w2∧u=v:=h;have h1:=aj hok h0;have h2:=aj hok h1;exact pG (s:=Instr.makeSlice t (a.eval l) (a.eval c)) rfl h2
 | _=>cases hm
end
end Go.Vx
