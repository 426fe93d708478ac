import Derived.StillTail
import Derived.OrdersHeld
import Derived.Laws.Sem
import Derived.Scope
namespace Go.Eng
abbrev ajG:=@Nat.add_mul
abbrev aj0:=@Nat.mul_add
abbrev ajZ:=@Nat.mul_assoc
abbrev akZ:=@Nat.mul_left_comm
abbrev ajT:=@Nat.div_add_mod
abbrev alP:=@Nat.gcd_dvd_left
abbrev akH:=@Nat.one_mul
abbrev ajS:=@Nat.pow_succ
abbrev ak6:=@Nat.mul_one
abbrev ajJ:=@Nat.mul_comm
abbrev ajO:=@Nat.mul_le_mul
abbrev ajl:=@List.length_map
abbrev ajo:=@List.length_range
abbrev ala:=@List.eq_of_mem_replicate
abbrev ajk:=@List.getD_eq_getElem?_getD
abbrev alW:=@List.getElem?_replicate
abbrev ako:=@Nat.pow_add
abbrev ajR:=@List.length_set
abbrev ajI:=@Nat.mod_lt
abbrev akt:=@List.getElem?_set_ne
abbrev ajy:=@List.take_of_length_le
abbrev ajp:=@Nat.le_refl
abbrev alB:=@Nat.mul_zero
abbrev aky:=@Nat.add_zero
abbrev ajt:=@List.length_take
abbrev ajD:=@Nat.le_trans
abbrev aju:=@decide_eq_true
abbrev ajm:=@List.getElem?_eq_getElem
abbrev ale:=@Nat.two_pow_add_eq_or_of_lt
abbrev ajV:=@Nat.pow_pos
abbrev akz:=@Nat.sub_self
abbrev ajH:=@Nat.zero_le
abbrev akS:=@Nat.add_comm
abbrev ajC:=@List.mem_cons
abbrev akk:=@Nat.mul_le_mul_left
abbrev aj8:=@Nat.add_assoc
abbrev akF:=@List.replicate_succ
abbrev ak7:=@List.take_add_one
abbrev akl:=@Nat.min_eq_left
abbrev ajW:=@Nat.eq_zero_or_pos
abbrev ajL:=@Nat.mod_eq_of_lt
abbrev alr:=@Nat.add_mul_div_left
abbrev akG:=@Nat.div_eq_of_lt
abbrev ajU:=@Nat.zero_add
abbrev alQ:=@Nat.pow_zero
abbrev ajB:=@List.length_eq_zero_iff
abbrev ajr:=@List.length_cons
abbrev ajX:=@Nat.div_lt_iff_lt_mul
abbrev aj9:=@Nat.lt_of_le_of_lt
abbrev alx:=@List.ext_getElem
abbrev al3:=@List.getElem_drop
abbrev alj:=@List.take_append_drop
abbrev ajM:=@List.mem_of_mem_take
abbrev al4:=@List.getElem_take
abbrev aka:=@List.mem_of_getElem?
abbrev alq:=@List.mem_or_eq_of_mem_set
abbrev akm:=@List.drop_eq_getElem_cons
abbrev als:=@List.map_take
abbrev akT:=@Nat.lt_or_ge
abbrev akP:=@List.getElem?_eq_none
abbrev akU:=@List.mem_append
abbrev akf:=@List.mem_singleton
abbrev alk:=@List.mem_replicate
abbrev aj1:=@List.getElem?_map
abbrev alX:=@Int.eq_ofNat_of_zero_le
abbrev aj6:=@Int.toNat_natCast
abbrev alf:=@List.getElem?_range
abbrev aki:=@Option.map_some
abbrev akx:=@Array.getElem?_eq_getElem
abbrev akE:=@Array.getElem?_toList
abbrev ajn:=@decide_eq_false
abbrev alK:=@Bool.false_or
abbrev alZ:=@Bool.or_false
abbrev ajP:=@Nat.mul_le_mul_right
abbrev aj7:=@List.getElem?_take
abbrev ajw:=@List.getElem?_append_left
abbrev ajx:=@List.getElem?_append_right
abbrev akK:=@Nat.zero_mul
abbrev akb:=@List.prefix_refl
abbrev akq:=@List.nil_append
abbrev aj2:=@Nat.lt_of_lt_of_le
abbrev alg:=@Array.length_toList
abbrev alR:=@Option.getD_some
abbrev akg:=@Bool.false_eq_true
abbrev akh:=@List.mem_map
abbrev akr:=@List.getElem?_toArray
abbrev akR:=@List.getElem?_cons_zero
abbrev ald:=@List.getElem?_cons_succ
abbrev alh:=@List.getElem?_set_self
abbrev akV:=@List.mem_of_mem_drop
abbrev ajq:=@List.append_assoc
abbrev ajj:=@List.length_append
abbrev ajY:=@List.length_drop
abbrev akc:=@List.getElem?_drop
abbrev ajE:=@List.drop_zero
abbrev akQ:=@List.flatten_cons
abbrev akI:=@List.mem_iff_getElem
abbrev ajK:=@List.map_cons
abbrev ak8:=@List.nodup_cons
abbrev akJ:=@List.mem_cons_of_mem
abbrev alm:=@List.mem_cons_self
abbrev akC:=@List.prefix_append
abbrev akO:=@Option.isSome_iff_exists
abbrev aln:=@List.zip_cons_cons
abbrev akj:=@List.take_zero
abbrev aj3:=@Array.toArray_toList
abbrev aku:=@Array.toList_map
abbrev akN:=@Nat.testBit_mod_two_pow
abbrev ak2:=@Nat.testBit_div_two_pow
abbrev ak3:=@Nat.eq_of_testBit_eq
abbrev akD:=@Bool.true_and
abbrev alY:=@Nat.testBit_mul_two_pow
abbrev akL:=@Nat.le_div_iff_mul_le
abbrev akY:=@Nat.testBit_lt_two_pow
abbrev ajv:=@Nat.pow_le_pow_right
abbrev aks:=@Nat.div_le_self
abbrev alC:=@List.map_set
abbrev ak9:=@Nat.two_pow_pos
abbrev alD:=@Nat.xor_lt_two_pow
abbrev ajs:=@Bool.and_eq_true
abbrev alN:=@Bool.not_eq_true'
abbrev ak4:=@Array.getElem?_eq_some_iff
abbrev aj4:=@List.all_eq_true
abbrev alo:=@List.mem_range
abbrev ak1:=@Bool.or_eq_true
abbrev aly:=@Bool.not_false
abbrev ali:=@Bool.not_true
abbrev alS:=@Array.setIfInBounds_comm
abbrev al6:=@Nat.le_of_lt
abbrev ajz:=@List.take_length
abbrev akW:=@Nat.add_sub_cancel
abbrev akv:=@List.take_left'
abbrev ajF:=@List.length_replicate
abbrev aj5:=@List.not_mem_nil
abbrev ajN:=@List.take_succ_eq_append_getElem
abbrev alu:=@List.take_set_of_le
abbrev alz:=@Bool.false_and
abbrev ajA:=@List.length_nil
abbrev ak0:=@Bool.eq_false_iff
abbrev akM:=@Nat.eq_of_beq_eq_true
abbrev al7:=@Nat.le_of_ble_eq_true
abbrev al2:=@List.drop_of_length_le
abbrev al0:=@List.range_succ
abbrev akn:=@List.getElem?_eq_some_iff
abbrev alU:=@List.length_pos_iff
abbrev ake:=@List.append_nil
abbrev akA:=@List.getElem_mem
abbrev akB:=@Nat.le_add_right
abbrev akp:=@Nat.div_div_eq_div_mul
abbrev ak5:=@Int.tmod_eq_emod_of_nonneg
abbrev alA:=@List.drop_length
abbrev alb:=@Nat.succ_pos
abbrev alv:=@beq_eq_false_iff_ne
abbrev akX:=@List.map_append
abbrev alT:=@Nat.pow_lt_pow_iff_right
abbrev alO:=@List.drop_left
abbrev alV:=@Nat.div_mul_le_self
abbrev akw:=@List.length_singleton
abbrev al5:=@Nat.le_of_lt_succ
abbrev alH:=@Nat.mul_mod_mul_right
abbrev alE:=@Nat.mul_lt_mul_of_pos_right
abbrev alI:=@List.set_append_right
abbrev alp:=@List.set_cons_zero
abbrev alw:=@List.drop_set_of_lt
abbrev al1:=@Nat.pos_of_ne_zero
abbrev alJ:=@Option.map_none
abbrev ajQ:=@List.map_nil
abbrev alL:=@Nat.mod_two_eq_zero_or_one
abbrev alM:=@Nat.xor_assoc
abbrev alF:=@Int.lt_tmod_of_pos
abbrev alG:=@Int.tmod_lt_of_pos
abbrev akd:=@Int.natAbs_natCast
abbrev al8:=@List.contains_iff_mem
set_option linter.unusedSimpArgs false
set_option linter.unusedVariables false
def bF:Value→Bool
 | .agg _ | .tuple _=>false
 | _=>true
structure Ext (M:List Nat) (w w':World):Prop where
 os:w'.os=w.os
 tape:w'.tape=w.tape
 output:w'.output=w.output
 size:w.heap.size≤w'.heap.size
 block:∀b,b<w.heap.size→b ∉ M→w'.heap[b]? =w.heap[b]?
theorem Ext.refl (M:List Nat) (w:World):Ext M w w:=⟨rfl,rfl,rfl,ajp _,fun _ _ _=>rfl⟩
theorem Ext.trans {M N:List Nat} {a b c:World} (h:Ext M a b) (k:Ext N b c) (hN:∀x∈N,x∈M∨a.heap.size≤x):Ext M a c:=
 ⟨k.os.trans h.os,k.tape.trans h.tape,k.output.trans h.output,ajD h.size k.size,fun x hx hm=>by
  rw[k.block x (aj2 hx h.size) (fun hn=>(hN x hn).elim hm (fun h1=>absurd h1 (by omega))),h.block x hx hm]⟩
theorem Ext.trans' {M:List Nat} {a b c:World} (h:Ext M a b) (k:Ext [] b c):Ext M a c:=h.trans k (fun _ h=>by cases h)
theorem Ext.mono {M N:List Nat} {a b:World} (h:Ext M a b) (hN:∀x∈M,x∈N∨a.heap.size≤x):Ext N a b:=
 ⟨h.os,h.tape,h.output,h.size,fun x hx hn=>h.block x hx (fun hm=>(hN x hm).elim hn (fun h1=>absurd h1 (by omega)))⟩
theorem Ext.drew {M:List Nat} {a b:World} (h:Ext M a b):Ext M a b.drew:=⟨h.os,h.tape,h.output,h.size,h.block⟩
theorem mz (w:World) (o:Obj) (k:Nat) (h:k<w.heap.size):(w.alloc o).heap[k]? =w.heap[k]? :=by
 show(w.heap.push o)[k]? =_
 rw[Array.getElem?_push,if_neg (by omega)]
theorem heap_alloc_new (w:World) (o:Obj):(w.alloc o).heap[w.heap.size]? =some o:=by
 show(w.heap.push o)[w.heap.size]? =_
 rw[Array.getElem?_push,if_pos rfl]
theorem Ext.alloc {M:List Nat} {a b:World} (h:Ext M a b) (o:Obj):Ext M a (b.alloc o):=
 ⟨h.os,h.tape,h.output,by simp;have:=h.size;omega,fun x hx hm=>by rw[mz _ _ _ (aj2 hx h.size)];exact h.block x hx hm⟩
def iM (w:World) (b:Nat) (C:List Value):Prop:=∃T,w.heap[b]? =some (.cells C.toArray T (0,0))
theorem iM.lt {w:World} {b:Nat} {C:List Value} (h:iM w b C):b<w.heap.size:=by
 obtain ⟨T,h⟩:=h;rcases akT b w.heap.size with h' | h'
 · exact h'
 · simp[Array.getElem?_eq_none h'] at h
theorem iM.cell {w:World} {b i:Nat} {C:List Value} {v:Value} (h:iM w b C) (hi:C[i]? =some v):w.cell? ⟨b,i,none⟩=some v:=by
 obtain ⟨T,h⟩:=h;simp[World.cell?,h,hi]
theorem iM.frozen {w:World} {b i:Nat} {C:List Value} (h:iM w b C):w.frozen? ⟨b,i,none⟩=false:=by
 obtain ⟨T,h⟩:=h;simp[World.frozen?,h]
theorem iM.ext {M:List Nat} {w w':World} {b:Nat} {C:List Value} (h:iM w b C) (he:Ext M w w') (hb:b ∉ M):iM w' b C:=by
 have hl:=h.lt;obtain ⟨T,h⟩:=h;exact⟨T,by rw[he.block b hl hb];exact h⟩
theorem iM.new (w:World) (C:List Value) (T:TypeId):iM (w.alloc (.cells C.toArray T)) w.heap.size C:=⟨T,heap_alloc_new _ _⟩
theorem iM.alloc {w:World} {b:Nat} {C:List Value} (h:iM w b C) (o:Obj):iM (w.alloc o) b C:=h.ext ((Ext.refl [] w).alloc o) (by simp)
theorem iM.drew {w:World} {b:Nat} {C:List Value} (h:iM w b C):iM w.drew b C:=h
def eB (w:World) (b:Nat) (C:List Value):World:=
 {w with heap:=w.heap.modify b fun | .cells _ T f=>.cells C.toArray T f | o=>o}
theorem fR {w:World} {b:Nat} {C D:List Value} (h:iM w b C):iM (eB w b D) b D:=by
 obtain ⟨T,h⟩:=h;exact⟨T,by simp[eB,Array.getElem?_modify,h]⟩
theorem jr (w:World) (b:Nat) (C:List Value):Ext [b] w (eB w b C):=
 ⟨rfl,rfl,rfl,by simp[eB],fun x _ hm=>by
  simp only[eB,Array.getElem?_modify];rw[if_neg (by simp at hm;omega)]⟩
theorem t9 (w:World) (b:Nat) (C D:List Value):eB (eB w b C) b D=eB w b D:=by
 unfold eB
 congr 1
 apply Array.ext
 · simp
 · intro i h1 h2
   simp only[Array.getElem_modify]
   split
   · cases w.heap[i]'(by simpa using h1)<;>rfl
   · rfl
theorem rO {w:World} {b i:Nat} {C:List Value} (h:iM w b C) (v:Value):w.setCell ⟨b,i,none⟩ v=eB w b (C.set i v):=by
 obtain ⟨T,h⟩:=h;unfold World.setCell eB
 congr 1
 apply Array.ext
 · simp
 · intro j h1 h2
   simp only[Array.getElem_modify]
   split
   · rename_i e
     subst e
     have:w.heap[b]'(by simpa using h1)=.cells C.toArray T (0,0):=by
      rw[akx (by simpa using h1)] at h;exact Option.some.inj h
     rw[this]
     simp
   · rfl
def ab (a:Option Addr):Nat:=(a.map (·.block)).getD 0
def ao (a:Option Addr):Nat:=(a.map (·.off)).getD 0
theorem gO (b o:Nat):ab (some ⟨b,o,none⟩)=b:=rfl
theorem nW (b o:Nat):ao (some ⟨b,o,none⟩)=o:=rfl
def Row (w:World) (a:Option Addr) (cs:List Value):Prop:=
 (0<cs.length→a=some ⟨ab a,ao a,none⟩)∧∀i,∀h:i<cs.length,w.cell? ⟨ab a,ao a+i,none⟩=some cs[i]
theorem Row.ext {M:List Nat} {w w':World} {a:Option Addr} {cs:List Value} (h:Row w a cs) (he:Ext M w w') (hb:ab a ∉ M∨cs=[]):Row w' a cs:=by
 refine⟨h.1,fun i hi=>?_⟩;have hc:=h.2 i hi;have hl:=World.block_lt_of_cell? _ _ hc;have hne:cs≠ []:=fun e=>by subst e;simp at hi
 have hbb:w'.heap[ab a]? =w.heap[ab a]? :=he.block _ hl (hb.resolve_right hne);rw[←hc];simp only[World.cell?];rw[hbb]
theorem Row.ext' {w w':World} {a:Option Addr} {cs:List Value} (h:Row w a cs) (he:Ext [] w w'):Row w' a cs:=h.ext he (.inl (by simp))
theorem Row.nil (w:World) (a:Option Addr):Row w a []:=⟨fun h=>by simp at h,fun i h=>by simp at h⟩
theorem Row.of_blk {w:World} {b:Nat} {C cs:List Value} {o:Nat} (h:iM w b C) (hc:∀i,∀h:i<cs.length,C[o+i]? =some cs[i]):Row w (some ⟨b,o,none⟩) cs:=
 ⟨fun _=>rfl,fun i hi=>h.cell (hc i hi)⟩
theorem Row.drew {w:World} {a:Option Addr} {cs:List Value} (h:Row w a cs):Row w.drew a cs:=h
theorem Row.alloc {w:World} {a:Option Addr} {cs:List Value} (h:Row w a cs) (o:Obj):Row (w.alloc o) a cs:=h.ext' ((Ext.refl [] w).alloc o)
theorem Row.take {w:World} {a:Option Addr} {cs:List Value} (h:Row w a cs) (n:Nat):Row w a (cs.take n):=
 ⟨fun hl=>h.1 (by simp at hl;omega),fun i hi=>by
  have:i<cs.length:=by simp at hi;omega
  rw[h.2 i this];simp⟩
theorem de (b o n:Nat):Addr.add ⟨b,o,none⟩ n=⟨b,o+n,none⟩:=by
 unfold Addr.add;split<;>simp_all
theorem run_underlying {P:Program} {w:World} {t:TypeId} {d:TypeDesc} (h:P.underlying t=some d):(underlying t).run P w=.ok d w:=by
 unfold underlying;simp only[program,Sem.run_bind]
 show(Sem.run P (Sem.program Sem.pure) w).andThen _=_
 simp only[Sem.run,Result.andThen_ok,h]
 rfl
theorem run_typeInfo {P:Program} {w:World} {t:TypeId} {i:TypeInfo} (h:P.info? t=some i):(typeInfo t).run P w=.ok i w:=by
 unfold typeInfo;simp only[program,Sem.run_bind]
 show(Sem.run P (Sem.program Sem.pure) w).andThen _=_
 simp only[Sem.run,Result.andThen_ok,h]
 rfl
theorem run_sizeOf {P:Program} {w:World} {t:TypeId} {s:Nat} (h:(P.info? t).map (·.size)=some s):(sizeOf t).run P w=.ok s w:=by
 unfold sizeOf
 cases hi:P.info? t with
 | none=>rw[hi] at h;cases h
 | some i=>
   rw[hi] at h;simp at h;subst h;rw[Sem.run_bind,run_typeInfo hi]
   rfl
def j6:TypeDesc→Bool
 | .struct _ | .array _ _=>true
 | _=>false
theorem lJ {P:Program} {w:World} {t:TypeId} {d:TypeDesc} (h:P.underlying t=some d):
 (isAgg t).run P w=.ok (j6 d) w:=by
 unfold isAgg;rw[Sem.run_bind,run_underlying h,Result.andThen_ok]
 cases d<;>rfl
theorem iD {P:Program} {w:World} {t:TypeId} {v:Value} (h:(P.info? t).bind (·.zero)=some v):(zeroValue t).run P w=.ok v w:=by
 unfold zeroValue
 cases hi:P.info? t with
 | none=>rw[hi] at h;cases h
 | some i=>
   rw[hi] at h;simp at h;rw[Sem.run_bind,run_typeInfo hi,Result.andThen_ok,h]
   rfl
theorem run_loadCellsFrom {P:Program} {w:World}:∀(cs:List Value) (b o j:Nat) (acc:Array Value),(∀i,∀h:i<cs.length,w.cell? ⟨b,o+(j+i),none⟩=some cs[i])→
 (loadCellsFrom ⟨b,o,none⟩ j cs.length acc).run P w=.ok (acc++cs.toArray) w
 | [],b,o,j,acc,_=>by simp[loadCellsFrom,Sem.run,pure]
 | v::cs,b,o,j,acc,h=>by
   have h0:=h 0 (by simp)
   have ih:=run_loadCellsFrom (P:=P) cs b o (j+1) (acc.push v) (fun i hi=>by
    have:=h (i+1) (by simpa using hi)
    rw[show j+1+i=j+(i+1) by omega];simpa using this)
   simp only[ajr,loadCellsFrom,Sem.run_bind,de]
   have e:(load ⟨b,o+j,none⟩).run P w=.ok v w:=by
    simp only[load,Sem.run];rw[show o+j=o+(j+0) by omega,h0]
    rfl
   rw[e,Result.andThen_ok,ih]
   congr 1
   apply Array.toList_inj.1
   simp
theorem run_loadCells {P:Program} {w:World} {cs:List Value} {b o:Nat} (h:∀i,∀h:i<cs.length,w.cell? ⟨b,o+i,none⟩=some cs[i]):(loadCells ⟨b,o,none⟩ cs.length).run P w=.ok cs.toArray w:=by
 unfold loadCells;rw[run_loadCellsFrom cs b o 0 #[] (fun i hi=>by rw[ajU];exact h i hi)]
 simp
def dv (C:List Value) (o:Nat):List Value→List Value
 | []=>C
 | v::vs=>dv (C.set o v) (o+1) vs
theorem gl:∀(vs C:List Value) (o:Nat),(dv C o vs).length=C.length
 | [],_,_=>rfl
 | v::vs,C,o=>by rw[dv,gl vs];simp
theorem jb:∀(vs C:List Value) (o j:Nat),o+vs.length≤C.length→(dv C o vs)[j]? =if o≤j∧j<o+vs.length then vs[j-o]? else C[j]?
 | [],C,o,j,h=>by simp[dv];omega
 | v::vs,C,o,j,h=>by
   simp only[ajr] at h;rw[dv,jb vs _ (o+1) j (by simp;omega)]
   by_cases h1:o+1≤j∧j<o+1+vs.length
   · rw[if_pos h1,if_pos (by simp;omega),show j-o=(j-(o+1))+1 by omega];simp
   · rw[if_neg h1]
     by_cases h2:j=o
     · subst h2
       rw[if_pos (by simp),alh (by omega)];simp
     · rw[if_neg (by simp;omega),akt (by omega)]
theorem il {P:Program}:∀(vs:List Value) (w:World) (b o j:Nat) (C:List Value),(∀v∈vs,bF v=true)→iM w b C→o+j+vs.length≤C.length→
 (storeCells ⟨b,o,none⟩ vs j).run P w=.ok () (if vs=[] then w else eB w b (dv C (o+j) vs))
 | [],w,b,o,j,C,_,_,_=>by simp[storeCells,Sem.run,pure]
 | v::vs,w,b,o,j,C,h1,hb,hl=>by
   simp only[ajr] at hl;have hc:w.cell? ⟨b,o+j,none⟩=some (C[o+j]'(by omega)):=hb.cell (by simp)
   have e:(store ⟨b,o+j,none⟩ v).run P w=.ok () (eB w b (C.set (o+j) v)):=by
    have hv:=h1 v (by simp);have hs:=rO (i:=o+j) hb v;unfold store
    cases v<;>first
     | (simp[bF] at hv;done)
     | (simp only[Sem.run,hc,hb.frozen,akg,if_false,hs])
   simp only[storeCells,Sem.run_bind,de,e,Result.andThen_ok];rw[il vs _ b o (j+1) (C.set (o+j) v) (fun x hx=>h1 x (by simp[hx])) (fR hb) (by simp;omega)];simp only[List.cons_ne_nil,if_false,dv,t9,aj8]
   cases vs with
   | nil=>simp[dv]
   | cons _ _=>simp
def cS (P:Program) (t:TypeId):Option Nat:=(P.info? t).map (·.size)
def tC (P:Program) (t:TypeId):Option Nat:=(P.info? t).map (·.bytes)
def gE (P:Program) (t:TypeId):Option (List Value):=((P.info? t).bind (·.zero)).map fun v=>v.cells.toList
theorem EY {v:Value} (h:bF v=true):v.cells=#[v]:=by cases v<;>first | rfl | cases h
def cellK (w:World) (a:Addr) (F:Bool→Value→Prop):Prop:=match w.cell? a with | some v=>F true v | none=>False
def jX (w:World) (b:Nat):Nat→Nat→Option (List Value)
 | _,0=>some []
 | o,n+1=>match w.cell? ⟨b,o,none⟩ with | some v=>(jX w b (o+1) n).map (v:: ·) | none=>none
def kJ (w:World) (a:Addr) (n:Nat) (F:Bool→List Value→Prop):Prop:=
 match a.spot with
 | none=>(match jX w a.block a.off n with | some cs=>F true cs | none=>False)
 | some _=>False
def Hn (w:World) (a:Addr) (v:Value) (K:Bool→World→Prop):Prop:=
 match w.cell? a with
 | some _=>if w.frozen? a=true∨bF v=false then False else K true (w.setCell a v)
 | none=>False
def tB:World→Addr→List Value→(Bool→World→Prop)→Prop
 | w,_,[],K=>K true w
 | w,a,v::vs,K=>Hn w a v fun _ w'=>tB w' (a.add 1) vs K
theorem oF {w:World} {b:Nat}:∀(n o:Nat) (cs:List Value),jX w b o n=some cs→cs.length=n∧∀i,∀h:i<cs.length,w.cell? ⟨b,o+i,none⟩=some cs[i]
 | 0,o,cs,h=>by simp[jX] at h;subst h;exact⟨rfl,fun i hi=>by simp at hi⟩
 | n+1,o,cs,h=>by
   simp only[jX] at h
   cases hc:w.cell? ⟨b,o,none⟩ with
   | none=>rw[hc] at h;cases h
   | some v=>
     rw[hc] at h
     cases hr:jX w b (o+1) n with
     | none=>rw[hr] at h;cases h
     | some r=>
       rw[hr] at h;simp at h;subst h;obtain ⟨h1,h2⟩:=oF n (o+1) r hr;refine⟨by simp[h1],fun i hi=>?_⟩
       cases i with
       | zero=>simpa using hc
       | succ i=>
         have:=h2 i (by simpa using hi)
         rw[show o+(i+1)=o+1+i by omega];simpa using this
theorem qX {w:World} {b:Nat}:∀(cs:List Value) (o:Nat),(∀i,∀h:i<cs.length,w.cell? ⟨b,o+i,none⟩=some cs[i])→jX w b o cs.length=some cs
 | [],_,_=>rfl
 | v::cs,o,h=>by
   have h0:=h 0 (by simp);simp only[aky,List.getElem_cons_zero] at h0
   have ih:=qX cs (o+1) (fun i hi=>by
    have:=h (i+1) (by simpa using hi)
    rw[show o+1+i=o+(i+1) by omega];simpa using this)
   simp only[ajr,jX,h0,ih]
   rfl
def dA (P:Program) (t:TypeId) (a:Value) (w:World) (K:Bool→Value→World→Prop):Prop:=
 match a with
 | .pointer (some x)=>
   (match P.underlying t with
   | some d=>(bif j6 d then(match cS P t with | some n=>kJ w x n fun τ cs=>K τ (.agg cs.toArray) w | none=>False) else cellK w x fun τ v=>K τ v w)
   | none=>False)
 | _=>False
def iC (P:Program) (t:TypeId) (a v:Value) (w:World) (K:Bool→World→Prop):Prop:=
 match a with
 | .pointer (some x)=>if cS P t=some v.cells.size then tB w x v.cells.toList K else False
 | _=>False
theorem ly {P:Program} {t:TypeId} {a:Value} {w:World} {K:Bool→Value→World→Prop} (h:dA P t a w K):∃v,(Instr.loadAt t a).run P w=.ok v w∧K true v w:=by
 unfold dA at h
 split at h
 · rename_i x
   cases hd:P.underlying t with
   | none=>rw[hd] at h;exact h.elim
   | some d=>
     rw[hd] at h;simp only at h;unfold Instr.loadAt loadVar;simp only[Instr.sureAddr,pure_bind,Sem.run_bind,lJ hd,Result.andThen_ok]
     cases hg:j6 d with
     | true=>
       rw[hg] at h;simp only[cond_true] at h
       cases hs:cS P t with
       | none=>rw[hs] at h;exact h.elim
       | some n=>
         rw[hs] at h;unfold kJ at h;obtain ⟨b,o,sp⟩:=x
         cases sp with
         | some _=>exact h.elim
         | none=>
           simp only at h
           cases hr:jX w b o n with
           | none=>rw[hr] at h;exact h.elim
           | some cs=>
             rw[hr] at h;obtain ⟨h1,h2⟩:=oF _ _ _ hr;subst h1;refine⟨_,?_,h⟩;simp only[if_true,Sem.run_bind,run_sizeOf hs,Result.andThen_ok,run_loadCells h2]
             rfl
     | false=>
       rw[hg] at h;simp only[cond_false] at h;unfold cellK at h
       cases hc:w.cell? x with
       | none=>rw[hc] at h;exact h.elim
       | some v=>
         rw[hc] at h;refine⟨v,?_,h⟩;simp only[akg,if_false,load,Sem.run,hc]
 · exact h.elim
theorem yJ {P:Program}:∀(vs:List Value) (w:World) (a:Addr) (j:Nat) (K:Bool→World→Prop),a.spot=none→tB w (a.add j) vs K→∃w',(storeCells a vs j).run P w=.ok () w'∧K true w'
 | [],w,a,j,K,_,h=>⟨w,rfl,h⟩
 | v::vs,w,a,j,K,hs,h=>by
   obtain ⟨b,o,sp⟩:=a;simp only at hs;subst hs;simp only[tB,Hn,de] at h
   cases hc:w.cell? ⟨b,o+j,none⟩ with
   | none=>rw[hc] at h;exact h.elim
   | some u=>
     rw[hc] at h;simp only at h
     split at h
     · exact h.elim
     · rename_i hn
       have hf:w.frozen? ⟨b,o+j,none⟩=false:=by
        cases hf:w.frozen? ⟨b,o+j,none⟩ with
        | false=>rfl
        | true=>exact absurd (.inl hf) hn
       have ho:bF v=true:=by
        cases ho:bF v with
        | true=>rfl
        | false=>exact absurd (.inr ho) hn
       have e:(store ⟨b,o+j,none⟩ v).run P w=.ok () (w.setCell ⟨b,o+j,none⟩ v):=by
        unfold store
        cases v<;>first
         | (simp[bF] at ho;done)
         | (simp only[Sem.run,hc,hf,akg,if_false])
       have ih:=yJ (P:=P) vs (w.setCell ⟨b,o+j,none⟩ v) ⟨b,o,none⟩ (j+1) K rfl (by rw[de,←aj8];exact h);obtain ⟨w',h1,h2⟩:=ih;refine⟨w',?_,h2⟩;simp only[storeCells,Sem.run_bind,de,e,Result.andThen_ok,h1]
theorem I8 {w:World} {a:Addr} {v:Value} {K:Bool→World→Prop} (h:Hn w a v K):a.spot=none:=by
 unfold Hn World.cell? at h
 cases hs:a.spot with
 | none=>rfl
 | some x=>
   simp only[hs,Option.isSome_some,if_true] at h
   split at h
   · rename_i hh;split at hh<;>cases hh
   · exact h.elim
theorem sX {P:Program} {t:TypeId} {a v:Value} {w:World} {K:Bool→World→Prop} (h:iC P t a v w K):∃w',(Instr.storeAt t a v).run P w=.ok () w'∧K true w':=by
 unfold iC at h
 split at h
 · rename_i x
   split at h
   · rename_i hz
     unfold Instr.storeAt storeVar;simp only[Instr.sureAddr,pure_bind,Sem.run_bind,run_sizeOf hz,Result.andThen_ok];rw[if_neg (by simp)]
     cases hv:v.cells.toList with
     | nil=>
       rw[hv] at h;exact⟨w,rfl,h⟩
     | cons u us=>
       rw[hv] at h;have hsp:=I8 h;exact yJ (P:=P) (u::us) w x 0 K hsp h
   · exact h.elim
 · exact h.elim
theorem nY {w:World} {a:Addr} {v:Value} {F:Bool→Value→Prop} (h:w.cell? a=some v):cellK w a F=F true v:=by simp[cellK,h]
theorem tL {w:World} {cs:List Value} {b o n:Nat} {F:Bool→List Value→Prop} (h:∀i,∀h:i<cs.length,w.cell? ⟨b,o+i,none⟩=some cs[i]) (hn:n=cs.length):kJ w ⟨b,o,none⟩ n F=F true cs:=by
 subst hn;simp[kJ,qX cs o h]
theorem Row.cellK {w:World} {a:Option Addr} {cs:List Value} (h:Row w a cs) {m:Nat} (hm:m<cs.length) (F:Bool→Value→Prop):Eng.cellK w ⟨ab a,ao a+m,none⟩ F=F true cs[m]:=nY (h.2 m hm)
def y5 (C:List Value) (j:Nat) (F:Bool→Value→Prop):Prop:=match C[j]? with | some v=>F true v | none=>False
theorem vk {C:List Value} {j:Nat} {v:Value} {F:Bool→Value→Prop} (h:C[j]? =some v):y5 C j F=F true v:=by simp[y5,h]
theorem K0 {w:World} {b i:Nat} {v:Value} {C:List Value} {K:Bool→World→Prop} (hb:iM w b C) (hi:i<C.length) (hv:bF v=true):Hn w ⟨b,i,none⟩ v K=K true (eB w b (C.set i v)):=by
 unfold Hn;rw[hb.cell (i:=i) (v:=C[i]) (by simp),hb.frozen,hv,rO hb]
 simp
theorem yd {b:Nat} {K:Bool→World→Prop}:∀(vs:List Value) (w:World) (i:Nat) (C:List Value),iM w b C→i+vs.length≤C.length→(∀v∈vs,bF v=true)→
 tB w ⟨b,i,none⟩ vs K=K true (if vs=[] then w else eB w b (dv C i vs))
 | [],w,i,C,_,_,_=>by simp[tB]
 | v::vs,w,i,C,hb,hi,hv=>by
   simp only[ajr] at hi;simp only[tB,de];rw[K0 (i:=i) (v:=v) hb (by omega) (hv v (by simp))];rw[yd vs _ _ _ (fR hb) (by simp;omega) (fun u hu=>hv u (by simp[hu]))];simp only[List.cons_ne_nil,if_false,dv,t9]
   cases vs with
   | nil=>simp[dv]
   | cons _ _=>simp
abbrev Rg:=List (Nat×Value)
def fd:Rg→Nat→Option Value
 | [],_=>none
 | (s,v)::r,t=>match Nat.beq s t with | true=>some v | false=>fd r t
theorem nJ (s t:Nat) (v:Value) (r:Rg):fd ((s,v)::r) t=if s=t then some v else fd r t:=by
 unfold fd
 by_cases h:s=t
 · subst h
   rw[Nat.beq_refl,if_pos rfl]
 · rw[if_neg h]
   have:Nat.beq s t=false:=by
    cases hb:Nat.beq s t with
    | true=>exact absurd (akM hb) h
    | false=>rfl
   rw[this]
   cases r<;>rfl
def lk (ρ:Rg) (t:Nat) (K:Value→Prop):Prop:=
 match fd ρ t with
 | some v=>K v
 | none=>False
def dw (ρ:Rg) (x:Operand) (K:Value→Prop):Prop:=
 match x with
 | .tmp t=>lk ρ t K
 | .const v=>K v
 | .global g=>K (.pointer (some ⟨g,0,none⟩))
 | .func f=>K (.func (.func f) #[] #[])
def iu (ρ:Rg):List Operand→(List Value→Prop)→Prop
 | [],K=>K []
 | x::xs,K=>dw ρ x fun v=>iu ρ xs fun vs=>K (v::vs)
def qU (ρ:Rg):List (Nat×Operand)→(List (Nat×Value)→Prop)→Prop
 | [],K=>K []
 | (i,x)::xs,K=>dw ρ x fun v=>qU ρ xs fun vs=>K ((i,v)::vs)
def ju (ρ:Rg):Option Operand→(Option Value→Prop)→Prop
 | none,K=>K none
 | some x,K=>dw ρ x fun v=>K (some v)
structure Ok (n:Nat) (a:Act) (ρ:Rg):Prop where
 defers:a.defers=[]
 size:a.tmps.size=n
 get:∀t v,fd ρ t=some v→a.tmps[t]? =some v
theorem nb {n:Nat} {a:Act} {ρ:Rg} (h:Ok n a ρ) {t:Nat} {K:Value→Prop} (hk:lk ρ t K):K (a.tmps.getD t undef):=by
 unfold lk at hk
 split at hk
 · rename_i v hv
   have:=h.get t v hv
   rw[Array.getD_eq_getD_getElem?,this];exact hk
 · exact hk.elim
theorem Eu {n:Nat} {a:Act} {ρ:Rg} (h:Ok n a ρ) {t:Nat} {K:Value→Prop} (hk:lk ρ t K):∃v,a.tmps[t]? =some v∧K v:=by
 unfold lk at hk
 split at hk
 · rename_i v hv
   exact⟨v,h.get t v hv,hk⟩
 · exact hk.elim
theorem an {n:Nat} {a:Act} {ρ:Rg} (h:Ok n a ρ) {x:Operand} {K:Value→Prop} (hk:dw ρ x K):K (a.eval x):=by
 cases x with
 | tmp t=>exact nb h hk
 | const v=>exact hk
 | global g=>exact hk
 | func f=>exact hk
theorem cj {n:Nat} {a:Act} {ρ:Rg} (h:Ok n a ρ):∀{xs:List Operand} {K:List Value→Prop},iu ρ xs K→K (xs.map a.eval)
 | [],_,hk=>hk
 | x::xs,K,hk=>by
   have h1:=cj h (an h (x:=x) (K:=fun v=>iu ρ xs fun vs=>K (v::vs)) hk);exact h1
theorem eQ {n:Nat} {a:Act} {ρ:Rg} (h:Ok n a ρ):∀{xs:List (Nat×Operand)} {K:List (Nat×Value)→Prop},qU ρ xs K→K (xs.map fun(i,x)=>(i,a.eval x))
 | [],_,hk=>hk
 | (i,x)::xs,K,hk=>by
   have h1:=eQ h (an h (x:=x) (K:=fun v=>qU ρ xs fun vs=>K ((i,v)::vs)) hk);exact h1
theorem cN {n:Nat} {a:Act} {ρ:Rg} (h:Ok n a ρ) {x:Option Operand} {K:Option Value→Prop} (hk:ju ρ x K):K (x.map a.eval):=by
 cases x with
 | none=>exact hk
 | some x=>exact an h (K:=fun v=>K (some v)) hk
def put (ρ:Rg) (d:Option Tmp) (v:Value):Rg:=
 match d with
 | some d=>(d,v)::ρ
 | none=>ρ
theorem zO {n:Nat} {a:Act} {ρ:Rg} (h:Ok n a ρ) {d:Option Tmp} (hd:d.all (· <n)=true) (v:Value):Ok n (a.put d v) (put ρ d v):=by
 cases d with
 | none=>exact h
 | some d=>
   simp at hd;refine⟨h.defers,by simp[Act.put,h.size],fun t u hu=>?_⟩;simp only[put,nJ] at hu
   by_cases e:d=t
   · subst e
     simp at hu;subst hu;simp[Act.put,h.size,hd]
   · rw[if_neg e] at hu
     have:=h.get t u hu
     simp only[Act.put,Array.getElem?_setIfInBounds];rw[if_neg e];exact this
def j1 {α:Type}:Result α→(α→World→Prop)→Prop
 | .ok v w,K=>K v w
 | .halt _ _,_=>False
def runK {α:Type} (P:Program) (s:Sem α) (w:World) (K:α→World→Prop):Prop:=j1 (s.run P w) K
theorem runK_pure {α:Type} (P:Program) (v:α) (w:World) (K:α→World→Prop):runK P (pure v) w K=K v w:=rfl
theorem tM {α:Type} {P:Program} {s:Sem α} {w:World} {K K':α→World→Prop} (h:runK P s w K) (hk:∀v w',K v w'→K' v w'):runK P s w K':=by
 unfold runK at*
 cases hs:s.run P w with
 | ok v w'=>rw[hs] at h;exact hk _ _ h
 | halt x w'=>rw[hs] at h;exact h.elim
abbrev Kv:=Bool→Value→World→Prop
def mf (P:Program) (f:FuncId) (args:Array Value) (w:World) (K:Kv):Prop:=
 runK P (callFunc f args) w fun n w'=>
  match n with
  | .enter g xs=>Calls P g xs w' (fun e w''=>∃v,e=.returned v∧K true v w'')
  | .value v=>K true v w'
  | _=>False
def gu (P:Program) (s:Sem Next) (w:World) (K:Kv):Prop:=
 runK P s w fun n w'=>
  match n with
  | .enter g xs=>Calls P g xs w' (fun e w''=>∃v,e=.returned v∧K true v w'')
  | .value v=>K true v w'
  | .skip=>K true undef w'
  | _=>False
def oT (_τ:Bool) (P:Program) (o:Oper) (ρ:Rg) (w:World) (K:Kv):Prop:=
 match o.op with
 | .move x | .assign x=>dw ρ x fun v=>K true v w
 | .pick c a b=>dw ρ c fun c=>dw ρ a fun x=>dw ρ b fun y=>match c with | .bool t=>K true (bif t then x else y) w | _=>False
 | .alloc t=>runK P (Instr.alloc t true (.tuple #[])) w (K true)
 | .box t x=>dw ρ x fun v=>runK P (Instr.box t v) w (K true)
 | .build t ps=>qU ρ ps.toList fun vs=>runK P (Instr.build t vs.toArray) w (K true)
 | .buildSlice t n ps=>qU ρ ps.toList fun vs=>runK P (Instr.buildSlice t n vs.toArray) w (K true)
 | .load t a=>dw ρ a fun a=>dA P t a w K
 | .store t a x=>dw ρ a fun a=>dw ρ x fun x=>iC P t a x w fun τ w'=>K τ undef w'
 | .nilCheck x=>dw ρ x fun x=>match x with | .pointer (some a)=>K true (.pointer (some a)) w | .func (.func f) l c=>K true (.func (.func f) l c) w | _=>False
 | .binOp op t x y _=>dw ρ x fun u=>dw ρ y fun v=>runK P (do eqGuard op t x y u v;binOp op t u v) w (K true)
 | .unOp op _ x=>dw ρ x fun x=>runK P (Op.unary op x) w (K true)
 | .convert s d x=>dw ρ x fun x=>runK P (convert s d x) w (K true)
 | .makeInterface t x=>dw ρ x fun x=>runK P (Instr.makeInterface t x) w (K true)
 | .makeFunc fn first captured=>iu ρ first.toList fun f=>iu ρ captured.toList fun c=>K true (.func fn f.toArray c.toArray) w
 | .makeMap t r=>ju ρ r fun r=>runK P (Instr.makeMap t r) w (K true)
 | .makeSlice t l c=>dw ρ l fun l=>dw ρ c fun c=>runK P (Instr.makeSlice t l c) w (K true)
 | .slice t x lo hi mx=>dw ρ x fun x=>ju ρ lo fun lo=>ju ρ hi fun hi=>ju ρ mx fun mx=>runK P (Instr.sliceAt t x lo hi mx) w (K true)
 | .fieldAddr s x f=>dw ρ x fun x=>runK P (Instr.fieldAt s x f) w (K true)
 | .field t x f=>dw ρ x fun x=>runK P (Instr.field t x f) w (K true)
 | .indexAddr t x i=>dw ρ x fun x=>dw ρ i fun i=>runK P (Instr.indexAt t x i) w (K true)
 | .index t x i=>dw ρ x fun x=>dw ρ i fun i=>runK P (Instr.index t x i) w (K true)
 | .lookup t x i ok=>dw ρ x fun x=>dw ρ i fun i=>runK P (Instr.lookup t x i ok) w (K true)
 | .mapUpdate t m k x=>dw ρ m fun m=>dw ρ k fun k=>dw ρ x fun x=>runK P (Instr.mapUpdate t m k x) w fun _ w'=>K true undef w'
 | .typeAssert x xt at_ ok=>dw ρ x fun x=>runK P (Instr.typeAssert x xt at_ ok) w (K true)
 | .extract t i=>dw ρ t fun t=>runK P (Instr.extract t i) w (K true)
 | .call c=>match c.callee with
   | .value f=>dw ρ f fun f=>iu ρ c.args.toList fun args=>
     match f with
     | .func (.func g) first captured=>mf P g (first++args.toArray++captured) w K
     | _=>False
   | .builtin b=>iu ρ c.args.toList fun args=>gu P (builtin b c.argTypes o.type (c.args.map fun | .const _=>true | _=>false) args.toArray) w K
   | .invoke recv name=>dw ρ recv fun r=>iu ρ c.args.toList fun args=>gu P (callMethod r name args.toArray) w K
 | _=>False
theorem bw {P:Program} {o:Oper} {a:Act} {w:World} {s:Sem Value} {K:Value→World→Prop} {next:Act→World→Prop} {Q:Exit→Act→World→Prop}
 (he:execOp a.eval o=(do pure (.value (←s)))) (h:runK P s w K) (hn:∀v w',K v w'→next (a.put o.dst v) w'):o.wp P a w next Q:=by
 unfold Oper.wp;rw[he];unfold runK at h;rw[Sem.run_bind]
 cases hs:s.run P w with
 | ok v w'=>rw[hs] at h;exact hn _ _ h
 | halt x w'=>rw[hs] at h;exact h.elim
theorem qq {P:Program} {o:Oper} {a:Act} {w:World} {s:Sem Unit} {K:Value→World→Prop} {next:Act→World→Prop} {Q:Exit→Act→World→Prop}
 (he:execOp a.eval o=(do s;pure .skip)) (h:runK P s w fun _ w'=>K undef w') (hn:∀v w',K v w'→next (a.put o.dst v) w'):o.wp P a w next Q:=by
 unfold Oper.wp;rw[he];unfold runK at h;rw[Sem.run_bind]
 cases hs:s.run P w with
 | ok v w'=>rw[hs] at h;exact hn _ _ h
 | halt x w'=>rw[hs] at h;exact h.elim
theorem nP {P:Program} {o:Oper} {a:Act} {r:Result Next} {K:Kv} {next:Act→World→Prop} {Q:Exit→Act→World→Prop}
 (h:j1 r fun n w'=>
  match n with
  | .enter g xs=>Calls P g xs w' (fun e w''=>∃v,e=.returned v∧K true v w'')
  | .value v=>K true v w'
  | .skip=>K true undef w'
  | _=>False) (hn:∀v w',K true v w'→next (a.put o.dst v) w'):o.upon P a next Q r:=by
 cases r with
 | halt x w'=>exact h.elim
 | ok n w'=>
   cases n with
   | value v=>exact hn _ _ h
   | skip=>exact hn _ _ h
   | enter g xs=>
     refine Calls.mono (h:Calls P g xs w' _) fun e w'' he=>?_;obtain ⟨v,rfl,hk⟩:=he;exact hn _ _ hk
   | _=>exact(h:False).elim
theorem pB {P:Program} {o:Oper} {a:Act} {w:World} {s:Sem Next} {K:Kv} {next:Act→World→Prop} {Q:Exit→Act→World→Prop}
 (he:execOp a.eval o=s) (h:gu P s w K) (hn:∀v w',K true v w'→next (a.put o.dst v) w'):o.wp P a w next Q:=by
 unfold Oper.wp;rw[he];exact nP h hn
theorem kW {P:Program} {f:FuncId} {args:Array Value} {w:World} {K:Kv} (h:mf P f args w K):gu P (callFunc f args) w K:=by
 refine tM h fun n w' hk=>?_
 cases n<;>first | exact hk | exact hk.elim
set_option maxHeartbeats 2000000 in
theorem fg {τ:Bool} {n:Nat} {P:Program} {o:Oper} {a:Act} {ρ:Rg} {w:World} {K:Kv} {next:Act→World→Prop} {Q:Exit→Act→World→Prop}
 (hok:Ok n a ρ) (h:oT τ P o ρ w K) (hn:∀v w',K true v w'→next (a.put o.dst v) w'):o.wp P a w next Q:=by
 obtain ⟨dst,op,ty,pos,after,guard⟩:=o
 cases op with
 | move x=>exact hn _ _ (an hok (K:=fun v=>K true v w) h)
 | assign x=>exact hn _ _ (an hok (K:=fun v=>K true v w) h)
 | pick c x y=>
   have h1:=an hok h;have h2:=an hok h1;have h3:=an hok h2;unfold Oper.wp;simp only[execOp]
   cases hc:a.eval c with
   | bool t=>rw[hc] at h3;cases t<;>exact hn _ _ h3
   | _=>rw[hc] at h3;exact h3.elim
 | alloc t=>exact bw (s:=Instr.alloc t true (.tuple #[])) rfl h hn
 | box t x=>exact bw (s:=Instr.box t (a.eval x)) rfl (an hok h) hn
 | build t ps=>
   have h1:=eQ hok h;refine bw (s:=Instr.build t (ps.map fun(i,x)=>(i,a.eval x))) rfl ?_ hn
   have e:(ps.map fun(i,x)=>(i,a.eval x))=(ps.toList.map fun(i,x)=>(i,a.eval x)).toArray:=by
    rw[←aku,aj3]
   exact e▸h1
 | buildSlice t m ps=>
   have h1:=eQ hok h;refine bw (s:=Instr.buildSlice t m (ps.map fun(i,x)=>(i,a.eval x))) rfl ?_ hn
   have e:(ps.map fun(i,x)=>(i,a.eval x))=(ps.toList.map fun(i,x)=>(i,a.eval x)).toArray:=by
    rw[←aku,aj3]
   exact e▸h1
 | load t x=>
   obtain ⟨v,h1,h2⟩:=ly (an hok h);exact bw (s:=Instr.loadAt t (a.eval x)) rfl (by unfold runK;rw[h1];exact h2) hn
 | store t x y=>
   obtain ⟨w',h1,h2⟩:=sX (an hok (an hok h));exact qq (s:=Instr.storeAt t (a.eval x) (a.eval y)) rfl (by unfold runK;rw[h1];exact h2) hn
 | nilCheck x=>
   have h1:=an hok h;unfold Oper.wp;simp only[execOp]
   split at h1
   · rename_i b hb;rw[hb];exact hn _ _ h1
   · rename_i f l c hb;rw[hb];exact hn _ _ h1
   · exact h1.elim
 | binOp op t x y yt=>exact bw (s:=do eqGuard op t x y (a.eval x) (a.eval y);binOp op t (a.eval x) (a.eval y)) rfl (an hok (an hok h)) hn
 | unOp op t x=>exact bw (s:=Op.unary op (a.eval x)) rfl (an hok h) hn
 | convert s d x=>exact bw (s:=Go.convert s d (a.eval x)) rfl (an hok h) hn
 | makeInterface t x=>exact bw (s:=Instr.makeInterface t (a.eval x)) rfl (an hok h) hn
 | makeFunc fn first captured=>
   have h1:=cj hok (cj hok h);simp only[←aku,aj3] at h1;exact hn _ _ h1
 | makeMap t r=>exact bw (s:=Instr.makeMap t (r.map a.eval)) rfl (cN hok h) hn
 | makeSlice t l c=>exact bw (s:=Instr.makeSlice t (a.eval l) (a.eval c)) rfl (an hok (an hok h)) hn
 | slice t x lo hi mx=>exact bw (s:=Instr.sliceAt t (a.eval x) (lo.map a.eval) (hi.map a.eval) (mx.map a.eval)) rfl (cN hok (cN hok (cN hok (an hok h)))) hn
 | fieldAddr s x f=>exact bw (s:=Instr.fieldAt s (a.eval x) f) rfl (an hok h) hn
 | field s x f=>exact bw (s:=Instr.field s (a.eval x) f) rfl (an hok h) hn
 | indexAddr t x i=>exact bw (s:=Instr.indexAt t (a.eval x) (a.eval i)) rfl (an hok (an hok h)) hn
 | index t x i=>exact bw (s:=Instr.index t (a.eval x) (a.eval i)) rfl (an hok (an hok h)) hn
 | lookup t x i c=>exact bw (s:=Instr.lookup t (a.eval x) (a.eval i) c) rfl (an hok (an hok h)) hn
 | mapUpdate t m k x=>exact qq (s:=Instr.mapUpdate t (a.eval m) (a.eval k) (a.eval x)) rfl (an hok (an hok (an hok h))) hn
 | typeAssert x xt at_ c=>exact bw (s:=Instr.typeAssert (a.eval x) xt at_ c) rfl (an hok h) hn
 | extract t i=>exact bw (s:=Instr.extract (a.eval t) i) rfl (an hok h) hn
 | call c=>
   obtain ⟨callee,args,ats⟩:=c
   cases callee with
   | value f=>
     have h1:=cj hok (an hok h);unfold Oper.wp;simp only[execOp,resolve]
     split at h1
     · rename_i g first captured hf
       rw[hf];simp only[Deferred.ofValue,pure_bind,invoke];simp only[←aku,aj3] at h1;exact nP (kW h1) hn
     · exact h1.elim
   | builtin b=>
     have h1:=cj hok h;simp only[←aku,aj3] at h1;exact pB rfl h1 hn
   | invoke r name=>
     have h1:=cj hok (an hok h);simp only[←aku,aj3] at h1;refine pB (s:=callMethod (a.eval r) name (args.map a.eval)) ?_ h1 hn
     have e0:(#[a.eval r]++args.map a.eval)[0]? =some (a.eval r):=by
      rw[Array.getElem?_append_left (by simp)];rfl
     have e1:(#[a.eval r]++args.map a.eval).extract 1 (#[a.eval r]++args.map a.eval).size=args.map a.eval:=by
      apply Array.toList_inj.1
      simp
      exact ajy (by simp)
     simp only[execOp,resolve,pure_bind,invoke,e0,e1]
 | _=>exact(h:False).elim
def Um (g:Value) (want:Bool) (A B:Bool→Prop):Prop:=
 match g with
 | .bool b=>if b=want then A true else B true
 | _=>B true
abbrev Kr:=Bool→Rg→World→Prop
def pF (τ:Bool) (P:Program) (all:Array Oper):List Oper→Rg→World→Kr→Prop
 | [],ρ,w,K=>K true ρ w
 | o::r,ρ,w,K=>
   match o.guard with
   | none=>oT τ P o ρ w fun τ v w'=>pF τ P all r (put ρ o.dst v) w' K
   | some (j,want)=>
     match (all[j]?).bind (·.dst) with
     | some t=>lk ρ t fun g=>Um g want (fun τ=>oT τ P o ρ w fun τ v w'=>pF τ P all r (put ρ o.dst v) w' K) (fun τ=>pF τ P all r (put ρ o.dst undef) w K)
     | none=>False
theorem ga {o:Oper} (h:o.guard=none) (y:Nat→Option Bool):Region.wanted o y=true:=by
 simp[Region.wanted,h]
theorem ia {n:Nat} {P:Program} {all:Array Oper} {Q:Exit→Act→World→Prop} {K:Kr}
 (hK:∀a ρ w,Ok n a ρ→K true ρ w→Q .normal a w):∀(l:List Oper) (τ:Bool) (a:Act) (ρ:Rg) (w:World),
 (∀o∈l,o.dst.all (· <n)=true)→Ok n a ρ→pF τ P all l ρ w K→wpList P all Q l a w
 | [],_,a,ρ,w,_,hok,h=>hK a ρ w hok h
 | o::r,τ,a,ρ,w,hd,hok,h=>by
   have hdo:o.dst.all (· <n)=true:=hd o (by simp);have hdr:∀x∈r,x.dst.all (· <n)=true:=fun x hx=>hd x (by simp[hx])
   have go:∀τ v w',pF τ P all r (put ρ o.dst v) w' K→wpList P all Q r (a.put o.dst v) w':=fun τ v w' h'=>
    ia hK r τ _ _ w' hdr (zO hok hdo v) h'
   have run:∀τ,(oT τ P o ρ w fun τ v w'=>pF τ P all r (put ρ o.dst v) w' K)→o.wp P a w (wpList P all Q r) Q:=fun τ h'=>
    fg hok h' (go true)
   unfold pF at h;unfold wpList
   cases hg:o.guard with
   | none=>
     rw[hg] at h;rw[if_pos (ga hg _)];exact .inl (run _ h)
   | some jw=>
     obtain ⟨j,want⟩:=jw;rw[hg] at h;simp only at h
     cases ht:(all[j]?).bind (·.dst) with
     | none=>rw[ht] at h;exact h.elim
     | some t=>
       rw[ht] at h;obtain ⟨g,hget,hgd⟩:=Eu hok h
       have hy:yielded all a.tmps j=match g with | .bool b=>some b | _=>none:=by
        unfold yielded;rw[ht];simp only[Option.bind_some,hget]
        cases g<;>rfl
       have hwant:Region.wanted o (yielded all a.tmps)=(yielded all a.tmps j==some want):=by
        simp[Region.wanted,hg]
       rw[hwant,hy]
       cases g with
       | bool b=>
         simp only[Um] at hgd
         by_cases hb:b=want
         · subst hb
           rw[if_pos rfl] at hgd;simp only[BEq.rfl,if_true];exact .inl (run _ hgd)
         · rw[if_neg hb] at hgd
           have:((some b:Option Bool)==some want)=false:=by
            cases b<;>cases want<;>simp_all
           simp only[this,akg,if_false];exact go _ _ _ hgd
       | _=>exact go _ _ _ hgd
def cdK (v:Value) (A B:Bool→Prop):Prop:=
 match v with
 | .bool b=>(b=true→A true)∧(b=false→B true)
 | _=>False
abbrev jP:=Bool→Exit→Rg→World→Prop
def O5 (K:Kr) (Q:jP):jP:=fun τ e ρ w=>
 match e with
 | .normal=>K τ ρ w
 | e=>Q τ e ρ w
def zT (id:Nat) (Q:jP):jP:=fun τ e ρ w=>
 match e with
 | .exit i=>if i=id then Q τ .normal ρ w else Q τ (.exit i) ρ w
 | e=>Q τ e ρ w
def Sub (ρ' ρ:Rg):Prop:=∀t v,fd ρ' t=some v→fd ρ t=some v
theorem Ok.sub {n:Nat} {a:Act} {ρ ρ':Rg} (h:Ok n a ρ) (hs:Sub ρ' ρ):Ok n a ρ':=⟨h.defers,h.size,fun t v hv=>h.get t v (hs t v hv)⟩
def XB (body:Rg→World→jP→Prop) (ρ:Rg) (w:World) (Q:jP):Prop:=
 ∃I:Nat→Rg→World→Prop,(∃m ρ₀,Sub ρ₀ ρ∧I m ρ₀ w)∧
  ∀m ρ w,I m ρ w→body ρ w (O5 (fun _ ρ' w'=>∃m' ρ₀,m'<m∧Sub ρ₀ ρ'∧I m' ρ₀ w') Q)
def WY (n:Nat) (Q:jP):Exit→Act→World→Prop:=fun e a w=>∃ρ,Ok n a ρ∧Q true e ρ w
def Jo (P:Program) (n:Nat) (c:Code) (ρ:Rg) (w:World) (Q:jP):Prop:=∀a,Ok n a ρ→c.wp P (WY n Q) a w
def Ci (P:Program) (n id:Nat) (ops:Array Oper) (ρ:Rg) (w:World) (Q:jP):Prop:=Jo P n (.region id ops true) ρ w Q
def AW (Q:jP):jP:=fun τ e ρ w=>match e with
 | .goto _=>False
 | e=>Q τ e ρ w
def den (τ:Bool) (P:Program) (n:Nat):Code→Rg→World→jP→Prop
 | .skip,ρ,w,Q=>Q true .normal ρ w
 | .region id ops draw,ρ,w,Q=>bif draw then Ci P n id ops ρ w Q else pF τ P ops ops.toList ρ w fun τ=>Q τ .normal
 | .seq a b,ρ,w,Q=>den τ P n a ρ w (O5 (fun τ ρ' w'=>den τ P n b ρ' w' Q) Q)
 | .cond c a b,ρ,w,Q=>dw ρ c fun v=>cdK v (fun τ=>den τ P n a ρ w Q) (fun τ=>den τ P n b ρ w Q)
 | .block id c,ρ,w,Q=>den τ P n c ρ w (zT id Q)
 | .loop c,ρ,w,Q=>XB (den true P n c) ρ w Q
 | .exit id,ρ,w,Q=>Q true (.exit id) ρ w
 | .ret,ρ,w,Q=>Q true .ret ρ w
 | .scope c,ρ,w,Q=>den τ P n c ρ w (AW Q)
 | .label _,ρ,w,Q=>Q true .normal ρ w
 | c,ρ,w,Q=>Jo P n c ρ w Q
def mb (n:Nat):Code→Bool
 | .region _ ops _=>ops.toList.all fun o=>o.dst.all (· <n)
 | .seq a b=>mb n a&&mb n b
 | .cond _ a b=>mb n a&&mb n b
 | .block _ c=>mb n c
 | .loop c=>mb n c
 | .scope c=>mb n c
 | _=>true
theorem pJ {P:Program} {id:Nat} {ops:Array Oper} {Q:Exit→Act→World→Prop} {a:Act} {w:World}
 (h:wpList P ops Q ops.toList a w):(Code.region id ops false).wp P Q a w:=wp_region_list h
theorem least {p:Nat→Prop}:∀m,p m→∃m,p m∧∀k,p k→m≤k:=by
 intro m
 induction m using Nat.strongRecOn with
 | _ m ih=>
   intro h
   by_cases hx:∃k,k<m∧p k
   · obtain ⟨k,hk,hp⟩:=hx
     exact ih k hk hp
   · exact⟨m,h,fun k hk=>Nat.le_of_not_lt fun hlt=>hx ⟨k,hlt,hk⟩⟩
theorem eX {P:Program} {n:Nat}:∀(c:Code),mb n c=true→∀(τ:Bool) (a:Act) (ρ:Rg) (w:World) (Q:jP),Ok n a ρ→den τ P n c ρ w Q→c.wp P (WY n Q) a w
 | .skip,_,τ,a,ρ,w,Q,hok,h=>wp_skip ⟨ρ,hok,h⟩
 | .region id ops draw,hc,τ,a,ρ,w,Q,hok,h=>by
   cases draw with
   | true=>exact(h:Ci P n id ops ρ w Q) a hok
   | false=>
     refine pJ (ia (K:=fun τ=>Q τ .normal) (fun a ρ w ho hk=>⟨ρ,ho,hk⟩) _ τ a ρ w ?_ hok h);intro o ho;exact aj4.1 hc o ho
 | .seq x y,hc,τ,a,ρ,w,Q,hok,h=>by
   simp only[mb,ajs] at hc;refine wp_seq (wp_mono (eX x hc.1 _ a ρ w _ hok h) ?_);intro e a' w' ⟨ρ',hok',hq⟩
   cases e with
   | normal=>exact eX y hc.2 _ a' ρ' w' Q hok' hq
   | _=>exact⟨ρ',hok',hq⟩
 | .cond c x y,hc,τ,a,ρ,w,Q,hok,h=>by
   simp only[mb,ajs] at hc;have h1:=an hok h;unfold cdK at h1
   split at h1
   · rename_i b hb
     exact wp_cond_split hb (fun e=>eX x hc.1 _ a ρ w Q hok (h1.1 e)) (fun e=>eX y hc.2 _ a ρ w Q hok (h1.2 e))
   · exact h1.elim
 | .block id c,hc,τ,a,ρ,w,Q,hok,h=>by
   refine wp_block (wp_mono (eX c hc _ a ρ w _ hok h) ?_);intro e a' w' ⟨ρ',hok',hq⟩
   cases e with
   | exit i=>
     simp only[zT] at hq;simp only[Exit.inBlock]
     by_cases hi:i=id
     · rw[if_pos hi] at hq ⊢;exact⟨ρ',hok',hq⟩
     · rw[if_neg hi] at hq ⊢;exact⟨ρ',hok',hq⟩
   | _=>exact⟨ρ',hok',hq⟩
 | .loop c,hc,τ,a,ρ,w,Q,hok,h=>by
   obtain ⟨I,⟨m₀,ρ₀,hs₀,hI₀⟩,round⟩:=h
   classical
   let J:Act→World→Nat→Prop:=fun a w m=>∃ρ,Ok n a ρ∧I m ρ w
   have lst:∀a w,(∃m,J a w m)→∃m,J a w m∧∀k,J a w k→m≤k:=fun a w ⟨m,hm⟩=>least m hm;refine wp_loop (fun a w=>∃m,J a w m) (fun a w=>if h:∃m,J a w m then(lst a w h).choose else 0) ⟨m₀,ρ₀,hok.sub hs₀,hI₀⟩ ?_;intro a w hex;obtain ⟨ρ,hokr,hI⟩:=(lst a w hex).choose_spec.1;refine wp_mono (eX c hc _ a ρ w _ hokr (round _ ρ w hI)) ?_;intro e a' w' ⟨ρ',hok',hq⟩
   cases e with
   | normal=>
     obtain ⟨m',ρ₁,hlt,hs,hI'⟩:=hq;have hex':∃m,J a' w' m:=⟨m',ρ₁,hok'.sub hs,hI'⟩;refine⟨hex',?_⟩;simp only[dif_pos hex,dif_pos hex'];exact aj9 ((lst a' w' hex').choose_spec.2 m' ⟨ρ₁,hok'.sub hs,hI'⟩) hlt
   | _=>exact⟨ρ',hok',hq⟩
 | .exit id,_,τ,a,ρ,w,Q,hok,h=>wp_exit ⟨ρ,hok,h⟩
 | .ret,_,τ,a,ρ,w,Q,hok,h=>wp_ret ⟨ρ,hok,h⟩
 | .rangeFunc ..,_,τ,a,ρ,w,Q,hok,h=>(h:Jo ..) a hok
 | .scope c,hc,τ,a,ρ,w,Q,hok,h=>by
   refine wp_scope_straight (wp_mono (eX c hc τ a ρ w (AW Q) hok h) ?_);intro e a' w' ⟨ρ',hok',hq⟩
   cases e with
   | goto l=>exact hq.elim
   | _=>exact⟨ρ',hok',hq⟩
 | .label ..,_,τ,a,ρ,w,Q,hok,h=>wp_label ⟨ρ,hok,h⟩
 | .goto ..,_,τ,a,ρ,w,Q,hok,h=>(h:Jo ..) a hok
 | .refuse ..,_,τ,a,ρ,w,Q,hok,h=>(h:Jo ..) a hok
def xN:Nat→List Value→Rg
 | _,[]=> []
 | i,v::r=>(i,v)::xN (i+1) r
theorem B6:∀(l:List Value) (i t:Nat) (v:Value),fd (xN i l) t=some v→i≤t∧l[t-i]? =some v
 | [],_,_,_,h=>by simp[xN,fd] at h
 | x::r,i,t,v,h=>by
   simp only[xN,nJ] at h
   by_cases e:i=t
   · subst e;simp at h;subst h;simp
   · rw[if_neg e] at h
     obtain ⟨h1,h2⟩:=B6 r (i+1) t v h;refine⟨by omega,?_⟩;rw[show t-i=(t-(i+1))+1 by omega];simpa using h2
def mi:List Value→Value
 | [v]=>v
 | vs=>.tuple vs.toArray
def db (P:Program):List ResultVar→Rg→World→(List Value→Prop)→Prop
 | [],_,_,K=>K []
 | .tmp t::r,ρ,w,K=>lk ρ t fun v=>db P r ρ w fun vs=>K (v::vs)
 | .cell t ty::r,ρ,w,K=>lk ρ t fun p=>dA P ty p w fun _ v _=>db P r ρ w fun vs=>K (v::vs)
def wa (tmps:Array Value):ResultVar→Sem Value
 | .tmp t=>pure (tmps.getD t undef)
 | .cell a t=>do loadVar t (←asAddr (tmps.getD a undef))
theorem iq {n:Nat} {P:Program} {a:Act} {ρ:Rg} {w:World} (hok:Ok n a ρ):∀(rs:List ResultVar) (K:List Value→Prop),db P rs ρ w K→
 ∃vs,(rs.mapM (wa a.tmps)).run P w=.ok vs w∧K vs
 | [],K,h=>⟨[],rfl,h⟩
 | .tmp t::r,K,h=>by
   have h1:=nb hok h;obtain ⟨vs,hr,hk⟩:=iq hok r _ h1;refine⟨_,?_,hk⟩;rw[List.mapM_cons,Sem.run_bind,show(wa a.tmps (.tmp t)).run P w=.ok (a.tmps.getD t undef) w from rfl];simp only[Result.andThen_ok,Sem.run_bind,hr]
   rfl
 | .cell t ty::r,K,h=>by
   obtain ⟨v,hl,h2⟩:=ly (nb hok h);obtain ⟨vs,hr,hk⟩:=iq hok r _ h2;refine⟨_,?_,hk⟩
   have e:(wa a.tmps (.cell t ty)).run P w=.ok v w:=by
    unfold Instr.loadAt at hl
    show(do loadVar ty (←asAddr (a.tmps.getD t undef))).run P w=_
    cases hp:a.tmps.getD t undef<;>rw[hp] at hl<;>first
     | (rename_i y;cases y<;>first | exact hl | cases hl)
     | cases hl
   rw[List.mapM_cons,Sem.run_bind,e];simp only[Result.andThen_ok,Sem.run_bind,hr]
   rfl
theorem IF (vs:List Value):(if h:vs.toArray.size=1 then vs.toArray[0] else .tuple vs.toArray)=mi vs:=by
 match vs with
 | []=>rfl
 | [v]=>rfl
 | v::u::us=>simp[mi]
def Wx (P:Program) (rs:List ResultVar) (R:Ending→World→Prop):jP
 | _,.normal,ρ,w=>db P rs ρ w fun vs=>R (.returned (mi vs)) w
 | _,.ret,ρ,w=>db P rs ρ w fun vs=>R (.returned (mi vs)) w
 | _,_,_,_=>False
theorem qR {n:Nat} {P:Program} {fn:Func} {a:Act} {ρ:Rg} {w:World} {R:Ending→World→Prop} (hok:Ok n a ρ)
 (h:db P fn.results.toList ρ w fun vs=>R (.returned (mi vs)) w):∃v,(results fn a.tmps).run P w=.ok v w∧R (.returned v) w:=by
 obtain ⟨vs,hr,hk⟩:=iq hok _ _ h;refine⟨mi vs,?_,hk⟩
 have e:results fn a.tmps=(do
  let vs←fn.results.mapM (wa a.tmps)
  pure (if h:vs.size=1 then vs[0] else .tuple vs)):=by
  unfold results
  congr 1
 rw[e,←aj3 (xs:=fn.results),List.mapM_toArray,Sem.run_bind,Sem.run_map,hr];simp only[Result.andThen_ok];rw[←IF]
 rfl
theorem Fy {P:Program} {f:FuncId} {fn:Func} {c:Code} {args:List Value} {w:World} {R:Ending→World→Prop}
 (hf:P.funcs[f]? =some fn) (hb:fn.body=some c) (hc:mb fn.ntmps c=true) (hs:args.length≤fn.ntmps)
 (h:den true P fn.ntmps c (xN 0 args) w (Wx P fn.results.toList R)):Calls P f args.toArray w R:=by
 refine calls_of_wp hf hb ?_
 have hok:Ok fn.ntmps {tmps:=args.toArray++Array.replicate (fn.ntmps-args.toArray.size) undef,defers:=[]} (xN 0 args):=by
  refine⟨rfl,by simp;omega,fun t v hv=>?_⟩;obtain ⟨_,h2⟩:=B6 _ _ _ _ hv;simp only[Nat.sub_zero] at h2;rw[Array.getElem?_append_left (by simpa using (akn.1 h2).1)];simpa using h2
 refine wp_mono (eX c hc _ _ _ w _ hok h) ?_;intro e a w' ⟨ρ,hok',hq⟩
 cases e with
 | normal=>exact⟨hok'.defers,qR hok' hq⟩
 | ret=>exact⟨hok'.defers,qR hok' hq⟩
 | _=>exact hq.elim
section
variable {P:Program} {n:Nat} {ρ:Rg} {w:World} {Q:jP}
variable {K:Kr}
variable {rs:List ResultVar} {R:Ending→World→Prop}
variable {KV:List Value→Prop}
variable {KO:Value→Prop}
variable {KP:List (Nat×Value)→Prop}
variable {KM:Option Value→Prop}
def tD:List Oper→Nat→(Nat→Prop)→Prop
 | [],_,_=>False
 | o::_,0,F=>match o.dst with | some t=>F t | none=>False
 | _::r,j+1,F=>tD r j F
theorem vG:∀(l:List Oper) (j:Nat) (F:Nat→Prop),tD l j F=match (l[j]?).bind (·.dst) with | some t=>F t | none=>False
 | [],j,F=>by simp[tD]
 | o::r,0,F=>by simp[tD]
 | o::r,j+1,F=>by simp[tD,vG r j F]
@[go_sem ↓] theorem US {d:Nat} {op:Op} {t:TypeId} {p:String} {af:Array Edge} {g:Option (Nat×Bool)} {r:List Oper} {F:Nat→Prop}:tD (⟨some d,op,t,p,af,g⟩::r) 0 F=F d:=(rfl)
@[go_sem ↓] theorem Un {o:Oper} {r:List Oper} {j:Nat} {F:Nat→Prop}:tD (o::r) (j+1) F=tD r j F:=(rfl)
variable {all:List Oper} {r:List Oper} {d:Option Nat} {dn:Nat} {op:Op} {ty:TypeId} {pos:String} {af:Array Edge}
section
variable {p:Prop} [Decidable p] {A B:Bool→Prop}
end
def bM (P:Program) (op:BinOp) (t:TypeId) (x y:Operand) (u v:Value) (w:World) (K:Kv):Prop:=
 runK P (do eqGuard op t x y u v;binOp op t u v) w (K true)
variable {g:Option (Nat×Bool)} {k:Kv}
def Ck (c x y:Value) (w:World) (K:Kv):Prop:=match c with | .bool t=>K true (bif t then x else y) w | _=>False
def X4 (P:Program) (op:UnOp) (v:Value) (w:World) (K:Kv):Prop:=runK P (Op.unary op v) w (K true)
def tb (P:Program) (s t:TypeId) (v:Value) (w:World) (K:Kv):Prop:=runK P (convert s t v) w (K true)
def th (P:Program) (t:TypeId) (x i:Value) (w:World) (K:Kv):Prop:=runK P (Instr.indexAt t x i) w (K true)
def iV (P:Program) (b:Builtin) (ats:Array TypeId) (ty:TypeId) (cs:Array Bool) (args:List Value) (w:World) (K:Kv):Prop:=
 gu P (builtin b ats ty cs args.toArray) w K
@[go_sem ↓] theorem xO {b:Builtin} {xs:List Operand} {ats:Array TypeId}:oT true P ⟨d,.call {callee:=.builtin b,args:=xs.toArray,argTypes:=ats},ty,pos,af,g⟩ ρ w k=
 iu ρ xs fun args=>iV P b ats ty (xs.toArray.map fun | .const _=>true | _=>false) args w k:=rfl
variable {t:TypeId} {x y:Operand} {i j:IntKind} {a b:Int}
@[go_sem ↓] theorem Ib:bM P .add t x y (.int i a) (.int i b) w k=k true (.int i (i.wrap (a+b))) w:=by
 simp[bM,eqGuard,binOp,Op.intArith,runK_pure]
@[go_sem ↓] theorem HQ:bM P .sub t x y (.int i a) (.int i b) w k=k true (.int i (i.wrap (a-b))) w:=by
 simp[bM,eqGuard,binOp,Op.intArith,runK_pure]
@[go_sem ↓] theorem I5:bM P .mul t x y (.int i a) (.int i b) w k=k true (.int i (i.wrap (a*b))) w:=by
 simp[bM,eqGuard,binOp,Op.intArith,runK_pure]
@[go_sem ↓] theorem HI (h:b≠0):bM P .quo t x y (.int i a) (.int i b) w k=k true (.int i (i.wrap (a.tdiv b))) w:=by
 simp[bM,eqGuard,binOp,Op.intDiv,runK_pure,h]
@[go_sem ↓] theorem Gx (h:b≠0):bM P .rem t x y (.int i a) (.int i b) w k=k true (.int i (a.tmod b)) w:=by
 simp[bM,eqGuard,binOp,Op.intDiv,runK_pure,h]
@[go_sem ↓] theorem Is:bM P .lss t x y (.int i a) (.int i b) w k=k true (.bool (decide (a<b))) w:=by
 simp[bM,eqGuard,binOp,Op.intCmp,runK_pure]
@[go_sem ↓] theorem Hf:bM P .leq t x y (.int i a) (.int i b) w k=k true (.bool (decide (a≤b))) w:=by
 simp[bM,eqGuard,binOp,Op.intCmp,runK_pure]
@[go_sem ↓] theorem Ik:bM P .gtr t x y (.int i a) (.int i b) w k=k true (.bool (decide (b<a))) w:=by
 simp[bM,eqGuard,binOp,Op.intCmp,runK_pure]
@[go_sem ↓] theorem JC:bM P .geq t x y (.int i a) (.int i b) w k=k true (.bool (decide (b≤a))) w:=by
 simp[bM,eqGuard,binOp,Op.intCmp,runK_pure]
@[go_sem ↓] theorem GC:bM P .eql t x y (.int i a) (.int i b) w k=k true (.bool (decide (a=b))) w:=by
 simp[bM,eqGuard,binOp,Op.intCmp,runK_pure];rfl
@[go_sem ↓] theorem Hx:bM P .neq t x y (.int i a) (.int i b) w k=k true (.bool (!decide (a=b))) w:=by
 simp[bM,eqGuard,binOp,Op.intCmp,runK_pure];rfl
def cv (op:BinOp) (k:IntKind) (x y:Int):Int:=
 let a:=BitVec.ofInt k.bits x
 let b:=BitVec.ofInt k.bits y
 match op with
 | .and=>k.wrap (a&&&b).toNat
 | .or=>k.wrap (a ||| b).toNat
 | .xor=>k.wrap (a^^^b).toNat
 | _=>k.wrap (a&&& ~~~b).toNat
@[go_sem ↓] theorem HG:bM P .and t x y (.int i a) (.int i b) w k=k true (.int i (cv .and i a b)) w:=by
 simp[bM,eqGuard,binOp,Op.intBits,runK_pure,cv]
@[go_sem ↓] theorem MF:bM P .or t x y (.int i a) (.int i b) w k=k true (.int i (cv .or i a b)) w:=by
 simp[bM,eqGuard,binOp,Op.intBits,runK_pure,cv]
@[go_sem ↓] theorem GJ:bM P .xor t x y (.int i a) (.int i b) w k=k true (.int i (cv .xor i a b)) w:=by
 simp[bM,eqGuard,binOp,Op.intBits,runK_pure,cv]
@[go_sem ↓] theorem yh:bM P .andNot t x y (.int i a) (.int i b) w k=k true (.int i (cv .andNot i a b)) w:=by
 simp[bM,eqGuard,binOp,Op.intBits,runK_pure,cv]
theorem HN (h:0≤b):bM P .shl t x y (.int i a) (.int j b) w k=k true (.int i (i.wrap (a*2^min b.toNat i.bits))) w:=by
 have h':¬b<0:=by omega
 simp[bM,eqGuard,binOp,Op.shift,runK_pure,h']
theorem Hz (h:0≤b):bM P .shr t x y (.int i a) (.int j b) w k=k true (.int i (a/2^min b.toNat i.bits)) w:=by
 have h':¬b<0:=by omega
 have e:a.fdiv (2^min b.toNat i.bits)=a/2^min b.toNat i.bits:=by
  rw[Int.fdiv_eq_ediv_of_nonneg];exact Int.le_of_lt (Int.pow_pos (by decide))
 simp[bM,eqGuard,binOp,Op.shift,runK_pure,h',e]
@[go_sem] theorem wrap_i64 (h: -9223372036854775808≤a∧a≤9223372036854775807):IntKind.i64.wrap a=a:=by
 simp only[IntKind.wrap,IntKind.bits,IntKind.signed];simp;split<;>omega
@[go_sem] theorem wrap_u8 (h:0≤a∧a≤255):IntKind.u8.wrap a=a:=by simp[IntKind.wrap,IntKind.bits,IntKind.signed];omega
@[go_sem] theorem wrap_u32 (h:0≤a∧a≤4294967295):IntKind.u32.wrap a=a:=by simp[IntKind.wrap,IntKind.bits,IntKind.signed];omega
@[go_sem] theorem wrap_u64 (h:0≤a∧a≤18446744073709551615):IntKind.u64.wrap a=a:=by simp[IntKind.wrap,IntKind.bits,IntKind.signed];omega
@[go_sem] theorem Xk (h:0≤a):a.tdiv b=a/b:=Int.tdiv_eq_ediv_of_nonneg h
@[go_sem] theorem ZM (h:0≤a):a.tmod b=a%b:=ak5 h
section
theorem n8 {c d:Int} (hc:0≤c) (hd:0<d):0≤c/d∧c/d≤c:=⟨Int.ediv_nonneg hc (by omega),Int.ediv_le_self _ hc⟩
end
def tyK (P:Program) (t:TypeId) (F:TypeDesc→Prop):Prop:=match P.underlying t with | some d=>F d | none=>False
def ai5 (P:Program) (t:TypeId) (F:Nat→Nat→Prop):Prop:=match P.info? t with | some i=>F i.size i.bytes | none=>False
def aiP (P:Program) (t:TypeId) (F:Value→Prop):Prop:=match (P.info? t).bind (·.zero) with | some v=>F v | none=>False
end
end Go.Eng
namespace Go.Eng
set_option linter.unusedSimpArgs false
set_option linter.unusedVariables false
section
variable {P:Program} {w:World} {k:Kv} {t s e:TypeId} {i kd:IntKind} {a:Int}
theorem Na (hs:(P.underlying s).isSome=true) (ht:P.underlying t=some (.int kd)):tb P s t (.int i a) w k=k true (.int kd (kd.wrap a)) w:=by
 obtain ⟨d,hd⟩:=akO.1 hs;unfold tb runK convert;rw[Sem.run_bind,run_underlying hd,Result.andThen_ok,Sem.run_bind,run_underlying ht,Result.andThen_ok]
 rfl
theorem qs {b o len cap z:Nat} (ht:P.underlying t=some (.slice e)) (hz:(P.info? e).map (·.size)=some z) (h:0≤a∧a<len):
 th P t (.slice (some ⟨b,o,none⟩) len cap) (.int i a) w k=k true (.pointer (some ⟨b,o+a.toNat*z,none⟩)) w:=by
 unfold th runK Instr.indexAt;simp only[asIntOf,pure_bind,Sem.run_bind,run_underlying ht,Result.andThen_ok];simp only[Sem.run_bind,Sem.run,pure,Result.andThen_ok,if_pos h,run_sizeOf hz,de,j1]
theorem sk {b o n z:Nat} (ht:P.underlying t=some (.array n e)) (hz:(P.info? e).map (·.size)=some z) (h:0≤a∧a<n):
 th P t (.pointer (some ⟨b,o,none⟩)) (.int i a) w k=k true (.pointer (some ⟨b,o+a.toNat*z,none⟩)) w:=by
 unfold th runK Instr.indexAt;simp only[asIntOf,pure_bind,Sem.run_bind,run_underlying ht,Result.andThen_ok];simp only[Instr.sureAddr,Sem.run_bind,Sem.run,pure,Result.andThen_ok,if_pos h,run_sizeOf hz,de,j1]
theorem mS {d:TypeDesc} {x:Addr} (ht:P.underlying t=some d) (hd:j6 d=false):dA P t (.pointer (some x)) w k=cellK w x fun τ v=>k τ v w:=by
 simp[dA,ht,hd]
theorem uB {d:TypeDesc} {x:Addr} {n:Nat} (ht:P.underlying t=some d) (hd:j6 d=true) (hn:cS P t=some n):dA P t (.pointer (some x)) w k=kJ w x n fun τ cs=>k τ (.agg cs.toArray) w:=by
 simp[dA,ht,hd,hn]
theorem ft {x:Option Addr} {n c:Nat} {cs:Array Bool} {ty:TypeId} (ht:P.underlying t=some (.slice e)):iV P .len #[t] ty cs [.slice x n c] w k=k true (.int .i64 n) w:=by
 unfold iV gu runK builtin Builtin.len_;simp only[Sem.run_bind,akr,akR];simp only[run_underlying ht,Result.andThen_ok]
 rfl
end
def ais {X:Type} (st:X→Rg) (inv:X→World→Prop) (m:X→Nat) (x:X) (ρ:Rg) (w:World):Prop:=∃x',Sub (st x') ρ∧inv x' w∧m x'<m x
end Go.Eng
namespace Go.Eng
set_option linter.unusedSimpArgs false
set_option linter.unusedVariables false
section
variable {P:Program} {n:Nat} {ρ:Rg} {w:World} {k:Kv} {g:Option (Nat×Bool)} {d:Option Nat} {ty t e s:TypeId} {pos:String} {af:Array Edge} {x y:Operand}
def vL (P:Program) (t:TypeId) (w:World) (k:Kv):Prop:=runK P (Instr.alloc t true (.tuple #[])) w (k true)
theorem oE {C:List Value} (h:gE P t=some C):vL P t w k=k true (.pointer (some ⟨w.heap.size,0,none⟩)) (w.alloc (.cells C.toArray t)):=by
 unfold gE at h
 cases hz:(P.info? t).bind (·.zero) with
 | none=>rw[hz] at h;cases h
 | some v=>
   rw[hz] at h;simp at h;subst h;unfold vL runK Instr.alloc;rw[Sem.run_bind,iD hz,Result.andThen_ok];simp[newVar,newRow,newObj,Sem.run,pure,j1]
def Rh (P:Program) (t:TypeId) (v:Value) (w:World) (k:Kv):Prop:=runK P (Instr.box t v) w (k true)
theorem MN {v:Value}:Rh P t v w k=k true (.pointer (some ⟨w.heap.size,0,none⟩)) (w.alloc (.cells v.cells t)):=rfl
def Pf (P:Program) (t:TypeId) (ps:List (Nat×Value)) (w:World) (k:Kv):Prop:=runK P (Instr.build t ps.toArray) w (k true)
def tq (P:Program) (t:TypeId) (n:Nat) (ps:List (Nat×Value)) (w:World) (k:Kv):Prop:=runK P (Instr.buildSlice t n ps.toArray) w (k true)
def aga:Nat→List Value→List (Nat×Value)
 | _,[]=> []
 | j,v::vs=>(j,v)::aga (j+1) vs
end
end Go.Eng
namespace Go.Eng
set_option linter.unusedSimpArgs false
set_option linter.unusedVariables false
section
variable {P:Program} {n:Nat} {ρ:Rg} {w:World} {k:Kv} {g:Option (Nat×Bool)} {d:Option Nat} {ty t e s:TypeId} {pos:String} {af:Array Edge} {x y:Operand} {i:IntKind} {a b:Int}
theorem Bp {o:Obj} {m j:Nat} (hm:m<w.heap.size):(w.alloc o).frozen? ⟨m,j,none⟩=w.frozen? ⟨m,j,none⟩:=World.frozen?_alloc_old _ _ _ (Nat.ne_of_lt hm)
theorem wI {o:Obj} {m j:Nat} {v:Value} (hm:m<w.heap.size):(w.alloc o).setCell ⟨m,j,none⟩ v=(w.setCell ⟨m,j,none⟩ v).alloc o:=by
 unfold World.setCell World.alloc
 congr 1
 apply Array.ext
 · simp
 · intro q h1 h2
   simp only[Array.getElem_modify];simp at h2
   by_cases hq:q<w.heap.size
   · rw[Array.getElem_push_lt hq,Array.getElem_push_lt (by simpa using hq),Array.getElem_modify]
   · have:q=w.heap.size:=by omega
     subst this;rw[if_neg (by omega),Array.getElem_push,Array.getElem_push,dif_neg (by omega),dif_neg (by simp)]
@[go_sem ↓] theorem acQ {o:Obj} {m j:Nat} {v:Value} {K:Bool→World→Prop} (hm:m<w.heap.size):Hn (w.alloc o) ⟨m,j,none⟩ v K=Hn w ⟨m,j,none⟩ v fun τ w'=>K τ (w'.alloc o):=by
 unfold Hn;rw[World.cell?_alloc_lt _ _ _ hm,Bp hm,wI hm]
@[go_sem ↓] theorem H2 {c:Addr} {v:Value} {K:Bool→World→Prop}:Hn w.drew c v K=Hn w c v fun τ w'=>K τ w'.drew:=(rfl)
theorem uA:∀(vs:List Value) (w:World) (c:Addr) (K:Bool→World→Prop),tB w.drew c vs K=tB w c vs fun τ w'=>K τ w'.drew
 | [],_,_,_=>rfl
 | v::vs,w,c,K=>by
   simp only[tB,H2]
   congr 1
   funext _ w'
   exact uA vs w' _ K
attribute [go_sem ↓] uA
def ncK (v:Value) (w:World) (k:Kv):Prop:=match v with | .pointer (some a)=>k true (.pointer (some a)) w | .func (.func f) l c=>k true (.func (.func f) l c) w | _=>False
def LL (P:Program) (t:TypeId) (v:Value) (j:Nat) (w:World) (k:Kv):Prop:=runK P (Instr.fieldAt t v j) w (k true)
theorem CA {fs:Array Field} {f:Field} {z o b' j:Nat} (ht:P.underlying t=some (.struct fs)) (hf:fs[j]? =some f) (hz:cS P f.type=some (z+1)) (ho:f.offset=o) {c:Nat}:
 LL P t (.pointer (some ⟨b',c,none⟩)) j w k=k true (.pointer (some ⟨b',c+o,none⟩)) w:=by
 subst ho;unfold LL runK Instr.fieldAt;simp only[Sem.run_bind,run_underlying ht,Result.andThen_ok,hf,Instr.sureAddr,pure_bind,fieldPlace,run_sizeOf hz];simp[Sem.run,pure,j1,de]
def ER (P:Program) (t:TypeId) (v:Value) (j:Nat) (w:World) (k:Kv):Prop:=runK P (Instr.field t v j) w (k true)
def Hd (P:Program) (t:TypeId) (v u:Value) (w:World) (k:Kv):Prop:=runK P (Instr.index t v u) w (k true)
theorem Nf {C:List Value} {N:Nat} {f:TypeDesc} (ht:P.underlying t=some (.array N e)) (he:P.underlying e=some f) (hf:j6 f=false) (hz:cS P e=some 1) (h:0≤a∧a<N) (hC:C.length=N):
 Hd P t (.agg C.toArray) (.int i a) w k=y5 C a.toNat fun τ v=>k τ v w:=by
 unfold Hd runK Instr.index y5;simp only[asIntOf,pure_bind,Sem.run_bind,run_underlying ht,Result.andThen_ok,if_pos h,run_sizeOf hz,part,lJ he,hf,akg,if_false];simp only[ak6,akr];rw[ajm (by omega)]
 rfl
def AT (v:Value) (j:Nat) (w:World) (k:Kv):Prop:=match v with | .tuple vs=>(match vs[j]? with | some u=>k true u w | none=>False) | _=>False
theorem M7 {v:Value} {j:Nat}:runK P (Instr.extract v j) w (k true)=AT v j w k:=by
 unfold runK Instr.extract AT
 cases v with
 | tuple vs=>
   simp only
   cases h:vs[j]? <;>simp[Sem.run,pure,j1,stuck]
 | _=>simp[Sem.run,stuck,j1]
@[go_sem ↓] theorem xa {j:Nat}:oT true P ⟨d,.extract x j,ty,pos,af,g⟩ ρ w k=dw ρ x fun v=>AT v j w k:=by
 show(dw ρ x fun t=>runK P (Instr.extract t j) w (k true))=_
 simp only[M7]
@[go_sem ↓] theorem Md {vs:List Value} {j:Nat}:AT (.tuple vs.toArray) j w k=y5 vs j fun τ v=>k τ v w:=by
 unfold AT y5;simp only[akr]
 all_goals (cases vs[j]? <;>rfl)
def kI (P:Program) (t:TypeId) (v:Value) (lo hi mx:Option Value) (w:World) (k:Kv):Prop:=runK P (Instr.sliceAt t v lo hi mx) w (k true)
theorem HW {u:Option Addr} {len cap z:Nat} {lo hi mx:Option Value} (ht:P.underlying t=some (.slice e)) (hz:cS P e=some z) {l h m:Nat} (hr:∀w,(Instr.sliceBounds true len cap lo hi mx).run P w=.ok (l,h,m) w):
 kI P t (.slice u len cap) lo hi mx w k=k true (.slice (if m=l then u else u.map (·.add (l*z))) (h-l) (m-l)) w:=by
 unfold kI runK Instr.sliceAt Instr.slice;simp only[Sem.run_bind,run_underlying ht,Result.andThen_ok,hr,run_sizeOf hz]
 rfl
theorem run_sliceBound {v:Int} {m:Nat} {c:BoundsCode} (h:0≤v∧v≤m) (w:World):(Instr.sliceBound (.int i v) m c).run P w=.ok v.toNat w:=by
 unfold Instr.sliceBound;simp only[asIntOf,pure_bind,if_pos h]
 rfl
def behind (u:Option Addr) (l m z:Nat):Option Addr:=if m=l then u else u.map (·.add (l*z))
def ai6 (fn:Fn) (first captured:List Value) (w:World) (k:Kv):Prop:=k true (.func fn first.toArray captured.toArray) w
def aiU (P:Program) (f:Value) (args:List Value) (w:World) (k:Kv):Prop:=match f with | .func (.func g) first captured=>mf P g (first++args.toArray++captured) w k | _=>False
def Ak (P:Program) (f:FuncId) (args:List Value) (w:World) (k:Kv):Prop:=mf P f args.toArray w k
def vC (P:Program) (f:FuncId) (args:List Value) (w:World) (R:Value→World→Prop):Prop:=Calls P f args.toArray w fun e w'=>∃v,e=.returned v∧R v w'
theorem vC.mono {f:FuncId} {args:List Value} {R R':Value→World→Prop} (h:vC P f args w R) (hr:∀v w',R v w'→R' v w'):vC P f args w R':=
 Calls.mono h fun _ _ ⟨v,he,hv⟩=>⟨v,he,hr _ _ hv⟩
theorem M4 {f:FuncId} {args:List Value} {R:Value→World→Prop} (hc:∀(args:Array Value) (w:World),(callFunc f args).run P w=.ok (.enter f args) w) (h:vC P f args w R) (hk:∀v w',R v w'→k true v w'):Ak P f args w k:=by
 unfold Ak mf runK;rw[hc];exact Calls.mono h fun _ _ ⟨v,he,hv⟩=>⟨v,he,hk _ _ hv⟩
def XS (P:Program) (rs:List ResultVar) (R:Value→World→Prop):jP
 | _,.normal,ρ,w=>db P rs ρ w fun vs=>R (mi vs) w
 | _,.ret,ρ,w=>db P rs ρ w fun vs=>R (mi vs) w
 | _,_,_,_=>False
theorem zR {v:Value} {K K':Kv} (h:∀u,K true u w→K' true u w) (hk:dA P t v w K):dA P t v w K':=by
 cases v with
 | pointer q=>
   cases q with
   | none=>exact hk
   | some q=>
     unfold dA at*
     simp only at*
     cases hu:P.underlying t with
     | none=>rw[hu] at hk;exact hk
     | some dd=>
       rw[hu] at hk;simp only at*
       cases hg:j6 dd with
       | true=>
         rw[hg] at hk;simp only[cond_true] at*
         cases hs:cS P t with
         | none=>rw[hs] at hk;exact hk
         | some z=>
           rw[hs] at hk;unfold kJ at*
           cases hsp:q.spot with
           | some _=>rw[hsp] at hk;exact hk
           | none=>
             rw[hsp] at hk;simp only at*
             cases hr:jX w q.block q.off z with
             | none=>rw[hr] at hk;exact hk
             | some cs=>rw[hr] at hk;exact h _ hk
       | false=>
         rw[hg] at hk;simp only[cond_false] at*
         unfold cellK at*
         cases hc:w.cell? q with
         | none=>rw[hc] at hk;exact hk
         | some u=>rw[hc] at hk;exact h _ hk
 | _=>exact hk
theorem C5 {K K':Value→Prop} {m:Nat} (h:∀u,K u→K' u) (hk:lk ρ m K):lk ρ m K':=by
 unfold lk at*
 cases hf:fd ρ m with
 | none=>rw[hf] at hk;exact hk
 | some v=>rw[hf] at hk;exact h _ hk
theorem fV:∀{rs:List ResultVar} {K K':List Value→Prop},(∀vs,K vs→K' vs)→db P rs ρ w K→db P rs ρ w K'
 | [],_,_,h,hk=>h _ hk
 | .tmp t::r,K,K',h,hk=>C5 (fun u hu=>fV (fun vs=>h (u::vs)) hu) hk
 | .cell t ty::r,K,K',h,hk=>C5 (fun p hp=>zR (fun u hu=>fV (fun vs=>h (u::vs)) hu) hp) hk
theorem GR {f:FuncId} {fn:Func} {c:Code} {args:List Value} {R:Value→World→Prop}
 (hf:P.funcs[f]? =some fn) (hb:fn.body=some c) (hc:mb fn.ntmps c=true) (hs:Nat.ble args.length fn.ntmps=true) (rs:List ResultVar) (hr:fn.results.toList=rs)
 (h:den true P fn.ntmps c (xN 0 args) w (XS P rs R)):vC P f args w R:=by
 subst hr;refine Fy hf hb hc (al7 hs) ?_
 have e:XS P fn.results.toList R=Wx P fn.results.toList fun e w'=>∃v,e=.returned v∧R v w':=by
  funext τ x ρ w
  cases x<;>first
   | rfl
   | exact propext ⟨fV fun vs hv=>⟨_,rfl,hv⟩,fV fun vs ⟨v,he,hv⟩=>by cases he;exact hv⟩
 rw[←e];exact h
end
end Go.Eng
namespace Go.Eng
set_option linter.unusedSimpArgs false
set_option linter.unusedVariables false
def tF:Value→List Nat
 | .slice (some a) _ _=> [a.block]
 | _=> []
def iJ (w:World) (v:Value) (n z:Nat) (cs:List Value):Prop:=
 cs.length=n*z∧((v=.slice none 0 0∧n=0)∨∃b C cap,v=.slice (some ⟨b,0,none⟩) n cap∧iM w b C∧cap*z≤C.length∧n≤cap∧C.take (n*z)=cs)
theorem iJ.ext {M:List Nat} {w w':World} {v:Value} {n z:Nat} {cs:List Value} (h:iJ w v n z cs) (he:Ext M w w') (hb:∀b∈tF v,b ∉ M):iJ w' v n z cs:=by
 obtain ⟨h1,h2⟩:=h;refine⟨h1,?_⟩;rcases h2 with h2 | ⟨b,C,cap,rfl,hB,h3,h4,h5⟩
 · exact .inl h2
 · exact .inr ⟨b,C,cap,rfl,hB.ext he (hb b (by simp[tF])),h3,h4,h5⟩
theorem iJ.ext' {w w':World} {v:Value} {n z:Nat} {cs:List Value} (h:iJ w v n z cs) (he:Ext [] w w'):iJ w' v n z cs:=h.ext he (fun _ _=>by simp)
theorem iJ.lt {w:World} {v:Value} {n z:Nat} {cs:List Value} (h:iJ w v n z cs):∀b∈tF v,b<w.heap.size:=by
 obtain ⟨_,h2⟩:=h;rcases h2 with⟨rfl,_⟩ | ⟨b,C,cap,rfl,hB,_⟩
 · intro b hb;simp[tF] at hb
 · intro b' hb;simp[tF] at hb;subst hb;exact hB.lt
theorem iJ.nil (w:World) (z:Nat):iJ w (.slice none 0 0) 0 z []:=⟨by simp,.inl ⟨rfl,rfl⟩⟩
theorem iJ.row {w:World} {v:Value} {n z:Nat} {cs:List Value} (h:iJ w v n z cs):∃a cap,v=.slice a n cap∧n≤cap∧Row w a cs∧(∀b,ab a=b→cs≠ []→b∈tF v):=by
 obtain ⟨h1,h2⟩:=h;rcases h2 with⟨rfl,rfl⟩ | ⟨b,C,cap,rfl,hB,h3,h4,h5⟩
 · refine⟨none,0,rfl,ajp _,?_,?_⟩
   · have:cs=[]:=ajB.1 (by simpa using h1)
     subst this;exact Row.nil _ _
   · intro b _ hne
     exact absurd (ajB.1 (by simpa using h1)) hne
 · refine⟨_,_,rfl,h4,Row.of_blk hB (fun i hi=>?_),fun b' hb _=>?_⟩
   · rw[ajU]
     subst h5;simp at hi ⊢
   · simp[tF];exact hb.symm
theorem tP (need:Nat):∀(r c:Nat),256≤need→c<need→Builtin.growBy need r c≤2*need
 | 0,c,_,h=>by simp[Builtin.growBy];omega
 | r+1,c,h0,h=>by
   simp only[Builtin.growBy];rw[if_neg (by omega)]
   by_cases h1:c+(c+768)/4<need
   · exact tP need r _ h0 h1
   · cases r with
     | zero=>simp only[Builtin.growBy];omega
     | succ r=>simp only[Builtin.growBy];rw[if_pos (by omega)];omega
theorem BK {need cap:Nat} (h:cap<need):Builtin.nextslicecap need cap≤2*need:=by
 unfold Builtin.nextslicecap
 split
 · omega
 · split
   · omega
   · exact tP need 4 cap (by omega) h
theorem du {P:Program} {w:World} {a:Option Addr} {cs:List Value} {n z len cap:Nat} (h:Row w a cs) (hl:cs.length=n*z) (hn:a=none→n*z=0):(Builtin.firstCells z n (.slice a len cap)).run P w=.ok cs.toArray w:=by
 cases a with
 | none=>
   have:cs=[]:=ajB.1 (by rw[hl];exact hn rfl)
   subst this
   rfl
 | some x=>
   simp only[Builtin.firstCells]
   by_cases h0:0<cs.length
   · have hx:x=⟨ab (some x),ao (some x),none⟩:=Option.some.inj (h.1 h0)
     have:=run_loadCells (P:=P) (b:=ab (some x)) (o:=ao (some x)) (fun i hi=>h.2 i hi)
     rw[←hx,hl] at this;exact this
   · have:cs=[]:=ajB.1 (by omega)
     subst this;have hz:n*z=0:=by simpa using hl.symm
     rw[hz]
     rfl
section
variable {P:Program} {w:World} {k:Kv} {t e tx e' ty:TypeId} {cst:Array Bool}
theorem fx {v x u:Value} {w':World} (h:(Builtin.append_ #[t,tx] ty #[v,x]).run P w=.ok u w'):iV P .append #[t,tx] ty cst [v,x] w k=k true u w':=by
 unfold iV gu runK builtin;simp only[Sem.run_bind,h,Result.andThen_ok]
 rfl
theorem run_append_room {a ax:Option Addr} {n m z cap capx b:Nat} {xs C:List Value} (ht:P.underlying t=some (.slice e)) (htx:P.underlying tx=some (.slice e')) (hz:cS P e=some z)
 (hx:Row w ax xs) (hxl:xs.length=m*z) (hmz:ax=none→m*z=0) (ho:∀v∈xs,bF v=true) (hfit:n+m≤cap) (ha:a=some ⟨b,0,none⟩) (hB:iM w b C) (hC:cap*z≤C.length):
 (Builtin.append_ #[t,tx] ty #[.slice a n cap,.slice ax m capx]).run P w=.ok (.slice a (n+m) cap) (if xs=[] then w else eB w b (dv C (n*z) xs)):=by
 subst ha
 have hle:0+n*z+xs.length≤C.length:=by
  rw[hxl,ajU,←ajG];exact ajD (ajP z hfit) hC
 have hst:=il (P:=P) xs w b (0+n*z) 0 C ho hB (by simpa using hle);simp only[ajU,aky] at hst;unfold Builtin.append_;simp only[akr,akR,ald,Sem.run_bind,run_underlying ht,Result.andThen_ok,run_sizeOf hz,run_underlying htx,Builtin.lenOf,pure_bind,akg,if_false];rw[if_pos hfit];simp only[aly,if_true,Sem.run_bind,du hx hxl hmz,Result.andThen_ok,de,ajU,hst]
 rfl
theorem ky {a ax:Option Addr} {n m z y cap capx:Nat} {cs xs Z:List Value} (ht:P.underlying t=some (.slice e)) (htx:P.underlying tx=some (.slice e')) (hz:cS P e=some z) (hy:tC P e=some y) (hy0:0<y) (hze:gE P e=some Z) (hZ:Z.length=z)
 (hrow:Row w a cs) (hl:cs.length=n*z) (hnz:a=none→n*z=0) (hx:Row w ax xs) (hxl:xs.length=m*z) (hmz:ax=none→m*z=0) (hfit:¬n+m≤cap) (hb:(n+m)*2*y≤2^48):
 ∃newCap rest,n+m≤newCap∧(rest:List Value).length=(newCap-(n+m))*z∧(Builtin.append_ #[t,tx] ty #[.slice a n cap,.slice ax m capx]).run P w=.ok (.slice (some ⟨w.heap.size,0,none⟩) (n+m) newCap) (w.drew.alloc (.cells (cs++xs++rest).toArray e)):=by
 obtain ⟨ti,hti,hby⟩:∃ti,P.info? e=some ti∧ti.bytes=y:=by
  unfold tC at hy
  cases hi:P.info? e with
  | none=>rw[hi] at hy;cases hy
  | some ti=>rw[hi] at hy;exact⟨ti,rfl,by simpa using hy⟩
 obtain ⟨zv,hzv,hzc⟩:∃zv,(P.info? e).bind (·.zero)=some zv∧zv.cells.toList=Z:=by
  unfold gE at hze
  cases hzz:(P.info? e).bind (·.zero) with
  | none=>rw[hzz] at hze;cases hze
  | some zv=>rw[hzz] at hze;exact⟨zv,rfl,by simpa using hze⟩
 have hsmall:¬(Builtin.nextslicecap (n+m) cap*y>2^48):=by
  have:=ajP y (BK (need:=n+m) (cap:=cap) (by omega))
  rw[ajJ 2 (n+m)] at this;omega
 have hroomrun:∀(c:Nat) (w:World),(askRoom c).run P w=.ok () w:=fun c w=>by
  unfold askRoom
  split<;>rfl
 have hch:∀w:World,∃nc,n+m≤nc∧(choose (.appendCap (n+m) cap e)).run P w=.ok nc w.drew:=fun w=>
  ⟨_,akB _ _,rfl⟩
 obtain ⟨nc,hnc,hrunc⟩:=hch w;refine⟨nc,(Builtin.zeroCells zv.cells (nc-(n+m))).toList,hnc,?_,?_⟩
 · simp[Builtin.zeroCells]
   rw[←hZ,←hzc]
   simp
 · unfold Builtin.append_
   simp only[akr,akR,ald,Sem.run_bind,run_underlying ht,Result.andThen_ok,run_sizeOf hz,run_underlying htx,Builtin.lenOf,pure_bind,akg,if_false];rw[if_neg hfit];simp only[Sem.run_bind,run_typeInfo hti,Result.andThen_ok];rw[hby,if_neg (by rintro ⟨_,h | h⟩<;>first | exact h | omega)]
   simp only[Sem.run_bind,run_typeInfo hti,Result.andThen_ok,pure_bind];rw[hby,if_neg hsmall];simp only[Sem.run_bind,hrunc,run_typeInfo hti,Result.andThen_ok,hroomrun,aly,if_true];rw[du (w:=w.drew) (len:=n) (cap:=cap) hrow hl hnz,Result.andThen_ok,du (w:=w.drew) (len:=m) (cap:=capx) hx hxl hmz,Result.andThen_ok,iD hzv];simp only[Result.andThen_ok,newRow,newObj,Sem.run_bind];simp only[Sem.run,Sem.bind,pure,Result.andThen_ok]
   congr 2
   congr 2
   simp
theorem iJ.parts {v:Value} {n z:Nat} {cs:List Value} (h:iJ w v n z cs):∃a cap,v=.slice a n cap∧Row w a cs∧(n≤cap)∧((a=none∧cap=0)∨∃b C,a=some ⟨b,0,none⟩∧iM w b C∧cap*z≤C.length∧C.take (n*z)=cs):=by
 obtain ⟨hl,hcase⟩:=h;rcases hcase with⟨rfl,rfl⟩ | ⟨b,C,cap,rfl,hB,h3,h4,h5⟩
 · have:cs=[]:=ajB.1 (by simpa using hl)
   subst this;exact⟨none,0,rfl,Row.nil _ _,by omega,.inl ⟨rfl,rfl⟩⟩
 · refine⟨_,cap,rfl,Row.of_blk hB (fun i hi=>?_),h4,.inr ⟨b,C,rfl,hB,h3,h5⟩⟩
   rw[ajU];subst h5;simp at hi ⊢
theorem rZ {v:Value} {n z m y capx:Nat} {cs xs Z:List Value} {ax:Option Addr} (ht:P.underlying t=some (.slice e)) (htx:P.underlying tx=some (.slice e')) (hz:cS P e=some z) (hy:tC P e=some y) (hy0:0<y) (hze:gE P e=some Z) (hZ:Z.length=z)
 (hv:iJ w v n z cs) (hx:Row w ax xs) (hxl:xs.length=m*z) (ho:∀v∈xs,bF v=true) (hb:(n+m)*2*y≤2^48)
 (hk:∀v' w',iJ w' v' (n+m) z (cs++xs)→Ext (tF v) w w'→(∀b∈tF v',b∈tF v∨w.heap.size≤b)→k true v' w'):
 iV P .append #[t,tx] ty cst [v,.slice ax m capx] w k:=by
 have hmz:ax=none→m*z=0:=fun h=>by
  subst h;rcases ajW xs.length with h0 | h0
  · omega
  · have:=hx.1 h0;cases this
 have hl:=hv.1;obtain ⟨a,cap,rfl,hrow,hncap,hroom⟩:=hv.parts
 have hnz:a=none→n*z=0:=fun h=>by
  rcases hroom with⟨_,h0⟩ | ⟨b,C,h1,_⟩
  · have:n=0:=by omega
    simp[this]
  · rw[h] at h1;cases h1
 by_cases hfit:n+m≤cap
 · rcases hroom with⟨rfl,h0⟩ | ⟨b,C,ha,hB,hC,htake⟩
   · have hm0:m=0:=by omega
     have hn0:n=0:=by omega
     subst hm0 hn0;have hxs:xs=[]:=ajB.1 (by simpa using hxl);have hcs:cs=[]:=ajB.1 (by simpa using hl);subst hxs hcs h0
     have hrun:(Builtin.append_ #[t,tx] ty #[.slice none 0 0,.slice ax 0 capx]).run P w=.ok (.slice none 0 0) w:=by
      unfold Builtin.append_;simp only[akr,akR,ald,Sem.run_bind,run_underlying ht,Result.andThen_ok,run_sizeOf hz,run_underlying htx,Builtin.lenOf,pure_bind,akg,if_false];rw[if_pos (by omega)];simp only[aly,if_true,Sem.run_bind];rw[du (n:=0) hx (by simp) (by simp)]
      rfl
     rw[fx hrun];exact hk _ _ (iJ.nil w z) (Ext.refl _ _) (fun b hb=>by simp[tF] at hb)
   · rw[fx (run_append_room ht htx hz hx hxl hmz ho hfit ha hB hC)]
     subst ha
     have hle:n*z+xs.length≤C.length:=by
      rw[hxl,←ajG];exact ajD (ajP z hfit) hC
     have hC':n*z≤C.length:=ajD (ajP z hncap) hC;refine hk _ _ ⟨by simp[hl,hxl,ajG],.inr ⟨b,if xs=[] then C else dv C (n*z) xs,cap,rfl,?_,?_,hfit,?_⟩⟩ ?_ (fun b' hb'=>.inl hb')
     · by_cases hxe:xs=[]
       · simp only[if_pos hxe];exact hB
       · simp only[if_neg hxe];exact fR hB
     · split
       · exact hC
       · rw[gl];exact hC
     · apply List.ext_getElem?
       intro j;rw[ajG,←hl,←hxl,aj7]
       by_cases hj:j<cs.length+xs.length
       · rw[if_pos hj]
         have hcsj:∀j,j<cs.length→C[j]? =cs[j]? :=fun j hj=>by
          have h9:=congrArg (·[j]?) htake;simp only[aj7] at h9;rw[if_pos (by omega)] at h9;exact h9
         by_cases hxe:xs=[]
         · subst hxe
           simp at hj ⊢;exact hcsj j hj
         · rw[if_neg hxe,jb xs C _ j (by omega)]
           by_cases hj2:j<cs.length
           · rw[if_neg (by omega),hcsj j hj2,ajw hj2]
           · rw[if_pos (by omega),ajx (by omega)]
       · rw[if_neg hj,akP (by simp;omega)]
     · by_cases hxe:xs=[]
       · rw[if_pos hxe];exact Ext.refl _ _
       · rw[if_neg hxe];exact jr _ _ _
 · obtain ⟨nc,rest,h1,h2,h3⟩:=ky (ty:=ty) (capx:=capx) ht htx hz hy hy0 hze hZ hrow hl hnz hx hxl hmz hfit hb
   rw[fx h3];refine hk _ _ ⟨by simp[hl,hxl,ajG],.inr ⟨_,_,nc,rfl,iM.new w.drew _ _,?_,h1,?_⟩⟩ ((Ext.refl _ _).drew.alloc _) (fun b hb=>.inr (by simp[tF] at hb;omega))
   · have:nc=(n+m)+(nc-(n+m)):=by omega
     rw[ajj,ajj,hl,hxl,h2,←ajG,←ajG,←this];exact ajp _
   · rw[ajG,←hl,←hxl,←ajj]
     exact List.take_left
theorem vS {a:Option Addr} {n z m y cap capx:Nat} {cs xs Z:List Value} {ax:Option Addr} (ht:P.underlying t=some (.slice e)) (htx:P.underlying tx=some (.slice e')) (hz:cS P e=some z) (hy:tC P e=some y) (hy0:0<y) (hze:gE P e=some Z) (hZ:Z.length=z)
 (hrow:Row w a cs) (hl:cs.length=n*z) (hx:Row w ax xs) (hxl:xs.length=m*z) (ho:∀v∈xs,bF v=true) (hfit:¬n+m≤cap) (hb:(n+m)*2*y≤2^48)
 (hk:∀v' w',iJ w' v' (n+m) z (cs++xs)→Ext [] w w'→(∀b∈tF v',w.heap.size≤b)→k true v' w'):
 iV P .append #[t,tx] ty cst [.slice a n cap,.slice ax m capx] w k:=by
 have hmz:ax=none→m*z=0:=fun h=>by
  subst h;rcases ajW xs.length with h0 | h0
  · omega
  · have:=hx.1 h0;cases this
 have hnz:a=none→n*z=0:=fun h=>by
  subst h;rcases ajW cs.length with h0 | h0
  · omega
  · have:=hrow.1 h0;cases this
 obtain ⟨nc,rest,h1,h2,h3⟩:=ky (ty:=ty) (capx:=capx) ht htx hz hy hy0 hze hZ hrow hl hnz hx hxl hmz hfit hb;rw[fx h3];refine hk _ _ ⟨by simp[hl,hxl,ajG],.inr ⟨_,_,nc,rfl,iM.new w.drew _ _,?_,h1,?_⟩⟩ ((Ext.refl _ _).drew.alloc _) (fun b hb=>by simp[tF] at hb;omega)
 · have:nc=(n+m)+(nc-(n+m)):=by omega
   rw[ajj,ajj,hl,hxl,h2,←ajG,←ajG,←this];exact ajp _
 · rw[ajG,←hl,←hxl,←ajj]
   exact List.take_left
end
end Go.Eng
