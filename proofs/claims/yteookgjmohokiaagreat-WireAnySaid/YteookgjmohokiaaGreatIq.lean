import Derived.Test.YteookgjmohokiaaGreatIp
namespace Go.Proofs.YteookgjmohokiaaGreat
open Go.Eng Go.Vx
set_option linter.unusedSimpArgs false
set_option linter.unusedVariables false
set_option maxRecDepth 100000
def refW (l : List Nat) : Prop := Fn1 Tryz.prog 17 [.row 1 ((nl l).map (ie .u8))] [] (.tup [itN 0, .lit (.int .i64 13)]) []
def encOK (x : V) (E : List Nat) : Prop := E.length ≤ 1200 ∧ Fn1 Tryz.prog 12 [x] [] (.tup [.sl 0 1 0 E.length, .lit (.int .i64 0)]) [some (.row 1 ((nl E).map (ie .u8)))]
theorem encOK_of {x : V} {L : List Bool} (hL : L.length ≤ 9000) (en : Fn1 Tryz.prog 12 [x] [] (.tup [.sl 0 1 0 ((pkb L).length + 4), .lit (.int .i64 0)]) [some (.row 1 ((nl (sealN (pkb L))).map (ie .u8)))]) : encOK x (sealN (pkb L)) := by
  refine ⟨by rw [sealN_len, pkb_len]; omega, ?_⟩
  rw [sealN_len]
  exact en
theorem encOK.row {x : V} {E : List Nat} (h : encOK x E) : Fn1 Tryz.prog 12 [x] [] (.tup [.row 1 ((nl E).map (ie .u8)), .lit (.int .i64 0)]) [] := by
  have en := h.2
  have hEl := nl_len E
  generalize nl E = N at *
  exact tellW [] (en)
theorem encOK_R {k a b : Nat} {s : SR} (h : goodN k a b) (w : wellN k a b s) : encOK (itR k a b s) (sealN (pkb (hdB 1 ++ gms [k, a, b] ++ rgB k a b s))) := by
  refine encOK_of ?_ (encR_fn h w)
  have hN : ∀ x ∈ ([k, a, b] : List Nat), x ≤ 1048576 := by
    intro x hx
    simp only [List.mem_cons, List.not_mem_nil, or_false] at hx
    rcases h with h | h | h | h <;> omega
  have hgl := gms_len hN
  have hhl := hdB_len 1
  have hwl := w_le h
  have hrl := rgB_len k a b s
  have hN3 : ([k, a, b] : List Nat).length = 3 := rfl
  rw [List.length_append, List.length_append]
  omega
theorem encOK_A {k a b n : Nat} {l : List SR} (h : goodN k a b) (hn : n ≤ 256) (hM : l.length = n) : encOK (itAP k a b n l) (sealN (pkb (hdB 2 ++ gms [k, a, b, n] ++ wbits (wd k a b) (l.map (nuO k a b))))) := by
  refine encOK_of ?_ (encA_fn h hn hM)
  have hN : ∀ x ∈ ([k, a, b, n] : List Nat), x ≤ 1048576 := by
    intro x hx
    simp only [List.mem_cons, List.not_mem_nil, or_false] at hx
    rcases h with h | h | h | h <;> omega
  have hgl := gms_len hN
  have hhl := hdB_len 2
  have hrl := wbits_len (wd k a b) (l.map (nuO k a b))
  rw [List.length_map] at hrl
  have hwd := wd_ok h
  have hnw : l.length * wd k a b ≤ 256 * 16 := Nat.mul_le_mul (by omega) hwd.2
  have hN3 : ([k, a, b, n] : List Nat).length = 4 := rfl
  rw [List.length_append, List.length_append]
  omega
theorem encOK_S {M D S : Nat} {st : SS} (hM : M ≤ 16) (hD : D ≤ 4) (hS : S ≤ 8) (hX : st.1.length ≤ 256) (hc : ∀ c ∈ st.1, c.1 < 2 ^ M ∧ c.2 < 2 ^ D) (hs : 1 ≤ st.2.1 ∧ st.2.1 ≤ 8) : encOK (itSP M D S st) (sealN (pkb (hdB 3 ++ gms [M, D, S, st.1.length] ++ sacB M D st))) := by
  refine encOK_of ?_ (encS_fn hM hD hS hX hc hs)
  have hN : ∀ x ∈ ([M, D, S, st.1.length] : List Nat), x ≤ 1048576 := by
    intro x hx
    simp only [List.mem_cons, List.not_mem_nil, or_false] at hx
    omega
  have hgl := gms_len hN
  have hhl := hdB_len 3
  have hrl := sacB_len M D st
  have hnw : st.1.length * (M + D) ≤ 256 * 20 := Nat.mul_le_mul hX (by omega)
  have hN3 : ([M, D, S, st.1.length] : List Nat).length = 4 := rfl
  rw [List.length_append, List.length_append]
  omega
theorem encOK_C {R C k a b T : Nat} {l : List RW} (h : goodN k a b) (hC : 1 ≤ C ∧ C ≤ 64) (hR : R ≤ 4) (hl1 : l.length ≤ 4) (hl : ∀ r ∈ l, okRow k a b C r) (hT : T ≤ 1099511627776) : encOK (itCP R C k a b l T) (sealN (pkb (hdB 4 ++ gms [R, C, k, a, b] ++ cmB k a b l T))) := by
  refine encOK_of ?_ (encC_fn h hC hR hl1 hl hT)
  have hN : ∀ x ∈ ([R, C, k, a, b] : List Nat), x ≤ 1048576 := by
    intro x hx
    simp only [List.mem_cons, List.not_mem_nil, or_false] at hx
    rcases h with h | h | h | h <;> omega
  have hgl := gms_len hN
  have hhl := hdB_len 4
  have hrl : (cmB k a b l T).length = (varB T).length + l.length * (122 + C * wd k a b) := by unfold cmB; rw [List.length_append, rwsB_len hl]
  have hvl := varB_mid hT
  have hwd := wd_ok h
  have hnw : l.length * (122 + C * wd k a b) ≤ 4 * (122 + 64 * 16) := Nat.mul_le_mul hl1 (Nat.add_le_add_left (Nat.mul_le_mul hC.2 hwd.2) _)
  have hN3 : ([R, C, k, a, b] : List Nat).length = 5 := rfl
  rw [List.length_append, List.length_append]
  omega
theorem encOK_M {K P C T : Nat} {X : List (Nat × Nat)} (hK : K ≤ 8) (hP : P ≤ 8) (hC : C ≤ 16) (hX : X.length ≤ 16) (hk : ∀ x ∈ X, x.1 < 2305843009213693951 ∧ x.2 ≤ 1048576) (h1 : T = 0 ∨ ∀ x ∈ X, 1 ≤ x.2) (hT : T ≤ 1048576) : encOK (itMP K P C X T) (sealN (pkb (hdB 5 ++ gms [K, P, C] ++ amsB X T))) := by
  refine encOK_of ?_ (encM_fn hK hP hC hX hk h1 hT)
  have hN : ∀ x ∈ ([K, P, C] : List Nat), x ≤ 1048576 := by
    intro x hx
    simp only [List.mem_cons, List.not_mem_nil, or_false] at hx
    omega
  have hgl := gms_len hN
  have hhl := hdB_len 5
  have hrl : (amsB X T).length ≤ 24 + 16 * 102 := by
    have hv := varB_short hT
    unfold amsB
    rw [List.length_append]
    split
    · rw [List.length_nil]; omega
    · rename_i h0
      have := smB_len (X := X) fun x hx => ⟨(h1.resolve_left h0) x hx, (hk x hx).2⟩
      have h2 : X.length * 102 ≤ 16 * 102 := Nat.mul_le_mul_right _ hX
      omega
  have hN3 : ([K, P, C] : List Nat).length = 3 := rfl
  rw [List.length_append, List.length_append]
  omega
def okW (l : List Nat) : Prop := l.length ≤ 4096 ∧ ∃ c0 c1 c2 c3 c4 c5 c6 c7 c8 c9 c10 : V, pln.plnL [c0, c1, c2, c3, c4, c5, c6, c7, c8, c9, c10] = true ∧
  Fn1 Tryz.prog 17 [.row 1 ((nl l).map (ie .u8))] [] (.tup [.agg [c0, c1, c2, c3, c4, c5, c6, c7, c8, c9, c10], .lit (.int .i64 0)]) [] ∧
  Fn1 Tryz.prog 18 [.agg [c0, c1, c2, c3, c4, c5, c6, c7, c8, c9, c10]] [] (.lit (.int .i64 0)) [] ∧
  Fn1 Tryz.prog 12 [.agg [c0, c1, c2, c3, c4, c5, c6, c7, c8, c9, c10]] [] (.tup [.row 1 ((nl l).map (ie .u8)), .lit (.int .i64 0)]) []

theorem anyReg {l : List Nat} (hl : ∀ x ∈ l, x < 256) (h4 : 4 ≤ l.length) (hm : l.length ≤ 4096) (hs : sealN (l.take (l.length - 4)) = l) (h0 : 4 < l.length) (hv : numOf ((bitsOf (nl (inb l))).take 4) = 1) (ht : numOf (((bitsOf (nl (inb l))).drop 4).take 3) = 1) : refW l ∨ okW l := by
  have hI : IsB (nl (inb l)) := IsB_nl fun x hx => hl x (List.mem_of_mem_take hx)
  have hlb : (nl (inb l)).length = l.length - 4 := by rw [nl_len]; unfold inb; simp
  have hbl := bitsOf_len (nl (inb l))
  obtain ⟨⟨⟨K, A, Z⟩, p1, e1⟩, h1⟩ : ∃ v, prX (bitsOf (nl (inb l))) 7 0 = v := ⟨_, rfl⟩
  have l1 := prX_le (L := bitsOf (nl (inb l))) (p := 7) (e := 0) (by omega)
  rw [h1] at l1
  dsimp only at l1
  by_cases hg : goodI K A Z
  · obtain ⟨k, a, b, rfl, rfl, rfl, hg⟩ := hg
    have hr := rRead_fn (p := p1) hg hI (by omega) (by omega)
    have l2 := rrX_le (L := bitsOf (nl (inb l))) (k := k) (a := a) (b := b) l1
    have er := rrX_err (L := bitsOf (nl (inb l))) (k := k) (a := a) (b := b) (p := p1)
    obtain ⟨⟨o, q, er'⟩, h2⟩ : ∃ v, rrX (bitsOf (nl (inb l))) k a b p1 = v := ⟨_, rfl⟩
    rw [h2] at hr l2 er
    dsimp only at hr l2 er
    cases o with
    | none =>
      have he := er.1 rfl
      have hb := bodyReg_fn hI (by omega) (by omega) h1 hr
      exact .inl (dec_errR hl h4 hm hs h0 hv ht (by split <;> assumption) hb)
    | some s =>
      obtain ⟨rfl, hw⟩ := er.2 s rfl
      have hb := bodyReg_fn hI (by omega) (by omega) h1 hr
      by_cases he1 : e1 = 0
      · rw [if_pos he1] at hb
        by_cases hc : closeX (bitsOf (nl (inb l))) q = 0
        · have en := encOK_R hg hw
          generalize sealN _ = E at en
          by_cases hne : nl E = nl l
          · obtain rfl := nl_inj.1 hne
            have hd := decR_ok hl h4 hm hs h0 hv ht hg hw (by omega) hc hb en.2 rfl (by have := en.1; omega) rfl
            exact .inr ⟨hm, _, _, _, _, _, _, _, _, _, _, _, rfl, hd, ckReg_fn hg hw, en.row⟩
          · exact .inl (decR_other hl h4 hm hs h0 hv ht hg hw (by omega) hc hb en.2 rfl (by have := en.1; omega) hne)
        · exact .inl (decR_close hl h4 hm hs h0 hv ht hg hw (by omega) hc hb)
      · rw [if_neg he1] at hb
        exact .inl (dec_errR hl h4 hm hs h0 hv ht he1 hb)
  · have hr := rReadE_fn (p := p1) (B := nl (inb l)) hg
    have hb := bodyReg_fn hI (by omega) (by omega) h1 hr
    exact .inl (dec_errR hl h4 hm hs h0 hv ht (by split; decide; assumption) hb)

theorem anyArr {l : List Nat} (hl : ∀ x ∈ l, x < 256) (h4 : 4 ≤ l.length) (hm : l.length ≤ 4096) (hs : sealN (l.take (l.length - 4)) = l) (h0 : 4 < l.length) (hv : numOf ((bitsOf (nl (inb l))).take 4) = 1) (ht : numOf (((bitsOf (nl (inb l))).drop 4).take 3) = 2) : refW l ∨ okW l := by
  have hI : IsB (nl (inb l)) := IsB_nl fun x hx => hl x (List.mem_of_mem_take hx)
  have hlb : (nl (inb l)).length = l.length - 4 := by rw [nl_len]; unfold inb; simp
  have hbl := bitsOf_len (nl (inb l))
  obtain ⟨⟨⟨K, A, Z⟩, p1, e1⟩, h1⟩ : ∃ v, prX (bitsOf (nl (inb l))) 7 0 = v := ⟨_, rfl⟩
  have l1 := prX_le (L := bitsOf (nl (inb l))) (p := 7) (e := 0) (by omega)
  rw [h1] at l1
  dsimp only at l1
  obtain ⟨⟨n, p2, e2⟩, h2⟩ : ∃ v, nmX (bitsOf (nl (inb l))) p1 e1 = v := ⟨_, rfl⟩
  have l2 := nmX_le (L := bitsOf (nl (inb l))) (p := p1) (e := e1) l1
  rw [h2] at l2
  dsimp only at l2
  by_cases hg : goodI K A Z ∧ 1 ≤ n ∧ n ≤ 256
  · have ng := nmX_good (L := bitsOf (nl (inb l))) (p := p1) (e := e1) (by rw [h2]; exact hg.2)
    rw [h2] at ng
    obtain ⟨rfl, ng2⟩ := ng
    dsimp only at ng2
    subst ng2
    obtain ⟨⟨k, a, b, rfl, rfl, rfl, hg⟩, hn1, hn2⟩ := hg
    obtain ⟨n, rfl⟩ := Int.eq_ofNat_of_zero_le (show 0 ≤ n by omega)
    have hr := cRead_fn (n := n) (p := p2) hg (by omega) hI (by omega) (by omega)
    have l3 := crX_le (L := bitsOf (nl (inb l))) (k := k) (a := a) (b := b) (n := n) l2
    have er := fun m => crX_some (L := bitsOf (nl (inb l))) (k := k) (a := a) (b := b) (n := n) (p := p2) (l := m)
    have en0 := crX_none (L := bitsOf (nl (inb l))) (k := k) (a := a) (b := b) (n := n) (p := p2)
    obtain ⟨⟨o, q, er'⟩, h3⟩ : ∃ v, crX (bitsOf (nl (inb l))) k a b n p2 = v := ⟨_, rfl⟩
    rw [h3] at hr l3 er en0
    dsimp only at l3 er en0
    cases o with
    | none =>
      have he := en0 rfl
      unfold crV crS at hr
      dsimp only at hr
      have hb := bodyArr_bad hI (by omega) (by omega) h1 h2 hr
      exact .inl (dec_errN hl h4 hm hs h0 hv ht (by rw [if_pos rfl]; exact he) hb)
    | some m =>
      obtain ⟨rfl, hml, hmw⟩ := er m rfl
      unfold crV crS at hr
      dsimp only at hr
      have hb := bodyArr_ok hI (by omega) (by omega) h1 h2 hr
      rw [if_pos rfl] at hb
      by_cases hc : closeX (bitsOf (nl (inb l))) q = 0
      · have en := encOK_A (n := n) hg (by omega) hml
        generalize sealN _ = E at en
        by_cases hne : nl E = nl l
        · obtain rfl := nl_inj.1 hne
          have hd := decA_ok hl h4 hm hs h0 hv ht (by omega) hc hb en.2 rfl (by have := en.1; omega) rfl
          have hlw := words_len (nwd n (wd k a b)) (packN (wd k a b) (m.map (nuO k a b)))
          exact .inr ⟨hm, _, _, _, _, _, _, _, _, _, _, _, rfl, (show Fn1 _ _ _ _ (.tup [itAP k a b n m, .lit (.int .i64 0)]) [] from tellW [] (hd)), ckAP_fn, en.row⟩
        · exact .inl (decA_other hl h4 hm hs h0 hv ht (by omega) hc hb en.2 rfl (by have := en.1; omega) hne)
      · exact .inl (decA_close hl h4 hm hs h0 hv ht (by omega) hc hb)
  · have hr := cReadE_fn (p := p2) (B := nl (inb l)) hg
    have hb := bodyArr_bad hI (by omega) (by omega) h1 h2 hr
    exact .inl (dec_errN hl h4 hm hs h0 hv ht (by split; decide; assumption) hb)

theorem anySac {l : List Nat} (hl : ∀ x ∈ l, x < 256) (h4 : 4 ≤ l.length) (hm : l.length ≤ 4096) (hs : sealN (l.take (l.length - 4)) = l) (h0 : 4 < l.length) (hv : numOf ((bitsOf (nl (inb l))).take 4) = 1) (ht : numOf (((bitsOf (nl (inb l))).drop 4).take 3) = 3) : refW l ∨ okW l := by
  have hI : IsB (nl (inb l)) := IsB_nl fun x hx => hl x (List.mem_of_mem_take hx)
  have hlb : (nl (inb l)).length = l.length - 4 := by rw [nl_len]; unfold inb; simp
  have hbl := bitsOf_len (nl (inb l))
  obtain ⟨⟨M, p1, e1⟩, h1⟩ : ∃ v, nmX (bitsOf (nl (inb l))) 7 0 = v := ⟨_, rfl⟩
  have l1 := nmX_le (L := bitsOf (nl (inb l))) (p := 7) (e := 0) (by omega)
  rw [h1] at l1
  dsimp only at l1
  obtain ⟨⟨D, p2, e2⟩, h2⟩ : ∃ v, nmX (bitsOf (nl (inb l))) p1 e1 = v := ⟨_, rfl⟩
  have l2 := nmX_le (L := bitsOf (nl (inb l))) (p := p1) (e := e1) l1
  rw [h2] at l2
  dsimp only at l2
  obtain ⟨⟨S, p3, e3⟩, h3⟩ : ∃ v, nmX (bitsOf (nl (inb l))) p2 e2 = v := ⟨_, rfl⟩
  have l3 := nmX_le (L := bitsOf (nl (inb l))) (p := p2) (e := e2) l2
  rw [h3] at l3
  dsimp only at l3
  obtain ⟨⟨n, p4, e4⟩, h4'⟩ : ∃ v, nmX (bitsOf (nl (inb l))) p3 e3 = v := ⟨_, rfl⟩
  have l4 := nmX_le (L := bitsOf (nl (inb l))) (p := p3) (e := e3) l3
  rw [h4'] at l4
  dsimp only at l4
  by_cases hg : goodS M D S ∧ 1 ≤ n ∧ n ≤ 256
  · have ng := nmX_good (L := bitsOf (nl (inb l))) (p := p3) (e := e3) (by rw [h4']; exact hg.2)
    rw [h4'] at ng
    obtain ⟨rfl, ng2⟩ := ng
    dsimp only at ng2
    subst ng2
    obtain ⟨hg, hn1, hn2⟩ := hg
    have hg' := hg
    obtain ⟨⟨a1, a2⟩, ⟨a3, a4⟩, a5, a6⟩ := hg'
    obtain ⟨M, rfl⟩ := Int.eq_ofNat_of_zero_le (show 0 ≤ M by omega)
    obtain ⟨D, rfl⟩ := Int.eq_ofNat_of_zero_le (show 0 ≤ D by omega)
    obtain ⟨S, rfl⟩ := Int.eq_ofNat_of_zero_le (show 0 ≤ S by omega)
    obtain ⟨n, rfl⟩ := Int.eq_ofNat_of_zero_le (show 0 ≤ n by omega)
    have hr := sread_fn (n := n) (p := p4) hg (by omega) hI (by omega) (by omega)
    have l5 := srR_le (L := bitsOf (nl (inb l))) (M := M) (D := D) (S := S) (n := n) l4
    have er := fun m => srR_way (L := bitsOf (nl (inb l))) (M := M) (D := D) (S := S) (n := n) (p := p4) (st := m) l4
    have en0 := srR_none (L := bitsOf (nl (inb l))) (M := M) (D := D) (S := S) (n := n) (p := p4)
    obtain ⟨⟨o, q, er'⟩, h5⟩ : ∃ v, srR (bitsOf (nl (inb l))) M D S n p4 = v := ⟨_, rfl⟩
    rw [h5] at hr l5 er en0
    dsimp only at l5 er en0
    cases o with
    | none =>
      have he := en0 rfl
      unfold srV srS at hr
      dsimp only at hr
      have hb := bodySac_bad hI (by omega) (by omega) h1 h2 h3 h4' hr
      exact .inl (dec_errN hl h4 hm hs h0 hv ht (by rw [if_pos rfl]; omega) hb)
    | some m =>
      obtain ⟨-, rfl, ⟨k1, k2, k3, k4, k5⟩, -⟩ := er m rfl
      unfold srV srS at hr
      dsimp only at hr
      have hb := bodySac_ok hI (by omega) (by omega) h1 h2 h3 h4' hr
      rw [if_pos rfl] at hb
      by_cases hc : closeX (bitsOf (nl (inb l))) q = 0
      · have en := encOK_S (M := M) (D := D) (S := S) (st := m) (by omega) (by omega) (by omega) (by omega) (fun c hc => ⟨(k2 c hc).1, (k2 c hc).2.1⟩) ⟨k3, by omega⟩
        generalize sealN _ = E at en
        by_cases hne : nl E = nl l
        · obtain rfl := nl_inj.1 hne
          have hd := decS_ok hl h4 hm hs h0 hv ht (by omega) hc hb en.2 rfl (by have := en.1; omega) rfl
          exact .inr ⟨hm, _, _, _, _, _, _, _, _, _, _, _, rfl, (show Fn1 _ _ _ _ (.tup [itSP M D S m, .lit (.int .i64 0)]) [] from tellW [] (hd)), ckSP_fn, en.row⟩
        · exact .inl (decS_other hl h4 hm hs h0 hv ht (by omega) hc hb en.2 rfl (by have := en.1; omega) hne)
      · exact .inl (decS_close hl h4 hm hs h0 hv ht (by omega) hc hb)
  · have hr := sReadE_fn (p := p4) (B := nl (inb l)) hg
    have hb := bodySac_bad hI (by omega) (by omega) h1 h2 h3 h4' hr
    exact .inl (dec_errN hl h4 hm hs h0 hv ht (by split; decide; assumption) hb)

theorem anyCms {l : List Nat} (hl : ∀ x ∈ l, x < 256) (h4 : 4 ≤ l.length) (hm : l.length ≤ 4096) (hs : sealN (l.take (l.length - 4)) = l) (h0 : 4 < l.length) (hv : numOf ((bitsOf (nl (inb l))).take 4) = 1) (ht : numOf (((bitsOf (nl (inb l))).drop 4).take 3) = 4) : refW l ∨ okW l := by
  have hI : IsB (nl (inb l)) := IsB_nl fun x hx => hl x (List.mem_of_mem_take hx)
  have hlb : (nl (inb l)).length = l.length - 4 := by rw [nl_len]; unfold inb; simp
  have hbl := bitsOf_len (nl (inb l))
  obtain ⟨⟨R, p1, e1⟩, h1⟩ : ∃ v, nmX (bitsOf (nl (inb l))) 7 0 = v := ⟨_, rfl⟩
  have l1 := nmX_le (L := bitsOf (nl (inb l))) (p := 7) (e := 0) (by omega)
  rw [h1] at l1
  dsimp only at l1
  obtain ⟨⟨C, p2, e2⟩, h2⟩ : ∃ v, nmX (bitsOf (nl (inb l))) p1 e1 = v := ⟨_, rfl⟩
  have l2 := nmX_le (L := bitsOf (nl (inb l))) (p := p1) (e := e1) l1
  rw [h2] at l2
  dsimp only at l2
  obtain ⟨⟨⟨K, A, Z⟩, p3, e3⟩, h3⟩ : ∃ v, prX (bitsOf (nl (inb l))) p2 e2 = v := ⟨_, rfl⟩
  have l3 := prX_le (L := bitsOf (nl (inb l))) (p := p2) (e := e2) l2
  rw [h3] at l3
  dsimp only at l3
  by_cases hg : goodC R C K A Z
  · obtain ⟨⟨a1, a2, a3, a4⟩, k, a, b, rfl, rfl, rfl, hg⟩ := hg
    obtain ⟨R, rfl⟩ := Int.eq_ofNat_of_zero_le (show 0 ≤ R by omega)
    obtain ⟨C, rfl⟩ := Int.eq_ofNat_of_zero_le (show 0 ≤ C by omega)
    have hr := cmRead_fn (R := R) (C := C) (p := p3) (by omega) (by omega) hg hI (by omega) (by omega)
    have l5 := cmR_le (L := bitsOf (nl (inb l))) (R := R) (C := C) (k := k) (a := a) (b := b) l3
    have er := fun m => cmR_some (L := bitsOf (nl (inb l))) (R := R) (C := C) (k := k) (a := a) (b := b) (p := p3) (x := m)
    have en0 := cmR_none (L := bitsOf (nl (inb l))) (R := R) (C := C) (k := k) (a := a) (b := b) (p := p3)
    obtain ⟨⟨o, q, er'⟩, h5⟩ : ∃ v, cmR (bitsOf (nl (inb l))) R C k a b p3 = v := ⟨_, rfl⟩
    rw [h5] at hr l5 er en0
    dsimp only at l5 er en0
    cases o with
    | none =>
      have he := en0 rfl
      unfold cmV cmS at hr
      dsimp only at hr
      have hb := bodyCms_bad hI (by omega) (by omega) h1 h2 h3 hr
      exact .inl (dec_errN hl h4 hm hs h0 hv ht (by split <;> assumption) hb)
    | some m =>
      obtain ⟨rfl, k1, k2, k3⟩ := er m rfl
      obtain ⟨m, T⟩ := m
      dsimp only at k1 k2 k3
      unfold cmV cmS at hr
      dsimp only at hr
      have hb := bodyCms_ok hI (by omega) (by omega) h1 h2 h3 hr
      by_cases he3 : e3 = 0
      · rw [if_pos he3] at hb
        by_cases hc : closeX (bitsOf (nl (inb l))) q = 0
        · have en := encOK_C (R := R) (C := C) (l := m) (T := T) hg (by omega) (by omega) (by omega) k3 k2
          generalize sealN _ = E at en
          by_cases hne : nl E = nl l
          · obtain rfl := nl_inj.1 hne
            have hd := decC_ok hl h4 hm hs h0 hv ht (by omega) hc hb en.2 rfl (by have := en.1; omega) rfl
            exact .inr ⟨hm, _, _, _, _, _, _, _, _, _, _, _, rfl, (show Fn1 _ _ _ _ (.tup [itCP R C k a b m T, .lit (.int .i64 0)]) [] from tellW [] (hd)), ckCP_fn, en.row⟩
          · exact .inl (decC_other hl h4 hm hs h0 hv ht (by omega) hc hb en.2 rfl (by have := en.1; omega) hne)
        · exact .inl (decC_close hl h4 hm hs h0 hv ht (by omega) hc hb)
      · rw [if_neg he3] at hb
        exact .inl (dec_errC hl h4 hm hs h0 hv ht he3 hb)
  · have hr := cmReadE_fn (p := p3) (B := nl (inb l)) hg
    have hb := bodyCms_bad hI (by omega) (by omega) h1 h2 h3 hr
    exact .inl (dec_errN hl h4 hm hs h0 hv ht (by split; decide; assumption) hb)

theorem anyAms {l : List Nat} (hl : ∀ x ∈ l, x < 256) (h4 : 4 ≤ l.length) (hm : l.length ≤ 4096) (hs : sealN (l.take (l.length - 4)) = l) (h0 : 4 < l.length) (hv : numOf ((bitsOf (nl (inb l))).take 4) = 1) (ht : numOf (((bitsOf (nl (inb l))).drop 4).take 3) = 5) : refW l ∨ okW l := by
  have hI : IsB (nl (inb l)) := IsB_nl fun x hx => hl x (List.mem_of_mem_take hx)
  have hlb : (nl (inb l)).length = l.length - 4 := by rw [nl_len]; unfold inb; simp
  have hbl := bitsOf_len (nl (inb l))
  obtain ⟨⟨K, p1, e1⟩, h1⟩ : ∃ v, nmX (bitsOf (nl (inb l))) 7 0 = v := ⟨_, rfl⟩
  have l1 := nmX_le (L := bitsOf (nl (inb l))) (p := 7) (e := 0) (by omega)
  rw [h1] at l1
  dsimp only at l1
  obtain ⟨⟨P, p2, e2⟩, h2⟩ : ∃ v, nmX (bitsOf (nl (inb l))) p1 e1 = v := ⟨_, rfl⟩
  have l2 := nmX_le (L := bitsOf (nl (inb l))) (p := p1) (e := e1) l1
  rw [h2] at l2
  dsimp only at l2
  obtain ⟨⟨C, p3, e3⟩, h3⟩ : ∃ v, nmX (bitsOf (nl (inb l))) p2 e2 = v := ⟨_, rfl⟩
  have l3 := nmX_le (L := bitsOf (nl (inb l))) (p := p2) (e := e2) l2
  rw [h3] at l3
  dsimp only at l3
  by_cases hg : goodA K P C
  · have hg' := hg
    obtain ⟨hKP, hC1, hC2⟩ := hg'
    have ng := nmX_good (L := bitsOf (nl (inb l))) (p := p2) (e := e2) (by rw [h3]; exact ⟨hC1, by dsimp only; omega⟩)
    rw [h3] at ng
    obtain ⟨rfl, ng2⟩ := ng
    dsimp only at ng2
    subst ng2
    obtain ⟨K, rfl⟩ := Int.eq_ofNat_of_zero_le (show 0 ≤ K by omega)
    obtain ⟨P, rfl⟩ := Int.eq_ofNat_of_zero_le (show 0 ≤ P by omega)
    obtain ⟨C, rfl⟩ := Int.eq_ofNat_of_zero_le (show 0 ≤ C by omega)
    have hr := aread_fn (p := p3) hg hI (by omega) (by omega)
    have l5 := arR_le (L := bitsOf (nl (inb l))) (C := C) l3
    have er := fun X T => arR_way (L := bitsOf (nl (inb l))) (C := C) (p := p3) (X := X) (N := T) l3
    have en0 := arR_none (L := bitsOf (nl (inb l))) (C := C) (p := p3)
    obtain ⟨⟨o, q, er'⟩, h5⟩ : ∃ v, arR (bitsOf (nl (inb l))) C p3 = v := ⟨_, rfl⟩
    rw [h5] at hr l5 er en0
    dsimp only at l5 er en0
    cases o with
    | none =>
      have he := en0 rfl
      unfold arV arS at hr
      dsimp only at hr
      have hb := bodyAms_bad hI (by omega) (by omega) h1 h2 h3 hr
      exact .inl (dec_errN hl h4 hm hs h0 hv ht (by rw [if_pos rfl]; omega) hb)
    | some m =>
      obtain ⟨X, T⟩ := m
      obtain ⟨-, rfl, ⟨k1, k2, k3, k4⟩, -⟩ := er X T rfl
      unfold arV arS at hr
      dsimp only at hr
      have hb := bodyAms_ok hI (by omega) (by omega) h1 h2 h3 hr
      rw [if_pos rfl] at hb
      by_cases hc : closeX (bitsOf (nl (inb l))) q = 0
      · have en := encOK_M (K := K) (P := P) (C := C) (X := X) (T := T) (by omega) (by omega) (by omega) (by omega) (fun x hx => ⟨(k3 x hx).1, by have := (k3 x hx).2; omega⟩) (k4.elim (fun h => .inr h.2) (fun h => .inl h.1)) k2
        generalize sealN _ = E at en
        by_cases hne : nl E = nl l
        · obtain rfl := nl_inj.1 hne
          have hd := decM_ok hl h4 hm hs h0 hv ht (by omega) hc hb en.2 rfl (by have := en.1; omega) rfl
          exact .inr ⟨hm, _, _, _, _, _, _, _, _, _, _, _, rfl, (show Fn1 _ _ _ _ (.tup [itMP K P C X T, .lit (.int .i64 0)]) [] from tellW [] (hd)), ckMP_fn, en.row⟩
        · exact .inl (decM_other hl h4 hm hs h0 hv ht (by omega) hc hb en.2 rfl (by have := en.1; omega) hne)
      · exact .inl (decM_close hl h4 hm hs h0 hv ht (by omega) hc hb)
  · have hr := aReadE_fn (p := p3) (B := nl (inb l)) hg
    have hb := bodyAms_bad hI (by omega) (by omega) h1 h2 h3 hr
    exact .inl (dec_errN hl h4 hm hs h0 hv ht (by split; decide; assumption) hb)

theorem anyW {l : List Nat} (hl : ∀ x ∈ l, x < 256) (hm : l.length < 1000000) : refW l ∨ okW l := by
  by_cases h1 : 4096 < l.length
  · exact .inl (dec_long h1 hm)
  have hm : l.length ≤ 4096 := by omega
  by_cases h4 : l.length < 4
  · exact .inl (dec_open hm (by decide) (openS_fn h4))
  have h4 : 4 ≤ l.length := by omega
  by_cases hs : sealN (l.take (l.length - 4)) = l
  · by_cases h0 : l.length = 4
    · exact .inl (dec_empty hl h4 hm hs h0)
    have h0 : 4 < l.length := by omega
    by_cases hv : numOf ((bitsOf (nl (inb l))).take 4) = 1
    · by_cases t1 : numOf (((bitsOf (nl (inb l))).drop 4).take 3) = 1
      · exact anyReg hl h4 hm hs h0 hv t1
      by_cases t2 : numOf (((bitsOf (nl (inb l))).drop 4).take 3) = 2
      · exact anyArr hl h4 hm hs h0 hv t2
      by_cases t3 : numOf (((bitsOf (nl (inb l))).drop 4).take 3) = 3
      · exact anySac hl h4 hm hs h0 hv t3
      by_cases t4 : numOf (((bitsOf (nl (inb l))).drop 4).take 3) = 4
      · exact anyCms hl h4 hm hs h0 hv t4
      by_cases t5 : numOf (((bitsOf (nl (inb l))).drop 4).take 3) = 5
      · exact anyAms hl h4 hm hs h0 hv t5
      exact .inl (dec_errN hl h4 hm hs h0 hv rfl (by decide) (bodyX_fn ⟨by omega, by omega, by omega, by omega, by omega⟩))
    · exact .inl (dec_version hl h4 hm hs h0 hv)
  · exact .inl (dec_open hm (by decide) (openB_fn hl (by omega) h4 hs))

end Go.Proofs.YteookgjmohokiaaGreat
