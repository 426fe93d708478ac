import Derived.Test.YthbcfjlalmhabaaVFacts
/-! Plain rules of lists and truths, for every run. -/
attribute [go_sem] decide_true decide_false beq_true beq_false Bool.true_beq Bool.false_beq Bool.not_not Bool.not_true Bool.not_false List.drop_zero List.map_cons List.map_nil List.length_cons List.length_nil List.cons_append List.nil_append List.set_cons_zero List.set_cons_succ List.getElem?_cons_zero List.getElem?_cons_succ List.length_map Int.toNat_natCast Nat.zero_add Nat.add_zero
