/- AstCopies, walked on the abstract machine: C4. -/
import Derived.Test.YtoglcipagladmaaGreatDoorAm4
import Derived.Test.YtoglcipagladmaaGreatDoorC3
set_option linter.unusedVariables false
namespace Go.Am
open Go.Proofs Go
set_option linter.unusedSimpArgs false
theorem sz33 : szT Tryz.prog 33 = some 4 := by kernel_rfl

/-- What items are: a tree's slice, a text, two numbers. -/
abbrev im (tv : Value) (s : ByteArray) (p q : Int) : List Value := [tv, .string s, .int .i64 p, .int .i64 q]
def Items (xs : List (List Value)) : Prop := ∀ x ∈ xs, ∃ tv s p q, x = im tv s p q ∧ oneCell tv = true
theorem items_one {xs : List (List Value)} (h : Items xs) : xs.flatten.all oneCell = true := by
  rw [List.all_eq_true]
  intro v hv
  obtain ⟨x, hx, hv⟩ := List.mem_flatten.1 hv
  obtain ⟨tv, s, p, q, rfl, ht⟩ := h x hx
  have : (im tv s p q).all oneCell = true := by simp only [List.all_cons, List.all_nil, ht]; rfl
  exact List.all_eq_true.1 this v hv
theorem items_len {xs : List (List Value)} (h : Items xs) : ∀ x ∈ xs, x.length = 4 := by
  intro x hx; obtain ⟨tv, s, p, q, rfl, _⟩ := h x hx; rfl
theorem gr_zero (H : AH) (s : Nat) : Gr (H.new (.cells [] s .solo)) H.next s (.slice (some ⟨H.next, 0, none⟩) 0 0) [] :=
  .inr ⟨H.next, .solo, rfl, Nat.le_refl _, Nat.lt_succ_self _, get_new_eq rfl, by simp, .inl rfl⟩

theorem nilT22 (xo yo : Operand) (n c : Nat) : aBin Tryz.prog .eql 22 xo yo (.slice none n c) (.slice none 0 0) = some (.bool true) := by
  have u : Tryz.prog.underlying 22 = some (.slice 33) := by kernel_rfl
  unfold aBin aGuard
  simp only
  rw [show Op.maxDepth = 9999 + 1 from rfl, aEq.eq_def]
  simp only [u]; rfl
theorem nilF22 (xo yo : Operand) (a : Addr) (n c : Nat) : aBin Tryz.prog .eql 22 xo yo (.slice (some a) n c) (.slice none 0 0) = some (.bool false) := by
  have u : Tryz.prog.underlying 22 = some (.slice 33) := by kernel_rfl
  unfold aBin aGuard
  simp only
  rw [show Op.maxDepth = 9999 + 1 from rfl, aEq.eq_def]
  simp only [u]
theorem build0_22 (H : AH) : aBuildSlice Tryz.prog H 22 0 [] = some (.slice (some ⟨H.next, 0, none⟩) 0 0, H.new (.cells [] 4 .solo)) := by
  have e1 : elemT Tryz.prog 22 = some 33 := by kernel_rfl
  have e2 : szT Tryz.prog 33 = some 4 := by kernel_rfl
  have e3 : zerosT Tryz.prog 33 0 = some [] := by kernel_rfl
  unfold aBuildSlice
  simp only [e1, e2, e3]
  rfl
set_option maxRecDepth 10000 in
set_option maxHeartbeats 4000000 in
theorem clone22_wf (H : AH) (hb : H.base ≤ H.next) (v : Value) (xs : List (List Value)) (h1 : Rd H 4 v xs) (hx : Items xs) (hl : xs.length ≤ 1048576) :
    Wf cfg 12 [v] H fun r H' => Gr H' H.next 4 r xs ∧ Ext H H' := by
  obtain ⟨a, cap, rfl, h2⟩ := id h1
  refine wf_text (fn := Tryz.f12) rfl Tryz.func12 rfl rfl ?_
  cases a with
  | none =>
    have hn : xs = [] := by
      rcases h2 with h2 | ⟨b, o, c, e, w, h2, _⟩
      · exact h2
      · cases h2
    subst hn
    repeat (first
      | (with_reducible refine sc_seq ?_)
      | (with_reducible refine sc_region ?_)
      | (with_reducible refine sc_block ?_)
      | (with_reducible refine sc_scope ?_)
      | ((with_reducible refine sc_skip ?_); dsimp only)
      | ((with_reducible refine sc_label ?_); dsimp only)
      | ((with_reducible refine sc_ret ?_); dsimp only)
      | ((with_reducible refine sc_exit ?_); dsimp only [Nat.beq])
      | ((with_reducible refine so_nil ?_); dsimp only)
      | ((with_reducible apply so_skip); (case hw => simp only [aWanted, aYield, List.getElem?_toArray, at_some, at_none, at_args, Option.getD_some, Option.getD_none, List.getElem?_cons_zero, List.getElem?_cons_succ, List.getElem?_nil, decide_true, decide_false, Bool.not_true, Bool.not_false, nilT22, reduceIte, Nat.reduceEqDiff, b_tf, b_ft, beq_self_eq_true, Bool.false_eq_true, Bool.true_eq_false]; done))
      | ((with_reducible apply so_val); (case hw => simp only [aWanted, aYield, List.getElem?_toArray, at_some, at_none, at_args, Option.getD_some, Option.getD_none, List.getElem?_cons_zero, List.getElem?_cons_succ, List.getElem?_nil, decide_true, decide_false, Bool.not_true, Bool.not_false, nilT22, reduceIte, Nat.reduceEqDiff, b_tf, b_ft, beq_self_eq_true, Bool.false_eq_true, Bool.true_eq_false]; done); (case ha => simp (disch := (refine id ?_; first | assumption | omega | (simp only [new_next, new_base, upd_next, upd_base, List.length_cons, List.length_nil, List.all_cons, List.all_nil, oneCell, Bool.and_self, Bool.and_true]; done) | (simp only [new_next, new_base, upd_next, upd_base, List.length_cons, List.length_nil]; omega))) only [aOp, ev, at_some, at_none, at_args, Option.getD_some, Option.getD_none, List.getElem?_cons_zero, List.getElem?_cons_succ, List.getElem?_nil, decide_true, decide_false, Bool.not_true, Bool.not_false, nilT22, aBin_int, aBin_str, str_refl, int_refl, int_nrefl, aInt, aStr, aUn, AR.of, AR.ofB, AR.ofH, reduceIte, Nat.reduceEqDiff, aBuiltin, aLen, aField, aFieldAddr, aIndexAddr, aStore, aLoad, cellsL, oneCell, splice, new_next, new_base, upd_next, upd_base, cell_new_ne, cell_new_eq, cell_upd_ne, cell_upd_eq, loads_new_ne, loads_new_eq, loads_upd_ne, loads_upd_eq, stores_new_eq, stores_new_ne, stores_upd_ne, Option.map_some, List.toList_toArray, List.length_cons, List.length_nil, List.take_succ_cons, List.take_zero, List.drop_succ_cons, List.drop_zero, List.all_cons, List.all_nil, Bool.and_self, Bool.and_true, List.cons_append, List.nil_append, List.append_nil, List.append_eq, Nat.reduceBEq, Nat.reduceLeDiff, Nat.zero_add, Nat.add_zero, Nat.reduceMul, Nat.reduceSub, Nat.reduceLT, Nat.beq_refl, List.map_cons, List.map_nil, Nat.reduceAdd, cfg_P, sz3, sz38, agg3, agg38, und25, und26, und22, sz24, sz33] <;> with_reducible rfl))
      | ((with_reducible apply sc_false); (case hc => simp only [ev, at_some, at_none, at_args, Option.getD_some, Option.getD_none, List.getElem?_cons_zero, List.getElem?_cons_succ, List.getElem?_nil, decide_true, decide_false, Bool.not_true, Bool.not_false, nilT22, reduceIte, Nat.reduceEqDiff]; done))
      | ((with_reducible apply sc_true); (case hc => simp only [ev, at_some, at_none, at_args, Option.getD_some, Option.getD_none, List.getElem?_cons_zero, List.getElem?_cons_succ, List.getElem?_nil, decide_true, decide_false, Bool.not_true, Bool.not_false, nilT22, reduceIte, Nat.reduceEqDiff]; done)))
    apply res_fin (rs := [ResultVar.tmp 2]) trivial
    case h => simp (disch := (refine id ?_; first | assumption | omega | (simp only [new_next, new_base, upd_next, upd_base, List.length_cons, List.length_nil, List.all_cons, List.all_nil, oneCell, Bool.and_self, Bool.and_true]; done) | (simp only [new_next, new_base, upd_next, upd_base, List.length_cons, List.length_nil]; omega))) only [aResults, aResult, aOp, ev, at_some, at_none, at_args, Option.getD_some, Option.getD_none, List.getElem?_cons_zero, List.getElem?_cons_succ, List.getElem?_nil, decide_true, decide_false, Bool.not_true, Bool.not_false, aBin_int, aBin_str, str_refl, int_refl, int_nrefl, aInt, aStr, aUn, AR.of, AR.ofB, AR.ofH, reduceIte, Nat.reduceEqDiff, aBuiltin, aLen, aField, aFieldAddr, aIndexAddr, aStore, aLoad, cellsL, oneCell, splice, new_next, new_base, upd_next, upd_base, cell_new_ne, cell_new_eq, cell_upd_ne, cell_upd_eq, loads_new_ne, loads_new_eq, loads_upd_ne, loads_upd_eq, stores_new_eq, stores_new_ne, stores_upd_ne, Option.map_some, List.toList_toArray, List.length_cons, List.length_nil, List.take_succ_cons, List.take_zero, List.drop_succ_cons, List.drop_zero, List.all_cons, List.all_nil, Bool.and_self, Bool.and_true, List.cons_append, List.nil_append, List.append_nil, List.append_eq, Nat.reduceBEq, Nat.reduceLeDiff, Nat.zero_add, Nat.add_zero, Nat.reduceMul, Nat.reduceSub, Nat.reduceLT, Nat.beq_refl, List.map_cons, List.map_nil, Nat.reduceAdd, cfg_P, sz3, sz38, agg3, agg38, und25, und26, und22, sz24, sz33] <;> with_reducible rfl
    case hq => exact ⟨Gr.nil .., Ext.refl H⟩
  | some ad =>
    repeat (first
      | (with_reducible refine sc_seq ?_)
      | (with_reducible refine sc_region ?_)
      | (with_reducible refine sc_block ?_)
      | (with_reducible refine sc_scope ?_)
      | ((with_reducible refine sc_skip ?_); dsimp only)
      | ((with_reducible refine sc_label ?_); dsimp only)
      | ((with_reducible refine sc_ret ?_); dsimp only)
      | ((with_reducible refine sc_exit ?_); dsimp only [Nat.beq])
      | ((with_reducible refine so_nil ?_); dsimp only)
      | ((with_reducible apply so_skip); (case hw => simp only [aWanted, aYield, List.getElem?_toArray, at_some, at_none, at_args, Option.getD_some, Option.getD_none, List.getElem?_cons_zero, List.getElem?_cons_succ, List.getElem?_nil, decide_true, decide_false, Bool.not_true, Bool.not_false, nilF22, reduceIte, Nat.reduceEqDiff, b_tf, b_ft, beq_self_eq_true, Bool.false_eq_true, Bool.true_eq_false]; done))
      | ((with_reducible apply so_val); (case hw => simp only [aWanted, aYield, List.getElem?_toArray, at_some, at_none, at_args, Option.getD_some, Option.getD_none, List.getElem?_cons_zero, List.getElem?_cons_succ, List.getElem?_nil, decide_true, decide_false, Bool.not_true, Bool.not_false, nilF22, reduceIte, Nat.reduceEqDiff, b_tf, b_ft, beq_self_eq_true, Bool.false_eq_true, Bool.true_eq_false]; done); (case ha => simp (disch := (refine id ?_; first | assumption | omega | (simp only [new_next, new_base, upd_next, upd_base, List.length_cons, List.length_nil, List.all_cons, List.all_nil, oneCell, Bool.and_self, Bool.and_true]; done) | (simp only [new_next, new_base, upd_next, upd_base, List.length_cons, List.length_nil]; omega))) only [aOp, ev, at_some, at_none, at_args, Option.getD_some, Option.getD_none, List.getElem?_cons_zero, List.getElem?_cons_succ, List.getElem?_nil, decide_true, decide_false, Bool.not_true, Bool.not_false, nilF22, aBin_int, aBin_str, str_refl, int_refl, int_nrefl, aInt, aStr, aUn, AR.of, AR.ofB, AR.ofH, reduceIte, Nat.reduceEqDiff, aBuiltin, aLen, aField, aFieldAddr, aIndexAddr, aStore, aLoad, cellsL, oneCell, splice, new_next, new_base, upd_next, upd_base, cell_new_ne, cell_new_eq, cell_upd_ne, cell_upd_eq, loads_new_ne, loads_new_eq, loads_upd_ne, loads_upd_eq, stores_new_eq, stores_new_ne, stores_upd_ne, Option.map_some, List.toList_toArray, List.length_cons, List.length_nil, List.take_succ_cons, List.take_zero, List.drop_succ_cons, List.drop_zero, List.all_cons, List.all_nil, Bool.and_self, Bool.and_true, List.cons_append, List.nil_append, List.append_nil, List.append_eq, Nat.reduceBEq, Nat.reduceLeDiff, Nat.zero_add, Nat.add_zero, Nat.reduceMul, Nat.reduceSub, Nat.reduceLT, Nat.beq_refl, List.map_cons, List.map_nil, Nat.reduceAdd, cfg_P, sz3, sz38, agg3, agg38, und25, und26, und22, sz24, sz33] <;> with_reducible rfl))
      | ((with_reducible apply sc_false); (case hc => simp only [ev, at_some, at_none, at_args, Option.getD_some, Option.getD_none, List.getElem?_cons_zero, List.getElem?_cons_succ, List.getElem?_nil, decide_true, decide_false, Bool.not_true, Bool.not_false, nilF22, reduceIte, Nat.reduceEqDiff]; done))
      | ((with_reducible apply sc_true); (case hc => simp only [ev, at_some, at_none, at_args, Option.getD_some, Option.getD_none, List.getElem?_cons_zero, List.getElem?_cons_succ, List.getElem?_nil, decide_true, decide_false, Bool.not_true, Bool.not_false, nilF22, reduceIte, Nat.reduceEqDiff]; done)))
    refine so_val (v := .slice (some ⟨H.next, 0, none⟩) 0 0) (H' := H.new (.cells [] 4 .solo)) rfl (by simp only [aOp, List.map_nil, cfg_P]; rw [build0_22]; rfl) ?_
    repeat (first
      | (with_reducible refine sc_seq ?_)
      | (with_reducible refine sc_region ?_)
      | (with_reducible refine sc_block ?_)
      | (with_reducible refine sc_scope ?_)
      | ((with_reducible refine sc_skip ?_); dsimp only)
      | ((with_reducible refine sc_label ?_); dsimp only)
      | ((with_reducible refine sc_ret ?_); dsimp only)
      | ((with_reducible refine sc_exit ?_); dsimp only [Nat.beq])
      | ((with_reducible refine so_nil ?_); dsimp only)
      | ((with_reducible apply so_skip); (case hw => simp only [aWanted, aYield, List.getElem?_toArray, at_some, at_none, at_args, Option.getD_some, Option.getD_none, List.getElem?_cons_zero, List.getElem?_cons_succ, List.getElem?_nil, decide_true, decide_false, Bool.not_true, Bool.not_false, reduceIte, Nat.reduceEqDiff, b_tf, b_ft, beq_self_eq_true, Bool.false_eq_true, Bool.true_eq_false]; done))
      | ((with_reducible apply so_val); (case hw => simp only [aWanted, aYield, List.getElem?_toArray, at_some, at_none, at_args, Option.getD_some, Option.getD_none, List.getElem?_cons_zero, List.getElem?_cons_succ, List.getElem?_nil, decide_true, decide_false, Bool.not_true, Bool.not_false, reduceIte, Nat.reduceEqDiff, b_tf, b_ft, beq_self_eq_true, Bool.false_eq_true, Bool.true_eq_false]; done); (case ha => simp (disch := (refine id ?_; first | assumption | omega | (simp only [new_next, new_base, upd_next, upd_base, List.length_cons, List.length_nil, List.all_cons, List.all_nil, oneCell, Bool.and_self, Bool.and_true]; done) | (simp only [new_next, new_base, upd_next, upd_base, List.length_cons, List.length_nil]; omega))) only [aOp, ev, at_some, at_none, at_args, Option.getD_some, Option.getD_none, List.getElem?_cons_zero, List.getElem?_cons_succ, List.getElem?_nil, decide_true, decide_false, Bool.not_true, Bool.not_false, aBin_int, aBin_str, str_refl, int_refl, int_nrefl, aInt, aStr, aUn, AR.of, AR.ofB, AR.ofH, reduceIte, Nat.reduceEqDiff, aBuiltin, aLen, aField, aFieldAddr, aIndexAddr, aStore, aLoad, cellsL, oneCell, splice, new_next, new_base, upd_next, upd_base, cell_new_ne, cell_new_eq, cell_upd_ne, cell_upd_eq, loads_new_ne, loads_new_eq, loads_upd_ne, loads_upd_eq, stores_new_eq, stores_new_ne, stores_upd_ne, Option.map_some, List.toList_toArray, List.length_cons, List.length_nil, List.take_succ_cons, List.take_zero, List.drop_succ_cons, List.drop_zero, List.all_cons, List.all_nil, Bool.and_self, Bool.and_true, List.cons_append, List.nil_append, List.append_nil, List.append_eq, Nat.reduceBEq, Nat.reduceLeDiff, Nat.zero_add, Nat.add_zero, Nat.reduceMul, Nat.reduceSub, Nat.reduceLT, Nat.beq_refl, List.map_cons, List.map_nil, Nat.reduceAdd, cfg_P, sz3, sz38, agg3, agg38, und25, und26, und22, sz24, sz33] <;> with_reducible rfl))
      | ((with_reducible apply sc_false); (case hc => simp only [ev, at_some, at_none, at_args, Option.getD_some, Option.getD_none, List.getElem?_cons_zero, List.getElem?_cons_succ, List.getElem?_nil, decide_true, decide_false, Bool.not_true, Bool.not_false, reduceIte, Nat.reduceEqDiff]; done))
      | ((with_reducible apply sc_true); (case hc => simp only [ev, at_some, at_none, at_args, Option.getD_some, Option.getD_none, List.getElem?_cons_zero, List.getElem?_cons_succ, List.getElem?_nil, decide_true, decide_false, Bool.not_true, Bool.not_false, reduceIte, Nat.reduceEqDiff]; done)))
    refine so_append rfl (by simp only [aWanted, aYield, List.getElem?_toArray, at_some, at_none, at_args, Option.getD_some, Option.getD_none, List.getElem?_cons_zero, List.getElem?_cons_succ, List.getElem?_nil, decide_true, decide_false, Bool.not_true, Bool.not_false, reduceIte, Nat.reduceEqDiff, b_tf, b_ft, beq_self_eq_true, Bool.false_eq_true, Bool.true_eq_false]) (by first | (simp only [ev, at_some, at_none, at_args, Option.getD_some, Option.getD_none, List.getElem?_cons_zero, List.getElem?_cons_succ, List.getElem?_nil, decide_true, decide_false, Bool.not_true, Bool.not_false, reduceIte, Nat.reduceEqDiff]; done) | (simp only [ev, at_some, at_none, at_args, Option.getD_some, Option.getD_none, List.getElem?_cons_zero, List.getElem?_cons_succ, List.getElem?_nil, decide_true, decide_false, Bool.not_true, Bool.not_false, reduceIte, Nat.reduceEqDiff]; rfl)) (by first | (simp only [ev, at_some, at_none, at_args, Option.getD_some, Option.getD_none, List.getElem?_cons_zero, List.getElem?_cons_succ, List.getElem?_nil, decide_true, decide_false, Bool.not_true, Bool.not_false, reduceIte, Nat.reduceEqDiff]; done) | (simp only [ev, at_some, at_none, at_args, Option.getD_some, Option.getD_none, List.getElem?_cons_zero, List.getElem?_cons_succ, List.getElem?_nil, decide_true, decide_false, Bool.not_true, Bool.not_false, reduceIte, Nat.reduceEqDiff]; rfl)) ?_
    obtain ⟨v', H', h3, h4, h5⟩ := append_gr (P := cfg.P) el22 (lo := H.next) (xs := xs) (gr_zero H 4) (h1.mono (Ext.new H _)) (items_one hx) (by simp only [List.length_nil]; omega) (by simp only [new_next]; omega) (by simp only [new_base]; exact hb)
    refine ⟨v', H', h3, ?_⟩
    repeat (first
      | (with_reducible refine sc_seq ?_)
      | (with_reducible refine sc_region ?_)
      | (with_reducible refine sc_block ?_)
      | (with_reducible refine sc_scope ?_)
      | ((with_reducible refine sc_skip ?_); dsimp only)
      | ((with_reducible refine sc_label ?_); dsimp only)
      | ((with_reducible refine sc_ret ?_); dsimp only)
      | ((with_reducible refine sc_exit ?_); dsimp only [Nat.beq])
      | ((with_reducible refine so_nil ?_); dsimp only)
      | ((with_reducible apply so_skip); (case hw => simp only [aWanted, aYield, List.getElem?_toArray, at_some, at_none, at_args, Option.getD_some, Option.getD_none, List.getElem?_cons_zero, List.getElem?_cons_succ, List.getElem?_nil, decide_true, decide_false, Bool.not_true, Bool.not_false, reduceIte, Nat.reduceEqDiff, b_tf, b_ft, beq_self_eq_true, Bool.false_eq_true, Bool.true_eq_false]; done))
      | ((with_reducible apply so_val); (case hw => simp only [aWanted, aYield, List.getElem?_toArray, at_some, at_none, at_args, Option.getD_some, Option.getD_none, List.getElem?_cons_zero, List.getElem?_cons_succ, List.getElem?_nil, decide_true, decide_false, Bool.not_true, Bool.not_false, reduceIte, Nat.reduceEqDiff, b_tf, b_ft, beq_self_eq_true, Bool.false_eq_true, Bool.true_eq_false]; done); (case ha => simp (disch := (refine id ?_; first | assumption | omega | (simp only [new_next, new_base, upd_next, upd_base, List.length_cons, List.length_nil, List.all_cons, List.all_nil, oneCell, Bool.and_self, Bool.and_true]; done) | (simp only [new_next, new_base, upd_next, upd_base, List.length_cons, List.length_nil]; omega))) only [aOp, ev, at_some, at_none, at_args, Option.getD_some, Option.getD_none, List.getElem?_cons_zero, List.getElem?_cons_succ, List.getElem?_nil, decide_true, decide_false, Bool.not_true, Bool.not_false, aBin_int, aBin_str, str_refl, int_refl, int_nrefl, aInt, aStr, aUn, AR.of, AR.ofB, AR.ofH, reduceIte, Nat.reduceEqDiff, aBuiltin, aLen, aField, aFieldAddr, aIndexAddr, aStore, aLoad, cellsL, oneCell, splice, new_next, new_base, upd_next, upd_base, cell_new_ne, cell_new_eq, cell_upd_ne, cell_upd_eq, loads_new_ne, loads_new_eq, loads_upd_ne, loads_upd_eq, stores_new_eq, stores_new_ne, stores_upd_ne, Option.map_some, List.toList_toArray, List.length_cons, List.length_nil, List.take_succ_cons, List.take_zero, List.drop_succ_cons, List.drop_zero, List.all_cons, List.all_nil, Bool.and_self, Bool.and_true, List.cons_append, List.nil_append, List.append_nil, List.append_eq, Nat.reduceBEq, Nat.reduceLeDiff, Nat.zero_add, Nat.add_zero, Nat.reduceMul, Nat.reduceSub, Nat.reduceLT, Nat.beq_refl, List.map_cons, List.map_nil, Nat.reduceAdd, cfg_P, sz3, sz38, agg3, agg38, und25, und26, und22, sz24, sz33] <;> with_reducible rfl))
      | ((with_reducible apply sc_false); (case hc => simp only [ev, at_some, at_none, at_args, Option.getD_some, Option.getD_none, List.getElem?_cons_zero, List.getElem?_cons_succ, List.getElem?_nil, decide_true, decide_false, Bool.not_true, Bool.not_false, reduceIte, Nat.reduceEqDiff]; done))
      | ((with_reducible apply sc_true); (case hc => simp only [ev, at_some, at_none, at_args, Option.getD_some, Option.getD_none, List.getElem?_cons_zero, List.getElem?_cons_succ, List.getElem?_nil, decide_true, decide_false, Bool.not_true, Bool.not_false, reduceIte, Nat.reduceEqDiff]; done)))
    apply res_fin (rs := [ResultVar.tmp 2]) trivial
    case h => simp (disch := (refine id ?_; first | assumption | omega | (simp only [new_next, new_base, upd_next, upd_base, List.length_cons, List.length_nil, List.all_cons, List.all_nil, oneCell, Bool.and_self, Bool.and_true]; done) | (simp only [new_next, new_base, upd_next, upd_base, List.length_cons, List.length_nil]; omega))) only [aResults, aResult, aOp, ev, at_some, at_none, at_args, Option.getD_some, Option.getD_none, List.getElem?_cons_zero, List.getElem?_cons_succ, List.getElem?_nil, decide_true, decide_false, Bool.not_true, Bool.not_false, aBin_int, aBin_str, str_refl, int_refl, int_nrefl, aInt, aStr, aUn, AR.of, AR.ofB, AR.ofH, reduceIte, Nat.reduceEqDiff, aBuiltin, aLen, aField, aFieldAddr, aIndexAddr, aStore, aLoad, cellsL, oneCell, splice, new_next, new_base, upd_next, upd_base, cell_new_ne, cell_new_eq, cell_upd_ne, cell_upd_eq, loads_new_ne, loads_new_eq, loads_upd_ne, loads_upd_eq, stores_new_eq, stores_new_ne, stores_upd_ne, Option.map_some, List.toList_toArray, List.length_cons, List.length_nil, List.take_succ_cons, List.take_zero, List.drop_succ_cons, List.drop_zero, List.all_cons, List.all_nil, Bool.and_self, Bool.and_true, List.cons_append, List.nil_append, List.append_nil, List.append_eq, Nat.reduceBEq, Nat.reduceLeDiff, Nat.zero_add, Nat.add_zero, Nat.reduceMul, Nat.reduceSub, Nat.reduceLT, Nat.beq_refl, List.map_cons, List.map_nil, Nat.reduceAdd, cfg_P, sz3, sz38, agg3, agg38, und25, und26, und22, sz24, sz33] <;> with_reducible rfl
    case hq => exact ⟨h4, h5.ext (Ext.new H _) (Nat.le_refl _)⟩

theorem nilT25 (xo yo : Operand) (n c : Nat) : aBin Tryz.prog .eql 25 xo yo (.slice none n c) (.slice none 0 0) = some (.bool true) := by
  have u : Tryz.prog.underlying 25 = some (.slice 38) := by kernel_rfl
  unfold aBin aGuard
  simp only
  rw [show Op.maxDepth = 9999 + 1 from rfl, aEq.eq_def]
  simp only [u]; rfl
theorem nilF25 (xo yo : Operand) (a : Addr) (n c : Nat) : aBin Tryz.prog .eql 25 xo yo (.slice (some a) n c) (.slice none 0 0) = some (.bool false) := by
  have u : Tryz.prog.underlying 25 = some (.slice 38) := by kernel_rfl
  unfold aBin aGuard
  simp only
  rw [show Op.maxDepth = 9999 + 1 from rfl, aEq.eq_def]
  simp only [u]
theorem build0_25 (H : AH) : aBuildSlice Tryz.prog H 25 0 [] = some (.slice (some ⟨H.next, 0, none⟩) 0 0, H.new (.cells [] 6 .solo)) := by
  have e1 : elemT Tryz.prog 25 = some 38 := by kernel_rfl
  have e2 : szT Tryz.prog 38 = some 6 := by kernel_rfl
  have e3 : zerosT Tryz.prog 38 0 = some [] := by kernel_rfl
  unfold aBuildSlice
  simp only [e1, e2, e3]
  rfl
set_option maxRecDepth 10000 in
set_option maxHeartbeats 4000000 in
theorem clone25_wf (H : AH) (hb : H.base ≤ H.next) (v : Value) (xs : List (List Value)) (h1 : Rd H 6 v xs) (hx : Nodes xs) (hl : xs.length ≤ 1048576) :
    Wf cfg 13 [v] H fun r H' => Gr H' H.next 6 r xs ∧ Ext H H' := by
  obtain ⟨a, cap, rfl, h2⟩ := id h1
  refine wf_text (fn := Tryz.f13) rfl Tryz.func13 rfl rfl ?_
  cases a with
  | none =>
    have hn : xs = [] := by
      rcases h2 with h2 | ⟨b, o, c, e, w, h2, _⟩
      · exact h2
      · cases h2
    subst hn
    repeat (first
      | (with_reducible refine sc_seq ?_)
      | (with_reducible refine sc_region ?_)
      | (with_reducible refine sc_block ?_)
      | (with_reducible refine sc_scope ?_)
      | ((with_reducible refine sc_skip ?_); dsimp only)
      | ((with_reducible refine sc_label ?_); dsimp only)
      | ((with_reducible refine sc_ret ?_); dsimp only)
      | ((with_reducible refine sc_exit ?_); dsimp only [Nat.beq])
      | ((with_reducible refine so_nil ?_); dsimp only)
      | ((with_reducible apply so_skip); (case hw => simp only [aWanted, aYield, List.getElem?_toArray, at_some, at_none, at_args, Option.getD_some, Option.getD_none, List.getElem?_cons_zero, List.getElem?_cons_succ, List.getElem?_nil, decide_true, decide_false, Bool.not_true, Bool.not_false, nilT25, reduceIte, Nat.reduceEqDiff, b_tf, b_ft, beq_self_eq_true, Bool.false_eq_true, Bool.true_eq_false]; done))
      | ((with_reducible apply so_val); (case hw => simp only [aWanted, aYield, List.getElem?_toArray, at_some, at_none, at_args, Option.getD_some, Option.getD_none, List.getElem?_cons_zero, List.getElem?_cons_succ, List.getElem?_nil, decide_true, decide_false, Bool.not_true, Bool.not_false, nilT25, reduceIte, Nat.reduceEqDiff, b_tf, b_ft, beq_self_eq_true, Bool.false_eq_true, Bool.true_eq_false]; done); (case ha => simp (disch := (refine id ?_; first | assumption | omega | (simp only [new_next, new_base, upd_next, upd_base, List.length_cons, List.length_nil, List.all_cons, List.all_nil, oneCell, Bool.and_self, Bool.and_true]; done) | (simp only [new_next, new_base, upd_next, upd_base, List.length_cons, List.length_nil]; omega))) only [aOp, ev, at_some, at_none, at_args, Option.getD_some, Option.getD_none, List.getElem?_cons_zero, List.getElem?_cons_succ, List.getElem?_nil, decide_true, decide_false, Bool.not_true, Bool.not_false, nilT25, aBin_int, aBin_str, str_refl, int_refl, int_nrefl, aInt, aStr, aUn, AR.of, AR.ofB, AR.ofH, reduceIte, Nat.reduceEqDiff, aBuiltin, aLen, aField, aFieldAddr, aIndexAddr, aStore, aLoad, cellsL, oneCell, splice, new_next, new_base, upd_next, upd_base, cell_new_ne, cell_new_eq, cell_upd_ne, cell_upd_eq, loads_new_ne, loads_new_eq, loads_upd_ne, loads_upd_eq, stores_new_eq, stores_new_ne, stores_upd_ne, Option.map_some, List.toList_toArray, List.length_cons, List.length_nil, List.take_succ_cons, List.take_zero, List.drop_succ_cons, List.drop_zero, List.all_cons, List.all_nil, Bool.and_self, Bool.and_true, List.cons_append, List.nil_append, List.append_nil, List.append_eq, Nat.reduceBEq, Nat.reduceLeDiff, Nat.zero_add, Nat.add_zero, Nat.reduceMul, Nat.reduceSub, Nat.reduceLT, Nat.beq_refl, List.map_cons, List.map_nil, Nat.reduceAdd, cfg_P, sz3, sz38, agg3, agg38, und25, und26, und22, sz24, sz33] <;> with_reducible rfl))
      | ((with_reducible apply sc_false); (case hc => simp only [ev, at_some, at_none, at_args, Option.getD_some, Option.getD_none, List.getElem?_cons_zero, List.getElem?_cons_succ, List.getElem?_nil, decide_true, decide_false, Bool.not_true, Bool.not_false, nilT25, reduceIte, Nat.reduceEqDiff]; done))
      | ((with_reducible apply sc_true); (case hc => simp only [ev, at_some, at_none, at_args, Option.getD_some, Option.getD_none, List.getElem?_cons_zero, List.getElem?_cons_succ, List.getElem?_nil, decide_true, decide_false, Bool.not_true, Bool.not_false, nilT25, reduceIte, Nat.reduceEqDiff]; done)))
    apply res_fin (rs := [ResultVar.tmp 2]) trivial
    case h => simp (disch := (refine id ?_; first | assumption | omega | (simp only [new_next, new_base, upd_next, upd_base, List.length_cons, List.length_nil, List.all_cons, List.all_nil, oneCell, Bool.and_self, Bool.and_true]; done) | (simp only [new_next, new_base, upd_next, upd_base, List.length_cons, List.length_nil]; omega))) only [aResults, aResult, aOp, ev, at_some, at_none, at_args, Option.getD_some, Option.getD_none, List.getElem?_cons_zero, List.getElem?_cons_succ, List.getElem?_nil, decide_true, decide_false, Bool.not_true, Bool.not_false, aBin_int, aBin_str, str_refl, int_refl, int_nrefl, aInt, aStr, aUn, AR.of, AR.ofB, AR.ofH, reduceIte, Nat.reduceEqDiff, aBuiltin, aLen, aField, aFieldAddr, aIndexAddr, aStore, aLoad, cellsL, oneCell, splice, new_next, new_base, upd_next, upd_base, cell_new_ne, cell_new_eq, cell_upd_ne, cell_upd_eq, loads_new_ne, loads_new_eq, loads_upd_ne, loads_upd_eq, stores_new_eq, stores_new_ne, stores_upd_ne, Option.map_some, List.toList_toArray, List.length_cons, List.length_nil, List.take_succ_cons, List.take_zero, List.drop_succ_cons, List.drop_zero, List.all_cons, List.all_nil, Bool.and_self, Bool.and_true, List.cons_append, List.nil_append, List.append_nil, List.append_eq, Nat.reduceBEq, Nat.reduceLeDiff, Nat.zero_add, Nat.add_zero, Nat.reduceMul, Nat.reduceSub, Nat.reduceLT, Nat.beq_refl, List.map_cons, List.map_nil, Nat.reduceAdd, cfg_P, sz3, sz38, agg3, agg38, und25, und26, und22, sz24, sz33] <;> with_reducible rfl
    case hq => exact ⟨Gr.nil .., Ext.refl H⟩
  | some ad =>
    repeat (first
      | (with_reducible refine sc_seq ?_)
      | (with_reducible refine sc_region ?_)
      | (with_reducible refine sc_block ?_)
      | (with_reducible refine sc_scope ?_)
      | ((with_reducible refine sc_skip ?_); dsimp only)
      | ((with_reducible refine sc_label ?_); dsimp only)
      | ((with_reducible refine sc_ret ?_); dsimp only)
      | ((with_reducible refine sc_exit ?_); dsimp only [Nat.beq])
      | ((with_reducible refine so_nil ?_); dsimp only)
      | ((with_reducible apply so_skip); (case hw => simp only [aWanted, aYield, List.getElem?_toArray, at_some, at_none, at_args, Option.getD_some, Option.getD_none, List.getElem?_cons_zero, List.getElem?_cons_succ, List.getElem?_nil, decide_true, decide_false, Bool.not_true, Bool.not_false, nilF25, reduceIte, Nat.reduceEqDiff, b_tf, b_ft, beq_self_eq_true, Bool.false_eq_true, Bool.true_eq_false]; done))
      | ((with_reducible apply so_val); (case hw => simp only [aWanted, aYield, List.getElem?_toArray, at_some, at_none, at_args, Option.getD_some, Option.getD_none, List.getElem?_cons_zero, List.getElem?_cons_succ, List.getElem?_nil, decide_true, decide_false, Bool.not_true, Bool.not_false, nilF25, reduceIte, Nat.reduceEqDiff, b_tf, b_ft, beq_self_eq_true, Bool.false_eq_true, Bool.true_eq_false]; done); (case ha => simp (disch := (refine id ?_; first | assumption | omega | (simp only [new_next, new_base, upd_next, upd_base, List.length_cons, List.length_nil, List.all_cons, List.all_nil, oneCell, Bool.and_self, Bool.and_true]; done) | (simp only [new_next, new_base, upd_next, upd_base, List.length_cons, List.length_nil]; omega))) only [aOp, ev, at_some, at_none, at_args, Option.getD_some, Option.getD_none, List.getElem?_cons_zero, List.getElem?_cons_succ, List.getElem?_nil, decide_true, decide_false, Bool.not_true, Bool.not_false, nilF25, aBin_int, aBin_str, str_refl, int_refl, int_nrefl, aInt, aStr, aUn, AR.of, AR.ofB, AR.ofH, reduceIte, Nat.reduceEqDiff, aBuiltin, aLen, aField, aFieldAddr, aIndexAddr, aStore, aLoad, cellsL, oneCell, splice, new_next, new_base, upd_next, upd_base, cell_new_ne, cell_new_eq, cell_upd_ne, cell_upd_eq, loads_new_ne, loads_new_eq, loads_upd_ne, loads_upd_eq, stores_new_eq, stores_new_ne, stores_upd_ne, Option.map_some, List.toList_toArray, List.length_cons, List.length_nil, List.take_succ_cons, List.take_zero, List.drop_succ_cons, List.drop_zero, List.all_cons, List.all_nil, Bool.and_self, Bool.and_true, List.cons_append, List.nil_append, List.append_nil, List.append_eq, Nat.reduceBEq, Nat.reduceLeDiff, Nat.zero_add, Nat.add_zero, Nat.reduceMul, Nat.reduceSub, Nat.reduceLT, Nat.beq_refl, List.map_cons, List.map_nil, Nat.reduceAdd, cfg_P, sz3, sz38, agg3, agg38, und25, und26, und22, sz24, sz33] <;> with_reducible rfl))
      | ((with_reducible apply sc_false); (case hc => simp only [ev, at_some, at_none, at_args, Option.getD_some, Option.getD_none, List.getElem?_cons_zero, List.getElem?_cons_succ, List.getElem?_nil, decide_true, decide_false, Bool.not_true, Bool.not_false, nilF25, reduceIte, Nat.reduceEqDiff]; done))
      | ((with_reducible apply sc_true); (case hc => simp only [ev, at_some, at_none, at_args, Option.getD_some, Option.getD_none, List.getElem?_cons_zero, List.getElem?_cons_succ, List.getElem?_nil, decide_true, decide_false, Bool.not_true, Bool.not_false, nilF25, reduceIte, Nat.reduceEqDiff]; done)))
    refine so_val (v := .slice (some ⟨H.next, 0, none⟩) 0 0) (H' := H.new (.cells [] 6 .solo)) rfl (by simp only [aOp, List.map_nil, cfg_P]; rw [build0_25]; rfl) ?_
    repeat (first
      | (with_reducible refine sc_seq ?_)
      | (with_reducible refine sc_region ?_)
      | (with_reducible refine sc_block ?_)
      | (with_reducible refine sc_scope ?_)
      | ((with_reducible refine sc_skip ?_); dsimp only)
      | ((with_reducible refine sc_label ?_); dsimp only)
      | ((with_reducible refine sc_ret ?_); dsimp only)
      | ((with_reducible refine sc_exit ?_); dsimp only [Nat.beq])
      | ((with_reducible refine so_nil ?_); dsimp only)
      | ((with_reducible apply so_skip); (case hw => simp only [aWanted, aYield, List.getElem?_toArray, at_some, at_none, at_args, Option.getD_some, Option.getD_none, List.getElem?_cons_zero, List.getElem?_cons_succ, List.getElem?_nil, decide_true, decide_false, Bool.not_true, Bool.not_false, reduceIte, Nat.reduceEqDiff, b_tf, b_ft, beq_self_eq_true, Bool.false_eq_true, Bool.true_eq_false]; done))
      | ((with_reducible apply so_val); (case hw => simp only [aWanted, aYield, List.getElem?_toArray, at_some, at_none, at_args, Option.getD_some, Option.getD_none, List.getElem?_cons_zero, List.getElem?_cons_succ, List.getElem?_nil, decide_true, decide_false, Bool.not_true, Bool.not_false, reduceIte, Nat.reduceEqDiff, b_tf, b_ft, beq_self_eq_true, Bool.false_eq_true, Bool.true_eq_false]; done); (case ha => simp (disch := (refine id ?_; first | assumption | omega | (simp only [new_next, new_base, upd_next, upd_base, List.length_cons, List.length_nil, List.all_cons, List.all_nil, oneCell, Bool.and_self, Bool.and_true]; done) | (simp only [new_next, new_base, upd_next, upd_base, List.length_cons, List.length_nil]; omega))) only [aOp, ev, at_some, at_none, at_args, Option.getD_some, Option.getD_none, List.getElem?_cons_zero, List.getElem?_cons_succ, List.getElem?_nil, decide_true, decide_false, Bool.not_true, Bool.not_false, aBin_int, aBin_str, str_refl, int_refl, int_nrefl, aInt, aStr, aUn, AR.of, AR.ofB, AR.ofH, reduceIte, Nat.reduceEqDiff, aBuiltin, aLen, aField, aFieldAddr, aIndexAddr, aStore, aLoad, cellsL, oneCell, splice, new_next, new_base, upd_next, upd_base, cell_new_ne, cell_new_eq, cell_upd_ne, cell_upd_eq, loads_new_ne, loads_new_eq, loads_upd_ne, loads_upd_eq, stores_new_eq, stores_new_ne, stores_upd_ne, Option.map_some, List.toList_toArray, List.length_cons, List.length_nil, List.take_succ_cons, List.take_zero, List.drop_succ_cons, List.drop_zero, List.all_cons, List.all_nil, Bool.and_self, Bool.and_true, List.cons_append, List.nil_append, List.append_nil, List.append_eq, Nat.reduceBEq, Nat.reduceLeDiff, Nat.zero_add, Nat.add_zero, Nat.reduceMul, Nat.reduceSub, Nat.reduceLT, Nat.beq_refl, List.map_cons, List.map_nil, Nat.reduceAdd, cfg_P, sz3, sz38, agg3, agg38, und25, und26, und22, sz24, sz33] <;> with_reducible rfl))
      | ((with_reducible apply sc_false); (case hc => simp only [ev, at_some, at_none, at_args, Option.getD_some, Option.getD_none, List.getElem?_cons_zero, List.getElem?_cons_succ, List.getElem?_nil, decide_true, decide_false, Bool.not_true, Bool.not_false, reduceIte, Nat.reduceEqDiff]; done))
      | ((with_reducible apply sc_true); (case hc => simp only [ev, at_some, at_none, at_args, Option.getD_some, Option.getD_none, List.getElem?_cons_zero, List.getElem?_cons_succ, List.getElem?_nil, decide_true, decide_false, Bool.not_true, Bool.not_false, reduceIte, Nat.reduceEqDiff]; done)))
    refine so_append rfl (by simp only [aWanted, aYield, List.getElem?_toArray, at_some, at_none, at_args, Option.getD_some, Option.getD_none, List.getElem?_cons_zero, List.getElem?_cons_succ, List.getElem?_nil, decide_true, decide_false, Bool.not_true, Bool.not_false, reduceIte, Nat.reduceEqDiff, b_tf, b_ft, beq_self_eq_true, Bool.false_eq_true, Bool.true_eq_false]) (by first | (simp only [ev, at_some, at_none, at_args, Option.getD_some, Option.getD_none, List.getElem?_cons_zero, List.getElem?_cons_succ, List.getElem?_nil, decide_true, decide_false, Bool.not_true, Bool.not_false, reduceIte, Nat.reduceEqDiff]; done) | (simp only [ev, at_some, at_none, at_args, Option.getD_some, Option.getD_none, List.getElem?_cons_zero, List.getElem?_cons_succ, List.getElem?_nil, decide_true, decide_false, Bool.not_true, Bool.not_false, reduceIte, Nat.reduceEqDiff]; rfl)) (by first | (simp only [ev, at_some, at_none, at_args, Option.getD_some, Option.getD_none, List.getElem?_cons_zero, List.getElem?_cons_succ, List.getElem?_nil, decide_true, decide_false, Bool.not_true, Bool.not_false, reduceIte, Nat.reduceEqDiff]; done) | (simp only [ev, at_some, at_none, at_args, Option.getD_some, Option.getD_none, List.getElem?_cons_zero, List.getElem?_cons_succ, List.getElem?_nil, decide_true, decide_false, Bool.not_true, Bool.not_false, reduceIte, Nat.reduceEqDiff]; rfl)) ?_
    obtain ⟨v', H', h3, h4, h5⟩ := append_gr (P := cfg.P) el25 (lo := H.next) (xs := xs) (gr_zero H 6) (h1.mono (Ext.new H _)) (nodes_one hx) (by simp only [List.length_nil]; omega) (by simp only [new_next]; omega) (by simp only [new_base]; exact hb)
    refine ⟨v', H', h3, ?_⟩
    repeat (first
      | (with_reducible refine sc_seq ?_)
      | (with_reducible refine sc_region ?_)
      | (with_reducible refine sc_block ?_)
      | (with_reducible refine sc_scope ?_)
      | ((with_reducible refine sc_skip ?_); dsimp only)
      | ((with_reducible refine sc_label ?_); dsimp only)
      | ((with_reducible refine sc_ret ?_); dsimp only)
      | ((with_reducible refine sc_exit ?_); dsimp only [Nat.beq])
      | ((with_reducible refine so_nil ?_); dsimp only)
      | ((with_reducible apply so_skip); (case hw => simp only [aWanted, aYield, List.getElem?_toArray, at_some, at_none, at_args, Option.getD_some, Option.getD_none, List.getElem?_cons_zero, List.getElem?_cons_succ, List.getElem?_nil, decide_true, decide_false, Bool.not_true, Bool.not_false, reduceIte, Nat.reduceEqDiff, b_tf, b_ft, beq_self_eq_true, Bool.false_eq_true, Bool.true_eq_false]; done))
      | ((with_reducible apply so_val); (case hw => simp only [aWanted, aYield, List.getElem?_toArray, at_some, at_none, at_args, Option.getD_some, Option.getD_none, List.getElem?_cons_zero, List.getElem?_cons_succ, List.getElem?_nil, decide_true, decide_false, Bool.not_true, Bool.not_false, reduceIte, Nat.reduceEqDiff, b_tf, b_ft, beq_self_eq_true, Bool.false_eq_true, Bool.true_eq_false]; done); (case ha => simp (disch := (refine id ?_; first | assumption | omega | (simp only [new_next, new_base, upd_next, upd_base, List.length_cons, List.length_nil, List.all_cons, List.all_nil, oneCell, Bool.and_self, Bool.and_true]; done) | (simp only [new_next, new_base, upd_next, upd_base, List.length_cons, List.length_nil]; omega))) only [aOp, ev, at_some, at_none, at_args, Option.getD_some, Option.getD_none, List.getElem?_cons_zero, List.getElem?_cons_succ, List.getElem?_nil, decide_true, decide_false, Bool.not_true, Bool.not_false, aBin_int, aBin_str, str_refl, int_refl, int_nrefl, aInt, aStr, aUn, AR.of, AR.ofB, AR.ofH, reduceIte, Nat.reduceEqDiff, aBuiltin, aLen, aField, aFieldAddr, aIndexAddr, aStore, aLoad, cellsL, oneCell, splice, new_next, new_base, upd_next, upd_base, cell_new_ne, cell_new_eq, cell_upd_ne, cell_upd_eq, loads_new_ne, loads_new_eq, loads_upd_ne, loads_upd_eq, stores_new_eq, stores_new_ne, stores_upd_ne, Option.map_some, List.toList_toArray, List.length_cons, List.length_nil, List.take_succ_cons, List.take_zero, List.drop_succ_cons, List.drop_zero, List.all_cons, List.all_nil, Bool.and_self, Bool.and_true, List.cons_append, List.nil_append, List.append_nil, List.append_eq, Nat.reduceBEq, Nat.reduceLeDiff, Nat.zero_add, Nat.add_zero, Nat.reduceMul, Nat.reduceSub, Nat.reduceLT, Nat.beq_refl, List.map_cons, List.map_nil, Nat.reduceAdd, cfg_P, sz3, sz38, agg3, agg38, und25, und26, und22, sz24, sz33] <;> with_reducible rfl))
      | ((with_reducible apply sc_false); (case hc => simp only [ev, at_some, at_none, at_args, Option.getD_some, Option.getD_none, List.getElem?_cons_zero, List.getElem?_cons_succ, List.getElem?_nil, decide_true, decide_false, Bool.not_true, Bool.not_false, reduceIte, Nat.reduceEqDiff]; done))
      | ((with_reducible apply sc_true); (case hc => simp only [ev, at_some, at_none, at_args, Option.getD_some, Option.getD_none, List.getElem?_cons_zero, List.getElem?_cons_succ, List.getElem?_nil, decide_true, decide_false, Bool.not_true, Bool.not_false, reduceIte, Nat.reduceEqDiff]; done)))
    apply res_fin (rs := [ResultVar.tmp 2]) trivial
    case h => simp (disch := (refine id ?_; first | assumption | omega | (simp only [new_next, new_base, upd_next, upd_base, List.length_cons, List.length_nil, List.all_cons, List.all_nil, oneCell, Bool.and_self, Bool.and_true]; done) | (simp only [new_next, new_base, upd_next, upd_base, List.length_cons, List.length_nil]; omega))) only [aResults, aResult, aOp, ev, at_some, at_none, at_args, Option.getD_some, Option.getD_none, List.getElem?_cons_zero, List.getElem?_cons_succ, List.getElem?_nil, decide_true, decide_false, Bool.not_true, Bool.not_false, aBin_int, aBin_str, str_refl, int_refl, int_nrefl, aInt, aStr, aUn, AR.of, AR.ofB, AR.ofH, reduceIte, Nat.reduceEqDiff, aBuiltin, aLen, aField, aFieldAddr, aIndexAddr, aStore, aLoad, cellsL, oneCell, splice, new_next, new_base, upd_next, upd_base, cell_new_ne, cell_new_eq, cell_upd_ne, cell_upd_eq, loads_new_ne, loads_new_eq, loads_upd_ne, loads_upd_eq, stores_new_eq, stores_new_ne, stores_upd_ne, Option.map_some, List.toList_toArray, List.length_cons, List.length_nil, List.take_succ_cons, List.take_zero, List.drop_succ_cons, List.drop_zero, List.all_cons, List.all_nil, Bool.and_self, Bool.and_true, List.cons_append, List.nil_append, List.append_nil, List.append_eq, Nat.reduceBEq, Nat.reduceLeDiff, Nat.zero_add, Nat.add_zero, Nat.reduceMul, Nat.reduceSub, Nat.reduceLT, Nat.beq_refl, List.map_cons, List.map_nil, Nat.reduceAdd, cfg_P, sz3, sz38, agg3, agg38, und25, und26, und22, sz24, sz33] <;> with_reducible rfl
    case hq => exact ⟨h4, h5.ext (Ext.new H _) (Nat.le_refl _)⟩

theorem nilT26 (xo yo : Operand) (n c : Nat) : aBin Tryz.prog .eql 26 xo yo (.slice none n c) (.slice none 0 0) = some (.bool true) := by
  have u : Tryz.prog.underlying 26 = some (.slice 24) := by kernel_rfl
  unfold aBin aGuard
  simp only
  rw [show Op.maxDepth = 9999 + 1 from rfl, aEq.eq_def]
  simp only [u]; rfl
theorem nilF26 (xo yo : Operand) (a : Addr) (n c : Nat) : aBin Tryz.prog .eql 26 xo yo (.slice (some a) n c) (.slice none 0 0) = some (.bool false) := by
  have u : Tryz.prog.underlying 26 = some (.slice 24) := by kernel_rfl
  unfold aBin aGuard
  simp only
  rw [show Op.maxDepth = 9999 + 1 from rfl, aEq.eq_def]
  simp only [u]
theorem build0_26 (H : AH) : aBuildSlice Tryz.prog H 26 0 [] = some (.slice (some ⟨H.next, 0, none⟩) 0 0, H.new (.cells [] 2 .solo)) := by
  have e1 : elemT Tryz.prog 26 = some 24 := by kernel_rfl
  have e2 : szT Tryz.prog 24 = some 2 := by kernel_rfl
  have e3 : zerosT Tryz.prog 24 0 = some [] := by kernel_rfl
  unfold aBuildSlice
  simp only [e1, e2, e3]
  rfl
set_option maxRecDepth 10000 in
set_option maxHeartbeats 4000000 in
theorem clone26_wf (H : AH) (hb : H.base ≤ H.next) (v : Value) (xs : List (List Value)) (h1 : Rd H 2 v xs) (hx : Labels xs) (hl : xs.length ≤ 1048576) :
    Wf cfg 14 [v] H fun r H' => Gr H' H.next 2 r xs ∧ Ext H H' := by
  obtain ⟨a, cap, rfl, h2⟩ := id h1
  refine wf_text (fn := Tryz.f14) rfl Tryz.func14 rfl rfl ?_
  cases a with
  | none =>
    have hn : xs = [] := by
      rcases h2 with h2 | ⟨b, o, c, e, w, h2, _⟩
      · exact h2
      · cases h2
    subst hn
    repeat (first
      | (with_reducible refine sc_seq ?_)
      | (with_reducible refine sc_region ?_)
      | (with_reducible refine sc_block ?_)
      | (with_reducible refine sc_scope ?_)
      | ((with_reducible refine sc_skip ?_); dsimp only)
      | ((with_reducible refine sc_label ?_); dsimp only)
      | ((with_reducible refine sc_ret ?_); dsimp only)
      | ((with_reducible refine sc_exit ?_); dsimp only [Nat.beq])
      | ((with_reducible refine so_nil ?_); dsimp only)
      | ((with_reducible apply so_skip); (case hw => simp only [aWanted, aYield, List.getElem?_toArray, at_some, at_none, at_args, Option.getD_some, Option.getD_none, List.getElem?_cons_zero, List.getElem?_cons_succ, List.getElem?_nil, decide_true, decide_false, Bool.not_true, Bool.not_false, nilT26, reduceIte, Nat.reduceEqDiff, b_tf, b_ft, beq_self_eq_true, Bool.false_eq_true, Bool.true_eq_false]; done))
      | ((with_reducible apply so_val); (case hw => simp only [aWanted, aYield, List.getElem?_toArray, at_some, at_none, at_args, Option.getD_some, Option.getD_none, List.getElem?_cons_zero, List.getElem?_cons_succ, List.getElem?_nil, decide_true, decide_false, Bool.not_true, Bool.not_false, nilT26, reduceIte, Nat.reduceEqDiff, b_tf, b_ft, beq_self_eq_true, Bool.false_eq_true, Bool.true_eq_false]; done); (case ha => simp (disch := (refine id ?_; first | assumption | omega | (simp only [new_next, new_base, upd_next, upd_base, List.length_cons, List.length_nil, List.all_cons, List.all_nil, oneCell, Bool.and_self, Bool.and_true]; done) | (simp only [new_next, new_base, upd_next, upd_base, List.length_cons, List.length_nil]; omega))) only [aOp, ev, at_some, at_none, at_args, Option.getD_some, Option.getD_none, List.getElem?_cons_zero, List.getElem?_cons_succ, List.getElem?_nil, decide_true, decide_false, Bool.not_true, Bool.not_false, nilT26, aBin_int, aBin_str, str_refl, int_refl, int_nrefl, aInt, aStr, aUn, AR.of, AR.ofB, AR.ofH, reduceIte, Nat.reduceEqDiff, aBuiltin, aLen, aField, aFieldAddr, aIndexAddr, aStore, aLoad, cellsL, oneCell, splice, new_next, new_base, upd_next, upd_base, cell_new_ne, cell_new_eq, cell_upd_ne, cell_upd_eq, loads_new_ne, loads_new_eq, loads_upd_ne, loads_upd_eq, stores_new_eq, stores_new_ne, stores_upd_ne, Option.map_some, List.toList_toArray, List.length_cons, List.length_nil, List.take_succ_cons, List.take_zero, List.drop_succ_cons, List.drop_zero, List.all_cons, List.all_nil, Bool.and_self, Bool.and_true, List.cons_append, List.nil_append, List.append_nil, List.append_eq, Nat.reduceBEq, Nat.reduceLeDiff, Nat.zero_add, Nat.add_zero, Nat.reduceMul, Nat.reduceSub, Nat.reduceLT, Nat.beq_refl, List.map_cons, List.map_nil, Nat.reduceAdd, cfg_P, sz3, sz38, agg3, agg38, und25, und26, und22, sz24, sz33] <;> with_reducible rfl))
      | ((with_reducible apply sc_false); (case hc => simp only [ev, at_some, at_none, at_args, Option.getD_some, Option.getD_none, List.getElem?_cons_zero, List.getElem?_cons_succ, List.getElem?_nil, decide_true, decide_false, Bool.not_true, Bool.not_false, nilT26, reduceIte, Nat.reduceEqDiff]; done))
      | ((with_reducible apply sc_true); (case hc => simp only [ev, at_some, at_none, at_args, Option.getD_some, Option.getD_none, List.getElem?_cons_zero, List.getElem?_cons_succ, List.getElem?_nil, decide_true, decide_false, Bool.not_true, Bool.not_false, nilT26, reduceIte, Nat.reduceEqDiff]; done)))
    apply res_fin (rs := [ResultVar.tmp 2]) trivial
    case h => simp (disch := (refine id ?_; first | assumption | omega | (simp only [new_next, new_base, upd_next, upd_base, List.length_cons, List.length_nil, List.all_cons, List.all_nil, oneCell, Bool.and_self, Bool.and_true]; done) | (simp only [new_next, new_base, upd_next, upd_base, List.length_cons, List.length_nil]; omega))) only [aResults, aResult, aOp, ev, at_some, at_none, at_args, Option.getD_some, Option.getD_none, List.getElem?_cons_zero, List.getElem?_cons_succ, List.getElem?_nil, decide_true, decide_false, Bool.not_true, Bool.not_false, aBin_int, aBin_str, str_refl, int_refl, int_nrefl, aInt, aStr, aUn, AR.of, AR.ofB, AR.ofH, reduceIte, Nat.reduceEqDiff, aBuiltin, aLen, aField, aFieldAddr, aIndexAddr, aStore, aLoad, cellsL, oneCell, splice, new_next, new_base, upd_next, upd_base, cell_new_ne, cell_new_eq, cell_upd_ne, cell_upd_eq, loads_new_ne, loads_new_eq, loads_upd_ne, loads_upd_eq, stores_new_eq, stores_new_ne, stores_upd_ne, Option.map_some, List.toList_toArray, List.length_cons, List.length_nil, List.take_succ_cons, List.take_zero, List.drop_succ_cons, List.drop_zero, List.all_cons, List.all_nil, Bool.and_self, Bool.and_true, List.cons_append, List.nil_append, List.append_nil, List.append_eq, Nat.reduceBEq, Nat.reduceLeDiff, Nat.zero_add, Nat.add_zero, Nat.reduceMul, Nat.reduceSub, Nat.reduceLT, Nat.beq_refl, List.map_cons, List.map_nil, Nat.reduceAdd, cfg_P, sz3, sz38, agg3, agg38, und25, und26, und22, sz24, sz33] <;> with_reducible rfl
    case hq => exact ⟨Gr.nil .., Ext.refl H⟩
  | some ad =>
    repeat (first
      | (with_reducible refine sc_seq ?_)
      | (with_reducible refine sc_region ?_)
      | (with_reducible refine sc_block ?_)
      | (with_reducible refine sc_scope ?_)
      | ((with_reducible refine sc_skip ?_); dsimp only)
      | ((with_reducible refine sc_label ?_); dsimp only)
      | ((with_reducible refine sc_ret ?_); dsimp only)
      | ((with_reducible refine sc_exit ?_); dsimp only [Nat.beq])
      | ((with_reducible refine so_nil ?_); dsimp only)
      | ((with_reducible apply so_skip); (case hw => simp only [aWanted, aYield, List.getElem?_toArray, at_some, at_none, at_args, Option.getD_some, Option.getD_none, List.getElem?_cons_zero, List.getElem?_cons_succ, List.getElem?_nil, decide_true, decide_false, Bool.not_true, Bool.not_false, nilF26, reduceIte, Nat.reduceEqDiff, b_tf, b_ft, beq_self_eq_true, Bool.false_eq_true, Bool.true_eq_false]; done))
      | ((with_reducible apply so_val); (case hw => simp only [aWanted, aYield, List.getElem?_toArray, at_some, at_none, at_args, Option.getD_some, Option.getD_none, List.getElem?_cons_zero, List.getElem?_cons_succ, List.getElem?_nil, decide_true, decide_false, Bool.not_true, Bool.not_false, nilF26, reduceIte, Nat.reduceEqDiff, b_tf, b_ft, beq_self_eq_true, Bool.false_eq_true, Bool.true_eq_false]; done); (case ha => simp (disch := (refine id ?_; first | assumption | omega | (simp only [new_next, new_base, upd_next, upd_base, List.length_cons, List.length_nil, List.all_cons, List.all_nil, oneCell, Bool.and_self, Bool.and_true]; done) | (simp only [new_next, new_base, upd_next, upd_base, List.length_cons, List.length_nil]; omega))) only [aOp, ev, at_some, at_none, at_args, Option.getD_some, Option.getD_none, List.getElem?_cons_zero, List.getElem?_cons_succ, List.getElem?_nil, decide_true, decide_false, Bool.not_true, Bool.not_false, nilF26, aBin_int, aBin_str, str_refl, int_refl, int_nrefl, aInt, aStr, aUn, AR.of, AR.ofB, AR.ofH, reduceIte, Nat.reduceEqDiff, aBuiltin, aLen, aField, aFieldAddr, aIndexAddr, aStore, aLoad, cellsL, oneCell, splice, new_next, new_base, upd_next, upd_base, cell_new_ne, cell_new_eq, cell_upd_ne, cell_upd_eq, loads_new_ne, loads_new_eq, loads_upd_ne, loads_upd_eq, stores_new_eq, stores_new_ne, stores_upd_ne, Option.map_some, List.toList_toArray, List.length_cons, List.length_nil, List.take_succ_cons, List.take_zero, List.drop_succ_cons, List.drop_zero, List.all_cons, List.all_nil, Bool.and_self, Bool.and_true, List.cons_append, List.nil_append, List.append_nil, List.append_eq, Nat.reduceBEq, Nat.reduceLeDiff, Nat.zero_add, Nat.add_zero, Nat.reduceMul, Nat.reduceSub, Nat.reduceLT, Nat.beq_refl, List.map_cons, List.map_nil, Nat.reduceAdd, cfg_P, sz3, sz38, agg3, agg38, und25, und26, und22, sz24, sz33] <;> with_reducible rfl))
      | ((with_reducible apply sc_false); (case hc => simp only [ev, at_some, at_none, at_args, Option.getD_some, Option.getD_none, List.getElem?_cons_zero, List.getElem?_cons_succ, List.getElem?_nil, decide_true, decide_false, Bool.not_true, Bool.not_false, nilF26, reduceIte, Nat.reduceEqDiff]; done))
      | ((with_reducible apply sc_true); (case hc => simp only [ev, at_some, at_none, at_args, Option.getD_some, Option.getD_none, List.getElem?_cons_zero, List.getElem?_cons_succ, List.getElem?_nil, decide_true, decide_false, Bool.not_true, Bool.not_false, nilF26, reduceIte, Nat.reduceEqDiff]; done)))
    refine so_val (v := .slice (some ⟨H.next, 0, none⟩) 0 0) (H' := H.new (.cells [] 2 .solo)) rfl (by simp only [aOp, List.map_nil, cfg_P]; rw [build0_26]; rfl) ?_
    repeat (first
      | (with_reducible refine sc_seq ?_)
      | (with_reducible refine sc_region ?_)
      | (with_reducible refine sc_block ?_)
      | (with_reducible refine sc_scope ?_)
      | ((with_reducible refine sc_skip ?_); dsimp only)
      | ((with_reducible refine sc_label ?_); dsimp only)
      | ((with_reducible refine sc_ret ?_); dsimp only)
      | ((with_reducible refine sc_exit ?_); dsimp only [Nat.beq])
      | ((with_reducible refine so_nil ?_); dsimp only)
      | ((with_reducible apply so_skip); (case hw => simp only [aWanted, aYield, List.getElem?_toArray, at_some, at_none, at_args, Option.getD_some, Option.getD_none, List.getElem?_cons_zero, List.getElem?_cons_succ, List.getElem?_nil, decide_true, decide_false, Bool.not_true, Bool.not_false, reduceIte, Nat.reduceEqDiff, b_tf, b_ft, beq_self_eq_true, Bool.false_eq_true, Bool.true_eq_false]; done))
      | ((with_reducible apply so_val); (case hw => simp only [aWanted, aYield, List.getElem?_toArray, at_some, at_none, at_args, Option.getD_some, Option.getD_none, List.getElem?_cons_zero, List.getElem?_cons_succ, List.getElem?_nil, decide_true, decide_false, Bool.not_true, Bool.not_false, reduceIte, Nat.reduceEqDiff, b_tf, b_ft, beq_self_eq_true, Bool.false_eq_true, Bool.true_eq_false]; done); (case ha => simp (disch := (refine id ?_; first | assumption | omega | (simp only [new_next, new_base, upd_next, upd_base, List.length_cons, List.length_nil, List.all_cons, List.all_nil, oneCell, Bool.and_self, Bool.and_true]; done) | (simp only [new_next, new_base, upd_next, upd_base, List.length_cons, List.length_nil]; omega))) only [aOp, ev, at_some, at_none, at_args, Option.getD_some, Option.getD_none, List.getElem?_cons_zero, List.getElem?_cons_succ, List.getElem?_nil, decide_true, decide_false, Bool.not_true, Bool.not_false, aBin_int, aBin_str, str_refl, int_refl, int_nrefl, aInt, aStr, aUn, AR.of, AR.ofB, AR.ofH, reduceIte, Nat.reduceEqDiff, aBuiltin, aLen, aField, aFieldAddr, aIndexAddr, aStore, aLoad, cellsL, oneCell, splice, new_next, new_base, upd_next, upd_base, cell_new_ne, cell_new_eq, cell_upd_ne, cell_upd_eq, loads_new_ne, loads_new_eq, loads_upd_ne, loads_upd_eq, stores_new_eq, stores_new_ne, stores_upd_ne, Option.map_some, List.toList_toArray, List.length_cons, List.length_nil, List.take_succ_cons, List.take_zero, List.drop_succ_cons, List.drop_zero, List.all_cons, List.all_nil, Bool.and_self, Bool.and_true, List.cons_append, List.nil_append, List.append_nil, List.append_eq, Nat.reduceBEq, Nat.reduceLeDiff, Nat.zero_add, Nat.add_zero, Nat.reduceMul, Nat.reduceSub, Nat.reduceLT, Nat.beq_refl, List.map_cons, List.map_nil, Nat.reduceAdd, cfg_P, sz3, sz38, agg3, agg38, und25, und26, und22, sz24, sz33] <;> with_reducible rfl))
      | ((with_reducible apply sc_false); (case hc => simp only [ev, at_some, at_none, at_args, Option.getD_some, Option.getD_none, List.getElem?_cons_zero, List.getElem?_cons_succ, List.getElem?_nil, decide_true, decide_false, Bool.not_true, Bool.not_false, reduceIte, Nat.reduceEqDiff]; done))
      | ((with_reducible apply sc_true); (case hc => simp only [ev, at_some, at_none, at_args, Option.getD_some, Option.getD_none, List.getElem?_cons_zero, List.getElem?_cons_succ, List.getElem?_nil, decide_true, decide_false, Bool.not_true, Bool.not_false, reduceIte, Nat.reduceEqDiff]; done)))
    refine so_append rfl (by simp only [aWanted, aYield, List.getElem?_toArray, at_some, at_none, at_args, Option.getD_some, Option.getD_none, List.getElem?_cons_zero, List.getElem?_cons_succ, List.getElem?_nil, decide_true, decide_false, Bool.not_true, Bool.not_false, reduceIte, Nat.reduceEqDiff, b_tf, b_ft, beq_self_eq_true, Bool.false_eq_true, Bool.true_eq_false]) (by first | (simp only [ev, at_some, at_none, at_args, Option.getD_some, Option.getD_none, List.getElem?_cons_zero, List.getElem?_cons_succ, List.getElem?_nil, decide_true, decide_false, Bool.not_true, Bool.not_false, reduceIte, Nat.reduceEqDiff]; done) | (simp only [ev, at_some, at_none, at_args, Option.getD_some, Option.getD_none, List.getElem?_cons_zero, List.getElem?_cons_succ, List.getElem?_nil, decide_true, decide_false, Bool.not_true, Bool.not_false, reduceIte, Nat.reduceEqDiff]; rfl)) (by first | (simp only [ev, at_some, at_none, at_args, Option.getD_some, Option.getD_none, List.getElem?_cons_zero, List.getElem?_cons_succ, List.getElem?_nil, decide_true, decide_false, Bool.not_true, Bool.not_false, reduceIte, Nat.reduceEqDiff]; done) | (simp only [ev, at_some, at_none, at_args, Option.getD_some, Option.getD_none, List.getElem?_cons_zero, List.getElem?_cons_succ, List.getElem?_nil, decide_true, decide_false, Bool.not_true, Bool.not_false, reduceIte, Nat.reduceEqDiff]; rfl)) ?_
    obtain ⟨v', H', h3, h4, h5⟩ := append_gr (P := cfg.P) el26 (lo := H.next) (xs := xs) (gr_zero H 2) (h1.mono (Ext.new H _)) (labels_one hx) (by simp only [List.length_nil]; omega) (by simp only [new_next]; omega) (by simp only [new_base]; exact hb)
    refine ⟨v', H', h3, ?_⟩
    repeat (first
      | (with_reducible refine sc_seq ?_)
      | (with_reducible refine sc_region ?_)
      | (with_reducible refine sc_block ?_)
      | (with_reducible refine sc_scope ?_)
      | ((with_reducible refine sc_skip ?_); dsimp only)
      | ((with_reducible refine sc_label ?_); dsimp only)
      | ((with_reducible refine sc_ret ?_); dsimp only)
      | ((with_reducible refine sc_exit ?_); dsimp only [Nat.beq])
      | ((with_reducible refine so_nil ?_); dsimp only)
      | ((with_reducible apply so_skip); (case hw => simp only [aWanted, aYield, List.getElem?_toArray, at_some, at_none, at_args, Option.getD_some, Option.getD_none, List.getElem?_cons_zero, List.getElem?_cons_succ, List.getElem?_nil, decide_true, decide_false, Bool.not_true, Bool.not_false, reduceIte, Nat.reduceEqDiff, b_tf, b_ft, beq_self_eq_true, Bool.false_eq_true, Bool.true_eq_false]; done))
      | ((with_reducible apply so_val); (case hw => simp only [aWanted, aYield, List.getElem?_toArray, at_some, at_none, at_args, Option.getD_some, Option.getD_none, List.getElem?_cons_zero, List.getElem?_cons_succ, List.getElem?_nil, decide_true, decide_false, Bool.not_true, Bool.not_false, reduceIte, Nat.reduceEqDiff, b_tf, b_ft, beq_self_eq_true, Bool.false_eq_true, Bool.true_eq_false]; done); (case ha => simp (disch := (refine id ?_; first | assumption | omega | (simp only [new_next, new_base, upd_next, upd_base, List.length_cons, List.length_nil, List.all_cons, List.all_nil, oneCell, Bool.and_self, Bool.and_true]; done) | (simp only [new_next, new_base, upd_next, upd_base, List.length_cons, List.length_nil]; omega))) only [aOp, ev, at_some, at_none, at_args, Option.getD_some, Option.getD_none, List.getElem?_cons_zero, List.getElem?_cons_succ, List.getElem?_nil, decide_true, decide_false, Bool.not_true, Bool.not_false, aBin_int, aBin_str, str_refl, int_refl, int_nrefl, aInt, aStr, aUn, AR.of, AR.ofB, AR.ofH, reduceIte, Nat.reduceEqDiff, aBuiltin, aLen, aField, aFieldAddr, aIndexAddr, aStore, aLoad, cellsL, oneCell, splice, new_next, new_base, upd_next, upd_base, cell_new_ne, cell_new_eq, cell_upd_ne, cell_upd_eq, loads_new_ne, loads_new_eq, loads_upd_ne, loads_upd_eq, stores_new_eq, stores_new_ne, stores_upd_ne, Option.map_some, List.toList_toArray, List.length_cons, List.length_nil, List.take_succ_cons, List.take_zero, List.drop_succ_cons, List.drop_zero, List.all_cons, List.all_nil, Bool.and_self, Bool.and_true, List.cons_append, List.nil_append, List.append_nil, List.append_eq, Nat.reduceBEq, Nat.reduceLeDiff, Nat.zero_add, Nat.add_zero, Nat.reduceMul, Nat.reduceSub, Nat.reduceLT, Nat.beq_refl, List.map_cons, List.map_nil, Nat.reduceAdd, cfg_P, sz3, sz38, agg3, agg38, und25, und26, und22, sz24, sz33] <;> with_reducible rfl))
      | ((with_reducible apply sc_false); (case hc => simp only [ev, at_some, at_none, at_args, Option.getD_some, Option.getD_none, List.getElem?_cons_zero, List.getElem?_cons_succ, List.getElem?_nil, decide_true, decide_false, Bool.not_true, Bool.not_false, reduceIte, Nat.reduceEqDiff]; done))
      | ((with_reducible apply sc_true); (case hc => simp only [ev, at_some, at_none, at_args, Option.getD_some, Option.getD_none, List.getElem?_cons_zero, List.getElem?_cons_succ, List.getElem?_nil, decide_true, decide_false, Bool.not_true, Bool.not_false, reduceIte, Nat.reduceEqDiff]; done)))
    apply res_fin (rs := [ResultVar.tmp 2]) trivial
    case h => simp (disch := (refine id ?_; first | assumption | omega | (simp only [new_next, new_base, upd_next, upd_base, List.length_cons, List.length_nil, List.all_cons, List.all_nil, oneCell, Bool.and_self, Bool.and_true]; done) | (simp only [new_next, new_base, upd_next, upd_base, List.length_cons, List.length_nil]; omega))) only [aResults, aResult, aOp, ev, at_some, at_none, at_args, Option.getD_some, Option.getD_none, List.getElem?_cons_zero, List.getElem?_cons_succ, List.getElem?_nil, decide_true, decide_false, Bool.not_true, Bool.not_false, aBin_int, aBin_str, str_refl, int_refl, int_nrefl, aInt, aStr, aUn, AR.of, AR.ofB, AR.ofH, reduceIte, Nat.reduceEqDiff, aBuiltin, aLen, aField, aFieldAddr, aIndexAddr, aStore, aLoad, cellsL, oneCell, splice, new_next, new_base, upd_next, upd_base, cell_new_ne, cell_new_eq, cell_upd_ne, cell_upd_eq, loads_new_ne, loads_new_eq, loads_upd_ne, loads_upd_eq, stores_new_eq, stores_new_ne, stores_upd_ne, Option.map_some, List.toList_toArray, List.length_cons, List.length_nil, List.take_succ_cons, List.take_zero, List.drop_succ_cons, List.drop_zero, List.all_cons, List.all_nil, Bool.and_self, Bool.and_true, List.cons_append, List.nil_append, List.append_nil, List.append_eq, Nat.reduceBEq, Nat.reduceLeDiff, Nat.zero_add, Nat.add_zero, Nat.reduceMul, Nat.reduceSub, Nat.reduceLT, Nat.beq_refl, List.map_cons, List.map_nil, Nat.reduceAdd, cfg_P, sz3, sz38, agg3, agg38, und25, und26, und22, sz24, sz33] <;> with_reducible rfl
    case hq => exact ⟨h4, h5.ext (Ext.new H _) (Nat.le_refl _)⟩
end Go.Am
