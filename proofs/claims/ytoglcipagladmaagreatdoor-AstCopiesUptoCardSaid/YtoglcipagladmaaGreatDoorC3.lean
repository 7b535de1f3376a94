/- AstCopies, walked on the abstract machine: C3. -/
import Derived.Test.YtoglcipagladmaaGreatDoorAm4
import Derived.Test.YtoglcipagladmaaGreatDoorC2
set_option linter.unusedVariables false
namespace Go.Am
open Go.Proofs Go
set_option linter.unusedSimpArgs false
theorem el25 : El Tryz.prog 25 6 48 := ⟨⟨38, _, by kernel_rfl, by kernel_rfl, by kernel_rfl, und25, rfl⟩, by decide, by decide⟩
theorem el26 : El Tryz.prog 26 2 24 := ⟨⟨24, _, by kernel_rfl, by kernel_rfl, by kernel_rfl, und26, rfl⟩, by decide, by decide⟩
theorem und22 : undT Tryz.prog 22 = some (.slice 33) := by kernel_rfl
theorem el22 : El Tryz.prog 22 4 56 := ⟨⟨33, _, by kernel_rfl, by kernel_rfl, by kernel_rfl, und22, rfl⟩, by decide, by decide⟩
theorem fld38_0 : fieldT Tryz.prog 38 0 = some (0, 35) := by kernel_rfl
theorem sz35 : szT Tryz.prog 35 = some 1 := by kernel_rfl

theorem nd_one (a f n k p : Int) (s : ByteArray) : (nd a f s n k p).all oneCell = true := rfl
theorem nodes_one {xs : List (List Value)} (h : Nodes xs) : xs.flatten.all oneCell = true := by
  rw [List.all_eq_true]
  intro v hv
  obtain ⟨x, hx, hv⟩ := List.mem_flatten.1 hv
  obtain ⟨a, f, s, n, k, p, rfl⟩ := h x hx
  exact List.all_eq_true.1 (nd_one a f n k p s) v hv
theorem labels_one {xs : List (List Value)} (h : Labels xs) : xs.flatten.all oneCell = true := by
  rw [List.all_eq_true]
  intro v hv
  obtain ⟨x, hx, hv⟩ := List.mem_flatten.1 hv
  obtain ⟨s, p, rfl⟩ := h x hx
  have : (lb s p).all oneCell = true := rfl
  exact List.all_eq_true.1 this v hv
theorem nodes_len {xs : List (List Value)} (h : Nodes xs) : ∀ x ∈ xs, x.length = 6 := by
  intro x hx; obtain ⟨a, f, s, n, k, p, rfl⟩ := h x hx; rfl
theorem labels_len {xs : List (List Value)} (h : Labels xs) : ∀ x ∈ xs, x.length = 2 := by
  intro x hx; obtain ⟨s, p, rfl⟩ := h x hx; rfl

theorem Rd.one {H : AH} {s : Nat} {c : List Value} (hc : c.length = s) : Rd (H.new (.cells c s .solo)) s (.slice (some ⟨H.next, 0, none⟩) 1 1) [c] := by
  refine ⟨_, _, rfl, .inr ⟨H.next, 0, c, s, .solo, rfl, Nat.lt_succ_self _, get_new_eq rfl, trivial, fun i x hi => ?_⟩⟩
  cases i with
  | zero =>
    simp only [List.getElem?_cons_zero, Option.some.injEq] at hi
    subst hi
    refine ⟨hc, by omega, ?_⟩
    simp [← hc]
  | succ i => simp at hi

theorem build1 (H : AH) (a f n k p : Int) (s : ByteArray) : aBuildSlice Tryz.prog H 25 1 [(0, .agg #[.int .u8 a, .int .u8 f, .string s, .int .i64 n, .int .i64 k, .int .i64 p])] = some (.slice (some ⟨H.next, 0, none⟩) 1 1, H.new (.cells (nd a f s n k p) 6 .solo)) := by
  have e1 : elemT Tryz.prog 25 = some 38 := by kernel_rfl
  have e2 : zerosT Tryz.prog 38 1 = some [.int .u8 0, .int .u8 0, .string ⟨#[]⟩, .int .i64 0, .int .i64 0, .int .i64 0] := by kernel_rfl
  unfold aBuildSlice
  simp only [e1, sz38, e2]
  rfl

set_option maxRecDepth 10000 in
set_option maxHeartbeats 4000000 in
theorem cnod_wf (H : AH) (v : Value) (xs : List (List Value)) (h1 : Rd H 6 v xs) (hx : Nodes xs) (hl : xs.length ≤ 1048576) :
    Wf cfg 11 [v] H fun r H' => ((xs = [] ∧ r = .slice none 0 0 ∧ H' = H) ∨ (xs ≠ [] ∧ r = .slice (some ⟨H.next, 0, none⟩) xs.length xs.length ∧ xs.flatten.length = xs.length * 6 ∧ H' = H.new (.cells xs.flatten 6 .solo))) := by
  refine wf_text (fn := Tryz.f11) rfl Tryz.func11 rfl rfl ?_
  repeat (first
    | (with_reducible refine sc_seq ?_)
    | (with_reducible refine sc_region ?_)
    | (with_reducible refine sc_block ?_)
    | (with_reducible refine sc_scope ?_)
    | ((with_reducible refine sc_skip ?_); dsimp only)
    | ((with_reducible refine sc_label ?_); dsimp only)
    | ((with_reducible refine sc_ret ?_); dsimp only)
    | ((with_reducible refine sc_exit ?_); dsimp only [Nat.beq])
    | ((with_reducible refine so_nil ?_); dsimp only)
    | ((with_reducible apply so_skip); (case hw => simp only [aWanted, aYield, List.getElem?_toArray, at_some, at_none, at_args, Option.getD_some, Option.getD_none, List.getElem?_cons_zero, List.getElem?_cons_succ, List.getElem?_nil, decide_true, decide_false, Bool.not_true, Bool.not_false, reduceIte, Nat.reduceEqDiff, b_tf, b_ft, beq_self_eq_true, Bool.false_eq_true, Bool.true_eq_false]; done))
    | ((with_reducible apply so_val); (case hw => simp only [aWanted, aYield, List.getElem?_toArray, at_some, at_none, at_args, Option.getD_some, Option.getD_none, List.getElem?_cons_zero, List.getElem?_cons_succ, List.getElem?_nil, decide_true, decide_false, Bool.not_true, Bool.not_false, reduceIte, Nat.reduceEqDiff, b_tf, b_ft, beq_self_eq_true, Bool.false_eq_true, Bool.true_eq_false]; done); (case ha => simp (disch := (refine id ?_; first | assumption | omega | (simp only [new_next, new_base, upd_next, upd_base, List.length_cons, List.length_nil, List.all_cons, List.all_nil, oneCell, Bool.and_self, Bool.and_true]; done) | (simp only [new_next, new_base, upd_next, upd_base, List.length_cons, List.length_nil]; omega))) only [aOp, ev, at_some, at_none, at_args, Option.getD_some, Option.getD_none, List.getElem?_cons_zero, List.getElem?_cons_succ, List.getElem?_nil, decide_true, decide_false, Bool.not_true, Bool.not_false, aBin_int, aBin_str, str_refl, int_refl, int_nrefl, aInt, aStr, aUn, AR.of, AR.ofB, AR.ofH, reduceIte, Nat.reduceEqDiff, aBuiltin, aLen, aField, aFieldAddr, aIndexAddr, aStore, aLoad, cellsL, oneCell, splice, new_next, new_base, upd_next, upd_base, cell_new_ne, cell_new_eq, cell_upd_ne, cell_upd_eq, loads_new_ne, loads_new_eq, loads_upd_ne, loads_upd_eq, stores_new_eq, stores_new_ne, stores_upd_ne, Option.map_some, List.toList_toArray, List.length_cons, List.length_nil, List.take_succ_cons, List.take_zero, List.drop_succ_cons, List.drop_zero, List.all_cons, List.all_nil, Bool.and_self, Bool.and_true, List.cons_append, List.nil_append, List.append_nil, List.append_eq, Nat.reduceBEq, Nat.reduceLeDiff, Nat.zero_add, Nat.add_zero, Nat.reduceMul, Nat.reduceSub, Nat.reduceLT, Nat.beq_refl, List.map_cons, List.map_nil, Nat.reduceAdd, cfg_P, sz3, sz38, agg3, agg38, und25, fld38_4, fld38_5, zero38, und26, sz24, sz9, a9, agg24, fld24_0, fld24_1, fld38_0, sz35, a35] <;> with_reducible rfl))
    | ((with_reducible apply sc_false); (case hc => simp only [ev, at_some, at_none, at_args, Option.getD_some, Option.getD_none, List.getElem?_cons_zero, List.getElem?_cons_succ, List.getElem?_nil, decide_true, decide_false, Bool.not_true, Bool.not_false, reduceIte, Nat.reduceEqDiff]; done))
    | ((with_reducible apply sc_true); (case hc => simp only [ev, at_some, at_none, at_args, Option.getD_some, Option.getD_none, List.getElem?_cons_zero, List.getElem?_cons_succ, List.getElem?_nil, decide_true, decide_false, Bool.not_true, Bool.not_false, reduceIte, Nat.reduceEqDiff]; done)))
  refine so_append rfl (by simp only [aWanted, aYield, List.getElem?_toArray, at_some, at_none, at_args, Option.getD_some, Option.getD_none, List.getElem?_cons_zero, List.getElem?_cons_succ, List.getElem?_nil, decide_true, decide_false, Bool.not_true, Bool.not_false, reduceIte, Nat.reduceEqDiff, b_tf, b_ft, beq_self_eq_true, Bool.false_eq_true, Bool.true_eq_false]) (by first | (simp only [ev, at_some, at_none, at_args, Option.getD_some, Option.getD_none, List.getElem?_cons_zero, List.getElem?_cons_succ, List.getElem?_nil, decide_true, decide_false, Bool.not_true, Bool.not_false, reduceIte, Nat.reduceEqDiff]; done) | (simp only [ev, at_some, at_none, at_args, Option.getD_some, Option.getD_none, List.getElem?_cons_zero, List.getElem?_cons_succ, List.getElem?_nil, decide_true, decide_false, Bool.not_true, Bool.not_false, reduceIte, Nat.reduceEqDiff]; rfl)) (by first | (simp only [ev, at_some, at_none, at_args, Option.getD_some, Option.getD_none, List.getElem?_cons_zero, List.getElem?_cons_succ, List.getElem?_nil, decide_true, decide_false, Bool.not_true, Bool.not_false, reduceIte, Nat.reduceEqDiff]; done) | (simp only [ev, at_some, at_none, at_args, Option.getD_some, Option.getD_none, List.getElem?_cons_zero, List.getElem?_cons_succ, List.getElem?_nil, decide_true, decide_false, Bool.not_true, Bool.not_false, reduceIte, Nat.reduceEqDiff]; rfl)) ?_
  obtain ⟨v', ha, hv⟩ := append_nil (P := cfg.P) el25 h1 (nodes_one hx) (by omega)
  refine ⟨v', _, ha, ?_⟩
  repeat (first
    | (with_reducible refine sc_seq ?_)
    | (with_reducible refine sc_region ?_)
    | (with_reducible refine sc_block ?_)
    | (with_reducible refine sc_scope ?_)
    | ((with_reducible refine sc_skip ?_); dsimp only)
    | ((with_reducible refine sc_label ?_); dsimp only)
    | ((with_reducible refine sc_ret ?_); dsimp only)
    | ((with_reducible refine sc_exit ?_); dsimp only [Nat.beq])
    | ((with_reducible refine so_nil ?_); dsimp only)
    | ((with_reducible apply so_skip); (case hw => simp only [aWanted, aYield, List.getElem?_toArray, at_some, at_none, at_args, Option.getD_some, Option.getD_none, List.getElem?_cons_zero, List.getElem?_cons_succ, List.getElem?_nil, decide_true, decide_false, Bool.not_true, Bool.not_false, reduceIte, Nat.reduceEqDiff, b_tf, b_ft, beq_self_eq_true, Bool.false_eq_true, Bool.true_eq_false]; done))
    | ((with_reducible apply so_val); (case hw => simp only [aWanted, aYield, List.getElem?_toArray, at_some, at_none, at_args, Option.getD_some, Option.getD_none, List.getElem?_cons_zero, List.getElem?_cons_succ, List.getElem?_nil, decide_true, decide_false, Bool.not_true, Bool.not_false, reduceIte, Nat.reduceEqDiff, b_tf, b_ft, beq_self_eq_true, Bool.false_eq_true, Bool.true_eq_false]; done); (case ha => simp (disch := (refine id ?_; first | assumption | omega | (simp only [new_next, new_base, upd_next, upd_base, List.length_cons, List.length_nil, List.all_cons, List.all_nil, oneCell, Bool.and_self, Bool.and_true]; done) | (simp only [new_next, new_base, upd_next, upd_base, List.length_cons, List.length_nil]; omega))) only [aOp, ev, at_some, at_none, at_args, Option.getD_some, Option.getD_none, List.getElem?_cons_zero, List.getElem?_cons_succ, List.getElem?_nil, decide_true, decide_false, Bool.not_true, Bool.not_false, aBin_int, aBin_str, str_refl, int_refl, int_nrefl, aInt, aStr, aUn, AR.of, AR.ofB, AR.ofH, reduceIte, Nat.reduceEqDiff, aBuiltin, aLen, aField, aFieldAddr, aIndexAddr, aStore, aLoad, cellsL, oneCell, splice, new_next, new_base, upd_next, upd_base, cell_new_ne, cell_new_eq, cell_upd_ne, cell_upd_eq, loads_new_ne, loads_new_eq, loads_upd_ne, loads_upd_eq, stores_new_eq, stores_new_ne, stores_upd_ne, Option.map_some, List.toList_toArray, List.length_cons, List.length_nil, List.take_succ_cons, List.take_zero, List.drop_succ_cons, List.drop_zero, List.all_cons, List.all_nil, Bool.and_self, Bool.and_true, List.cons_append, List.nil_append, List.append_nil, List.append_eq, Nat.reduceBEq, Nat.reduceLeDiff, Nat.zero_add, Nat.add_zero, Nat.reduceMul, Nat.reduceSub, Nat.reduceLT, Nat.beq_refl, List.map_cons, List.map_nil, Nat.reduceAdd, cfg_P, sz3, sz38, agg3, agg38, und25, fld38_4, fld38_5, zero38, und26, sz24, sz9, a9, agg24, fld24_0, fld24_1, fld38_0, sz35, a35] <;> with_reducible rfl))
    | ((with_reducible apply sc_false); (case hc => simp only [ev, at_some, at_none, at_args, Option.getD_some, Option.getD_none, List.getElem?_cons_zero, List.getElem?_cons_succ, List.getElem?_nil, decide_true, decide_false, Bool.not_true, Bool.not_false, reduceIte, Nat.reduceEqDiff]; done))
    | ((with_reducible apply sc_true); (case hc => simp only [ev, at_some, at_none, at_args, Option.getD_some, Option.getD_none, List.getElem?_cons_zero, List.getElem?_cons_succ, List.getElem?_nil, decide_true, decide_false, Bool.not_true, Bool.not_false, reduceIte, Nat.reduceEqDiff]; done)))
  apply res_fin (rs := [ResultVar.tmp 2]) trivial
  case h => simp (disch := (refine id ?_; first | assumption | omega | (simp only [new_next, new_base, upd_next, upd_base, List.length_cons, List.length_nil, List.all_cons, List.all_nil, oneCell, Bool.and_self, Bool.and_true]; done) | (simp only [new_next, new_base, upd_next, upd_base, List.length_cons, List.length_nil]; omega))) only [aResults, aResult, aOp, ev, at_some, at_none, at_args, Option.getD_some, Option.getD_none, List.getElem?_cons_zero, List.getElem?_cons_succ, List.getElem?_nil, decide_true, decide_false, Bool.not_true, Bool.not_false, aBin_int, aBin_str, str_refl, int_refl, int_nrefl, aInt, aStr, aUn, AR.of, AR.ofB, AR.ofH, reduceIte, Nat.reduceEqDiff, aBuiltin, aLen, aField, aFieldAddr, aIndexAddr, aStore, aLoad, cellsL, oneCell, splice, new_next, new_base, upd_next, upd_base, cell_new_ne, cell_new_eq, cell_upd_ne, cell_upd_eq, loads_new_ne, loads_new_eq, loads_upd_ne, loads_upd_eq, stores_new_eq, stores_new_ne, stores_upd_ne, Option.map_some, List.toList_toArray, List.length_cons, List.length_nil, List.take_succ_cons, List.take_zero, List.drop_succ_cons, List.drop_zero, List.all_cons, List.all_nil, Bool.and_self, Bool.and_true, List.cons_append, List.nil_append, List.append_nil, List.append_eq, Nat.reduceBEq, Nat.reduceLeDiff, Nat.zero_add, Nat.add_zero, Nat.reduceMul, Nat.reduceSub, Nat.reduceLT, Nat.beq_refl, List.map_cons, List.map_nil, Nat.reduceAdd, cfg_P, sz3, sz38, agg3, agg38, und25, fld38_4, fld38_5, zero38, und26, sz24, sz9, a9, agg24, fld24_0, fld24_1, fld38_0, sz35, a35] <;> with_reducible rfl
  case hq =>
    rcases hv with ⟨h2, h3⟩ | ⟨h2, h3, h4⟩
    · exact .inl ⟨h2, h3, if_pos h2⟩
    · exact .inr ⟨h2, h3, h4, if_neg h2⟩

/-- Is a node a call? -/
def opCall : List Value → Bool
  | .int _ a :: _ => a == 2
  | _ => false
theorem take_yes {xs : List (List Value)} {t : Nat} {x : List Value} (h : xs[t]? = some x) (ho : opCall x = true) : (xs.take (t + 1)).filter opCall = (xs.take t).filter opCall ++ [x] := by
  rw [List.take_add_one, h]
  simp [ho]
theorem take_no {xs : List (List Value)} {t : Nat} {x : List Value} (h : xs[t]? = some x) (ho : opCall x = false) : (xs.take (t + 1)).filter opCall = (xs.take t).filter opCall := by
  rw [List.take_add_one, h]
  simp [ho]
theorem take_le (xs : List (List Value)) (t : Nat) : ((xs.take t).filter opCall).length ≤ xs.length := Nat.le_trans (List.length_filter_le ..) (by rw [List.length_take]; omega)

set_option maxRecDepth 10000 in
set_option maxHeartbeats 4000000 in
theorem calls_wf (H : AH) (hb : H.base ≤ H.next) (v : Value) (xs : List (List Value)) (h1 : Rd H 6 v xs) (hx : Nodes xs) (hl : xs.length ≤ 1048576) :
    Wf cfg 6 [v] H fun r H' => Gr H' H.next 6 r (xs.filter opCall) ∧ Ext H H' := by
  obtain ⟨q1, q2, e1, _⟩ := id h1
  refine wf_text (fn := Tryz.f6) rfl Tryz.func6 rfl rfl ?_
  repeat (first
    | (with_reducible refine sc_seq ?_)
    | (with_reducible refine sc_region ?_)
    | (with_reducible refine sc_block ?_)
    | (with_reducible refine sc_scope ?_)
    | ((with_reducible refine sc_skip ?_); dsimp only)
    | ((with_reducible refine sc_label ?_); dsimp only)
    | ((with_reducible refine sc_ret ?_); dsimp only)
    | ((with_reducible refine sc_exit ?_); dsimp only [Nat.beq])
    | ((with_reducible refine so_nil ?_); dsimp only)
    | ((with_reducible apply so_skip); (case hw => simp only [aWanted, aYield, List.getElem?_toArray, at_some, at_none, at_args, Option.getD_some, Option.getD_none, List.getElem?_cons_zero, List.getElem?_cons_succ, List.getElem?_nil, decide_true, decide_false, Bool.not_true, Bool.not_false, e1, reduceIte, Nat.reduceEqDiff, b_tf, b_ft, beq_self_eq_true, Bool.false_eq_true, Bool.true_eq_false]; done))
    | ((with_reducible apply so_val); (case hw => simp only [aWanted, aYield, List.getElem?_toArray, at_some, at_none, at_args, Option.getD_some, Option.getD_none, List.getElem?_cons_zero, List.getElem?_cons_succ, List.getElem?_nil, decide_true, decide_false, Bool.not_true, Bool.not_false, e1, reduceIte, Nat.reduceEqDiff, b_tf, b_ft, beq_self_eq_true, Bool.false_eq_true, Bool.true_eq_false]; done); (case ha => simp (disch := (refine id ?_; first | assumption | omega | (simp only [new_next, new_base, upd_next, upd_base, List.length_cons, List.length_nil, List.all_cons, List.all_nil, oneCell, Bool.and_self, Bool.and_true]; done) | (simp only [new_next, new_base, upd_next, upd_base, List.length_cons, List.length_nil]; omega))) only [aOp, ev, at_some, at_none, at_args, Option.getD_some, Option.getD_none, List.getElem?_cons_zero, List.getElem?_cons_succ, List.getElem?_nil, decide_true, decide_false, Bool.not_true, Bool.not_false, e1, aBin_int, aBin_str, str_refl, int_refl, int_nrefl, aInt, aStr, aUn, AR.of, AR.ofB, AR.ofH, reduceIte, Nat.reduceEqDiff, aBuiltin, aLen, aField, aFieldAddr, aIndexAddr, aStore, aLoad, cellsL, oneCell, splice, new_next, new_base, upd_next, upd_base, cell_new_ne, cell_new_eq, cell_upd_ne, cell_upd_eq, loads_new_ne, loads_new_eq, loads_upd_ne, loads_upd_eq, stores_new_eq, stores_new_ne, stores_upd_ne, Option.map_some, List.toList_toArray, List.length_cons, List.length_nil, List.take_succ_cons, List.take_zero, List.drop_succ_cons, List.drop_zero, List.all_cons, List.all_nil, Bool.and_self, Bool.and_true, List.cons_append, List.nil_append, List.append_nil, List.append_eq, Nat.reduceBEq, Nat.reduceLeDiff, Nat.zero_add, Nat.add_zero, Nat.reduceMul, Nat.reduceSub, Nat.reduceLT, Nat.beq_refl, List.map_cons, List.map_nil, Nat.reduceAdd, cfg_P, sz3, sz38, agg3, agg38, und25, fld38_4, fld38_5, zero38, und26, sz24, sz9, a9, agg24, fld24_0, fld24_1, fld38_0, sz35, a35] <;> with_reducible rfl))
    | ((with_reducible apply sc_false); (case hc => simp only [ev, at_some, at_none, at_args, Option.getD_some, Option.getD_none, List.getElem?_cons_zero, List.getElem?_cons_succ, List.getElem?_nil, decide_true, decide_false, Bool.not_true, Bool.not_false, e1, reduceIte, Nat.reduceEqDiff]; done))
    | ((with_reducible apply sc_true); (case hc => simp only [ev, at_some, at_none, at_args, Option.getD_some, Option.getD_none, List.getElem?_cons_zero, List.getElem?_cons_succ, List.getElem?_nil, decide_true, decide_false, Bool.not_true, Bool.not_false, e1, reduceIte, Nat.reduceEqDiff]; done)))
  refine sc_loop (I := fun n fr G => Ext H G ∧ ∃ t : Nat, t ≤ xs.length ∧ n = xs.length - t ∧ Fr.at fr 6 = v ∧ Fr.at fr 7 = .int .i64 xs.length ∧ Fr.at fr 8 = .int .i64 t ∧ Gr G H.next 6 (Fr.at fr 3) ((xs.take t).filter opCall)) ?_ xs.length _ _ ?_
  rotate_left
  · refine ⟨Ext.refl H, 0, by omega, rfl, ?_, ?_, ?_, ?_⟩ <;> simp only [at_some, at_none, at_args, List.getElem?_cons_zero, List.getElem?_cons_succ, Option.getD_some, reduceIte, Nat.reduceEqDiff, e1, List.take_zero, List.filter_nil]
    · rfl
    · exact Gr.nil ..
  rintro n fr G ⟨hG, t, ht, rfl, f6, f7, f8, hgr⟩
  obtain ⟨out, f3⟩ : ∃ out, Fr.at fr 3 = out := ⟨_, rfl⟩
  rw [f3] at hgr
  by_cases hlt : t < xs.length
  · obtain ⟨x, hxt⟩ : ∃ x, xs[t]? = some x := ⟨_, List.getElem?_eq_getElem hlt⟩
    obtain ⟨a, f, s, n, k, p, rfl⟩ := hx x (List.mem_of_getElem? hxt)
    obtain ⟨b1, o1, c1, rfl, hb1, _, l1, _⟩ := (h1.mono hG).at hxt
    have g1 : decide ((t : Int) < (xs.length : Int)) = true := decT (by omega)
    have g2 : (0 ≤ (t : Int) ∧ (t : Int) < (xs.length : Int)) := by omega
    have hbG : G.base ≤ G.next := by rw [hG.base]; exact Nat.le_trans hb hG.next
    by_cases ha : a = 2
    · subst ha
      repeat (first
        | (with_reducible refine sc_seq ?_)
        | (with_reducible refine sc_region ?_)
        | (with_reducible refine sc_block ?_)
        | (with_reducible refine sc_scope ?_)
        | ((with_reducible refine sc_skip ?_); dsimp only)
        | ((with_reducible refine sc_label ?_); dsimp only)
        | ((with_reducible refine sc_ret ?_); dsimp only)
        | ((with_reducible refine sc_exit ?_); dsimp only [Nat.beq])
        | ((with_reducible refine so_nil ?_); dsimp only)
        | ((with_reducible apply so_skip); (case hw => simp only [aWanted, aYield, List.getElem?_toArray, at_some, at_none, at_args, Option.getD_some, Option.getD_none, List.getElem?_cons_zero, List.getElem?_cons_succ, List.getElem?_nil, decide_true, decide_false, Bool.not_true, Bool.not_false, f3, f6, f7, f8, g1, g2, l1, if_true, Int.toNat_natCast, true_and, and_self, build1, reduceIte, Nat.reduceEqDiff, b_tf, b_ft, beq_self_eq_true, Bool.false_eq_true, Bool.true_eq_false]; done))
        | ((with_reducible apply so_val); (case hw => simp only [aWanted, aYield, List.getElem?_toArray, at_some, at_none, at_args, Option.getD_some, Option.getD_none, List.getElem?_cons_zero, List.getElem?_cons_succ, List.getElem?_nil, decide_true, decide_false, Bool.not_true, Bool.not_false, f3, f6, f7, f8, g1, g2, l1, if_true, Int.toNat_natCast, true_and, and_self, build1, reduceIte, Nat.reduceEqDiff, b_tf, b_ft, beq_self_eq_true, Bool.false_eq_true, Bool.true_eq_false]; done); (case ha => simp (disch := (refine id ?_; first | assumption | omega | (simp only [new_next, new_base, upd_next, upd_base, List.length_cons, List.length_nil, List.all_cons, List.all_nil, oneCell, Bool.and_self, Bool.and_true]; done) | (simp only [new_next, new_base, upd_next, upd_base, List.length_cons, List.length_nil]; omega))) only [aOp, ev, at_some, at_none, at_args, Option.getD_some, Option.getD_none, List.getElem?_cons_zero, List.getElem?_cons_succ, List.getElem?_nil, decide_true, decide_false, Bool.not_true, Bool.not_false, f3, f6, f7, f8, g1, g2, l1, if_true, Int.toNat_natCast, true_and, and_self, build1, aBin_int, aBin_str, str_refl, int_refl, int_nrefl, aInt, aStr, aUn, AR.of, AR.ofB, AR.ofH, reduceIte, Nat.reduceEqDiff, aBuiltin, aLen, aField, aFieldAddr, aIndexAddr, aStore, aLoad, cellsL, oneCell, splice, new_next, new_base, upd_next, upd_base, cell_new_ne, cell_new_eq, cell_upd_ne, cell_upd_eq, loads_new_ne, loads_new_eq, loads_upd_ne, loads_upd_eq, stores_new_eq, stores_new_ne, stores_upd_ne, Option.map_some, List.toList_toArray, List.length_cons, List.length_nil, List.take_succ_cons, List.take_zero, List.drop_succ_cons, List.drop_zero, List.all_cons, List.all_nil, Bool.and_self, Bool.and_true, List.cons_append, List.nil_append, List.append_nil, List.append_eq, Nat.reduceBEq, Nat.reduceLeDiff, Nat.zero_add, Nat.add_zero, Nat.reduceMul, Nat.reduceSub, Nat.reduceLT, Nat.beq_refl, List.map_cons, List.map_nil, Nat.reduceAdd, cfg_P, sz3, sz38, agg3, agg38, und25, fld38_4, fld38_5, zero38, und26, sz24, sz9, a9, agg24, fld24_0, fld24_1, fld38_0, sz35, a35] <;> with_reducible rfl))
        | ((with_reducible apply sc_false); (case hc => simp only [ev, at_some, at_none, at_args, Option.getD_some, Option.getD_none, List.getElem?_cons_zero, List.getElem?_cons_succ, List.getElem?_nil, decide_true, decide_false, Bool.not_true, Bool.not_false, f3, f6, f7, f8, g1, g2, l1, if_true, Int.toNat_natCast, true_and, and_self, build1, reduceIte, Nat.reduceEqDiff]; done))
        | ((with_reducible apply sc_true); (case hc => simp only [ev, at_some, at_none, at_args, Option.getD_some, Option.getD_none, List.getElem?_cons_zero, List.getElem?_cons_succ, List.getElem?_nil, decide_true, decide_false, Bool.not_true, Bool.not_false, f3, f6, f7, f8, g1, g2, l1, if_true, Int.toNat_natCast, true_and, and_self, build1, reduceIte, Nat.reduceEqDiff]; done)))
      refine so_append rfl (by simp only [aWanted, aYield, List.getElem?_toArray, at_some, at_none, at_args, Option.getD_some, Option.getD_none, List.getElem?_cons_zero, List.getElem?_cons_succ, List.getElem?_nil, decide_true, decide_false, Bool.not_true, Bool.not_false, f3, f6, f7, f8, reduceIte, Nat.reduceEqDiff, b_tf, b_ft, beq_self_eq_true, Bool.false_eq_true, Bool.true_eq_false]) (by first | (simp only [ev, at_some, at_none, at_args, Option.getD_some, Option.getD_none, List.getElem?_cons_zero, List.getElem?_cons_succ, List.getElem?_nil, decide_true, decide_false, Bool.not_true, Bool.not_false, f3, f6, f7, f8, reduceIte, Nat.reduceEqDiff]; done) | (simp only [ev, at_some, at_none, at_args, Option.getD_some, Option.getD_none, List.getElem?_cons_zero, List.getElem?_cons_succ, List.getElem?_nil, decide_true, decide_false, Bool.not_true, Bool.not_false, f3, f6, f7, f8, reduceIte, Nat.reduceEqDiff]; rfl)) (by first | (simp only [ev, at_some, at_none, at_args, Option.getD_some, Option.getD_none, List.getElem?_cons_zero, List.getElem?_cons_succ, List.getElem?_nil, decide_true, decide_false, Bool.not_true, Bool.not_false, f3, f6, f7, f8, reduceIte, Nat.reduceEqDiff]; done) | (simp only [ev, at_some, at_none, at_args, Option.getD_some, Option.getD_none, List.getElem?_cons_zero, List.getElem?_cons_succ, List.getElem?_nil, decide_true, decide_false, Bool.not_true, Bool.not_false, f3, f6, f7, f8, reduceIte, Nat.reduceEqDiff]; rfl)) ?_
      obtain ⟨v', H', h3, h4, h5⟩ := append_gr (P := cfg.P) el25 (lo := H.next) (xs := [nd 2 f s n k p]) (hgr.mono (((Ext.new G _).step _))) (Rd.one (c := nd 2 f s n k p) rfl) rfl (by have := take_le xs t; simp only [List.length_singleton]; omega) (by simp only [new_next]; have := hG.next; omega) (by simp only [new_base]; rw [hG.base]; exact hb)
      refine ⟨v', H', h3, ?_⟩
      repeat (first
        | (with_reducible refine sc_seq ?_)
        | (with_reducible refine sc_region ?_)
        | (with_reducible refine sc_block ?_)
        | (with_reducible refine sc_scope ?_)
        | ((with_reducible refine sc_skip ?_); dsimp only)
        | ((with_reducible refine sc_label ?_); dsimp only)
        | ((with_reducible refine sc_ret ?_); dsimp only)
        | ((with_reducible refine sc_exit ?_); dsimp only [Nat.beq])
        | ((with_reducible refine so_nil ?_); dsimp only)
        | ((with_reducible apply so_skip); (case hw => simp only [aWanted, aYield, List.getElem?_toArray, at_some, at_none, at_args, Option.getD_some, Option.getD_none, List.getElem?_cons_zero, List.getElem?_cons_succ, List.getElem?_nil, decide_true, decide_false, Bool.not_true, Bool.not_false, f3, f6, f7, f8, reduceIte, Nat.reduceEqDiff, b_tf, b_ft, beq_self_eq_true, Bool.false_eq_true, Bool.true_eq_false]; done))
        | ((with_reducible apply so_val); (case hw => simp only [aWanted, aYield, List.getElem?_toArray, at_some, at_none, at_args, Option.getD_some, Option.getD_none, List.getElem?_cons_zero, List.getElem?_cons_succ, List.getElem?_nil, decide_true, decide_false, Bool.not_true, Bool.not_false, f3, f6, f7, f8, reduceIte, Nat.reduceEqDiff, b_tf, b_ft, beq_self_eq_true, Bool.false_eq_true, Bool.true_eq_false]; done); (case ha => simp (disch := (refine id ?_; first | assumption | omega | (simp only [new_next, new_base, upd_next, upd_base, List.length_cons, List.length_nil, List.all_cons, List.all_nil, oneCell, Bool.and_self, Bool.and_true]; done) | (simp only [new_next, new_base, upd_next, upd_base, List.length_cons, List.length_nil]; omega))) only [aOp, ev, at_some, at_none, at_args, Option.getD_some, Option.getD_none, List.getElem?_cons_zero, List.getElem?_cons_succ, List.getElem?_nil, decide_true, decide_false, Bool.not_true, Bool.not_false, f3, f6, f7, f8, aBin_int, aBin_str, str_refl, int_refl, int_nrefl, aInt, aStr, aUn, AR.of, AR.ofB, AR.ofH, reduceIte, Nat.reduceEqDiff, aBuiltin, aLen, aField, aFieldAddr, aIndexAddr, aStore, aLoad, cellsL, oneCell, splice, new_next, new_base, upd_next, upd_base, cell_new_ne, cell_new_eq, cell_upd_ne, cell_upd_eq, loads_new_ne, loads_new_eq, loads_upd_ne, loads_upd_eq, stores_new_eq, stores_new_ne, stores_upd_ne, Option.map_some, List.toList_toArray, List.length_cons, List.length_nil, List.take_succ_cons, List.take_zero, List.drop_succ_cons, List.drop_zero, List.all_cons, List.all_nil, Bool.and_self, Bool.and_true, List.cons_append, List.nil_append, List.append_nil, List.append_eq, Nat.reduceBEq, Nat.reduceLeDiff, Nat.zero_add, Nat.add_zero, Nat.reduceMul, Nat.reduceSub, Nat.reduceLT, Nat.beq_refl, List.map_cons, List.map_nil, Nat.reduceAdd, cfg_P, sz3, sz38, agg3, agg38, und25, fld38_4, fld38_5, zero38, und26, sz24, sz9, a9, agg24, fld24_0, fld24_1, fld38_0, sz35, a35] <;> with_reducible rfl))
        | ((with_reducible apply sc_false); (case hc => simp only [ev, at_some, at_none, at_args, Option.getD_some, Option.getD_none, List.getElem?_cons_zero, List.getElem?_cons_succ, List.getElem?_nil, decide_true, decide_false, Bool.not_true, Bool.not_false, f3, f6, f7, f8, reduceIte, Nat.reduceEqDiff]; done))
        | ((with_reducible apply sc_true); (case hc => simp only [ev, at_some, at_none, at_args, Option.getD_some, Option.getD_none, List.getElem?_cons_zero, List.getElem?_cons_succ, List.getElem?_nil, decide_true, decide_false, Bool.not_true, Bool.not_false, f3, f6, f7, f8, reduceIte, Nat.reduceEqDiff]; done)))
      refine ⟨xs.length - (t + 1), by omega, h5.ext ((hG.step _).step _) (Nat.le_refl _), t + 1, by omega, rfl, ?_, ?_, ?_, ?_⟩ <;> simp only [at_some, at_none, f3, f6, f7, f8, reduceIte, Nat.reduceEqDiff]
      · congr 1
        simp [IntKind.wrap, IntKind.bits, IntKind.signed]; omega
      · rw [take_yes hxt rfl]; exact h4
    · have g3 : (a == 2) = false := by simpa using ha
      repeat (first
        | (with_reducible refine sc_seq ?_)
        | (with_reducible refine sc_region ?_)
        | (with_reducible refine sc_block ?_)
        | (with_reducible refine sc_scope ?_)
        | ((with_reducible refine sc_skip ?_); dsimp only)
        | ((with_reducible refine sc_label ?_); dsimp only)
        | ((with_reducible refine sc_ret ?_); dsimp only)
        | ((with_reducible refine sc_exit ?_); dsimp only [Nat.beq])
        | ((with_reducible refine so_nil ?_); dsimp only)
        | ((with_reducible apply so_skip); (case hw => simp only [aWanted, aYield, List.getElem?_toArray, at_some, at_none, at_args, Option.getD_some, Option.getD_none, List.getElem?_cons_zero, List.getElem?_cons_succ, List.getElem?_nil, decide_true, decide_false, Bool.not_true, Bool.not_false, f3, f6, f7, f8, g1, g2, l1, if_true, Int.toNat_natCast, true_and, and_self, g3, reduceIte, Nat.reduceEqDiff, b_tf, b_ft, beq_self_eq_true, Bool.false_eq_true, Bool.true_eq_false]; done))
        | ((with_reducible apply so_val); (case hw => simp only [aWanted, aYield, List.getElem?_toArray, at_some, at_none, at_args, Option.getD_some, Option.getD_none, List.getElem?_cons_zero, List.getElem?_cons_succ, List.getElem?_nil, decide_true, decide_false, Bool.not_true, Bool.not_false, f3, f6, f7, f8, g1, g2, l1, if_true, Int.toNat_natCast, true_and, and_self, g3, reduceIte, Nat.reduceEqDiff, b_tf, b_ft, beq_self_eq_true, Bool.false_eq_true, Bool.true_eq_false]; done); (case ha => simp (disch := (refine id ?_; first | assumption | omega | (simp only [new_next, new_base, upd_next, upd_base, List.length_cons, List.length_nil, List.all_cons, List.all_nil, oneCell, Bool.and_self, Bool.and_true]; done) | (simp only [new_next, new_base, upd_next, upd_base, List.length_cons, List.length_nil]; omega))) only [aOp, ev, at_some, at_none, at_args, Option.getD_some, Option.getD_none, List.getElem?_cons_zero, List.getElem?_cons_succ, List.getElem?_nil, decide_true, decide_false, Bool.not_true, Bool.not_false, f3, f6, f7, f8, g1, g2, l1, if_true, Int.toNat_natCast, true_and, and_self, g3, aBin_int, aBin_str, str_refl, int_refl, int_nrefl, aInt, aStr, aUn, AR.of, AR.ofB, AR.ofH, reduceIte, Nat.reduceEqDiff, aBuiltin, aLen, aField, aFieldAddr, aIndexAddr, aStore, aLoad, cellsL, oneCell, splice, new_next, new_base, upd_next, upd_base, cell_new_ne, cell_new_eq, cell_upd_ne, cell_upd_eq, loads_new_ne, loads_new_eq, loads_upd_ne, loads_upd_eq, stores_new_eq, stores_new_ne, stores_upd_ne, Option.map_some, List.toList_toArray, List.length_cons, List.length_nil, List.take_succ_cons, List.take_zero, List.drop_succ_cons, List.drop_zero, List.all_cons, List.all_nil, Bool.and_self, Bool.and_true, List.cons_append, List.nil_append, List.append_nil, List.append_eq, Nat.reduceBEq, Nat.reduceLeDiff, Nat.zero_add, Nat.add_zero, Nat.reduceMul, Nat.reduceSub, Nat.reduceLT, Nat.beq_refl, List.map_cons, List.map_nil, Nat.reduceAdd, cfg_P, sz3, sz38, agg3, agg38, und25, fld38_4, fld38_5, zero38, und26, sz24, sz9, a9, agg24, fld24_0, fld24_1, fld38_0, sz35, a35] <;> with_reducible rfl))
        | ((with_reducible apply sc_false); (case hc => simp only [ev, at_some, at_none, at_args, Option.getD_some, Option.getD_none, List.getElem?_cons_zero, List.getElem?_cons_succ, List.getElem?_nil, decide_true, decide_false, Bool.not_true, Bool.not_false, f3, f6, f7, f8, g1, g2, l1, if_true, Int.toNat_natCast, true_and, and_self, g3, reduceIte, Nat.reduceEqDiff]; done))
        | ((with_reducible apply sc_true); (case hc => simp only [ev, at_some, at_none, at_args, Option.getD_some, Option.getD_none, List.getElem?_cons_zero, List.getElem?_cons_succ, List.getElem?_nil, decide_true, decide_false, Bool.not_true, Bool.not_false, f3, f6, f7, f8, g1, g2, l1, if_true, Int.toNat_natCast, true_and, and_self, g3, reduceIte, Nat.reduceEqDiff]; done)))
      refine ⟨xs.length - (t + 1), by omega, hG.step _, t + 1, by omega, rfl, ?_, ?_, ?_, ?_⟩ <;> simp only [at_some, at_none, f3, f6, f7, f8, reduceIte, Nat.reduceEqDiff]
      · congr 1
        simp [IntKind.wrap, IntKind.bits, IntKind.signed]; omega
      · rw [take_no hxt g3]; exact hgr.mono (Ext.new G _)
  · obtain rfl : t = xs.length := by omega
    have g1 : decide ((xs.length : Int) < (xs.length : Int)) = false := decF (by omega)
    repeat (first
      | (with_reducible refine sc_seq ?_)
      | (with_reducible refine sc_region ?_)
      | (with_reducible refine sc_block ?_)
      | (with_reducible refine sc_scope ?_)
      | ((with_reducible refine sc_skip ?_); dsimp only)
      | ((with_reducible refine sc_label ?_); dsimp only)
      | ((with_reducible refine sc_ret ?_); dsimp only)
      | ((with_reducible refine sc_exit ?_); dsimp only [Nat.beq])
      | ((with_reducible refine so_nil ?_); dsimp only)
      | ((with_reducible apply so_skip); (case hw => simp only [aWanted, aYield, List.getElem?_toArray, at_some, at_none, at_args, Option.getD_some, Option.getD_none, List.getElem?_cons_zero, List.getElem?_cons_succ, List.getElem?_nil, decide_true, decide_false, Bool.not_true, Bool.not_false, f3, f6, f7, f8, g1, reduceIte, Nat.reduceEqDiff, b_tf, b_ft, beq_self_eq_true, Bool.false_eq_true, Bool.true_eq_false]; done))
      | ((with_reducible apply so_val); (case hw => simp only [aWanted, aYield, List.getElem?_toArray, at_some, at_none, at_args, Option.getD_some, Option.getD_none, List.getElem?_cons_zero, List.getElem?_cons_succ, List.getElem?_nil, decide_true, decide_false, Bool.not_true, Bool.not_false, f3, f6, f7, f8, g1, reduceIte, Nat.reduceEqDiff, b_tf, b_ft, beq_self_eq_true, Bool.false_eq_true, Bool.true_eq_false]; done); (case ha => simp (disch := (refine id ?_; first | assumption | omega | (simp only [new_next, new_base, upd_next, upd_base, List.length_cons, List.length_nil, List.all_cons, List.all_nil, oneCell, Bool.and_self, Bool.and_true]; done) | (simp only [new_next, new_base, upd_next, upd_base, List.length_cons, List.length_nil]; omega))) only [aOp, ev, at_some, at_none, at_args, Option.getD_some, Option.getD_none, List.getElem?_cons_zero, List.getElem?_cons_succ, List.getElem?_nil, decide_true, decide_false, Bool.not_true, Bool.not_false, f3, f6, f7, f8, g1, aBin_int, aBin_str, str_refl, int_refl, int_nrefl, aInt, aStr, aUn, AR.of, AR.ofB, AR.ofH, reduceIte, Nat.reduceEqDiff, aBuiltin, aLen, aField, aFieldAddr, aIndexAddr, aStore, aLoad, cellsL, oneCell, splice, new_next, new_base, upd_next, upd_base, cell_new_ne, cell_new_eq, cell_upd_ne, cell_upd_eq, loads_new_ne, loads_new_eq, loads_upd_ne, loads_upd_eq, stores_new_eq, stores_new_ne, stores_upd_ne, Option.map_some, List.toList_toArray, List.length_cons, List.length_nil, List.take_succ_cons, List.take_zero, List.drop_succ_cons, List.drop_zero, List.all_cons, List.all_nil, Bool.and_self, Bool.and_true, List.cons_append, List.nil_append, List.append_nil, List.append_eq, Nat.reduceBEq, Nat.reduceLeDiff, Nat.zero_add, Nat.add_zero, Nat.reduceMul, Nat.reduceSub, Nat.reduceLT, Nat.beq_refl, List.map_cons, List.map_nil, Nat.reduceAdd, cfg_P, sz3, sz38, agg3, agg38, und25, fld38_4, fld38_5, zero38, und26, sz24, sz9, a9, agg24, fld24_0, fld24_1, fld38_0, sz35, a35] <;> with_reducible rfl))
      | ((with_reducible apply sc_false); (case hc => simp only [ev, at_some, at_none, at_args, Option.getD_some, Option.getD_none, List.getElem?_cons_zero, List.getElem?_cons_succ, List.getElem?_nil, decide_true, decide_false, Bool.not_true, Bool.not_false, f3, f6, f7, f8, g1, reduceIte, Nat.reduceEqDiff]; done))
      | ((with_reducible apply sc_true); (case hc => simp only [ev, at_some, at_none, at_args, Option.getD_some, Option.getD_none, List.getElem?_cons_zero, List.getElem?_cons_succ, List.getElem?_nil, decide_true, decide_false, Bool.not_true, Bool.not_false, f3, f6, f7, f8, g1, reduceIte, Nat.reduceEqDiff]; done)))
    apply res_fin (rs := [ResultVar.tmp 2]) trivial
    case h => simp (disch := (refine id ?_; first | assumption | omega | (simp only [new_next, new_base, upd_next, upd_base, List.length_cons, List.length_nil, List.all_cons, List.all_nil, oneCell, Bool.and_self, Bool.and_true]; done) | (simp only [new_next, new_base, upd_next, upd_base, List.length_cons, List.length_nil]; omega))) only [aResults, aResult, aOp, ev, at_some, at_none, at_args, Option.getD_some, Option.getD_none, List.getElem?_cons_zero, List.getElem?_cons_succ, List.getElem?_nil, decide_true, decide_false, Bool.not_true, Bool.not_false, f3, aBin_int, aBin_str, str_refl, int_refl, int_nrefl, aInt, aStr, aUn, AR.of, AR.ofB, AR.ofH, reduceIte, Nat.reduceEqDiff, aBuiltin, aLen, aField, aFieldAddr, aIndexAddr, aStore, aLoad, cellsL, oneCell, splice, new_next, new_base, upd_next, upd_base, cell_new_ne, cell_new_eq, cell_upd_ne, cell_upd_eq, loads_new_ne, loads_new_eq, loads_upd_ne, loads_upd_eq, stores_new_eq, stores_new_ne, stores_upd_ne, Option.map_some, List.toList_toArray, List.length_cons, List.length_nil, List.take_succ_cons, List.take_zero, List.drop_succ_cons, List.drop_zero, List.all_cons, List.all_nil, Bool.and_self, Bool.and_true, List.cons_append, List.nil_append, List.append_nil, List.append_eq, Nat.reduceBEq, Nat.reduceLeDiff, Nat.zero_add, Nat.add_zero, Nat.reduceMul, Nat.reduceSub, Nat.reduceLT, Nat.beq_refl, List.map_cons, List.map_nil, Nat.reduceAdd, cfg_P, sz3, sz38, agg3, agg38, und25, fld38_4, fld38_5, zero38, und26, sz24, sz9, a9, agg24, fld24_0, fld24_1, fld38_0, sz35, a35] <;> with_reducible rfl
    case hq => exact ⟨by rw [List.take_length] at hgr; exact hgr, hG⟩

set_option maxRecDepth 10000 in
set_option maxHeartbeats 4000000 in
theorem rcalls_wf (H : AH) (hb : H.base ≤ H.next) (v : Value) (xs : List (List Value)) (h1 : Rd H 6 v xs) (hx : Nodes xs) (hl : xs.length ≤ 1048576) :
    Wf cfg 7 [v] H fun r H' => Gr H' H.next 6 r (xs.filter opCall) ∧ Ext H H' := by
  obtain ⟨q1, q2, e1, _⟩ := id h1
  refine wf_text (fn := Tryz.f7) rfl Tryz.func7 rfl rfl ?_
  repeat (first
    | (with_reducible refine sc_seq ?_)
    | (with_reducible refine sc_region ?_)
    | (with_reducible refine sc_block ?_)
    | (with_reducible refine sc_scope ?_)
    | ((with_reducible refine sc_skip ?_); dsimp only)
    | ((with_reducible refine sc_label ?_); dsimp only)
    | ((with_reducible refine sc_ret ?_); dsimp only)
    | ((with_reducible refine sc_exit ?_); dsimp only [Nat.beq])
    | ((with_reducible refine so_nil ?_); dsimp only)
    | ((with_reducible apply so_skip); (case hw => simp only [aWanted, aYield, List.getElem?_toArray, at_some, at_none, at_args, Option.getD_some, Option.getD_none, List.getElem?_cons_zero, List.getElem?_cons_succ, List.getElem?_nil, decide_true, decide_false, Bool.not_true, Bool.not_false, e1, reduceIte, Nat.reduceEqDiff, b_tf, b_ft, beq_self_eq_true, Bool.false_eq_true, Bool.true_eq_false]; done))
    | ((with_reducible apply so_val); (case hw => simp only [aWanted, aYield, List.getElem?_toArray, at_some, at_none, at_args, Option.getD_some, Option.getD_none, List.getElem?_cons_zero, List.getElem?_cons_succ, List.getElem?_nil, decide_true, decide_false, Bool.not_true, Bool.not_false, e1, reduceIte, Nat.reduceEqDiff, b_tf, b_ft, beq_self_eq_true, Bool.false_eq_true, Bool.true_eq_false]; done); (case ha => simp (disch := (refine id ?_; first | assumption | omega | (simp only [new_next, new_base, upd_next, upd_base, List.length_cons, List.length_nil, List.all_cons, List.all_nil, oneCell, Bool.and_self, Bool.and_true]; done) | (simp only [new_next, new_base, upd_next, upd_base, List.length_cons, List.length_nil]; omega))) only [aOp, ev, at_some, at_none, at_args, Option.getD_some, Option.getD_none, List.getElem?_cons_zero, List.getElem?_cons_succ, List.getElem?_nil, decide_true, decide_false, Bool.not_true, Bool.not_false, e1, aBin_int, aBin_str, str_refl, int_refl, int_nrefl, aInt, aStr, aUn, AR.of, AR.ofB, AR.ofH, reduceIte, Nat.reduceEqDiff, aBuiltin, aLen, aField, aFieldAddr, aIndexAddr, aStore, aLoad, cellsL, oneCell, splice, new_next, new_base, upd_next, upd_base, cell_new_ne, cell_new_eq, cell_upd_ne, cell_upd_eq, loads_new_ne, loads_new_eq, loads_upd_ne, loads_upd_eq, stores_new_eq, stores_new_ne, stores_upd_ne, Option.map_some, List.toList_toArray, List.length_cons, List.length_nil, List.take_succ_cons, List.take_zero, List.drop_succ_cons, List.drop_zero, List.all_cons, List.all_nil, Bool.and_self, Bool.and_true, List.cons_append, List.nil_append, List.append_nil, List.append_eq, Nat.reduceBEq, Nat.reduceLeDiff, Nat.zero_add, Nat.add_zero, Nat.reduceMul, Nat.reduceSub, Nat.reduceLT, Nat.beq_refl, List.map_cons, List.map_nil, Nat.reduceAdd, cfg_P, sz3, sz38, agg3, agg38, und25, fld38_4, fld38_5, zero38, und26, sz24, sz9, a9, agg24, fld24_0, fld24_1, fld38_0, sz35, a35] <;> with_reducible rfl))
    | ((with_reducible apply sc_false); (case hc => simp only [ev, at_some, at_none, at_args, Option.getD_some, Option.getD_none, List.getElem?_cons_zero, List.getElem?_cons_succ, List.getElem?_nil, decide_true, decide_false, Bool.not_true, Bool.not_false, e1, reduceIte, Nat.reduceEqDiff]; done))
    | ((with_reducible apply sc_true); (case hc => simp only [ev, at_some, at_none, at_args, Option.getD_some, Option.getD_none, List.getElem?_cons_zero, List.getElem?_cons_succ, List.getElem?_nil, decide_true, decide_false, Bool.not_true, Bool.not_false, e1, reduceIte, Nat.reduceEqDiff]; done)))
  refine sc_loop (I := fun n fr G => Ext H G ∧ ∃ t : Nat, t ≤ xs.length ∧ n = xs.length - t ∧ Fr.at fr 0 = v ∧ Fr.at fr 4 = .int .i64 t ∧ Gr G H.next 6 (Fr.at fr 3) ((xs.take t).filter opCall)) ?_ xs.length _ _ ?_
  rotate_left
  · refine ⟨Ext.refl H, 0, by omega, rfl, ?_, ?_, ?_⟩ <;> simp only [at_some, at_none, at_args, List.getElem?_cons_zero, List.getElem?_cons_succ, Option.getD_some, reduceIte, Nat.reduceEqDiff, e1, List.take_zero, List.filter_nil]
    · rfl
    · exact Gr.nil ..
  rintro n fr G ⟨hG, t, ht, rfl, f0, f4, hgr⟩
  obtain ⟨out, f3⟩ : ∃ out, Fr.at fr 3 = out := ⟨_, rfl⟩
  rw [f3] at hgr
  by_cases hlt : t < xs.length
  · obtain ⟨x, hxt⟩ : ∃ x, xs[t]? = some x := ⟨_, List.getElem?_eq_getElem hlt⟩
    obtain ⟨a, f, s, n, k, p, rfl⟩ := hx x (List.mem_of_getElem? hxt)
    obtain ⟨b1, o1, c1, rfl, hb1, _, l1, m1⟩ := (h1.mono hG).at hxt
    have m1 := m1 0 (by omega)
    simp only [Nat.add_zero, List.getElem?_cons_zero] at m1
    have g1 : decide ((t : Int) < (xs.length : Int)) = true := decT (by omega)
    have g2 : (0 ≤ (t : Int) ∧ (t : Int) < (xs.length : Int)) := by omega
    have hbG : G.base ≤ G.next := by rw [hG.base]; exact Nat.le_trans hb hG.next
    by_cases ha : a = 2
    · subst ha
      repeat (first
        | (with_reducible refine sc_seq ?_)
        | (with_reducible refine sc_region ?_)
        | (with_reducible refine sc_block ?_)
        | (with_reducible refine sc_scope ?_)
        | ((with_reducible refine sc_skip ?_); dsimp only)
        | ((with_reducible refine sc_label ?_); dsimp only)
        | ((with_reducible refine sc_ret ?_); dsimp only)
        | ((with_reducible refine sc_exit ?_); dsimp only [Nat.beq])
        | ((with_reducible refine so_nil ?_); dsimp only)
        | ((with_reducible apply so_skip); (case hw => simp only [aWanted, aYield, List.getElem?_toArray, at_some, at_none, at_args, Option.getD_some, Option.getD_none, List.getElem?_cons_zero, List.getElem?_cons_succ, List.getElem?_nil, decide_true, decide_false, Bool.not_true, Bool.not_false, f3, f0, f4, g1, g2, l1, m1, if_true, Int.toNat_natCast, true_and, and_self, reduceIte, Nat.reduceEqDiff, b_tf, b_ft, beq_self_eq_true, Bool.false_eq_true, Bool.true_eq_false]; done))
        | ((with_reducible apply so_val); (case hw => simp only [aWanted, aYield, List.getElem?_toArray, at_some, at_none, at_args, Option.getD_some, Option.getD_none, List.getElem?_cons_zero, List.getElem?_cons_succ, List.getElem?_nil, decide_true, decide_false, Bool.not_true, Bool.not_false, f3, f0, f4, g1, g2, l1, m1, if_true, Int.toNat_natCast, true_and, and_self, reduceIte, Nat.reduceEqDiff, b_tf, b_ft, beq_self_eq_true, Bool.false_eq_true, Bool.true_eq_false]; done); (case ha => simp (disch := (refine id ?_; first | assumption | omega | (simp only [new_next, new_base, upd_next, upd_base, List.length_cons, List.length_nil, List.all_cons, List.all_nil, oneCell, Bool.and_self, Bool.and_true]; done) | (simp only [new_next, new_base, upd_next, upd_base, List.length_cons, List.length_nil]; omega))) only [aOp, ev, at_some, at_none, at_args, Option.getD_some, Option.getD_none, List.getElem?_cons_zero, List.getElem?_cons_succ, List.getElem?_nil, decide_true, decide_false, Bool.not_true, Bool.not_false, f3, f0, f4, g1, g2, l1, m1, if_true, Int.toNat_natCast, true_and, and_self, aBin_int, aBin_str, str_refl, int_refl, int_nrefl, aInt, aStr, aUn, AR.of, AR.ofB, AR.ofH, reduceIte, Nat.reduceEqDiff, aBuiltin, aLen, aField, aFieldAddr, aIndexAddr, aStore, aLoad, cellsL, oneCell, splice, new_next, new_base, upd_next, upd_base, cell_new_ne, cell_new_eq, cell_upd_ne, cell_upd_eq, loads_new_ne, loads_new_eq, loads_upd_ne, loads_upd_eq, stores_new_eq, stores_new_ne, stores_upd_ne, Option.map_some, List.toList_toArray, List.length_cons, List.length_nil, List.take_succ_cons, List.take_zero, List.drop_succ_cons, List.drop_zero, List.all_cons, List.all_nil, Bool.and_self, Bool.and_true, List.cons_append, List.nil_append, List.append_nil, List.append_eq, Nat.reduceBEq, Nat.reduceLeDiff, Nat.zero_add, Nat.add_zero, Nat.reduceMul, Nat.reduceSub, Nat.reduceLT, Nat.beq_refl, List.map_cons, List.map_nil, Nat.reduceAdd, cfg_P, sz3, sz38, agg3, agg38, und25, fld38_4, fld38_5, zero38, und26, sz24, sz9, a9, agg24, fld24_0, fld24_1, fld38_0, sz35, a35] <;> with_reducible rfl))
        | ((with_reducible apply sc_false); (case hc => simp only [ev, at_some, at_none, at_args, Option.getD_some, Option.getD_none, List.getElem?_cons_zero, List.getElem?_cons_succ, List.getElem?_nil, decide_true, decide_false, Bool.not_true, Bool.not_false, f3, f0, f4, g1, g2, l1, m1, if_true, Int.toNat_natCast, true_and, and_self, reduceIte, Nat.reduceEqDiff]; done))
        | ((with_reducible apply sc_true); (case hc => simp only [ev, at_some, at_none, at_args, Option.getD_some, Option.getD_none, List.getElem?_cons_zero, List.getElem?_cons_succ, List.getElem?_nil, decide_true, decide_false, Bool.not_true, Bool.not_false, f3, f0, f4, g1, g2, l1, m1, if_true, Int.toNat_natCast, true_and, and_self, reduceIte, Nat.reduceEqDiff]; done)))
      refine so_val (v := .slice (some ⟨G.next, 0, none⟩) 1 1) (H' := G.new (.cells (nd 2 f s n k p) 6 .solo)) rfl (by simp only [aOp, ev, at_some, List.map_cons, List.map_nil, List.toList_toArray, Nat.reduceEqDiff, reduceIte, cfg_P]; rw [build1]; rfl) ?_
      refine so_append rfl (by simp only [aWanted, aYield, List.getElem?_toArray, at_some, at_none, at_args, Option.getD_some, Option.getD_none, List.getElem?_cons_zero, List.getElem?_cons_succ, List.getElem?_nil, decide_true, decide_false, Bool.not_true, Bool.not_false, f3, f0, f4, reduceIte, Nat.reduceEqDiff, b_tf, b_ft, beq_self_eq_true, Bool.false_eq_true, Bool.true_eq_false]) (by first | (simp only [ev, at_some, at_none, at_args, Option.getD_some, Option.getD_none, List.getElem?_cons_zero, List.getElem?_cons_succ, List.getElem?_nil, decide_true, decide_false, Bool.not_true, Bool.not_false, f3, f0, f4, reduceIte, Nat.reduceEqDiff]; done) | (simp only [ev, at_some, at_none, at_args, Option.getD_some, Option.getD_none, List.getElem?_cons_zero, List.getElem?_cons_succ, List.getElem?_nil, decide_true, decide_false, Bool.not_true, Bool.not_false, f3, f0, f4, reduceIte, Nat.reduceEqDiff]; rfl)) (by first | (simp only [ev, at_some, at_none, at_args, Option.getD_some, Option.getD_none, List.getElem?_cons_zero, List.getElem?_cons_succ, List.getElem?_nil, decide_true, decide_false, Bool.not_true, Bool.not_false, f3, f0, f4, reduceIte, Nat.reduceEqDiff]; done) | (simp only [ev, at_some, at_none, at_args, Option.getD_some, Option.getD_none, List.getElem?_cons_zero, List.getElem?_cons_succ, List.getElem?_nil, decide_true, decide_false, Bool.not_true, Bool.not_false, f3, f0, f4, reduceIte, Nat.reduceEqDiff]; rfl)) ?_
      obtain ⟨v', H', h3, h4, h5⟩ := append_gr (P := cfg.P) el25 (lo := H.next) (xs := [nd 2 f s n k p]) (hgr.mono (Ext.new G _)) (Rd.one (c := nd 2 f s n k p) rfl) rfl (by have := take_le xs t; simp only [List.length_singleton]; omega) (by simp only [new_next]; have := hG.next; omega) (by simp only [new_base]; rw [hG.base]; exact hb)
      refine ⟨v', H', h3, ?_⟩
      repeat (first
        | (with_reducible refine sc_seq ?_)
        | (with_reducible refine sc_region ?_)
        | (with_reducible refine sc_block ?_)
        | (with_reducible refine sc_scope ?_)
        | ((with_reducible refine sc_skip ?_); dsimp only)
        | ((with_reducible refine sc_label ?_); dsimp only)
        | ((with_reducible refine sc_ret ?_); dsimp only)
        | ((with_reducible refine sc_exit ?_); dsimp only [Nat.beq])
        | ((with_reducible refine so_nil ?_); dsimp only)
        | ((with_reducible apply so_skip); (case hw => simp only [aWanted, aYield, List.getElem?_toArray, at_some, at_none, at_args, Option.getD_some, Option.getD_none, List.getElem?_cons_zero, List.getElem?_cons_succ, List.getElem?_nil, decide_true, decide_false, Bool.not_true, Bool.not_false, f3, f0, f4, reduceIte, Nat.reduceEqDiff, b_tf, b_ft, beq_self_eq_true, Bool.false_eq_true, Bool.true_eq_false]; done))
        | ((with_reducible apply so_val); (case hw => simp only [aWanted, aYield, List.getElem?_toArray, at_some, at_none, at_args, Option.getD_some, Option.getD_none, List.getElem?_cons_zero, List.getElem?_cons_succ, List.getElem?_nil, decide_true, decide_false, Bool.not_true, Bool.not_false, f3, f0, f4, reduceIte, Nat.reduceEqDiff, b_tf, b_ft, beq_self_eq_true, Bool.false_eq_true, Bool.true_eq_false]; done); (case ha => simp (disch := (refine id ?_; first | assumption | omega | (simp only [new_next, new_base, upd_next, upd_base, List.length_cons, List.length_nil, List.all_cons, List.all_nil, oneCell, Bool.and_self, Bool.and_true]; done) | (simp only [new_next, new_base, upd_next, upd_base, List.length_cons, List.length_nil]; omega))) only [aOp, ev, at_some, at_none, at_args, Option.getD_some, Option.getD_none, List.getElem?_cons_zero, List.getElem?_cons_succ, List.getElem?_nil, decide_true, decide_false, Bool.not_true, Bool.not_false, f3, f0, f4, aBin_int, aBin_str, str_refl, int_refl, int_nrefl, aInt, aStr, aUn, AR.of, AR.ofB, AR.ofH, reduceIte, Nat.reduceEqDiff, aBuiltin, aLen, aField, aFieldAddr, aIndexAddr, aStore, aLoad, cellsL, oneCell, splice, new_next, new_base, upd_next, upd_base, cell_new_ne, cell_new_eq, cell_upd_ne, cell_upd_eq, loads_new_ne, loads_new_eq, loads_upd_ne, loads_upd_eq, stores_new_eq, stores_new_ne, stores_upd_ne, Option.map_some, List.toList_toArray, List.length_cons, List.length_nil, List.take_succ_cons, List.take_zero, List.drop_succ_cons, List.drop_zero, List.all_cons, List.all_nil, Bool.and_self, Bool.and_true, List.cons_append, List.nil_append, List.append_nil, List.append_eq, Nat.reduceBEq, Nat.reduceLeDiff, Nat.zero_add, Nat.add_zero, Nat.reduceMul, Nat.reduceSub, Nat.reduceLT, Nat.beq_refl, List.map_cons, List.map_nil, Nat.reduceAdd, cfg_P, sz3, sz38, agg3, agg38, und25, fld38_4, fld38_5, zero38, und26, sz24, sz9, a9, agg24, fld24_0, fld24_1, fld38_0, sz35, a35] <;> with_reducible rfl))
        | ((with_reducible apply sc_false); (case hc => simp only [ev, at_some, at_none, at_args, Option.getD_some, Option.getD_none, List.getElem?_cons_zero, List.getElem?_cons_succ, List.getElem?_nil, decide_true, decide_false, Bool.not_true, Bool.not_false, f3, f0, f4, reduceIte, Nat.reduceEqDiff]; done))
        | ((with_reducible apply sc_true); (case hc => simp only [ev, at_some, at_none, at_args, Option.getD_some, Option.getD_none, List.getElem?_cons_zero, List.getElem?_cons_succ, List.getElem?_nil, decide_true, decide_false, Bool.not_true, Bool.not_false, f3, f0, f4, reduceIte, Nat.reduceEqDiff]; done)))
      refine ⟨xs.length - (t + 1), by omega, h5.ext (hG.step _) (Nat.le_refl _), t + 1, by omega, rfl, ?_, ?_, ?_⟩ <;> simp only [at_some, at_none, f3, f0, f4, reduceIte, Nat.reduceEqDiff]
      · congr 1
        simp [IntKind.wrap, IntKind.bits, IntKind.signed]; omega
      · rw [take_yes hxt rfl]; exact h4
    · have g3 : (a == 2) = false := by simpa using ha
      repeat (first
        | (with_reducible refine sc_seq ?_)
        | (with_reducible refine sc_region ?_)
        | (with_reducible refine sc_block ?_)
        | (with_reducible refine sc_scope ?_)
        | ((with_reducible refine sc_skip ?_); dsimp only)
        | ((with_reducible refine sc_label ?_); dsimp only)
        | ((with_reducible refine sc_ret ?_); dsimp only)
        | ((with_reducible refine sc_exit ?_); dsimp only [Nat.beq])
        | ((with_reducible refine so_nil ?_); dsimp only)
        | ((with_reducible apply so_skip); (case hw => simp only [aWanted, aYield, List.getElem?_toArray, at_some, at_none, at_args, Option.getD_some, Option.getD_none, List.getElem?_cons_zero, List.getElem?_cons_succ, List.getElem?_nil, decide_true, decide_false, Bool.not_true, Bool.not_false, f3, f0, f4, g1, g2, l1, m1, if_true, Int.toNat_natCast, true_and, and_self, g3, reduceIte, Nat.reduceEqDiff, b_tf, b_ft, beq_self_eq_true, Bool.false_eq_true, Bool.true_eq_false]; done))
        | ((with_reducible apply so_val); (case hw => simp only [aWanted, aYield, List.getElem?_toArray, at_some, at_none, at_args, Option.getD_some, Option.getD_none, List.getElem?_cons_zero, List.getElem?_cons_succ, List.getElem?_nil, decide_true, decide_false, Bool.not_true, Bool.not_false, f3, f0, f4, g1, g2, l1, m1, if_true, Int.toNat_natCast, true_and, and_self, g3, reduceIte, Nat.reduceEqDiff, b_tf, b_ft, beq_self_eq_true, Bool.false_eq_true, Bool.true_eq_false]; done); (case ha => simp (disch := (refine id ?_; first | assumption | omega | (simp only [new_next, new_base, upd_next, upd_base, List.length_cons, List.length_nil, List.all_cons, List.all_nil, oneCell, Bool.and_self, Bool.and_true]; done) | (simp only [new_next, new_base, upd_next, upd_base, List.length_cons, List.length_nil]; omega))) only [aOp, ev, at_some, at_none, at_args, Option.getD_some, Option.getD_none, List.getElem?_cons_zero, List.getElem?_cons_succ, List.getElem?_nil, decide_true, decide_false, Bool.not_true, Bool.not_false, f3, f0, f4, g1, g2, l1, m1, if_true, Int.toNat_natCast, true_and, and_self, g3, aBin_int, aBin_str, str_refl, int_refl, int_nrefl, aInt, aStr, aUn, AR.of, AR.ofB, AR.ofH, reduceIte, Nat.reduceEqDiff, aBuiltin, aLen, aField, aFieldAddr, aIndexAddr, aStore, aLoad, cellsL, oneCell, splice, new_next, new_base, upd_next, upd_base, cell_new_ne, cell_new_eq, cell_upd_ne, cell_upd_eq, loads_new_ne, loads_new_eq, loads_upd_ne, loads_upd_eq, stores_new_eq, stores_new_ne, stores_upd_ne, Option.map_some, List.toList_toArray, List.length_cons, List.length_nil, List.take_succ_cons, List.take_zero, List.drop_succ_cons, List.drop_zero, List.all_cons, List.all_nil, Bool.and_self, Bool.and_true, List.cons_append, List.nil_append, List.append_nil, List.append_eq, Nat.reduceBEq, Nat.reduceLeDiff, Nat.zero_add, Nat.add_zero, Nat.reduceMul, Nat.reduceSub, Nat.reduceLT, Nat.beq_refl, List.map_cons, List.map_nil, Nat.reduceAdd, cfg_P, sz3, sz38, agg3, agg38, und25, fld38_4, fld38_5, zero38, und26, sz24, sz9, a9, agg24, fld24_0, fld24_1, fld38_0, sz35, a35] <;> with_reducible rfl))
        | ((with_reducible apply sc_false); (case hc => simp only [ev, at_some, at_none, at_args, Option.getD_some, Option.getD_none, List.getElem?_cons_zero, List.getElem?_cons_succ, List.getElem?_nil, decide_true, decide_false, Bool.not_true, Bool.not_false, f3, f0, f4, g1, g2, l1, m1, if_true, Int.toNat_natCast, true_and, and_self, g3, reduceIte, Nat.reduceEqDiff]; done))
        | ((with_reducible apply sc_true); (case hc => simp only [ev, at_some, at_none, at_args, Option.getD_some, Option.getD_none, List.getElem?_cons_zero, List.getElem?_cons_succ, List.getElem?_nil, decide_true, decide_false, Bool.not_true, Bool.not_false, f3, f0, f4, g1, g2, l1, m1, if_true, Int.toNat_natCast, true_and, and_self, g3, reduceIte, Nat.reduceEqDiff]; done)))
      refine ⟨xs.length - (t + 1), by omega, hG, t + 1, by omega, rfl, ?_, ?_, ?_⟩ <;> simp only [at_some, at_none, f3, f0, f4, reduceIte, Nat.reduceEqDiff]
      · congr 1
        simp [IntKind.wrap, IntKind.bits, IntKind.signed]; omega
      · rw [take_no hxt g3]; exact hgr
  · obtain rfl : t = xs.length := by omega
    have g1 : decide ((xs.length : Int) < (xs.length : Int)) = false := decF (by omega)
    repeat (first
      | (with_reducible refine sc_seq ?_)
      | (with_reducible refine sc_region ?_)
      | (with_reducible refine sc_block ?_)
      | (with_reducible refine sc_scope ?_)
      | ((with_reducible refine sc_skip ?_); dsimp only)
      | ((with_reducible refine sc_label ?_); dsimp only)
      | ((with_reducible refine sc_ret ?_); dsimp only)
      | ((with_reducible refine sc_exit ?_); dsimp only [Nat.beq])
      | ((with_reducible refine so_nil ?_); dsimp only)
      | ((with_reducible apply so_skip); (case hw => simp only [aWanted, aYield, List.getElem?_toArray, at_some, at_none, at_args, Option.getD_some, Option.getD_none, List.getElem?_cons_zero, List.getElem?_cons_succ, List.getElem?_nil, decide_true, decide_false, Bool.not_true, Bool.not_false, f3, f0, f4, e1, g1, reduceIte, Nat.reduceEqDiff, b_tf, b_ft, beq_self_eq_true, Bool.false_eq_true, Bool.true_eq_false]; done))
      | ((with_reducible apply so_val); (case hw => simp only [aWanted, aYield, List.getElem?_toArray, at_some, at_none, at_args, Option.getD_some, Option.getD_none, List.getElem?_cons_zero, List.getElem?_cons_succ, List.getElem?_nil, decide_true, decide_false, Bool.not_true, Bool.not_false, f3, f0, f4, e1, g1, reduceIte, Nat.reduceEqDiff, b_tf, b_ft, beq_self_eq_true, Bool.false_eq_true, Bool.true_eq_false]; done); (case ha => simp (disch := (refine id ?_; first | assumption | omega | (simp only [new_next, new_base, upd_next, upd_base, List.length_cons, List.length_nil, List.all_cons, List.all_nil, oneCell, Bool.and_self, Bool.and_true]; done) | (simp only [new_next, new_base, upd_next, upd_base, List.length_cons, List.length_nil]; omega))) only [aOp, ev, at_some, at_none, at_args, Option.getD_some, Option.getD_none, List.getElem?_cons_zero, List.getElem?_cons_succ, List.getElem?_nil, decide_true, decide_false, Bool.not_true, Bool.not_false, f3, f0, f4, e1, g1, aBin_int, aBin_str, str_refl, int_refl, int_nrefl, aInt, aStr, aUn, AR.of, AR.ofB, AR.ofH, reduceIte, Nat.reduceEqDiff, aBuiltin, aLen, aField, aFieldAddr, aIndexAddr, aStore, aLoad, cellsL, oneCell, splice, new_next, new_base, upd_next, upd_base, cell_new_ne, cell_new_eq, cell_upd_ne, cell_upd_eq, loads_new_ne, loads_new_eq, loads_upd_ne, loads_upd_eq, stores_new_eq, stores_new_ne, stores_upd_ne, Option.map_some, List.toList_toArray, List.length_cons, List.length_nil, List.take_succ_cons, List.take_zero, List.drop_succ_cons, List.drop_zero, List.all_cons, List.all_nil, Bool.and_self, Bool.and_true, List.cons_append, List.nil_append, List.append_nil, List.append_eq, Nat.reduceBEq, Nat.reduceLeDiff, Nat.zero_add, Nat.add_zero, Nat.reduceMul, Nat.reduceSub, Nat.reduceLT, Nat.beq_refl, List.map_cons, List.map_nil, Nat.reduceAdd, cfg_P, sz3, sz38, agg3, agg38, und25, fld38_4, fld38_5, zero38, und26, sz24, sz9, a9, agg24, fld24_0, fld24_1, fld38_0, sz35, a35] <;> with_reducible rfl))
      | ((with_reducible apply sc_false); (case hc => simp only [ev, at_some, at_none, at_args, Option.getD_some, Option.getD_none, List.getElem?_cons_zero, List.getElem?_cons_succ, List.getElem?_nil, decide_true, decide_false, Bool.not_true, Bool.not_false, f3, f0, f4, e1, g1, reduceIte, Nat.reduceEqDiff]; done))
      | ((with_reducible apply sc_true); (case hc => simp only [ev, at_some, at_none, at_args, Option.getD_some, Option.getD_none, List.getElem?_cons_zero, List.getElem?_cons_succ, List.getElem?_nil, decide_true, decide_false, Bool.not_true, Bool.not_false, f3, f0, f4, e1, g1, reduceIte, Nat.reduceEqDiff]; done)))
    apply res_fin (rs := [ResultVar.tmp 2]) trivial
    case h => simp (disch := (refine id ?_; first | assumption | omega | (simp only [new_next, new_base, upd_next, upd_base, List.length_cons, List.length_nil, List.all_cons, List.all_nil, oneCell, Bool.and_self, Bool.and_true]; done) | (simp only [new_next, new_base, upd_next, upd_base, List.length_cons, List.length_nil]; omega))) only [aResults, aResult, aOp, ev, at_some, at_none, at_args, Option.getD_some, Option.getD_none, List.getElem?_cons_zero, List.getElem?_cons_succ, List.getElem?_nil, decide_true, decide_false, Bool.not_true, Bool.not_false, f3, aBin_int, aBin_str, str_refl, int_refl, int_nrefl, aInt, aStr, aUn, AR.of, AR.ofB, AR.ofH, reduceIte, Nat.reduceEqDiff, aBuiltin, aLen, aField, aFieldAddr, aIndexAddr, aStore, aLoad, cellsL, oneCell, splice, new_next, new_base, upd_next, upd_base, cell_new_ne, cell_new_eq, cell_upd_ne, cell_upd_eq, loads_new_ne, loads_new_eq, loads_upd_ne, loads_upd_eq, stores_new_eq, stores_new_ne, stores_upd_ne, Option.map_some, List.toList_toArray, List.length_cons, List.length_nil, List.take_succ_cons, List.take_zero, List.drop_succ_cons, List.drop_zero, List.all_cons, List.all_nil, Bool.and_self, Bool.and_true, List.cons_append, List.nil_append, List.append_nil, List.append_eq, Nat.reduceBEq, Nat.reduceLeDiff, Nat.zero_add, Nat.add_zero, Nat.reduceMul, Nat.reduceSub, Nat.reduceLT, Nat.beq_refl, List.map_cons, List.map_nil, Nat.reduceAdd, cfg_P, sz3, sz38, agg3, agg38, und25, fld38_4, fld38_5, zero38, und26, sz24, sz9, a9, agg24, fld24_0, fld24_1, fld38_0, sz35, a35] <;> with_reducible rfl
    case hq => exact ⟨by rw [List.take_length] at hgr; exact hgr, hG⟩
end Go.Am
