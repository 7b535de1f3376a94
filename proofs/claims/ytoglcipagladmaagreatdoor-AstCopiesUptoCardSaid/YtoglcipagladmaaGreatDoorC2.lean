/- AstCopies, walked on the abstract machine: C2. -/
import Derived.Test.YtoglcipagladmaaGreatDoorAm4
import Derived.Test.YtoglcipagladmaaGreatDoorC1
set_option linter.unusedVariables false
namespace Go.Am
open Go.Proofs Go
set_option linter.unusedSimpArgs false
theorem und26 : undT Tryz.prog 26 = some (.slice 24) := by kernel_rfl
theorem sz24 : szT Tryz.prog 24 = some 2 := by kernel_rfl
theorem sz9 : szT Tryz.prog 9 = some 1 := by kernel_rfl
theorem agg24 : aggT Tryz.prog 24 = some true := by kernel_rfl
theorem fld24_0 : fieldT Tryz.prog 24 0 = some (0, 9) := by kernel_rfl
theorem fld24_1 : fieldT Tryz.prog 24 1 = some (1, 3) := by kernel_rfl
theorem str_neq (a : ByteArray) : (!(a.data.toList == a.data.toList)) = false := by simp

theorem ne38 (xo yo : Operand) (a f n k p : Int) (s : ByteArray) : aBin Tryz.prog .neq 38 xo yo (.agg #[.int .u8 a, .int .u8 f, .string s, .int .i64 n, .int .i64 k, .int .i64 p]) (.agg #[.int .u8 a, .int .u8 f, .string s, .int .i64 n, .int .i64 k, .int .i64 p]) = some (.bool false) := by
  have h := eq38 xo yo a f n k p s
  unfold aBin aGuard at h ⊢
  have g : Tryz.prog.eqGuardType Tryz.prog.depth 38 = false := by kernel_rfl
  simp only [g, Bool.not_false] at h ⊢
  cases he : aEq Tryz.prog Op.maxDepth 38 (.agg #[.int .u8 a, .int .u8 f, .string s, .int .i64 n, .int .i64 k, .int .i64 p]) (.agg #[.int .u8 a, .int .u8 f, .string s, .int .i64 n, .int .i64 k, .int .i64 p]) with
  | none => rw [he] at h; simp at h
  | some b => rw [he] at h; simp at h; subst h; rfl

/-- What labels are. -/
abbrev lb (s : ByteArray) (p : Int) : List Value := [.string s, .int .i64 p]
def Labels (xs : List (List Value)) : Prop := ∀ x ∈ xs, ∃ s p, x = lb s p

set_option maxRecDepth 10000 in
set_option maxHeartbeats 4000000 in
theorem tsame_wf (H : AH) (hb : H.base ≤ H.next) (v1 v2 : Value) (xs : List (List Value)) (h1 : Rd H 6 v1 xs) (h2 : Rd H 6 v2 xs) (hx : Nodes xs) (hl : xs.length < 4611686018427387904) :
    Wf cfg 23 [v1, v2] H fun v H' => v = .bool true ∧ Ext H H' := by
  obtain ⟨q1, q2, e1, _⟩ := id h1
  obtain ⟨q3, q4, e2, _⟩ := id h2
  refine wf_text (fn := Tryz.f23) rfl Tryz.func23 rfl rfl ?_
  repeat (first
    | (with_reducible refine sc_seq ?_)
    | (with_reducible refine sc_region ?_)
    | (with_reducible refine sc_block ?_)
    | (with_reducible refine sc_scope ?_)
    | ((with_reducible refine sc_skip ?_); dsimp only)
    | ((with_reducible refine sc_label ?_); dsimp only)
    | ((with_reducible refine sc_ret ?_); dsimp only)
    | ((with_reducible refine sc_exit ?_); dsimp only [Nat.beq])
    | ((with_reducible refine so_nil ?_); dsimp only)
    | ((with_reducible apply so_skip); (case hw => simp only [aWanted, aYield, List.getElem?_toArray, at_some, at_none, at_args, Option.getD_some, Option.getD_none, List.getElem?_cons_zero, List.getElem?_cons_succ, List.getElem?_nil, decide_true, decide_false, Bool.not_true, Bool.not_false, e1, e2, reduceIte, Nat.reduceEqDiff, b_tf, b_ft, beq_self_eq_true, Bool.false_eq_true, Bool.true_eq_false]; done))
    | ((with_reducible apply so_val); (case hw => simp only [aWanted, aYield, List.getElem?_toArray, at_some, at_none, at_args, Option.getD_some, Option.getD_none, List.getElem?_cons_zero, List.getElem?_cons_succ, List.getElem?_nil, decide_true, decide_false, Bool.not_true, Bool.not_false, e1, e2, reduceIte, Nat.reduceEqDiff, b_tf, b_ft, beq_self_eq_true, Bool.false_eq_true, Bool.true_eq_false]; done); (case ha => simp (disch := (refine id ?_; first | assumption | omega | (simp only [new_next, new_base, upd_next, upd_base, List.length_cons, List.length_nil, List.all_cons, List.all_nil, oneCell, Bool.and_self, Bool.and_true]; done) | (simp only [new_next, new_base, upd_next, upd_base, List.length_cons, List.length_nil]; omega))) only [aOp, ev, at_some, at_none, at_args, Option.getD_some, Option.getD_none, List.getElem?_cons_zero, List.getElem?_cons_succ, List.getElem?_nil, decide_true, decide_false, Bool.not_true, Bool.not_false, e1, e2, aBin_int, aBin_str, str_refl, int_refl, int_nrefl, aInt, aStr, aUn, AR.of, AR.ofB, AR.ofH, reduceIte, Nat.reduceEqDiff, aBuiltin, aLen, aField, aFieldAddr, aIndexAddr, aStore, aLoad, cellsL, oneCell, splice, new_next, new_base, upd_next, upd_base, cell_new_ne, cell_new_eq, cell_upd_ne, cell_upd_eq, loads_new_ne, loads_new_eq, loads_upd_ne, loads_upd_eq, stores_new_eq, stores_new_ne, stores_upd_ne, Option.map_some, List.toList_toArray, List.length_cons, List.length_nil, List.take_succ_cons, List.take_zero, List.drop_succ_cons, List.drop_zero, List.all_cons, List.all_nil, Bool.and_self, Bool.and_true, List.cons_append, List.nil_append, List.append_nil, List.append_eq, Nat.reduceBEq, Nat.reduceLeDiff, Nat.zero_add, Nat.add_zero, Nat.reduceMul, Nat.reduceSub, Nat.reduceLT, Nat.beq_refl, List.map_cons, List.map_nil, Nat.reduceAdd, cfg_P, sz3, sz38, agg3, agg38, und25, fld38_4, fld38_5, zero38, und26, sz24, sz9, a9, agg24, fld24_0, fld24_1] <;> with_reducible rfl))
    | ((with_reducible apply sc_false); (case hc => simp only [ev, at_some, at_none, at_args, Option.getD_some, Option.getD_none, List.getElem?_cons_zero, List.getElem?_cons_succ, List.getElem?_nil, decide_true, decide_false, Bool.not_true, Bool.not_false, e1, e2, reduceIte, Nat.reduceEqDiff]; done))
    | ((with_reducible apply sc_true); (case hc => simp only [ev, at_some, at_none, at_args, Option.getD_some, Option.getD_none, List.getElem?_cons_zero, List.getElem?_cons_succ, List.getElem?_nil, decide_true, decide_false, Bool.not_true, Bool.not_false, e1, e2, reduceIte, Nat.reduceEqDiff]; done)))
  refine sc_loop (I := fun n fr G => Ext H G ∧ ∃ t : Nat, t ≤ xs.length ∧ n = xs.length - t ∧ Fr.at fr 0 = v1 ∧ Fr.at fr 1 = v2 ∧ Fr.at fr 5 = .int .i64 t) ?_ xs.length _ _ ?_
  rotate_left
  · refine ⟨Ext.refl H, 0, by omega, rfl, ?_, ?_, ?_⟩ <;> simp only [at_some, at_none, at_args, List.getElem?_cons_zero, List.getElem?_cons_succ, Option.getD_some, reduceIte, Nat.reduceEqDiff, e1, e2] <;> rfl
  rintro n fr G ⟨hG, t, ht, rfl, f0, f1, f5⟩
  by_cases hlt : t < xs.length
  · obtain ⟨x, hxt⟩ : ∃ x, xs[t]? = some x := ⟨_, List.getElem?_eq_getElem hlt⟩
    obtain ⟨a, f, s, n, k, p, rfl⟩ := hx x (List.mem_of_getElem? hxt)
    obtain ⟨b1, o1, c1, rfl, hb1, _, l1, _⟩ := (h1.mono hG).at hxt
    obtain ⟨b2, o2, c2, rfl, hb2, _, l2, _⟩ := (h2.mono hG).at hxt
    have g1 : decide ((t : Int) < (xs.length : Int)) = true := decT (by omega)
    have g2 : (0 ≤ (t : Int) ∧ (t : Int) < (xs.length : Int)) := by omega
    have hbG : G.base ≤ G.next := by rw [hG.base]; exact Nat.le_trans hb hG.next
    repeat (first
      | (with_reducible refine sc_seq ?_)
      | (with_reducible refine sc_region ?_)
      | (with_reducible refine sc_block ?_)
      | (with_reducible refine sc_scope ?_)
      | ((with_reducible refine sc_skip ?_); dsimp only)
      | ((with_reducible refine sc_label ?_); dsimp only)
      | ((with_reducible refine sc_ret ?_); dsimp only)
      | ((with_reducible refine sc_exit ?_); dsimp only [Nat.beq])
      | ((with_reducible refine so_nil ?_); dsimp only)
      | ((with_reducible apply so_skip); (case hw => simp only [aWanted, aYield, List.getElem?_toArray, at_some, at_none, at_args, Option.getD_some, Option.getD_none, List.getElem?_cons_zero, List.getElem?_cons_succ, List.getElem?_nil, decide_true, decide_false, Bool.not_true, Bool.not_false, f0, f1, f5, g1, g2, l1, l2, if_true, Int.toNat_natCast, true_and, and_self, ne38, reduceIte, Nat.reduceEqDiff, b_tf, b_ft, beq_self_eq_true, Bool.false_eq_true, Bool.true_eq_false]; done))
      | ((with_reducible apply so_val); (case hw => simp only [aWanted, aYield, List.getElem?_toArray, at_some, at_none, at_args, Option.getD_some, Option.getD_none, List.getElem?_cons_zero, List.getElem?_cons_succ, List.getElem?_nil, decide_true, decide_false, Bool.not_true, Bool.not_false, f0, f1, f5, g1, g2, l1, l2, if_true, Int.toNat_natCast, true_and, and_self, ne38, reduceIte, Nat.reduceEqDiff, b_tf, b_ft, beq_self_eq_true, Bool.false_eq_true, Bool.true_eq_false]; done); (case ha => simp (disch := (refine id ?_; first | assumption | omega | (simp only [new_next, new_base, upd_next, upd_base, List.length_cons, List.length_nil, List.all_cons, List.all_nil, oneCell, Bool.and_self, Bool.and_true]; done) | (simp only [new_next, new_base, upd_next, upd_base, List.length_cons, List.length_nil]; omega))) only [aOp, ev, at_some, at_none, at_args, Option.getD_some, Option.getD_none, List.getElem?_cons_zero, List.getElem?_cons_succ, List.getElem?_nil, decide_true, decide_false, Bool.not_true, Bool.not_false, f0, f1, f5, g1, g2, l1, l2, if_true, Int.toNat_natCast, true_and, and_self, ne38, aBin_int, aBin_str, str_refl, int_refl, int_nrefl, aInt, aStr, aUn, AR.of, AR.ofB, AR.ofH, reduceIte, Nat.reduceEqDiff, aBuiltin, aLen, aField, aFieldAddr, aIndexAddr, aStore, aLoad, cellsL, oneCell, splice, new_next, new_base, upd_next, upd_base, cell_new_ne, cell_new_eq, cell_upd_ne, cell_upd_eq, loads_new_ne, loads_new_eq, loads_upd_ne, loads_upd_eq, stores_new_eq, stores_new_ne, stores_upd_ne, Option.map_some, List.toList_toArray, List.length_cons, List.length_nil, List.take_succ_cons, List.take_zero, List.drop_succ_cons, List.drop_zero, List.all_cons, List.all_nil, Bool.and_self, Bool.and_true, List.cons_append, List.nil_append, List.append_nil, List.append_eq, Nat.reduceBEq, Nat.reduceLeDiff, Nat.zero_add, Nat.add_zero, Nat.reduceMul, Nat.reduceSub, Nat.reduceLT, Nat.beq_refl, List.map_cons, List.map_nil, Nat.reduceAdd, cfg_P, sz3, sz38, agg3, agg38, und25, fld38_4, fld38_5, zero38, und26, sz24, sz9, a9, agg24, fld24_0, fld24_1] <;> with_reducible rfl))
      | ((with_reducible apply sc_false); (case hc => simp only [ev, at_some, at_none, at_args, Option.getD_some, Option.getD_none, List.getElem?_cons_zero, List.getElem?_cons_succ, List.getElem?_nil, decide_true, decide_false, Bool.not_true, Bool.not_false, f0, f1, f5, g1, g2, l1, l2, if_true, Int.toNat_natCast, true_and, and_self, ne38, reduceIte, Nat.reduceEqDiff]; done))
      | ((with_reducible apply sc_true); (case hc => simp only [ev, at_some, at_none, at_args, Option.getD_some, Option.getD_none, List.getElem?_cons_zero, List.getElem?_cons_succ, List.getElem?_nil, decide_true, decide_false, Bool.not_true, Bool.not_false, f0, f1, f5, g1, g2, l1, l2, if_true, Int.toNat_natCast, true_and, and_self, ne38, reduceIte, Nat.reduceEqDiff]; done)))
    refine ⟨xs.length - (t + 1), by omega, (hG.step _).step _, t + 1, by omega, rfl, ?_, ?_, ?_⟩ <;> simp only [at_some, at_none, f0, f1, f5, reduceIte, Nat.reduceEqDiff]
    congr 1
    simp [IntKind.wrap, IntKind.bits, IntKind.signed]; omega
  · obtain rfl : t = xs.length := by omega
    have g1 : decide ((xs.length : Int) < (xs.length : Int)) = false := decF (by omega)
    have g2 : v1 = .slice q1 xs.length q2 := e1
    repeat (first
      | (with_reducible refine sc_seq ?_)
      | (with_reducible refine sc_region ?_)
      | (with_reducible refine sc_block ?_)
      | (with_reducible refine sc_scope ?_)
      | ((with_reducible refine sc_skip ?_); dsimp only)
      | ((with_reducible refine sc_label ?_); dsimp only)
      | ((with_reducible refine sc_ret ?_); dsimp only)
      | ((with_reducible refine sc_exit ?_); dsimp only [Nat.beq])
      | ((with_reducible refine so_nil ?_); dsimp only)
      | ((with_reducible apply so_skip); (case hw => simp only [aWanted, aYield, List.getElem?_toArray, at_some, at_none, at_args, Option.getD_some, Option.getD_none, List.getElem?_cons_zero, List.getElem?_cons_succ, List.getElem?_nil, decide_true, decide_false, Bool.not_true, Bool.not_false, f0, f1, f5, e1, g1, reduceIte, Nat.reduceEqDiff, b_tf, b_ft, beq_self_eq_true, Bool.false_eq_true, Bool.true_eq_false]; done))
      | ((with_reducible apply so_val); (case hw => simp only [aWanted, aYield, List.getElem?_toArray, at_some, at_none, at_args, Option.getD_some, Option.getD_none, List.getElem?_cons_zero, List.getElem?_cons_succ, List.getElem?_nil, decide_true, decide_false, Bool.not_true, Bool.not_false, f0, f1, f5, e1, g1, reduceIte, Nat.reduceEqDiff, b_tf, b_ft, beq_self_eq_true, Bool.false_eq_true, Bool.true_eq_false]; done); (case ha => simp (disch := (refine id ?_; first | assumption | omega | (simp only [new_next, new_base, upd_next, upd_base, List.length_cons, List.length_nil, List.all_cons, List.all_nil, oneCell, Bool.and_self, Bool.and_true]; done) | (simp only [new_next, new_base, upd_next, upd_base, List.length_cons, List.length_nil]; omega))) only [aOp, ev, at_some, at_none, at_args, Option.getD_some, Option.getD_none, List.getElem?_cons_zero, List.getElem?_cons_succ, List.getElem?_nil, decide_true, decide_false, Bool.not_true, Bool.not_false, f0, f1, f5, e1, g1, aBin_int, aBin_str, str_refl, int_refl, int_nrefl, aInt, aStr, aUn, AR.of, AR.ofB, AR.ofH, reduceIte, Nat.reduceEqDiff, aBuiltin, aLen, aField, aFieldAddr, aIndexAddr, aStore, aLoad, cellsL, oneCell, splice, new_next, new_base, upd_next, upd_base, cell_new_ne, cell_new_eq, cell_upd_ne, cell_upd_eq, loads_new_ne, loads_new_eq, loads_upd_ne, loads_upd_eq, stores_new_eq, stores_new_ne, stores_upd_ne, Option.map_some, List.toList_toArray, List.length_cons, List.length_nil, List.take_succ_cons, List.take_zero, List.drop_succ_cons, List.drop_zero, List.all_cons, List.all_nil, Bool.and_self, Bool.and_true, List.cons_append, List.nil_append, List.append_nil, List.append_eq, Nat.reduceBEq, Nat.reduceLeDiff, Nat.zero_add, Nat.add_zero, Nat.reduceMul, Nat.reduceSub, Nat.reduceLT, Nat.beq_refl, List.map_cons, List.map_nil, Nat.reduceAdd, cfg_P, sz3, sz38, agg3, agg38, und25, fld38_4, fld38_5, zero38, und26, sz24, sz9, a9, agg24, fld24_0, fld24_1] <;> with_reducible rfl))
      | ((with_reducible apply sc_false); (case hc => simp only [ev, at_some, at_none, at_args, Option.getD_some, Option.getD_none, List.getElem?_cons_zero, List.getElem?_cons_succ, List.getElem?_nil, decide_true, decide_false, Bool.not_true, Bool.not_false, f0, f1, f5, e1, g1, reduceIte, Nat.reduceEqDiff]; done))
      | ((with_reducible apply sc_true); (case hc => simp only [ev, at_some, at_none, at_args, Option.getD_some, Option.getD_none, List.getElem?_cons_zero, List.getElem?_cons_succ, List.getElem?_nil, decide_true, decide_false, Bool.not_true, Bool.not_false, f0, f1, f5, e1, g1, reduceIte, Nat.reduceEqDiff]; done)))
    apply res_fin (rs := [ResultVar.tmp 4]) trivial
    case h => simp (disch := (refine id ?_; first | assumption | omega | (simp only [new_next, new_base, upd_next, upd_base, List.length_cons, List.length_nil, List.all_cons, List.all_nil, oneCell, Bool.and_self, Bool.and_true]; done) | (simp only [new_next, new_base, upd_next, upd_base, List.length_cons, List.length_nil]; omega))) only [aResults, aResult, aOp, ev, at_some, at_none, at_args, Option.getD_some, Option.getD_none, List.getElem?_cons_zero, List.getElem?_cons_succ, List.getElem?_nil, decide_true, decide_false, Bool.not_true, Bool.not_false, aBin_int, aBin_str, str_refl, int_refl, int_nrefl, aInt, aStr, aUn, AR.of, AR.ofB, AR.ofH, reduceIte, Nat.reduceEqDiff, aBuiltin, aLen, aField, aFieldAddr, aIndexAddr, aStore, aLoad, cellsL, oneCell, splice, new_next, new_base, upd_next, upd_base, cell_new_ne, cell_new_eq, cell_upd_ne, cell_upd_eq, loads_new_ne, loads_new_eq, loads_upd_ne, loads_upd_eq, stores_new_eq, stores_new_ne, stores_upd_ne, Option.map_some, List.toList_toArray, List.length_cons, List.length_nil, List.take_succ_cons, List.take_zero, List.drop_succ_cons, List.drop_zero, List.all_cons, List.all_nil, Bool.and_self, Bool.and_true, List.cons_append, List.nil_append, List.append_nil, List.append_eq, Nat.reduceBEq, Nat.reduceLeDiff, Nat.zero_add, Nat.add_zero, Nat.reduceMul, Nat.reduceSub, Nat.reduceLT, Nat.beq_refl, List.map_cons, List.map_nil, Nat.reduceAdd, cfg_P, sz3, sz38, agg3, agg38, und25, fld38_4, fld38_5, zero38, und26, sz24, sz9, a9, agg24, fld24_0, fld24_1] <;> with_reducible rfl
    case hq => exact ⟨rfl, hG⟩

set_option maxRecDepth 10000 in
set_option maxHeartbeats 4000000 in
theorem slab_wf (H : AH) (hb : H.base ≤ H.next) (v1 v2 : Value) (xs : List (List Value)) (h1 : Rd H 2 v1 xs) (h2 : Rd H 2 v2 xs) (hx : Labels xs) (hl : xs.length < 4611686018427387904) :
    Wf cfg 24 [v1, v2] H fun v H' => v = .bool true ∧ Ext H H' := by
  obtain ⟨q1, q2, e1, _⟩ := id h1
  obtain ⟨q3, q4, e2, _⟩ := id h2
  refine wf_text (fn := Tryz.f24) rfl Tryz.func24 rfl rfl ?_
  repeat (first
    | (with_reducible refine sc_seq ?_)
    | (with_reducible refine sc_region ?_)
    | (with_reducible refine sc_block ?_)
    | (with_reducible refine sc_scope ?_)
    | ((with_reducible refine sc_skip ?_); dsimp only)
    | ((with_reducible refine sc_label ?_); dsimp only)
    | ((with_reducible refine sc_ret ?_); dsimp only)
    | ((with_reducible refine sc_exit ?_); dsimp only [Nat.beq])
    | ((with_reducible refine so_nil ?_); dsimp only)
    | ((with_reducible apply so_skip); (case hw => simp only [aWanted, aYield, List.getElem?_toArray, at_some, at_none, at_args, Option.getD_some, Option.getD_none, List.getElem?_cons_zero, List.getElem?_cons_succ, List.getElem?_nil, decide_true, decide_false, Bool.not_true, Bool.not_false, e1, e2, reduceIte, Nat.reduceEqDiff, b_tf, b_ft, beq_self_eq_true, Bool.false_eq_true, Bool.true_eq_false]; done))
    | ((with_reducible apply so_val); (case hw => simp only [aWanted, aYield, List.getElem?_toArray, at_some, at_none, at_args, Option.getD_some, Option.getD_none, List.getElem?_cons_zero, List.getElem?_cons_succ, List.getElem?_nil, decide_true, decide_false, Bool.not_true, Bool.not_false, e1, e2, reduceIte, Nat.reduceEqDiff, b_tf, b_ft, beq_self_eq_true, Bool.false_eq_true, Bool.true_eq_false]; done); (case ha => simp (disch := (refine id ?_; first | assumption | omega | (simp only [new_next, new_base, upd_next, upd_base, List.length_cons, List.length_nil, List.all_cons, List.all_nil, oneCell, Bool.and_self, Bool.and_true]; done) | (simp only [new_next, new_base, upd_next, upd_base, List.length_cons, List.length_nil]; omega))) only [aOp, ev, at_some, at_none, at_args, Option.getD_some, Option.getD_none, List.getElem?_cons_zero, List.getElem?_cons_succ, List.getElem?_nil, decide_true, decide_false, Bool.not_true, Bool.not_false, e1, e2, aBin_int, aBin_str, str_refl, int_refl, int_nrefl, aInt, aStr, aUn, AR.of, AR.ofB, AR.ofH, reduceIte, Nat.reduceEqDiff, aBuiltin, aLen, aField, aFieldAddr, aIndexAddr, aStore, aLoad, cellsL, oneCell, splice, new_next, new_base, upd_next, upd_base, cell_new_ne, cell_new_eq, cell_upd_ne, cell_upd_eq, loads_new_ne, loads_new_eq, loads_upd_ne, loads_upd_eq, stores_new_eq, stores_new_ne, stores_upd_ne, Option.map_some, List.toList_toArray, List.length_cons, List.length_nil, List.take_succ_cons, List.take_zero, List.drop_succ_cons, List.drop_zero, List.all_cons, List.all_nil, Bool.and_self, Bool.and_true, List.cons_append, List.nil_append, List.append_nil, List.append_eq, Nat.reduceBEq, Nat.reduceLeDiff, Nat.zero_add, Nat.add_zero, Nat.reduceMul, Nat.reduceSub, Nat.reduceLT, Nat.beq_refl, List.map_cons, List.map_nil, Nat.reduceAdd, cfg_P, sz3, sz38, agg3, agg38, und25, fld38_4, fld38_5, zero38, und26, sz24, sz9, a9, agg24, fld24_0, fld24_1] <;> with_reducible rfl))
    | ((with_reducible apply sc_false); (case hc => simp only [ev, at_some, at_none, at_args, Option.getD_some, Option.getD_none, List.getElem?_cons_zero, List.getElem?_cons_succ, List.getElem?_nil, decide_true, decide_false, Bool.not_true, Bool.not_false, e1, e2, reduceIte, Nat.reduceEqDiff]; done))
    | ((with_reducible apply sc_true); (case hc => simp only [ev, at_some, at_none, at_args, Option.getD_some, Option.getD_none, List.getElem?_cons_zero, List.getElem?_cons_succ, List.getElem?_nil, decide_true, decide_false, Bool.not_true, Bool.not_false, e1, e2, reduceIte, Nat.reduceEqDiff]; done)))
  refine sc_loop (I := fun n fr G => Ext H G ∧ ∃ t : Nat, t ≤ xs.length ∧ n = xs.length - t ∧ Fr.at fr 0 = v1 ∧ Fr.at fr 1 = v2 ∧ Fr.at fr 5 = .int .i64 t) ?_ xs.length _ _ ?_
  rotate_left
  · refine ⟨Ext.refl H, 0, by omega, rfl, ?_, ?_, ?_⟩ <;> simp only [at_some, at_none, at_args, List.getElem?_cons_zero, List.getElem?_cons_succ, Option.getD_some, reduceIte, Nat.reduceEqDiff, e1, e2] <;> rfl
  rintro n fr G ⟨hG, t, ht, rfl, f0, f1, f5⟩
  by_cases hlt : t < xs.length
  · obtain ⟨x, hxt⟩ : ∃ x, xs[t]? = some x := ⟨_, List.getElem?_eq_getElem hlt⟩
    obtain ⟨s, p, rfl⟩ := hx x (List.mem_of_getElem? hxt)
    obtain ⟨b1, o1, c1, rfl, hb1, _, _, l1⟩ := (h1.mono hG).at hxt
    obtain ⟨b2, o2, c2, rfl, hb2, _, _, l2⟩ := (h2.mono hG).at hxt
    have m1 := l1 0 (by omega)
    have m2 := l2 0 (by omega)
    have g1 : decide ((t : Int) < (xs.length : Int)) = true := decT (by omega)
    have g2 : (0 ≤ (t : Int) ∧ (t : Int) < (xs.length : Int)) := by omega
    simp only [Nat.add_zero, List.getElem?_cons_zero] at m1 m2
    repeat (first
      | (with_reducible refine sc_seq ?_)
      | (with_reducible refine sc_region ?_)
      | (with_reducible refine sc_block ?_)
      | (with_reducible refine sc_scope ?_)
      | ((with_reducible refine sc_skip ?_); dsimp only)
      | ((with_reducible refine sc_label ?_); dsimp only)
      | ((with_reducible refine sc_ret ?_); dsimp only)
      | ((with_reducible refine sc_exit ?_); dsimp only [Nat.beq])
      | ((with_reducible refine so_nil ?_); dsimp only)
      | ((with_reducible apply so_skip); (case hw => simp only [aWanted, aYield, List.getElem?_toArray, at_some, at_none, at_args, Option.getD_some, Option.getD_none, List.getElem?_cons_zero, List.getElem?_cons_succ, List.getElem?_nil, decide_true, decide_false, Bool.not_true, Bool.not_false, f0, f1, f5, g1, g2, m1, m2, if_true, Int.toNat_natCast, true_and, and_self, str_neq, reduceIte, Nat.reduceEqDiff, b_tf, b_ft, beq_self_eq_true, Bool.false_eq_true, Bool.true_eq_false]; done))
      | ((with_reducible apply so_val); (case hw => simp only [aWanted, aYield, List.getElem?_toArray, at_some, at_none, at_args, Option.getD_some, Option.getD_none, List.getElem?_cons_zero, List.getElem?_cons_succ, List.getElem?_nil, decide_true, decide_false, Bool.not_true, Bool.not_false, f0, f1, f5, g1, g2, m1, m2, if_true, Int.toNat_natCast, true_and, and_self, str_neq, reduceIte, Nat.reduceEqDiff, b_tf, b_ft, beq_self_eq_true, Bool.false_eq_true, Bool.true_eq_false]; done); (case ha => simp (disch := (refine id ?_; first | assumption | omega | (simp only [new_next, new_base, upd_next, upd_base, List.length_cons, List.length_nil, List.all_cons, List.all_nil, oneCell, Bool.and_self, Bool.and_true]; done) | (simp only [new_next, new_base, upd_next, upd_base, List.length_cons, List.length_nil]; omega))) only [aOp, ev, at_some, at_none, at_args, Option.getD_some, Option.getD_none, List.getElem?_cons_zero, List.getElem?_cons_succ, List.getElem?_nil, decide_true, decide_false, Bool.not_true, Bool.not_false, f0, f1, f5, g1, g2, m1, m2, if_true, Int.toNat_natCast, true_and, and_self, str_neq, aBin_int, aBin_str, str_refl, int_refl, int_nrefl, aInt, aStr, aUn, AR.of, AR.ofB, AR.ofH, reduceIte, Nat.reduceEqDiff, aBuiltin, aLen, aField, aFieldAddr, aIndexAddr, aStore, aLoad, cellsL, oneCell, splice, new_next, new_base, upd_next, upd_base, cell_new_ne, cell_new_eq, cell_upd_ne, cell_upd_eq, loads_new_ne, loads_new_eq, loads_upd_ne, loads_upd_eq, stores_new_eq, stores_new_ne, stores_upd_ne, Option.map_some, List.toList_toArray, List.length_cons, List.length_nil, List.take_succ_cons, List.take_zero, List.drop_succ_cons, List.drop_zero, List.all_cons, List.all_nil, Bool.and_self, Bool.and_true, List.cons_append, List.nil_append, List.append_nil, List.append_eq, Nat.reduceBEq, Nat.reduceLeDiff, Nat.zero_add, Nat.add_zero, Nat.reduceMul, Nat.reduceSub, Nat.reduceLT, Nat.beq_refl, List.map_cons, List.map_nil, Nat.reduceAdd, cfg_P, sz3, sz38, agg3, agg38, und25, fld38_4, fld38_5, zero38, und26, sz24, sz9, a9, agg24, fld24_0, fld24_1] <;> with_reducible rfl))
      | ((with_reducible apply sc_false); (case hc => simp only [ev, at_some, at_none, at_args, Option.getD_some, Option.getD_none, List.getElem?_cons_zero, List.getElem?_cons_succ, List.getElem?_nil, decide_true, decide_false, Bool.not_true, Bool.not_false, f0, f1, f5, g1, g2, m1, m2, if_true, Int.toNat_natCast, true_and, and_self, str_neq, reduceIte, Nat.reduceEqDiff]; done))
      | ((with_reducible apply sc_true); (case hc => simp only [ev, at_some, at_none, at_args, Option.getD_some, Option.getD_none, List.getElem?_cons_zero, List.getElem?_cons_succ, List.getElem?_nil, decide_true, decide_false, Bool.not_true, Bool.not_false, f0, f1, f5, g1, g2, m1, m2, if_true, Int.toNat_natCast, true_and, and_self, str_neq, reduceIte, Nat.reduceEqDiff]; done)))
    refine ⟨xs.length - (t + 1), by omega, hG, t + 1, by omega, rfl, ?_, ?_, ?_⟩ <;> simp only [at_some, at_none, f0, f1, f5, reduceIte, Nat.reduceEqDiff]
    congr 1
    simp [IntKind.wrap, IntKind.bits, IntKind.signed]; omega
  · obtain rfl : t = xs.length := by omega
    have g1 : decide ((xs.length : Int) < (xs.length : Int)) = false := decF (by omega)
    repeat (first
      | (with_reducible refine sc_seq ?_)
      | (with_reducible refine sc_region ?_)
      | (with_reducible refine sc_block ?_)
      | (with_reducible refine sc_scope ?_)
      | ((with_reducible refine sc_skip ?_); dsimp only)
      | ((with_reducible refine sc_label ?_); dsimp only)
      | ((with_reducible refine sc_ret ?_); dsimp only)
      | ((with_reducible refine sc_exit ?_); dsimp only [Nat.beq])
      | ((with_reducible refine so_nil ?_); dsimp only)
      | ((with_reducible apply so_skip); (case hw => simp only [aWanted, aYield, List.getElem?_toArray, at_some, at_none, at_args, Option.getD_some, Option.getD_none, List.getElem?_cons_zero, List.getElem?_cons_succ, List.getElem?_nil, decide_true, decide_false, Bool.not_true, Bool.not_false, f0, f1, f5, e1, g1, reduceIte, Nat.reduceEqDiff, b_tf, b_ft, beq_self_eq_true, Bool.false_eq_true, Bool.true_eq_false]; done))
      | ((with_reducible apply so_val); (case hw => simp only [aWanted, aYield, List.getElem?_toArray, at_some, at_none, at_args, Option.getD_some, Option.getD_none, List.getElem?_cons_zero, List.getElem?_cons_succ, List.getElem?_nil, decide_true, decide_false, Bool.not_true, Bool.not_false, f0, f1, f5, e1, g1, reduceIte, Nat.reduceEqDiff, b_tf, b_ft, beq_self_eq_true, Bool.false_eq_true, Bool.true_eq_false]; done); (case ha => simp (disch := (refine id ?_; first | assumption | omega | (simp only [new_next, new_base, upd_next, upd_base, List.length_cons, List.length_nil, List.all_cons, List.all_nil, oneCell, Bool.and_self, Bool.and_true]; done) | (simp only [new_next, new_base, upd_next, upd_base, List.length_cons, List.length_nil]; omega))) only [aOp, ev, at_some, at_none, at_args, Option.getD_some, Option.getD_none, List.getElem?_cons_zero, List.getElem?_cons_succ, List.getElem?_nil, decide_true, decide_false, Bool.not_true, Bool.not_false, f0, f1, f5, e1, g1, aBin_int, aBin_str, str_refl, int_refl, int_nrefl, aInt, aStr, aUn, AR.of, AR.ofB, AR.ofH, reduceIte, Nat.reduceEqDiff, aBuiltin, aLen, aField, aFieldAddr, aIndexAddr, aStore, aLoad, cellsL, oneCell, splice, new_next, new_base, upd_next, upd_base, cell_new_ne, cell_new_eq, cell_upd_ne, cell_upd_eq, loads_new_ne, loads_new_eq, loads_upd_ne, loads_upd_eq, stores_new_eq, stores_new_ne, stores_upd_ne, Option.map_some, List.toList_toArray, List.length_cons, List.length_nil, List.take_succ_cons, List.take_zero, List.drop_succ_cons, List.drop_zero, List.all_cons, List.all_nil, Bool.and_self, Bool.and_true, List.cons_append, List.nil_append, List.append_nil, List.append_eq, Nat.reduceBEq, Nat.reduceLeDiff, Nat.zero_add, Nat.add_zero, Nat.reduceMul, Nat.reduceSub, Nat.reduceLT, Nat.beq_refl, List.map_cons, List.map_nil, Nat.reduceAdd, cfg_P, sz3, sz38, agg3, agg38, und25, fld38_4, fld38_5, zero38, und26, sz24, sz9, a9, agg24, fld24_0, fld24_1] <;> with_reducible rfl))
      | ((with_reducible apply sc_false); (case hc => simp only [ev, at_some, at_none, at_args, Option.getD_some, Option.getD_none, List.getElem?_cons_zero, List.getElem?_cons_succ, List.getElem?_nil, decide_true, decide_false, Bool.not_true, Bool.not_false, f0, f1, f5, e1, g1, reduceIte, Nat.reduceEqDiff]; done))
      | ((with_reducible apply sc_true); (case hc => simp only [ev, at_some, at_none, at_args, Option.getD_some, Option.getD_none, List.getElem?_cons_zero, List.getElem?_cons_succ, List.getElem?_nil, decide_true, decide_false, Bool.not_true, Bool.not_false, f0, f1, f5, e1, g1, reduceIte, Nat.reduceEqDiff]; done)))
    apply res_fin (rs := [ResultVar.tmp 4]) trivial
    case h => simp (disch := (refine id ?_; first | assumption | omega | (simp only [new_next, new_base, upd_next, upd_base, List.length_cons, List.length_nil, List.all_cons, List.all_nil, oneCell, Bool.and_self, Bool.and_true]; done) | (simp only [new_next, new_base, upd_next, upd_base, List.length_cons, List.length_nil]; omega))) only [aResults, aResult, aOp, ev, at_some, at_none, at_args, Option.getD_some, Option.getD_none, List.getElem?_cons_zero, List.getElem?_cons_succ, List.getElem?_nil, decide_true, decide_false, Bool.not_true, Bool.not_false, aBin_int, aBin_str, str_refl, int_refl, int_nrefl, aInt, aStr, aUn, AR.of, AR.ofB, AR.ofH, reduceIte, Nat.reduceEqDiff, aBuiltin, aLen, aField, aFieldAddr, aIndexAddr, aStore, aLoad, cellsL, oneCell, splice, new_next, new_base, upd_next, upd_base, cell_new_ne, cell_new_eq, cell_upd_ne, cell_upd_eq, loads_new_ne, loads_new_eq, loads_upd_ne, loads_upd_eq, stores_new_eq, stores_new_ne, stores_upd_ne, Option.map_some, List.toList_toArray, List.length_cons, List.length_nil, List.take_succ_cons, List.take_zero, List.drop_succ_cons, List.drop_zero, List.all_cons, List.all_nil, Bool.and_self, Bool.and_true, List.cons_append, List.nil_append, List.append_nil, List.append_eq, Nat.reduceBEq, Nat.reduceLeDiff, Nat.zero_add, Nat.add_zero, Nat.reduceMul, Nat.reduceSub, Nat.reduceLT, Nat.beq_refl, List.map_cons, List.map_nil, Nat.reduceAdd, cfg_P, sz3, sz38, agg3, agg38, und25, fld38_4, fld38_5, zero38, und26, sz24, sz9, a9, agg24, fld24_0, fld24_1] <;> with_reducible rfl
    case hq => exact ⟨rfl, hG⟩

set_option maxRecDepth 10000 in
set_option maxHeartbeats 4000000 in
theorem snod_wf (H : AH) (hb : H.base ≤ H.next) (v1 v2 : Value) (xs : List (List Value)) (h1 : Rd H 6 v1 xs) (h2 : Rd H 6 v2 xs) (hx : Nodes xs) (hl : xs.length < 4611686018427387904) :
    Wf cfg 19 [v1, v2] H fun v H' => v = .bool true ∧ Ext H H' := by
  obtain ⟨q1, q2, e1, _⟩ := id h1
  obtain ⟨q3, q4, e2, _⟩ := id h2
  refine wf_text (fn := Tryz.f19) rfl Tryz.func19 rfl rfl ?_
  repeat (first
    | (with_reducible refine sc_seq ?_)
    | (with_reducible refine sc_region ?_)
    | (with_reducible refine sc_block ?_)
    | (with_reducible refine sc_scope ?_)
    | ((with_reducible refine sc_skip ?_); dsimp only)
    | ((with_reducible refine sc_label ?_); dsimp only)
    | ((with_reducible refine sc_ret ?_); dsimp only)
    | ((with_reducible refine sc_exit ?_); dsimp only [Nat.beq])
    | ((with_reducible refine so_nil ?_); dsimp only)
    | ((with_reducible apply so_skip); (case hw => simp only [aWanted, aYield, List.getElem?_toArray, at_some, at_none, at_args, Option.getD_some, Option.getD_none, List.getElem?_cons_zero, List.getElem?_cons_succ, List.getElem?_nil, decide_true, decide_false, Bool.not_true, Bool.not_false, e1, e2, reduceIte, Nat.reduceEqDiff, b_tf, b_ft, beq_self_eq_true, Bool.false_eq_true, Bool.true_eq_false]; done))
    | ((with_reducible apply so_val); (case hw => simp only [aWanted, aYield, List.getElem?_toArray, at_some, at_none, at_args, Option.getD_some, Option.getD_none, List.getElem?_cons_zero, List.getElem?_cons_succ, List.getElem?_nil, decide_true, decide_false, Bool.not_true, Bool.not_false, e1, e2, reduceIte, Nat.reduceEqDiff, b_tf, b_ft, beq_self_eq_true, Bool.false_eq_true, Bool.true_eq_false]; done); (case ha => simp (disch := (refine id ?_; first | assumption | omega | (simp only [new_next, new_base, upd_next, upd_base, List.length_cons, List.length_nil, List.all_cons, List.all_nil, oneCell, Bool.and_self, Bool.and_true]; done) | (simp only [new_next, new_base, upd_next, upd_base, List.length_cons, List.length_nil]; omega))) only [aOp, ev, at_some, at_none, at_args, Option.getD_some, Option.getD_none, List.getElem?_cons_zero, List.getElem?_cons_succ, List.getElem?_nil, decide_true, decide_false, Bool.not_true, Bool.not_false, e1, e2, aBin_int, aBin_str, str_refl, int_refl, int_nrefl, aInt, aStr, aUn, AR.of, AR.ofB, AR.ofH, reduceIte, Nat.reduceEqDiff, aBuiltin, aLen, aField, aFieldAddr, aIndexAddr, aStore, aLoad, cellsL, oneCell, splice, new_next, new_base, upd_next, upd_base, cell_new_ne, cell_new_eq, cell_upd_ne, cell_upd_eq, loads_new_ne, loads_new_eq, loads_upd_ne, loads_upd_eq, stores_new_eq, stores_new_ne, stores_upd_ne, Option.map_some, List.toList_toArray, List.length_cons, List.length_nil, List.take_succ_cons, List.take_zero, List.drop_succ_cons, List.drop_zero, List.all_cons, List.all_nil, Bool.and_self, Bool.and_true, List.cons_append, List.nil_append, List.append_nil, List.append_eq, Nat.reduceBEq, Nat.reduceLeDiff, Nat.zero_add, Nat.add_zero, Nat.reduceMul, Nat.reduceSub, Nat.reduceLT, Nat.beq_refl, List.map_cons, List.map_nil, Nat.reduceAdd, cfg_P, sz3, sz38, agg3, agg38, und25, fld38_4, fld38_5, zero38, und26, sz24, sz9, a9, agg24, fld24_0, fld24_1] <;> with_reducible rfl))
    | ((with_reducible apply sc_false); (case hc => simp only [ev, at_some, at_none, at_args, Option.getD_some, Option.getD_none, List.getElem?_cons_zero, List.getElem?_cons_succ, List.getElem?_nil, decide_true, decide_false, Bool.not_true, Bool.not_false, e1, e2, reduceIte, Nat.reduceEqDiff]; done))
    | ((with_reducible apply sc_true); (case hc => simp only [ev, at_some, at_none, at_args, Option.getD_some, Option.getD_none, List.getElem?_cons_zero, List.getElem?_cons_succ, List.getElem?_nil, decide_true, decide_false, Bool.not_true, Bool.not_false, e1, e2, reduceIte, Nat.reduceEqDiff]; done)))
  refine sc_loop (I := fun n fr G => Ext H G ∧ ∃ t : Nat, t ≤ xs.length ∧ n = xs.length - t ∧ Fr.at fr 0 = v1 ∧ Fr.at fr 1 = v2 ∧ Fr.at fr 5 = .int .i64 t) ?_ xs.length _ _ ?_
  rotate_left
  · refine ⟨Ext.refl H, 0, by omega, rfl, ?_, ?_, ?_⟩ <;> simp only [at_some, at_none, at_args, List.getElem?_cons_zero, List.getElem?_cons_succ, Option.getD_some, reduceIte, Nat.reduceEqDiff, e1, e2] <;> rfl
  rintro n fr G ⟨hG, t, ht, rfl, f0, f1, f5⟩
  by_cases hlt : t < xs.length
  · obtain ⟨x, hxt⟩ : ∃ x, xs[t]? = some x := ⟨_, List.getElem?_eq_getElem hlt⟩
    obtain ⟨a, f, s, n, k, p, rfl⟩ := hx x (List.mem_of_getElem? hxt)
    obtain ⟨b1, o1, c1, rfl, hb1, _, l1, _⟩ := (h1.mono hG).at hxt
    obtain ⟨b2, o2, c2, rfl, hb2, _, l2, _⟩ := (h2.mono hG).at hxt
    have g1 : decide ((t : Int) < (xs.length : Int)) = true := decT (by omega)
    have g2 : (0 ≤ (t : Int) ∧ (t : Int) < (xs.length : Int)) := by omega
    repeat (first
      | (with_reducible refine sc_seq ?_)
      | (with_reducible refine sc_region ?_)
      | (with_reducible refine sc_block ?_)
      | (with_reducible refine sc_scope ?_)
      | ((with_reducible refine sc_skip ?_); dsimp only)
      | ((with_reducible refine sc_label ?_); dsimp only)
      | ((with_reducible refine sc_ret ?_); dsimp only)
      | ((with_reducible refine sc_exit ?_); dsimp only [Nat.beq])
      | ((with_reducible refine so_nil ?_); dsimp only)
      | ((with_reducible apply so_skip); (case hw => simp only [aWanted, aYield, List.getElem?_toArray, at_some, at_none, at_args, Option.getD_some, Option.getD_none, List.getElem?_cons_zero, List.getElem?_cons_succ, List.getElem?_nil, decide_true, decide_false, Bool.not_true, Bool.not_false, f0, f1, f5, g1, g2, l1, l2, if_true, Int.toNat_natCast, true_and, and_self, ne38, reduceIte, Nat.reduceEqDiff, b_tf, b_ft, beq_self_eq_true, Bool.false_eq_true, Bool.true_eq_false]; done))
      | ((with_reducible apply so_val); (case hw => simp only [aWanted, aYield, List.getElem?_toArray, at_some, at_none, at_args, Option.getD_some, Option.getD_none, List.getElem?_cons_zero, List.getElem?_cons_succ, List.getElem?_nil, decide_true, decide_false, Bool.not_true, Bool.not_false, f0, f1, f5, g1, g2, l1, l2, if_true, Int.toNat_natCast, true_and, and_self, ne38, reduceIte, Nat.reduceEqDiff, b_tf, b_ft, beq_self_eq_true, Bool.false_eq_true, Bool.true_eq_false]; done); (case ha => simp (disch := (refine id ?_; first | assumption | omega | (simp only [new_next, new_base, upd_next, upd_base, List.length_cons, List.length_nil, List.all_cons, List.all_nil, oneCell, Bool.and_self, Bool.and_true]; done) | (simp only [new_next, new_base, upd_next, upd_base, List.length_cons, List.length_nil]; omega))) only [aOp, ev, at_some, at_none, at_args, Option.getD_some, Option.getD_none, List.getElem?_cons_zero, List.getElem?_cons_succ, List.getElem?_nil, decide_true, decide_false, Bool.not_true, Bool.not_false, f0, f1, f5, g1, g2, l1, l2, if_true, Int.toNat_natCast, true_and, and_self, ne38, aBin_int, aBin_str, str_refl, int_refl, int_nrefl, aInt, aStr, aUn, AR.of, AR.ofB, AR.ofH, reduceIte, Nat.reduceEqDiff, aBuiltin, aLen, aField, aFieldAddr, aIndexAddr, aStore, aLoad, cellsL, oneCell, splice, new_next, new_base, upd_next, upd_base, cell_new_ne, cell_new_eq, cell_upd_ne, cell_upd_eq, loads_new_ne, loads_new_eq, loads_upd_ne, loads_upd_eq, stores_new_eq, stores_new_ne, stores_upd_ne, Option.map_some, List.toList_toArray, List.length_cons, List.length_nil, List.take_succ_cons, List.take_zero, List.drop_succ_cons, List.drop_zero, List.all_cons, List.all_nil, Bool.and_self, Bool.and_true, List.cons_append, List.nil_append, List.append_nil, List.append_eq, Nat.reduceBEq, Nat.reduceLeDiff, Nat.zero_add, Nat.add_zero, Nat.reduceMul, Nat.reduceSub, Nat.reduceLT, Nat.beq_refl, List.map_cons, List.map_nil, Nat.reduceAdd, cfg_P, sz3, sz38, agg3, agg38, und25, fld38_4, fld38_5, zero38, und26, sz24, sz9, a9, agg24, fld24_0, fld24_1] <;> with_reducible rfl))
      | ((with_reducible apply sc_false); (case hc => simp only [ev, at_some, at_none, at_args, Option.getD_some, Option.getD_none, List.getElem?_cons_zero, List.getElem?_cons_succ, List.getElem?_nil, decide_true, decide_false, Bool.not_true, Bool.not_false, f0, f1, f5, g1, g2, l1, l2, if_true, Int.toNat_natCast, true_and, and_self, ne38, reduceIte, Nat.reduceEqDiff]; done))
      | ((with_reducible apply sc_true); (case hc => simp only [ev, at_some, at_none, at_args, Option.getD_some, Option.getD_none, List.getElem?_cons_zero, List.getElem?_cons_succ, List.getElem?_nil, decide_true, decide_false, Bool.not_true, Bool.not_false, f0, f1, f5, g1, g2, l1, l2, if_true, Int.toNat_natCast, true_and, and_self, ne38, reduceIte, Nat.reduceEqDiff]; done)))
    refine ⟨xs.length - (t + 1), by omega, hG, t + 1, by omega, rfl, ?_, ?_, ?_⟩ <;> simp only [at_some, at_none, f0, f1, f5, reduceIte, Nat.reduceEqDiff]
    congr 1
    simp [IntKind.wrap, IntKind.bits, IntKind.signed]; omega
  · obtain rfl : t = xs.length := by omega
    have g1 : decide ((xs.length : Int) < (xs.length : Int)) = false := decF (by omega)
    repeat (first
      | (with_reducible refine sc_seq ?_)
      | (with_reducible refine sc_region ?_)
      | (with_reducible refine sc_block ?_)
      | (with_reducible refine sc_scope ?_)
      | ((with_reducible refine sc_skip ?_); dsimp only)
      | ((with_reducible refine sc_label ?_); dsimp only)
      | ((with_reducible refine sc_ret ?_); dsimp only)
      | ((with_reducible refine sc_exit ?_); dsimp only [Nat.beq])
      | ((with_reducible refine so_nil ?_); dsimp only)
      | ((with_reducible apply so_skip); (case hw => simp only [aWanted, aYield, List.getElem?_toArray, at_some, at_none, at_args, Option.getD_some, Option.getD_none, List.getElem?_cons_zero, List.getElem?_cons_succ, List.getElem?_nil, decide_true, decide_false, Bool.not_true, Bool.not_false, f0, f1, f5, e1, g1, reduceIte, Nat.reduceEqDiff, b_tf, b_ft, beq_self_eq_true, Bool.false_eq_true, Bool.true_eq_false]; done))
      | ((with_reducible apply so_val); (case hw => simp only [aWanted, aYield, List.getElem?_toArray, at_some, at_none, at_args, Option.getD_some, Option.getD_none, List.getElem?_cons_zero, List.getElem?_cons_succ, List.getElem?_nil, decide_true, decide_false, Bool.not_true, Bool.not_false, f0, f1, f5, e1, g1, reduceIte, Nat.reduceEqDiff, b_tf, b_ft, beq_self_eq_true, Bool.false_eq_true, Bool.true_eq_false]; done); (case ha => simp (disch := (refine id ?_; first | assumption | omega | (simp only [new_next, new_base, upd_next, upd_base, List.length_cons, List.length_nil, List.all_cons, List.all_nil, oneCell, Bool.and_self, Bool.and_true]; done) | (simp only [new_next, new_base, upd_next, upd_base, List.length_cons, List.length_nil]; omega))) only [aOp, ev, at_some, at_none, at_args, Option.getD_some, Option.getD_none, List.getElem?_cons_zero, List.getElem?_cons_succ, List.getElem?_nil, decide_true, decide_false, Bool.not_true, Bool.not_false, f0, f1, f5, e1, g1, aBin_int, aBin_str, str_refl, int_refl, int_nrefl, aInt, aStr, aUn, AR.of, AR.ofB, AR.ofH, reduceIte, Nat.reduceEqDiff, aBuiltin, aLen, aField, aFieldAddr, aIndexAddr, aStore, aLoad, cellsL, oneCell, splice, new_next, new_base, upd_next, upd_base, cell_new_ne, cell_new_eq, cell_upd_ne, cell_upd_eq, loads_new_ne, loads_new_eq, loads_upd_ne, loads_upd_eq, stores_new_eq, stores_new_ne, stores_upd_ne, Option.map_some, List.toList_toArray, List.length_cons, List.length_nil, List.take_succ_cons, List.take_zero, List.drop_succ_cons, List.drop_zero, List.all_cons, List.all_nil, Bool.and_self, Bool.and_true, List.cons_append, List.nil_append, List.append_nil, List.append_eq, Nat.reduceBEq, Nat.reduceLeDiff, Nat.zero_add, Nat.add_zero, Nat.reduceMul, Nat.reduceSub, Nat.reduceLT, Nat.beq_refl, List.map_cons, List.map_nil, Nat.reduceAdd, cfg_P, sz3, sz38, agg3, agg38, und25, fld38_4, fld38_5, zero38, und26, sz24, sz9, a9, agg24, fld24_0, fld24_1] <;> with_reducible rfl))
      | ((with_reducible apply sc_false); (case hc => simp only [ev, at_some, at_none, at_args, Option.getD_some, Option.getD_none, List.getElem?_cons_zero, List.getElem?_cons_succ, List.getElem?_nil, decide_true, decide_false, Bool.not_true, Bool.not_false, f0, f1, f5, e1, g1, reduceIte, Nat.reduceEqDiff]; done))
      | ((with_reducible apply sc_true); (case hc => simp only [ev, at_some, at_none, at_args, Option.getD_some, Option.getD_none, List.getElem?_cons_zero, List.getElem?_cons_succ, List.getElem?_nil, decide_true, decide_false, Bool.not_true, Bool.not_false, f0, f1, f5, e1, g1, reduceIte, Nat.reduceEqDiff]; done)))
    apply res_fin (rs := [ResultVar.tmp 4]) trivial
    case h => simp (disch := (refine id ?_; first | assumption | omega | (simp only [new_next, new_base, upd_next, upd_base, List.length_cons, List.length_nil, List.all_cons, List.all_nil, oneCell, Bool.and_self, Bool.and_true]; done) | (simp only [new_next, new_base, upd_next, upd_base, List.length_cons, List.length_nil]; omega))) only [aResults, aResult, aOp, ev, at_some, at_none, at_args, Option.getD_some, Option.getD_none, List.getElem?_cons_zero, List.getElem?_cons_succ, List.getElem?_nil, decide_true, decide_false, Bool.not_true, Bool.not_false, aBin_int, aBin_str, str_refl, int_refl, int_nrefl, aInt, aStr, aUn, AR.of, AR.ofB, AR.ofH, reduceIte, Nat.reduceEqDiff, aBuiltin, aLen, aField, aFieldAddr, aIndexAddr, aStore, aLoad, cellsL, oneCell, splice, new_next, new_base, upd_next, upd_base, cell_new_ne, cell_new_eq, cell_upd_ne, cell_upd_eq, loads_new_ne, loads_new_eq, loads_upd_ne, loads_upd_eq, stores_new_eq, stores_new_ne, stores_upd_ne, Option.map_some, List.toList_toArray, List.length_cons, List.length_nil, List.take_succ_cons, List.take_zero, List.drop_succ_cons, List.drop_zero, List.all_cons, List.all_nil, Bool.and_self, Bool.and_true, List.cons_append, List.nil_append, List.append_nil, List.append_eq, Nat.reduceBEq, Nat.reduceLeDiff, Nat.zero_add, Nat.add_zero, Nat.reduceMul, Nat.reduceSub, Nat.reduceLT, Nat.beq_refl, List.map_cons, List.map_nil, Nat.reduceAdd, cfg_P, sz3, sz38, agg3, agg38, und25, fld38_4, fld38_5, zero38, und26, sz24, sz9, a9, agg24, fld24_0, fld24_1] <;> with_reducible rfl
    case hq => exact ⟨rfl, hG⟩
end Go.Am
