import Derived.Test.YtldhedlleefkcaaGreatDoorO4
set_option linter.unusedVariables false
set_option linter.unusedSimpArgs false
namespace Go.Am
open Go.Proofs Go
theorem und62 : undT Tryz.prog 62 = some (.slice 3) := by kernel_rfl
theorem el62 : El Tryz.prog 62 1 8 := ⟨⟨3, _, by kernel_rfl, by kernel_rfl, by kernel_rfl, und62, rfl⟩, by decide, by decide⟩
theorem build62 (H : AH) (n : Int) : aBuildSlice Tryz.prog H 62 1 [(0, .int .i64 n)] = some (.slice (some ⟨H.next, 0, none⟩) 1 1, H.new (.cells [.int .i64 n] 1 .solo)) := by
  have e1 : elemT Tryz.prog 62 = some 3 := by kernel_rfl
  have e2 : zerosT Tryz.prog 3 1 = some [.int .i64 0] := by kernel_rfl
  unfold aBuildSlice
  simp only [e1, sz3, e2]
  rfl
theorem wrap_succ {n : Nat} (h : n < 4611686018427387904) : IntKind.i64.wrap ((n : Int) + 1) = ((n + 1 : Nat) : Int) := by
  simp [IntKind.wrap, IntKind.bits, IntKind.signed]; omega

theorem wTrOE1 : type_of% (And.intro @cfg_P <| And.intro @sz3 <| And.intro @sz38 <| And.intro @agg3 <| And.intro @agg38 <| And.intro @und25 <| @fld38_4) := And.intro @cfg_P <| And.intro @sz3 <| And.intro @sz38 <| And.intro @agg3 <| And.intro @agg38 <| And.intro @und25 <| @fld38_4
set_option maxRecDepth 10000 in
set_option maxHeartbeats 4000000 in
theorem end_wf (H : AH) (hb : H.base ≤ H.next) (v : Value) (xs : List (List Value)) (h1 : Rd H 6 v xs) (hx : Nodes xs) (hl : xs.length ≤ 1048576) (at_ : Int) :
    Wf cfg 14 [v, .int .i64 at_] H fun r H' => Ext H H' ∧ ∃ e : Int, r = .int .i64 e ∧ (e ≠ 0 → ∃ (t : Nat) (a f n k p : Int) (s : ByteArray), at_ = t ∧ xs[t]? = some (nd a f s n k p) ∧ 0 ≤ k ∧ k ≤ (xs.length : Int)) := by
  obtain ⟨q1, q2, e1, _⟩ := id h1
  subst e1
  refine wf_text (fn := Tryz.f14) rfl Tryz.func14 rfl rfl ?_
  by_cases ha : at_ < 0
  · have g1 : decide (at_ < 0) = true := decT ha
    repeat (first
      | (with_reducible refine sc_seq ?_)
      | (with_reducible refine sc_region ?_)
      | (with_reducible refine sc_block ?_)
      | (with_reducible refine sc_scope ?_)
      | ((with_reducible refine sc_skip ?_); dsimp only)
      | ((with_reducible refine sc_label ?_); dsimp only)
      | ((with_reducible refine sc_ret ?_); dsimp only)
      | ((with_reducible refine sc_exit ?_); dsimp only [Nat.beq])
      | ((with_reducible refine so_nil ?_); dsimp only)
      | ((with_reducible apply so_skip); (case hw => simp only [aWanted, aYield, pAT, pG, g1, reduceIte, Nat.reduceEqDiff]; done))
      | ((with_reducible apply so_val); (case hw => simp only [aWanted, aYield, pAT, pG, g1, reduceIte, Nat.reduceEqDiff]; done); (case ha => simp (maxSteps := 1000000) (disch := (refine id ?_; first | assumption | omega | (simp only [pN, pO, oneCell]; done) | (simp only [pN]; omega))) only [aOp, ev, pAT, g1, pI, aInt, aStr, aUn, AR.of, AR.ofB, AR.ofH, reduceIte, Nat.reduceEqDiff, aBuiltin, aLen, aField, aFieldAddr, aIndexAddr, aStore, aLoad, cellsL, oneCell, splice, pC, pL, Nat.reduceBEq, Nat.reduceLeDiff, Nat.reduceMul, Nat.reduceSub, Nat.reduceLT, Nat.reduceAdd, wTrOE1] <;> with_reducible rfl))
      | ((with_reducible apply sc_false); (case hc => simp only [ev, pAT, g1, reduceIte, Nat.reduceEqDiff]; done))
      | ((with_reducible apply sc_true); (case hc => simp only [ev, pAT, g1, reduceIte, Nat.reduceEqDiff]; done)))
    apply res_fin (rs := [ResultVar.tmp 4]) trivial
    case h => simp (disch := (refine id ?_; first | assumption | omega | (simp only [pN, pO, oneCell]; done) | (simp only [pN]; omega))) only [aResults, aResult, aOp, ev, pAT, pI, aInt, aStr, aUn, AR.of, AR.ofB, AR.ofH, reduceIte, Nat.reduceEqDiff, aBuiltin, aLen, aField, aFieldAddr, aIndexAddr, aStore, aLoad, cellsL, oneCell, splice, pC, pL, Nat.reduceBEq, Nat.reduceLeDiff, Nat.reduceMul, Nat.reduceSub, Nat.reduceLT, Nat.reduceAdd, wTrOE1] <;> with_reducible rfl
    case hq => exact ⟨Ext.refl H, 0, rfl, fun h => (h rfl).elim⟩
  have g1 : decide (at_ < 0) = false := decF ha
  by_cases hc : at_ ≥ (xs.length : Int)
  · have g2 : decide (at_ ≥ (xs.length : Int)) = true := decT hc
    repeat (first
      | (with_reducible refine sc_seq ?_)
      | (with_reducible refine sc_region ?_)
      | (with_reducible refine sc_block ?_)
      | (with_reducible refine sc_scope ?_)
      | ((with_reducible refine sc_skip ?_); dsimp only)
      | ((with_reducible refine sc_label ?_); dsimp only)
      | ((with_reducible refine sc_ret ?_); dsimp only)
      | ((with_reducible refine sc_exit ?_); dsimp only [Nat.beq])
      | ((with_reducible refine so_nil ?_); dsimp only)
      | ((with_reducible apply so_skip); (case hw => simp only [aWanted, aYield, pAT, pG, g1, g2, reduceIte, Nat.reduceEqDiff]; done))
      | ((with_reducible apply so_val); (case hw => simp only [aWanted, aYield, pAT, pG, g1, g2, reduceIte, Nat.reduceEqDiff]; done); (case ha => simp (maxSteps := 1000000) (disch := (refine id ?_; first | assumption | omega | (simp only [pN, pO, oneCell]; done) | (simp only [pN]; omega))) only [aOp, ev, pAT, g1, g2, pI, aInt, aStr, aUn, AR.of, AR.ofB, AR.ofH, reduceIte, Nat.reduceEqDiff, aBuiltin, aLen, aField, aFieldAddr, aIndexAddr, aStore, aLoad, cellsL, oneCell, splice, pC, pL, Nat.reduceBEq, Nat.reduceLeDiff, Nat.reduceMul, Nat.reduceSub, Nat.reduceLT, Nat.reduceAdd, wTrOE1] <;> with_reducible rfl))
      | ((with_reducible apply sc_false); (case hc => simp only [ev, pAT, g1, g2, reduceIte, Nat.reduceEqDiff]; done))
      | ((with_reducible apply sc_true); (case hc => simp only [ev, pAT, g1, g2, reduceIte, Nat.reduceEqDiff]; done)))
    apply res_fin (rs := [ResultVar.tmp 4]) trivial
    case h => simp (disch := (refine id ?_; first | assumption | omega | (simp only [pN, pO, oneCell]; done) | (simp only [pN]; omega))) only [aResults, aResult, aOp, ev, pAT, pI, aInt, aStr, aUn, AR.of, AR.ofB, AR.ofH, reduceIte, Nat.reduceEqDiff, aBuiltin, aLen, aField, aFieldAddr, aIndexAddr, aStore, aLoad, cellsL, oneCell, splice, pC, pL, Nat.reduceBEq, Nat.reduceLeDiff, Nat.reduceMul, Nat.reduceSub, Nat.reduceLT, Nat.reduceAdd, wTrOE1] <;> with_reducible rfl
    case hq => exact ⟨Ext.refl H, 0, rfl, fun h => (h rfl).elim⟩
  have g2 : decide (at_ ≥ (xs.length : Int)) = false := decF hc
  obtain ⟨t0, rfl⟩ : ∃ t0 : Nat, at_ = t0 := ⟨at_.toNat, by omega⟩
  have ht0 : t0 < xs.length := by omega
  obtain ⟨x0, hx0⟩ : ∃ x, xs[t0]? = some x := ⟨_, List.getElem?_eq_getElem ht0⟩
  obtain ⟨a0, f0', s0, n0, k0, p0, rfl⟩ := hx x0 (List.mem_of_getElem? hx0)
  repeat (first
    | (with_reducible refine sc_seq ?_)
    | (with_reducible refine sc_region ?_)
    | (with_reducible refine sc_block ?_)
    | (with_reducible refine sc_scope ?_)
    | ((with_reducible refine sc_skip ?_); dsimp only)
    | ((with_reducible refine sc_label ?_); dsimp only)
    | ((with_reducible refine sc_ret ?_); dsimp only)
    | ((with_reducible refine sc_exit ?_); dsimp only [Nat.beq])
    | ((with_reducible refine so_nil ?_); dsimp only)
    | ((with_reducible apply so_skip); (case hw => simp only [aWanted, aYield, pAT, pG, g1, g2, reduceIte, Nat.reduceEqDiff]; done))
    | ((with_reducible apply so_val); (case hw => simp only [aWanted, aYield, pAT, pG, g1, g2, reduceIte, Nat.reduceEqDiff]; done); (case ha => simp (maxSteps := 1000000) (disch := (refine id ?_; first | assumption | omega | (simp only [pN, pO, oneCell]; done) | (simp only [pN]; omega))) only [aOp, ev, pAT, g1, g2, pI, aInt, aStr, aUn, AR.of, AR.ofB, AR.ofH, reduceIte, Nat.reduceEqDiff, aBuiltin, aLen, aField, aFieldAddr, aIndexAddr, aStore, aLoad, cellsL, oneCell, splice, pC, pL, Nat.reduceBEq, Nat.reduceLeDiff, Nat.reduceMul, Nat.reduceSub, Nat.reduceLT, Nat.reduceAdd, wTrOE1] <;> with_reducible rfl))
    | ((with_reducible apply sc_false); (case hc => simp only [ev, pAT, g1, g2, reduceIte, Nat.reduceEqDiff]; done))
    | ((with_reducible apply sc_true); (case hc => simp only [ev, pAT, g1, g2, reduceIte, Nat.reduceEqDiff]; done)))
  refine sc_loop (I := fun m fr G => Ext H G ∧ ∃ (t : Nat) (op : Int), t0 ≤ t ∧ t ≤ xs.length ∧ m = xs.length - t ∧ Fr.at fr 0 = .slice q1 xs.length q2 ∧ Fr.at fr 5 = .int .i64 t ∧ Fr.at fr 6 = .int .i64 op ∧ (t = t0 → op = 1) ∧ (t0 < t → 0 ≤ k0 ∧ k0 ≤ (xs.length : Int))) ?_ (xs.length - t0) _ _ ?_
  rotate_left
  · refine ⟨Ext.refl H, t0, 1, Nat.le_refl _, by omega, rfl, ?_, ?_, ?_, fun _ => rfl, fun h => by omega⟩ <;> simp only [at_some, at_none, at_args, List.getElem?_cons_zero, List.getElem?_cons_succ, Option.getD_some, ev, reduceIte, Nat.reduceEqDiff] <;> rfl
  clear g1 g2 ha hc
  rintro m fr G ⟨hG, t, op, h0t, ht, rfl, f0, f5, f6, hop1, hk0⟩
  have hbG : G.base ≤ G.next := by rw [hG.base]; exact Nat.le_trans hb hG.next
  by_cases hop : op > 0
  · have g1 : decide (op > 0) = true := decT hop
    by_cases htl : t = xs.length
    · have g2 : ((t : Int) == (xs.length : Int)) = true := natT htl
      repeat (first
        | (with_reducible refine sc_seq ?_)
        | (with_reducible refine sc_region ?_)
        | (with_reducible refine sc_block ?_)
        | (with_reducible refine sc_scope ?_)
        | ((with_reducible refine sc_skip ?_); dsimp only)
        | ((with_reducible refine sc_label ?_); dsimp only)
        | ((with_reducible refine sc_ret ?_); dsimp only)
        | ((with_reducible refine sc_exit ?_); dsimp only [Nat.beq])
        | ((with_reducible refine so_nil ?_); dsimp only)
        | ((with_reducible apply so_skip); (case hw => simp only [aWanted, aYield, pAT, pG, f0, f5, f6, g1, g2, reduceIte, Nat.reduceEqDiff]; done))
        | ((with_reducible apply so_val); (case hw => simp only [aWanted, aYield, pAT, pG, f0, f5, f6, g1, g2, reduceIte, Nat.reduceEqDiff]; done); (case ha => simp (maxSteps := 1000000) (disch := (refine id ?_; first | assumption | omega | (simp only [pN, pO, oneCell]; done) | (simp only [pN]; omega))) only [aOp, ev, pAT, f0, f5, f6, g1, g2, pI, aInt, aStr, aUn, AR.of, AR.ofB, AR.ofH, reduceIte, Nat.reduceEqDiff, aBuiltin, aLen, aField, aFieldAddr, aIndexAddr, aStore, aLoad, cellsL, oneCell, splice, pC, pL, Nat.reduceBEq, Nat.reduceLeDiff, Nat.reduceMul, Nat.reduceSub, Nat.reduceLT, Nat.reduceAdd, wTrOE1] <;> with_reducible rfl))
        | ((with_reducible apply sc_false); (case hc => simp only [ev, pAT, f0, f5, f6, g1, g2, reduceIte, Nat.reduceEqDiff]; done))
        | ((with_reducible apply sc_true); (case hc => simp only [ev, pAT, f0, f5, f6, g1, g2, reduceIte, Nat.reduceEqDiff]; done)))
      apply res_fin (rs := [ResultVar.tmp 4]) trivial
      case h => simp (disch := (refine id ?_; first | assumption | omega | (simp only [pN, pO, oneCell]; done) | (simp only [pN]; omega))) only [aResults, aResult, aOp, ev, pAT, pI, aInt, aStr, aUn, AR.of, AR.ofB, AR.ofH, reduceIte, Nat.reduceEqDiff, aBuiltin, aLen, aField, aFieldAddr, aIndexAddr, aStore, aLoad, cellsL, oneCell, splice, pC, pL, Nat.reduceBEq, Nat.reduceLeDiff, Nat.reduceMul, Nat.reduceSub, Nat.reduceLT, Nat.reduceAdd, wTrOE1] <;> with_reducible rfl
      case hq => exact ⟨hG, 0, rfl, fun h => (h rfl).elim⟩
    · have g2 : ((t : Int) == (xs.length : Int)) = false := natF htl
      have g3 : (0 ≤ (t : Int) ∧ (t : Int) < (xs.length : Int)) := by omega
      obtain ⟨x, hxt⟩ : ∃ x, xs[t]? = some x := ⟨_, List.getElem?_eq_getElem (by omega)⟩
      obtain ⟨a, f, s, n, k, p, rfl⟩ := hx x (List.mem_of_getElem? hxt)
      obtain ⟨b1, o1, c1, e1, hb1, _, _, l1⟩ := (h1.mono hG).at hxt
      simp only [Value.slice.injEq] at e1
      obtain ⟨rfl, _⟩ := e1
      have m4 := l1 4 (by omega)
      simp only [List.getElem?_cons_succ, List.getElem?_cons_zero] at m4
      by_cases hn : k < 0
      · have g5 : decide (k < 0) = true := decT hn
        repeat (first
          | (with_reducible refine sc_seq ?_)
          | (with_reducible refine sc_region ?_)
          | (with_reducible refine sc_block ?_)
          | (with_reducible refine sc_scope ?_)
          | ((with_reducible refine sc_skip ?_); dsimp only)
          | ((with_reducible refine sc_label ?_); dsimp only)
          | ((with_reducible refine sc_ret ?_); dsimp only)
          | ((with_reducible refine sc_exit ?_); dsimp only [Nat.beq])
          | ((with_reducible refine so_nil ?_); dsimp only)
          | ((with_reducible apply so_skip); (case hw => simp only [aWanted, aYield, pAT, pG, f0, f5, f6, g1, g2, g3, m4, g5, if_true, Int.toNat_natCast, true_and, and_self, reduceIte, Nat.reduceEqDiff]; done))
          | ((with_reducible apply so_val); (case hw => simp only [aWanted, aYield, pAT, pG, f0, f5, f6, g1, g2, g3, m4, g5, if_true, Int.toNat_natCast, true_and, and_self, reduceIte, Nat.reduceEqDiff]; done); (case ha => simp (maxSteps := 1000000) (disch := (refine id ?_; first | assumption | omega | (simp only [pN, pO, oneCell]; done) | (simp only [pN]; omega))) only [aOp, ev, pAT, f0, f5, f6, g1, g2, g3, m4, g5, if_true, Int.toNat_natCast, true_and, and_self, pI, aInt, aStr, aUn, AR.of, AR.ofB, AR.ofH, reduceIte, Nat.reduceEqDiff, aBuiltin, aLen, aField, aFieldAddr, aIndexAddr, aStore, aLoad, cellsL, oneCell, splice, pC, pL, Nat.reduceBEq, Nat.reduceLeDiff, Nat.reduceMul, Nat.reduceSub, Nat.reduceLT, Nat.reduceAdd, wTrOE1] <;> with_reducible rfl))
          | ((with_reducible apply sc_false); (case hc => simp only [ev, pAT, f0, f5, f6, g1, g2, g3, m4, g5, if_true, Int.toNat_natCast, true_and, and_self, reduceIte, Nat.reduceEqDiff]; done))
          | ((with_reducible apply sc_true); (case hc => simp only [ev, pAT, f0, f5, f6, g1, g2, g3, m4, g5, if_true, Int.toNat_natCast, true_and, and_self, reduceIte, Nat.reduceEqDiff]; done)))
        apply res_fin (rs := [ResultVar.tmp 4]) trivial
        case h => simp (disch := (refine id ?_; first | assumption | omega | (simp only [pN, pO, oneCell]; done) | (simp only [pN]; omega))) only [aResults, aResult, aOp, ev, pAT, pI, aInt, aStr, aUn, AR.of, AR.ofB, AR.ofH, reduceIte, Nat.reduceEqDiff, aBuiltin, aLen, aField, aFieldAddr, aIndexAddr, aStore, aLoad, cellsL, oneCell, splice, pC, pL, Nat.reduceBEq, Nat.reduceLeDiff, Nat.reduceMul, Nat.reduceSub, Nat.reduceLT, Nat.reduceAdd, wTrOE1] <;> with_reducible rfl
        case hq => exact ⟨hG, 0, rfl, fun h => (h rfl).elim⟩
      have g5 : decide (k < 0) = false := decF hn
      by_cases hkl : k > (xs.length : Int)
      · have g6 : decide (k > (xs.length : Int)) = true := decT hkl
        repeat (first
          | (with_reducible refine sc_seq ?_)
          | (with_reducible refine sc_region ?_)
          | (with_reducible refine sc_block ?_)
          | (with_reducible refine sc_scope ?_)
          | ((with_reducible refine sc_skip ?_); dsimp only)
          | ((with_reducible refine sc_label ?_); dsimp only)
          | ((with_reducible refine sc_ret ?_); dsimp only)
          | ((with_reducible refine sc_exit ?_); dsimp only [Nat.beq])
          | ((with_reducible refine so_nil ?_); dsimp only)
          | ((with_reducible apply so_skip); (case hw => simp only [aWanted, aYield, pAT, pG, f0, f5, f6, g1, g2, g3, m4, g5, g6, if_true, Int.toNat_natCast, true_and, and_self, reduceIte, Nat.reduceEqDiff]; done))
          | ((with_reducible apply so_val); (case hw => simp only [aWanted, aYield, pAT, pG, f0, f5, f6, g1, g2, g3, m4, g5, g6, if_true, Int.toNat_natCast, true_and, and_self, reduceIte, Nat.reduceEqDiff]; done); (case ha => simp (maxSteps := 1000000) (disch := (refine id ?_; first | assumption | omega | (simp only [pN, pO, oneCell]; done) | (simp only [pN]; omega))) only [aOp, ev, pAT, f0, f5, f6, g1, g2, g3, m4, g5, g6, if_true, Int.toNat_natCast, true_and, and_self, pI, aInt, aStr, aUn, AR.of, AR.ofB, AR.ofH, reduceIte, Nat.reduceEqDiff, aBuiltin, aLen, aField, aFieldAddr, aIndexAddr, aStore, aLoad, cellsL, oneCell, splice, pC, pL, Nat.reduceBEq, Nat.reduceLeDiff, Nat.reduceMul, Nat.reduceSub, Nat.reduceLT, Nat.reduceAdd, wTrOE1] <;> with_reducible rfl))
          | ((with_reducible apply sc_false); (case hc => simp only [ev, pAT, f0, f5, f6, g1, g2, g3, m4, g5, g6, if_true, Int.toNat_natCast, true_and, and_self, reduceIte, Nat.reduceEqDiff]; done))
          | ((with_reducible apply sc_true); (case hc => simp only [ev, pAT, f0, f5, f6, g1, g2, g3, m4, g5, g6, if_true, Int.toNat_natCast, true_and, and_self, reduceIte, Nat.reduceEqDiff]; done)))
        apply res_fin (rs := [ResultVar.tmp 4]) trivial
        case h => simp (disch := (refine id ?_; first | assumption | omega | (simp only [pN, pO, oneCell]; done) | (simp only [pN]; omega))) only [aResults, aResult, aOp, ev, pAT, pI, aInt, aStr, aUn, AR.of, AR.ofB, AR.ofH, reduceIte, Nat.reduceEqDiff, aBuiltin, aLen, aField, aFieldAddr, aIndexAddr, aStore, aLoad, cellsL, oneCell, splice, pC, pL, Nat.reduceBEq, Nat.reduceLeDiff, Nat.reduceMul, Nat.reduceSub, Nat.reduceLT, Nat.reduceAdd, wTrOE1] <;> with_reducible rfl
        case hq => exact ⟨hG, 0, rfl, fun h => (h rfl).elim⟩
      have g6 : decide (k > (xs.length : Int)) = false := decF hkl
      repeat (first
        | (with_reducible refine sc_seq ?_)
        | (with_reducible refine sc_region ?_)
        | (with_reducible refine sc_block ?_)
        | (with_reducible refine sc_scope ?_)
        | ((with_reducible refine sc_skip ?_); dsimp only)
        | ((with_reducible refine sc_label ?_); dsimp only)
        | ((with_reducible refine sc_ret ?_); dsimp only)
        | ((with_reducible refine sc_exit ?_); dsimp only [Nat.beq])
        | ((with_reducible refine so_nil ?_); dsimp only)
        | ((with_reducible apply so_skip); (case hw => simp only [aWanted, aYield, pAT, pG, f0, f5, f6, g1, g2, g3, m4, g5, g6, if_true, Int.toNat_natCast, true_and, and_self, reduceIte, Nat.reduceEqDiff]; done))
        | ((with_reducible apply so_val); (case hw => simp only [aWanted, aYield, pAT, pG, f0, f5, f6, g1, g2, g3, m4, g5, g6, if_true, Int.toNat_natCast, true_and, and_self, reduceIte, Nat.reduceEqDiff]; done); (case ha => simp (maxSteps := 1000000) (disch := (refine id ?_; first | assumption | omega | (simp only [pN, pO, oneCell]; done) | (simp only [pN]; omega))) only [aOp, ev, pAT, f0, f5, f6, g1, g2, g3, m4, g5, g6, if_true, Int.toNat_natCast, true_and, and_self, pI, aInt, aStr, aUn, AR.of, AR.ofB, AR.ofH, reduceIte, Nat.reduceEqDiff, aBuiltin, aLen, aField, aFieldAddr, aIndexAddr, aStore, aLoad, cellsL, oneCell, splice, pC, pL, Nat.reduceBEq, Nat.reduceLeDiff, Nat.reduceMul, Nat.reduceSub, Nat.reduceLT, Nat.reduceAdd, wTrOE1] <;> with_reducible rfl))
        | ((with_reducible apply sc_false); (case hc => simp only [ev, pAT, f0, f5, f6, g1, g2, g3, m4, g5, g6, if_true, Int.toNat_natCast, true_and, and_self, reduceIte, Nat.reduceEqDiff]; done))
        | ((with_reducible apply sc_true); (case hc => simp only [ev, pAT, f0, f5, f6, g1, g2, g3, m4, g5, g6, if_true, Int.toNat_natCast, true_and, and_self, reduceIte, Nat.reduceEqDiff]; done)))
      refine ⟨xs.length - (t + 1), by omega, hG, t + 1, IntKind.i64.wrap (IntKind.i64.wrap (op + k) - 1), by omega, by omega, rfl, ?_, ?_, ?_, fun h => by omega, fun _ => ?_⟩
      · simp only [at_some, at_none, f0, f5, f6, reduceIte, Nat.reduceEqDiff]
      · simp only [at_some, at_none, f0, f5, f6, reduceIte, Nat.reduceEqDiff]
        rw [wrap_succ (by omega)]
      · simp only [at_some, at_none, f0, f5, f6, reduceIte, Nat.reduceEqDiff]
      · by_cases e : t = t0
        · subst e
          rw [hx0] at hxt
          have := Option.some.inj hxt
          simp only [List.cons.injEq, Value.int.injEq, and_true, true_and] at this
          obtain ⟨_, _, _, _, rfl, _⟩ := this
          omega
        · exact hk0 (by omega)
  · have g1 : decide (op > 0) = false := decF hop
    repeat (first
      | (with_reducible refine sc_seq ?_)
      | (with_reducible refine sc_region ?_)
      | (with_reducible refine sc_block ?_)
      | (with_reducible refine sc_scope ?_)
      | ((with_reducible refine sc_skip ?_); dsimp only)
      | ((with_reducible refine sc_label ?_); dsimp only)
      | ((with_reducible refine sc_ret ?_); dsimp only)
      | ((with_reducible refine sc_exit ?_); dsimp only [Nat.beq])
      | ((with_reducible refine so_nil ?_); dsimp only)
      | ((with_reducible apply so_skip); (case hw => simp only [aWanted, aYield, pAT, pG, f0, f5, f6, g1, reduceIte, Nat.reduceEqDiff]; done))
      | ((with_reducible apply so_val); (case hw => simp only [aWanted, aYield, pAT, pG, f0, f5, f6, g1, reduceIte, Nat.reduceEqDiff]; done); (case ha => simp (maxSteps := 1000000) (disch := (refine id ?_; first | assumption | omega | (simp only [pN, pO, oneCell]; done) | (simp only [pN]; omega))) only [aOp, ev, pAT, f0, f5, f6, g1, pI, aInt, aStr, aUn, AR.of, AR.ofB, AR.ofH, reduceIte, Nat.reduceEqDiff, aBuiltin, aLen, aField, aFieldAddr, aIndexAddr, aStore, aLoad, cellsL, oneCell, splice, pC, pL, Nat.reduceBEq, Nat.reduceLeDiff, Nat.reduceMul, Nat.reduceSub, Nat.reduceLT, Nat.reduceAdd, wTrOE1] <;> with_reducible rfl))
      | ((with_reducible apply sc_false); (case hc => simp only [ev, pAT, f0, f5, f6, g1, reduceIte, Nat.reduceEqDiff]; done))
      | ((with_reducible apply sc_true); (case hc => simp only [ev, pAT, f0, f5, f6, g1, reduceIte, Nat.reduceEqDiff]; done)))
    apply res_fin (rs := [ResultVar.tmp 4]) trivial
    case h => simp (disch := (refine id ?_; first | assumption | omega | (simp only [pN, pO, oneCell]; done) | (simp only [pN]; omega))) only [aResults, aResult, aOp, ev, pAT, f5, pI, aInt, aStr, aUn, AR.of, AR.ofB, AR.ofH, reduceIte, Nat.reduceEqDiff, aBuiltin, aLen, aField, aFieldAddr, aIndexAddr, aStore, aLoad, cellsL, oneCell, splice, pC, pL, Nat.reduceBEq, Nat.reduceLeDiff, Nat.reduceMul, Nat.reduceSub, Nat.reduceLT, Nat.reduceAdd, wTrOE1] <;> with_reducible rfl
    case hq => exact ⟨hG, t, rfl, fun _ => ⟨t0, a0, f0', n0, k0, p0, s0, rfl, hx0, hk0 (by
      rcases Nat.lt_or_ge t0 t with h | h
      · exact h
      · have := hop1 (by omega); omega)⟩⟩

def Ints (ks : List (List Value)) : Prop := ∀ x ∈ ks, ∃ n, x = [.int .i64 n]
theorem ints_nil : Ints [] := by intro x hx; cases hx
set_option maxRecDepth 10000 in
set_option maxHeartbeats 4000000 in
theorem kids_wf (H : AH) (hb : H.base ≤ H.next) (v : Value) (xs : List (List Value)) (h1 : Rd H 6 v xs) (hx : Nodes xs) (hl : xs.length ≤ 1048576) (at_ : Int) :
    Wf cfg 6 [v, .int .i64 at_] H fun r H' => ∃ ks, Gr H' H.next 1 r ks ∧ Ints ks ∧ ks.length ≤ 1048576 ∧ Ext H H' := by
  obtain ⟨q1, q2, e1, _⟩ := id h1
  subst e1
  refine wf_text (fn := Tryz.f6) rfl Tryz.func6 rfl rfl ?_
  repeat (first
    | (with_reducible refine sc_seq ?_)
    | (with_reducible refine sc_region ?_)
    | (with_reducible refine sc_block ?_)
    | (with_reducible refine sc_scope ?_)
    | ((with_reducible refine sc_skip ?_); dsimp only)
    | ((with_reducible refine sc_label ?_); dsimp only)
    | ((with_reducible refine sc_ret ?_); dsimp only)
    | ((with_reducible refine sc_exit ?_); dsimp only [Nat.beq])
    | ((with_reducible refine so_nil ?_); dsimp only)
    | ((with_reducible apply so_skip); (case hw => simp only [aWanted, aYield, pAT, pG, reduceIte, Nat.reduceEqDiff]; done))
    | ((with_reducible apply so_val); (case hw => simp only [aWanted, aYield, pAT, pG, reduceIte, Nat.reduceEqDiff]; done); (case ha => simp (maxSteps := 1000000) (disch := (refine id ?_; first | assumption | omega | (simp only [pN, pO, oneCell]; done) | (simp only [pN]; omega))) only [aOp, ev, pAT, pI, aInt, aStr, aUn, AR.of, AR.ofB, AR.ofH, reduceIte, Nat.reduceEqDiff, aBuiltin, aLen, aField, aFieldAddr, aIndexAddr, aStore, aLoad, cellsL, oneCell, splice, pC, pL, Nat.reduceBEq, Nat.reduceLeDiff, Nat.reduceMul, Nat.reduceSub, Nat.reduceLT, Nat.reduceAdd, wTrOE1] <;> with_reducible rfl))
    | ((with_reducible apply sc_false); (case hc => simp only [ev, pAT, reduceIte, Nat.reduceEqDiff]; done))
    | ((with_reducible apply sc_true); (case hc => simp only [ev, pAT, reduceIte, Nat.reduceEqDiff]; done)))
  first
    | ((with_reducible apply so_call); (case hw => simp only [aWanted, aYield, pAT, pG, reduceIte, Nat.reduceEqDiff]; done); (case ha => simp (maxSteps := 1000000) (disch := (refine id ?_; first | assumption | omega | (simp only [pN, pO, oneCell]; done) | (simp only [pN]; omega))) only [aOp, ev, pAT, pI, aInt, aStr, aUn, AR.of, AR.ofB, AR.ofH, reduceIte, Nat.reduceEqDiff, aBuiltin, aLen, aField, aFieldAddr, aIndexAddr, aStore, aLoad, cellsL, oneCell, splice, pC, pL, Nat.reduceBEq, Nat.reduceLeDiff, Nat.reduceMul, Nat.reduceSub, Nat.reduceLT, Nat.reduceAdd, wTrOE1] <;> with_reducible rfl))
    | ((with_reducible apply so_callD); (case hw => simp only [aWanted, aYield, pAT, pG, reduceIte, Nat.reduceEqDiff]; done); (case ha => simp (maxSteps := 1000000) (disch := (first | omega | (simp only [new_next, new_base, upd_next, upd_base, List.length_cons, List.length_nil, List.all_cons, List.all_nil, oneCell, Bool.and_self, Bool.and_true]; done) | (simp only [new_next, new_base, upd_next, upd_base, List.length_cons, List.length_nil]; omega))) only [aOp, ev, pAT, pI, aInt, aStr, aUn, AR.of, AR.ofB, AR.ofH, reduceIte, Nat.reduceEqDiff, aBuiltin, aLen, aField, aFieldAddr, aIndexAddr, aStore, aLoad, cellsL, oneCell, splice, pC, pL, Nat.reduceBEq, Nat.reduceLeDiff, Nat.reduceMul, Nat.reduceSub, Nat.reduceLT, Nat.reduceAdd, wTrOE1] <;> with_reducible rfl))
  refine (end_wf H hb _ xs h1 hx hl at_).mono ?_
  rintro _ H1 ⟨hx1, e, rfl, he⟩
  have hbH1 : H1.base ≤ H1.next := by rw [hx1.base]; exact Nat.le_trans hb hx1.next
  by_cases h0 : e = 0
  · subst h0
    repeat (first
      | (with_reducible refine sc_seq ?_)
      | (with_reducible refine sc_region ?_)
      | (with_reducible refine sc_block ?_)
      | (with_reducible refine sc_scope ?_)
      | ((with_reducible refine sc_skip ?_); dsimp only)
      | ((with_reducible refine sc_label ?_); dsimp only)
      | ((with_reducible refine sc_ret ?_); dsimp only)
      | ((with_reducible refine sc_exit ?_); dsimp only [Nat.beq])
      | ((with_reducible refine so_nil ?_); dsimp only)
      | ((with_reducible apply so_skip); (case hw => simp only [aWanted, aYield, pAT, pG, reduceIte, Nat.reduceEqDiff]; done))
      | ((with_reducible apply so_val); (case hw => simp only [aWanted, aYield, pAT, pG, reduceIte, Nat.reduceEqDiff]; done); (case ha => simp (maxSteps := 1000000) (disch := (refine id ?_; first | assumption | omega | (simp only [pN, pO, oneCell]; done) | (simp only [pN]; omega))) only [aOp, ev, pAT, pI, aInt, aStr, aUn, AR.of, AR.ofB, AR.ofH, reduceIte, Nat.reduceEqDiff, aBuiltin, aLen, aField, aFieldAddr, aIndexAddr, aStore, aLoad, cellsL, oneCell, splice, pC, pL, Nat.reduceBEq, Nat.reduceLeDiff, Nat.reduceMul, Nat.reduceSub, Nat.reduceLT, Nat.reduceAdd, wTrOE1] <;> with_reducible rfl))
      | ((with_reducible apply sc_false); (case hc => simp only [ev, pAT, reduceIte, Nat.reduceEqDiff]; done))
      | ((with_reducible apply sc_true); (case hc => simp only [ev, pAT, reduceIte, Nat.reduceEqDiff]; done)))
    apply res_fin (rs := [ResultVar.tmp 4]) trivial
    case h => simp (disch := (refine id ?_; first | assumption | omega | (simp only [pN, pO, oneCell]; done) | (simp only [pN]; omega))) only [aResults, aResult, aOp, ev, pAT, pI, aInt, aStr, aUn, AR.of, AR.ofB, AR.ofH, reduceIte, Nat.reduceEqDiff, aBuiltin, aLen, aField, aFieldAddr, aIndexAddr, aStore, aLoad, cellsL, oneCell, splice, pC, pL, Nat.reduceBEq, Nat.reduceLeDiff, Nat.reduceMul, Nat.reduceSub, Nat.reduceLT, Nat.reduceAdd, wTrOE1] <;> with_reducible rfl
    case hq => exact ⟨[], Gr.nil .., ints_nil, Nat.zero_le _, hx1⟩
  have g0 : (e == 0) = false := by simpa using h0
  obtain ⟨t0, a0, f0', n0, k0, p0, s0, rfl, hx0, hk1, hk2⟩ := he h0
  obtain ⟨b1, o1, c1, e1, hb1, _, _, l1⟩ := (h1.mono hx1).at hx0
  have hx0l := (List.getElem?_eq_some_iff.1 hx0).1
  simp only [Value.slice.injEq] at e1
  obtain ⟨rfl, _⟩ := e1
  have m4 := l1 4 (by omega)
  simp only [List.getElem?_cons_succ, List.getElem?_cons_zero] at m4
  have g3 : (0 ≤ (t0 : Int) ∧ (t0 : Int) < (xs.length : Int)) := by omega
  obtain ⟨K, rfl⟩ : ∃ K : Nat, k0 = K := ⟨k0.toNat, by omega⟩
  repeat (first
    | (with_reducible refine sc_seq ?_)
    | (with_reducible refine sc_region ?_)
    | (with_reducible refine sc_block ?_)
    | (with_reducible refine sc_scope ?_)
    | ((with_reducible refine sc_skip ?_); dsimp only)
    | ((with_reducible refine sc_label ?_); dsimp only)
    | ((with_reducible refine sc_ret ?_); dsimp only)
    | ((with_reducible refine sc_exit ?_); dsimp only [Nat.beq])
    | ((with_reducible refine so_nil ?_); dsimp only)
    | ((with_reducible apply so_skip); (case hw => simp only [aWanted, aYield, pAT, pG, g0, g3, m4, if_true, Int.toNat_natCast, true_and, and_self, reduceIte, Nat.reduceEqDiff]; done))
    | ((with_reducible apply so_val); (case hw => simp only [aWanted, aYield, pAT, pG, g0, g3, m4, if_true, Int.toNat_natCast, true_and, and_self, reduceIte, Nat.reduceEqDiff]; done); (case ha => simp (maxSteps := 1000000) (disch := (refine id ?_; first | assumption | omega | (simp only [pN, pO, oneCell]; done) | (simp only [pN]; omega))) only [aOp, ev, pAT, g0, g3, m4, if_true, Int.toNat_natCast, true_and, and_self, pI, aInt, aStr, aUn, AR.of, AR.ofB, AR.ofH, reduceIte, Nat.reduceEqDiff, aBuiltin, aLen, aField, aFieldAddr, aIndexAddr, aStore, aLoad, cellsL, oneCell, splice, pC, pL, Nat.reduceBEq, Nat.reduceLeDiff, Nat.reduceMul, Nat.reduceSub, Nat.reduceLT, Nat.reduceAdd, wTrOE1] <;> with_reducible rfl))
    | ((with_reducible apply sc_false); (case hc => simp only [ev, pAT, g0, g3, m4, if_true, Int.toNat_natCast, true_and, and_self, reduceIte, Nat.reduceEqDiff]; done))
    | ((with_reducible apply sc_true); (case hc => simp only [ev, pAT, g0, g3, m4, if_true, Int.toNat_natCast, true_and, and_self, reduceIte, Nat.reduceEqDiff]; done)))
  refine sc_loop (I := fun m fr G => Ext H G ∧ ∃ (j : Nat) (e : Int) (ks : List (List Value)) (out : Value), j ≤ K ∧ m = K - j ∧ Fr.at fr 0 = .slice (some ⟨b1, o1, none⟩) xs.length q2 ∧ Fr.at fr 5 = out ∧ Fr.at fr 6 = .int .i64 e ∧ Fr.at fr 17 = .int .i64 K ∧ Fr.at fr 18 = .int .i64 j ∧ Gr G H.next 1 out ks ∧ Ints ks ∧ ks.length = j) ?_ K _ _ ?_
  rotate_left
  · refine ⟨hx1, 0, IntKind.i64.wrap ((t0 : Int) + 1), [], .slice none 0 0, by omega, rfl, ?_, ?_, ?_, ?_, ?_, Gr.nil .., ints_nil, rfl⟩ <;> simp only [at_some, at_none, at_args, List.getElem?_cons_zero, List.getElem?_cons_succ, Option.getD_some, ev, reduceIte, Nat.reduceEqDiff] <;> rfl
  clear g0 g3 m4 l1
  rintro m fr G ⟨hG, j, e', ks, out, hj, rfl, f0, f5, f6, f17, f18, hgr, hks, hkl⟩
  have hG0 := hG
  have hbG : G.base ≤ G.next := by rw [hG.base]; exact Nat.le_trans hb hG.next
  by_cases hjk : j < K
  · have g1 : decide ((j : Int) < (K : Int)) = true := decT (by omega)
    repeat (first
      | (with_reducible refine sc_seq ?_)
      | (with_reducible refine sc_region ?_)
      | (with_reducible refine sc_block ?_)
      | (with_reducible refine sc_scope ?_)
      | ((with_reducible refine sc_skip ?_); dsimp only)
      | ((with_reducible refine sc_label ?_); dsimp only)
      | ((with_reducible refine sc_ret ?_); dsimp only)
      | ((with_reducible refine sc_exit ?_); dsimp only [Nat.beq])
      | ((with_reducible refine so_nil ?_); dsimp only)
      | ((with_reducible apply so_skip); (case hw => simp only [aWanted, aYield, pAT, pG, f0, f5, f6, f17, f18, g1, build62, reduceIte, Nat.reduceEqDiff]; done))
      | ((with_reducible apply so_val); (case hw => simp only [aWanted, aYield, pAT, pG, f0, f5, f6, f17, f18, g1, build62, reduceIte, Nat.reduceEqDiff]; done); (case ha => simp only [aOp, ev, pAT, f0, f5, f6, f17, f18, g1, build62, pI, aInt, aStr, aUn, AR.of, AR.ofB, AR.ofH, reduceIte, Nat.reduceEqDiff, aBuiltin, aLen, aField, aFieldAddr, aIndexAddr, aStore, aLoad, cellsL, oneCell, splice, pL, Nat.reduceBEq, Nat.reduceLeDiff, Nat.reduceMul, Nat.reduceSub, Nat.reduceLT, Nat.reduceAdd, wTrOE1] <;> with_reducible rfl))
      | ((with_reducible apply so_val); (case hw => simp only [aWanted, aYield, pAT, pG, f0, f5, f6, f17, f18, g1, build62, reduceIte, Nat.reduceEqDiff]; done); (case ha => simp (maxSteps := 1000000) (disch := (refine id ?_; first | assumption | omega | (simp only [pN, pO, oneCell]; done) | (simp only [pN]; omega))) only [aOp, ev, pAT, f0, f5, f6, f17, f18, g1, build62, pI, aInt, aStr, aUn, AR.of, AR.ofB, AR.ofH, reduceIte, Nat.reduceEqDiff, aBuiltin, aLen, aField, aFieldAddr, aIndexAddr, aStore, aLoad, cellsL, oneCell, splice, pC, pL, Nat.reduceBEq, Nat.reduceLeDiff, Nat.reduceMul, Nat.reduceSub, Nat.reduceLT, Nat.reduceAdd, wTrOE1] <;> with_reducible rfl))
      | ((with_reducible apply sc_false); (case hc => simp only [ev, pAT, f0, f5, f6, f17, f18, g1, build62, reduceIte, Nat.reduceEqDiff]; done))
      | ((with_reducible apply sc_true); (case hc => simp only [ev, pAT, f0, f5, f6, f17, f18, g1, build62, reduceIte, Nat.reduceEqDiff]; done)))
    refine so_append rfl (by simp only [aWanted, aYield, pAT, pG, f0, f5, f6, f17, f18, reduceIte, Nat.reduceEqDiff]) (by first | (simp only [ev, pAT, f0, f5, f6, f17, f18, reduceIte, Nat.reduceEqDiff]; done) | (simp only [ev, pAT, f0, f5, f6, f17, f18, reduceIte, Nat.reduceEqDiff]; rfl)) (by first | (simp only [ev, pAT, f0, f5, f6, f17, f18, reduceIte, Nat.reduceEqDiff]; done) | (simp only [ev, pAT, f0, f5, f6, f17, f18, reduceIte, Nat.reduceEqDiff]; rfl)) ?_
    obtain ⟨v', G', k1, k2, k3⟩ := append_gr (P := cfg.P) el62 (lo := H.next) (xs := [[.int .i64 e']]) (hgr.mono (Ext.new G _)) (Rd.one (c := [.int .i64 e']) rfl) rfl (by simp only [List.length_singleton]; omega) (by simp only [new_next]; have := hG0.next; omega) (by simp only [new_base]; rw [hG0.base]; exact hb)
    refine ⟨v', G', k1, ?_⟩
    have hG' := k3.ext (hG0.trans (Ext.new G _)) (Nat.le_refl _)
    have hbG' : G'.base ≤ G'.next := by rw [hG'.base]; exact Nat.le_trans hb hG'.next
    repeat (first
      | (with_reducible refine sc_seq ?_)
      | (with_reducible refine sc_region ?_)
      | (with_reducible refine sc_block ?_)
      | (with_reducible refine sc_scope ?_)
      | ((with_reducible refine sc_skip ?_); dsimp only)
      | ((with_reducible refine sc_label ?_); dsimp only)
      | ((with_reducible refine sc_ret ?_); dsimp only)
      | ((with_reducible refine sc_exit ?_); dsimp only [Nat.beq])
      | ((with_reducible refine so_nil ?_); dsimp only)
      | ((with_reducible apply so_skip); (case hw => simp only [aWanted, aYield, pAT, pG, f0, f5, f6, f17, f18, reduceIte, Nat.reduceEqDiff]; done))
      | ((with_reducible apply so_val); (case hw => simp only [aWanted, aYield, pAT, pG, f0, f5, f6, f17, f18, reduceIte, Nat.reduceEqDiff]; done); (case ha => simp (maxSteps := 1000000) (disch := (refine id ?_; first | assumption | omega | (simp only [pN, pO, oneCell]; done) | (simp only [pN]; omega))) only [aOp, ev, pAT, f0, f5, f6, f17, f18, pI, aInt, aStr, aUn, AR.of, AR.ofB, AR.ofH, reduceIte, Nat.reduceEqDiff, aBuiltin, aLen, aField, aFieldAddr, aIndexAddr, aStore, aLoad, cellsL, oneCell, splice, pC, pL, Nat.reduceBEq, Nat.reduceLeDiff, Nat.reduceMul, Nat.reduceSub, Nat.reduceLT, Nat.reduceAdd, wTrOE1] <;> with_reducible rfl))
      | ((with_reducible apply sc_false); (case hc => simp only [ev, pAT, f0, f5, f6, f17, f18, reduceIte, Nat.reduceEqDiff]; done))
      | ((with_reducible apply sc_true); (case hc => simp only [ev, pAT, f0, f5, f6, f17, f18, reduceIte, Nat.reduceEqDiff]; done)))
    first
      | ((with_reducible apply so_call); (case hw => simp only [aWanted, aYield, pAT, pG, f0, f5, f6, f17, f18, reduceIte, Nat.reduceEqDiff]; done); (case ha => simp (maxSteps := 1000000) (disch := (refine id ?_; first | assumption | omega | (simp only [pN, pO, oneCell]; done) | (simp only [pN]; omega))) only [aOp, ev, pAT, f0, f5, f6, f17, f18, pI, aInt, aStr, aUn, AR.of, AR.ofB, AR.ofH, reduceIte, Nat.reduceEqDiff, aBuiltin, aLen, aField, aFieldAddr, aIndexAddr, aStore, aLoad, cellsL, oneCell, splice, pC, pL, Nat.reduceBEq, Nat.reduceLeDiff, Nat.reduceMul, Nat.reduceSub, Nat.reduceLT, Nat.reduceAdd, wTrOE1] <;> with_reducible rfl))
      | ((with_reducible apply so_callD); (case hw => simp only [aWanted, aYield, pAT, pG, f0, f5, f6, f17, f18, reduceIte, Nat.reduceEqDiff]; done); (case ha => simp (maxSteps := 1000000) (disch := (first | omega | (simp only [new_next, new_base, upd_next, upd_base, List.length_cons, List.length_nil, List.all_cons, List.all_nil, oneCell, Bool.and_self, Bool.and_true]; done) | (simp only [new_next, new_base, upd_next, upd_base, List.length_cons, List.length_nil]; omega))) only [aOp, ev, pAT, f0, f5, f6, f17, f18, pI, aInt, aStr, aUn, AR.of, AR.ofB, AR.ofH, reduceIte, Nat.reduceEqDiff, aBuiltin, aLen, aField, aFieldAddr, aIndexAddr, aStore, aLoad, cellsL, oneCell, splice, pC, pL, Nat.reduceBEq, Nat.reduceLeDiff, Nat.reduceMul, Nat.reduceSub, Nat.reduceLT, Nat.reduceAdd, wTrOE1] <;> with_reducible rfl))
    refine (end_wf G' hbG' _ xs (h1.mono hG') hx hl e').mono ?_
    rintro _ G2 ⟨hx2, e2, rfl, _⟩
    repeat (first
      | (with_reducible refine sc_seq ?_)
      | (with_reducible refine sc_region ?_)
      | (with_reducible refine sc_block ?_)
      | (with_reducible refine sc_scope ?_)
      | ((with_reducible refine sc_skip ?_); dsimp only)
      | ((with_reducible refine sc_label ?_); dsimp only)
      | ((with_reducible refine sc_ret ?_); dsimp only)
      | ((with_reducible refine sc_exit ?_); dsimp only [Nat.beq])
      | ((with_reducible refine so_nil ?_); dsimp only)
      | ((with_reducible apply so_skip); (case hw => simp only [aWanted, aYield, pAT, pG, f0, f5, f6, f17, f18, reduceIte, Nat.reduceEqDiff]; done))
      | ((with_reducible apply so_val); (case hw => simp only [aWanted, aYield, pAT, pG, f0, f5, f6, f17, f18, reduceIte, Nat.reduceEqDiff]; done); (case ha => simp (maxSteps := 1000000) (disch := (refine id ?_; first | assumption | omega | (simp only [pN, pO, oneCell]; done) | (simp only [pN]; omega))) only [aOp, ev, pAT, f0, f5, f6, f17, f18, pI, aInt, aStr, aUn, AR.of, AR.ofB, AR.ofH, reduceIte, Nat.reduceEqDiff, aBuiltin, aLen, aField, aFieldAddr, aIndexAddr, aStore, aLoad, cellsL, oneCell, splice, pC, pL, Nat.reduceBEq, Nat.reduceLeDiff, Nat.reduceMul, Nat.reduceSub, Nat.reduceLT, Nat.reduceAdd, wTrOE1] <;> with_reducible rfl))
      | ((with_reducible apply sc_false); (case hc => simp only [ev, pAT, f0, f5, f6, f17, f18, reduceIte, Nat.reduceEqDiff]; done))
      | ((with_reducible apply sc_true); (case hc => simp only [ev, pAT, f0, f5, f6, f17, f18, reduceIte, Nat.reduceEqDiff]; done)))
    refine ⟨K - (j + 1), by omega, ?_, j + 1, e2, ks ++ [[.int .i64 e']], v', by omega, rfl, ?_, ?_, ?_, ?_, ?_, k2.mono hx2, fun x hx => ?_, by simp [hkl]⟩
    · exact hG'.trans hx2
    · simp only [at_some, at_none, f0, f5, f6, f17, f18, reduceIte, Nat.reduceEqDiff]
    · simp only [at_some, at_none, f0, f5, f6, f17, f18, reduceIte, Nat.reduceEqDiff]
    · simp only [at_some, at_none, f0, f5, f6, f17, f18, reduceIte, Nat.reduceEqDiff]
    · simp only [at_some, at_none, f0, f5, f6, f17, f18, reduceIte, Nat.reduceEqDiff]
    · simp only [at_some, at_none, f0, f5, f6, f17, f18, reduceIte, Nat.reduceEqDiff]
      rw [wrap_succ (by omega)]
    · rcases List.mem_append.1 hx with h | h
      · exact hks x h
      · cases List.mem_singleton.1 h
        exact ⟨_, rfl⟩
  · obtain rfl : j = K := by omega
    have g1 : decide ((j : Int) < (j : Int)) = false := decF (by omega)
    repeat (first
      | (with_reducible refine sc_seq ?_)
      | (with_reducible refine sc_region ?_)
      | (with_reducible refine sc_block ?_)
      | (with_reducible refine sc_scope ?_)
      | ((with_reducible refine sc_skip ?_); dsimp only)
      | ((with_reducible refine sc_label ?_); dsimp only)
      | ((with_reducible refine sc_ret ?_); dsimp only)
      | ((with_reducible refine sc_exit ?_); dsimp only [Nat.beq])
      | ((with_reducible refine so_nil ?_); dsimp only)
      | ((with_reducible apply so_skip); (case hw => simp only [aWanted, aYield, pAT, pG, f0, f5, f6, f17, f18, g1, reduceIte, Nat.reduceEqDiff]; done))
      | ((with_reducible apply so_val); (case hw => simp only [aWanted, aYield, pAT, pG, f0, f5, f6, f17, f18, g1, reduceIte, Nat.reduceEqDiff]; done); (case ha => simp (maxSteps := 1000000) (disch := (refine id ?_; first | assumption | omega | (simp only [pN, pO, oneCell]; done) | (simp only [pN]; omega))) only [aOp, ev, pAT, f0, f5, f6, f17, f18, g1, pI, aInt, aStr, aUn, AR.of, AR.ofB, AR.ofH, reduceIte, Nat.reduceEqDiff, aBuiltin, aLen, aField, aFieldAddr, aIndexAddr, aStore, aLoad, cellsL, oneCell, splice, pC, pL, Nat.reduceBEq, Nat.reduceLeDiff, Nat.reduceMul, Nat.reduceSub, Nat.reduceLT, Nat.reduceAdd, wTrOE1] <;> with_reducible rfl))
      | ((with_reducible apply sc_false); (case hc => simp only [ev, pAT, f0, f5, f6, f17, f18, g1, reduceIte, Nat.reduceEqDiff]; done))
      | ((with_reducible apply sc_true); (case hc => simp only [ev, pAT, f0, f5, f6, f17, f18, g1, reduceIte, Nat.reduceEqDiff]; done)))
    apply res_fin (rs := [ResultVar.tmp 4]) trivial
    case h => simp (disch := (refine id ?_; first | assumption | omega | (simp only [pN, pO, oneCell]; done) | (simp only [pN]; omega))) only [aResults, aResult, aOp, ev, pAT, f5, pI, aInt, aStr, aUn, AR.of, AR.ofB, AR.ofH, reduceIte, Nat.reduceEqDiff, aBuiltin, aLen, aField, aFieldAddr, aIndexAddr, aStore, aLoad, cellsL, oneCell, splice, pC, pL, Nat.reduceBEq, Nat.reduceLeDiff, Nat.reduceMul, Nat.reduceSub, Nat.reduceLT, Nat.reduceAdd, wTrOE1] <;> with_reducible rfl
    case hq => exact ⟨ks, hgr, hks, by omega, hG0⟩
end Go.Am
