import Derived.Test.YtldhedlleefkcaaGreatDoorO2
set_option linter.unusedVariables false
set_option linter.unusedSimpArgs false
namespace Go.Am
open Go.Proofs Go

theorem nilT22 (xo yo : Operand) (n c : Nat) : aBin Tryz.prog .eql 23 xo yo (.slice none n c) (.slice none 0 0) = some (.bool true) := by
  have u : Tryz.prog.underlying 23 = some (.slice 80) := by kernel_rfl
  unfold aBin aGuard
  simp only
  rw [show Op.maxDepth = 9999 + 1 from rfl, aEq.eq_def]
  simp only [u]; rfl
theorem nilF22 (xo yo : Operand) (a : Addr) (n c : Nat) : aBin Tryz.prog .eql 23 xo yo (.slice (some a) n c) (.slice none 0 0) = some (.bool false) := by
  have u : Tryz.prog.underlying 23 = some (.slice 80) := by kernel_rfl
  unfold aBin aGuard
  simp only
  rw [show Op.maxDepth = 9999 + 1 from rfl, aEq.eq_def]
  simp only [u]
theorem build0_22 (H : AH) : aBuildSlice Tryz.prog H 23 0 [] = some (.slice (some ⟨H.next, 0, none⟩) 0 0, H.new (.cells [] 4 .solo)) := by
  have e1 : elemT Tryz.prog 23 = some 80 := by kernel_rfl
  have e2 : szT Tryz.prog 80 = some 4 := by kernel_rfl
  have e3 : zerosT Tryz.prog 80 0 = some [] := by kernel_rfl
  unfold aBuildSlice
  simp only [e1, e2, e3]
  rfl
theorem wTrO31 : type_of% (And.intro @cfg_P <| And.intro @sz3 <| And.intro @sz38 <| And.intro @agg3 <| And.intro @agg38 <| And.intro @und25 <| And.intro @fld38_4 <| And.intro @fld38_5 <| And.intro @zero38 <| And.intro @und26 <| And.intro @und22 <| And.intro @sz24 <| And.intro @sz33 <| And.intro @sz9 <| And.intro @a9 <| And.intro @agg24 <| And.intro @fld24_0 <| And.intro @fld24_1 <| And.intro @f29_0 <| And.intro @f29_1 <| And.intro @f29_2 <| And.intro @f29_3 <| And.intro @f29_4 <| And.intro @f29_5 <| And.intro @f29_6 <| And.intro @f29_7 <| And.intro @f29_8 <| And.intro @f29_9 <| And.intro @f29_10 <| And.intro @f33_0 <| And.intro @f33_1 <| And.intro @f33_2 <| And.intro @s22 <| And.intro @s25 <| And.intro @s26 <| And.intro @s27 <| And.intro @s2 <| And.intro @s29 <| And.intro @g22 <| And.intro @g25 <| And.intro @g26 <| And.intro @g27 <| And.intro @g29 <| And.intro @g33 <| And.intro @a2 <| And.intro @zero29 <| And.intro @zero33 <| And.intro @fld38_0 <| And.intro @sz35 <| @a35) := And.intro @cfg_P <| And.intro @sz3 <| And.intro @sz38 <| And.intro @agg3 <| And.intro @agg38 <| And.intro @und25 <| And.intro @fld38_4 <| And.intro @fld38_5 <| And.intro @zero38 <| And.intro @und26 <| And.intro @und22 <| And.intro @sz24 <| And.intro @sz33 <| And.intro @sz9 <| And.intro @a9 <| And.intro @agg24 <| And.intro @fld24_0 <| And.intro @fld24_1 <| And.intro @f29_0 <| And.intro @f29_1 <| And.intro @f29_2 <| And.intro @f29_3 <| And.intro @f29_4 <| And.intro @f29_5 <| And.intro @f29_6 <| And.intro @f29_7 <| And.intro @f29_8 <| And.intro @f29_9 <| And.intro @f29_10 <| And.intro @f33_0 <| And.intro @f33_1 <| And.intro @f33_2 <| And.intro @s22 <| And.intro @s25 <| And.intro @s26 <| And.intro @s27 <| And.intro @s2 <| And.intro @s29 <| And.intro @g22 <| And.intro @g25 <| And.intro @g26 <| And.intro @g27 <| And.intro @g29 <| And.intro @g33 <| And.intro @a2 <| And.intro @zero29 <| And.intro @zero33 <| And.intro @fld38_0 <| And.intro @sz35 <| @a35
set_option maxRecDepth 10000 in
set_option maxHeartbeats 4000000 in
theorem clone22_wf (H : AH) (hb : H.base ≤ H.next) (v : Value) (xs : List (List Value)) (h1 : Rd H 4 v xs) (hx : Items xs) (hl : xs.length ≤ 1048576) :
    Wf cfg 17 [v] H fun r H' => Gr H' H.next 4 r xs ∧ Ext H H' := by
  obtain ⟨a, cap, rfl, h2⟩ := id h1
  refine wf_text (fn := Tryz.f17) rfl Tryz.func17 rfl rfl ?_
  cases a with
  | none =>
    have hn : xs = [] := by
      rcases h2 with h2 | ⟨b, o, c, e, w, h2, _⟩
      · exact h2
      · cases h2
    subst hn
    repeat (first
      | (with_reducible refine sc_seq ?_)
      | (with_reducible refine sc_region ?_)
      | (with_reducible refine sc_block ?_)
      | (with_reducible refine sc_scope ?_)
      | ((with_reducible refine sc_skip ?_); dsimp only)
      | ((with_reducible refine sc_label ?_); dsimp only)
      | ((with_reducible refine sc_ret ?_); dsimp only)
      | ((with_reducible refine sc_exit ?_); dsimp only [Nat.beq])
      | ((with_reducible refine so_nil ?_); dsimp only)
      | ((with_reducible apply so_skip); (case hw => simp only [aWanted, aYield, pAT, pG, nilT22, reduceIte, Nat.reduceEqDiff]; done))
      | ((with_reducible apply so_val); (case hw => simp only [aWanted, aYield, pAT, pG, nilT22, reduceIte, Nat.reduceEqDiff]; done); (case ha => simp (maxSteps := 1000000) (disch := (refine id ?_; first | assumption | omega | (simp only [pN, pO, oneCell]; done) | (simp only [pN]; omega))) only [aOp, ev, pAT, nilT22, pI, aInt, aStr, aUn, AR.of, AR.ofB, AR.ofH, reduceIte, Nat.reduceEqDiff, aBuiltin, aLen, aField, aFieldAddr, aIndexAddr, aStore, aLoad, cellsL, oneCell, splice, pC, pL, Nat.reduceBEq, Nat.reduceLeDiff, Nat.reduceMul, Nat.reduceSub, Nat.reduceLT, Nat.reduceAdd, wTrO31] <;> with_reducible rfl))
      | ((with_reducible apply sc_false); (case hc => simp only [ev, pAT, nilT22, reduceIte, Nat.reduceEqDiff]; done))
      | ((with_reducible apply sc_true); (case hc => simp only [ev, pAT, nilT22, reduceIte, Nat.reduceEqDiff]; done)))
    apply res_fin (rs := [ResultVar.tmp 2]) trivial
    case h => simp (disch := (refine id ?_; first | assumption | omega | (simp only [pN, pO, oneCell]; done) | (simp only [pN]; omega))) only [aResults, aResult, aOp, ev, pAT, pI, aInt, aStr, aUn, AR.of, AR.ofB, AR.ofH, reduceIte, Nat.reduceEqDiff, aBuiltin, aLen, aField, aFieldAddr, aIndexAddr, aStore, aLoad, cellsL, oneCell, splice, pC, pL, Nat.reduceBEq, Nat.reduceLeDiff, Nat.reduceMul, Nat.reduceSub, Nat.reduceLT, Nat.reduceAdd, wTrO31] <;> with_reducible rfl
    case hq => exact ⟨Gr.nil .., Ext.refl H⟩
  | some ad =>
    repeat (first
      | (with_reducible refine sc_seq ?_)
      | (with_reducible refine sc_region ?_)
      | (with_reducible refine sc_block ?_)
      | (with_reducible refine sc_scope ?_)
      | ((with_reducible refine sc_skip ?_); dsimp only)
      | ((with_reducible refine sc_label ?_); dsimp only)
      | ((with_reducible refine sc_ret ?_); dsimp only)
      | ((with_reducible refine sc_exit ?_); dsimp only [Nat.beq])
      | ((with_reducible refine so_nil ?_); dsimp only)
      | ((with_reducible apply so_skip); (case hw => simp only [aWanted, aYield, pAT, pG, nilF22, reduceIte, Nat.reduceEqDiff]; done))
      | ((with_reducible apply so_val); (case hw => simp only [aWanted, aYield, pAT, pG, nilF22, reduceIte, Nat.reduceEqDiff]; done); (case ha => simp (maxSteps := 1000000) (disch := (refine id ?_; first | assumption | omega | (simp only [pN, pO, oneCell]; done) | (simp only [pN]; omega))) only [aOp, ev, pAT, nilF22, pI, aInt, aStr, aUn, AR.of, AR.ofB, AR.ofH, reduceIte, Nat.reduceEqDiff, aBuiltin, aLen, aField, aFieldAddr, aIndexAddr, aStore, aLoad, cellsL, oneCell, splice, pC, pL, Nat.reduceBEq, Nat.reduceLeDiff, Nat.reduceMul, Nat.reduceSub, Nat.reduceLT, Nat.reduceAdd, wTrO31] <;> with_reducible rfl))
      | ((with_reducible apply sc_false); (case hc => simp only [ev, pAT, nilF22, reduceIte, Nat.reduceEqDiff]; done))
      | ((with_reducible apply sc_true); (case hc => simp only [ev, pAT, nilF22, reduceIte, Nat.reduceEqDiff]; done)))
    refine so_val (v := .slice (some ⟨H.next, 0, none⟩) 0 0) (H' := H.new (.cells [] 4 .solo)) rfl (by simp only [aOp, List.map_nil, cfg_P]; rw [build0_22]; rfl) ?_
    repeat (first
      | (with_reducible refine sc_seq ?_)
      | (with_reducible refine sc_region ?_)
      | (with_reducible refine sc_block ?_)
      | (with_reducible refine sc_scope ?_)
      | ((with_reducible refine sc_skip ?_); dsimp only)
      | ((with_reducible refine sc_label ?_); dsimp only)
      | ((with_reducible refine sc_ret ?_); dsimp only)
      | ((with_reducible refine sc_exit ?_); dsimp only [Nat.beq])
      | ((with_reducible refine so_nil ?_); dsimp only)
      | ((with_reducible apply so_skip); (case hw => simp only [aWanted, aYield, pAT, pG, reduceIte, Nat.reduceEqDiff]; done))
      | ((with_reducible apply so_val); (case hw => simp only [aWanted, aYield, pAT, pG, reduceIte, Nat.reduceEqDiff]; done); (case ha => simp (maxSteps := 1000000) (disch := (refine id ?_; first | assumption | omega | (simp only [pN, pO, oneCell]; done) | (simp only [pN]; omega))) only [aOp, ev, pAT, pI, aInt, aStr, aUn, AR.of, AR.ofB, AR.ofH, reduceIte, Nat.reduceEqDiff, aBuiltin, aLen, aField, aFieldAddr, aIndexAddr, aStore, aLoad, cellsL, oneCell, splice, pC, pL, Nat.reduceBEq, Nat.reduceLeDiff, Nat.reduceMul, Nat.reduceSub, Nat.reduceLT, Nat.reduceAdd, wTrO31] <;> with_reducible rfl))
      | ((with_reducible apply sc_false); (case hc => simp only [ev, pAT, reduceIte, Nat.reduceEqDiff]; done))
      | ((with_reducible apply sc_true); (case hc => simp only [ev, pAT, reduceIte, Nat.reduceEqDiff]; done)))
    refine so_append rfl (by simp only [aWanted, aYield, pAT, pG, reduceIte, Nat.reduceEqDiff]) (by first | (simp only [ev, pAT, reduceIte, Nat.reduceEqDiff]; done) | (simp only [ev, pAT, reduceIte, Nat.reduceEqDiff]; rfl)) (by first | (simp only [ev, pAT, reduceIte, Nat.reduceEqDiff]; done) | (simp only [ev, pAT, reduceIte, Nat.reduceEqDiff]; rfl)) ?_
    obtain ⟨v', H', h3, h4, h5⟩ := append_gr (P := cfg.P) el22 (lo := H.next) (xs := xs) (gr_zero H 4) (h1.mono (Ext.new H _)) (items_one hx) (by simp only [List.length_nil]; omega) (by simp only [new_next]; omega) (by simp only [new_base]; exact hb)
    refine ⟨v', H', h3, ?_⟩
    repeat (first
      | (with_reducible refine sc_seq ?_)
      | (with_reducible refine sc_region ?_)
      | (with_reducible refine sc_block ?_)
      | (with_reducible refine sc_scope ?_)
      | ((with_reducible refine sc_skip ?_); dsimp only)
      | ((with_reducible refine sc_label ?_); dsimp only)
      | ((with_reducible refine sc_ret ?_); dsimp only)
      | ((with_reducible refine sc_exit ?_); dsimp only [Nat.beq])
      | ((with_reducible refine so_nil ?_); dsimp only)
      | ((with_reducible apply so_skip); (case hw => simp only [aWanted, aYield, pAT, pG, reduceIte, Nat.reduceEqDiff]; done))
      | ((with_reducible apply so_val); (case hw => simp only [aWanted, aYield, pAT, pG, reduceIte, Nat.reduceEqDiff]; done); (case ha => simp (maxSteps := 1000000) (disch := (refine id ?_; first | assumption | omega | (simp only [pN, pO, oneCell]; done) | (simp only [pN]; omega))) only [aOp, ev, pAT, pI, aInt, aStr, aUn, AR.of, AR.ofB, AR.ofH, reduceIte, Nat.reduceEqDiff, aBuiltin, aLen, aField, aFieldAddr, aIndexAddr, aStore, aLoad, cellsL, oneCell, splice, pC, pL, Nat.reduceBEq, Nat.reduceLeDiff, Nat.reduceMul, Nat.reduceSub, Nat.reduceLT, Nat.reduceAdd, wTrO31] <;> with_reducible rfl))
      | ((with_reducible apply sc_false); (case hc => simp only [ev, pAT, reduceIte, Nat.reduceEqDiff]; done))
      | ((with_reducible apply sc_true); (case hc => simp only [ev, pAT, reduceIte, Nat.reduceEqDiff]; done)))
    apply res_fin (rs := [ResultVar.tmp 2]) trivial
    case h => simp (disch := (refine id ?_; first | assumption | omega | (simp only [pN, pO, oneCell]; done) | (simp only [pN]; omega))) only [aResults, aResult, aOp, ev, pAT, pI, aInt, aStr, aUn, AR.of, AR.ofB, AR.ofH, reduceIte, Nat.reduceEqDiff, aBuiltin, aLen, aField, aFieldAddr, aIndexAddr, aStore, aLoad, cellsL, oneCell, splice, pC, pL, Nat.reduceBEq, Nat.reduceLeDiff, Nat.reduceMul, Nat.reduceSub, Nat.reduceLT, Nat.reduceAdd, wTrO31] <;> with_reducible rfl
    case hq => exact ⟨h4, h5.ext (Ext.new H _) (Nat.le_refl _)⟩

theorem nilT25 (xo yo : Operand) (n c : Nat) : aBin Tryz.prog .eql 22 xo yo (.slice none n c) (.slice none 0 0) = some (.bool true) := by
  have u : Tryz.prog.underlying 22 = some (.slice 73) := by kernel_rfl
  unfold aBin aGuard
  simp only
  rw [show Op.maxDepth = 9999 + 1 from rfl, aEq.eq_def]
  simp only [u]; rfl
theorem nilF25 (xo yo : Operand) (a : Addr) (n c : Nat) : aBin Tryz.prog .eql 22 xo yo (.slice (some a) n c) (.slice none 0 0) = some (.bool false) := by
  have u : Tryz.prog.underlying 22 = some (.slice 73) := by kernel_rfl
  unfold aBin aGuard
  simp only
  rw [show Op.maxDepth = 9999 + 1 from rfl, aEq.eq_def]
  simp only [u]
theorem build0_25 (H : AH) : aBuildSlice Tryz.prog H 22 0 [] = some (.slice (some ⟨H.next, 0, none⟩) 0 0, H.new (.cells [] 6 .solo)) := by
  have e1 : elemT Tryz.prog 22 = some 73 := by kernel_rfl
  have e2 : szT Tryz.prog 73 = some 6 := by kernel_rfl
  have e3 : zerosT Tryz.prog 73 0 = some [] := by kernel_rfl
  unfold aBuildSlice
  simp only [e1, e2, e3]
  rfl
set_option maxRecDepth 10000 in
set_option maxHeartbeats 4000000 in
theorem clone25_wf (H : AH) (hb : H.base ≤ H.next) (v : Value) (xs : List (List Value)) (h1 : Rd H 6 v xs) (hx : Nodes xs) (hl : xs.length ≤ 1048576) :
    Wf cfg 18 [v] H fun r H' => Gr H' H.next 6 r xs ∧ Ext H H' := by
  obtain ⟨a, cap, rfl, h2⟩ := id h1
  refine wf_text (fn := Tryz.f18) rfl Tryz.func18 rfl rfl ?_
  cases a with
  | none =>
    have hn : xs = [] := by
      rcases h2 with h2 | ⟨b, o, c, e, w, h2, _⟩
      · exact h2
      · cases h2
    subst hn
    repeat (first
      | (with_reducible refine sc_seq ?_)
      | (with_reducible refine sc_region ?_)
      | (with_reducible refine sc_block ?_)
      | (with_reducible refine sc_scope ?_)
      | ((with_reducible refine sc_skip ?_); dsimp only)
      | ((with_reducible refine sc_label ?_); dsimp only)
      | ((with_reducible refine sc_ret ?_); dsimp only)
      | ((with_reducible refine sc_exit ?_); dsimp only [Nat.beq])
      | ((with_reducible refine so_nil ?_); dsimp only)
      | ((with_reducible apply so_skip); (case hw => simp only [aWanted, aYield, pAT, pG, nilT25, reduceIte, Nat.reduceEqDiff]; done))
      | ((with_reducible apply so_val); (case hw => simp only [aWanted, aYield, pAT, pG, nilT25, reduceIte, Nat.reduceEqDiff]; done); (case ha => simp (maxSteps := 1000000) (disch := (refine id ?_; first | assumption | omega | (simp only [pN, pO, oneCell]; done) | (simp only [pN]; omega))) only [aOp, ev, pAT, nilT25, pI, aInt, aStr, aUn, AR.of, AR.ofB, AR.ofH, reduceIte, Nat.reduceEqDiff, aBuiltin, aLen, aField, aFieldAddr, aIndexAddr, aStore, aLoad, cellsL, oneCell, splice, pC, pL, Nat.reduceBEq, Nat.reduceLeDiff, Nat.reduceMul, Nat.reduceSub, Nat.reduceLT, Nat.reduceAdd, wTrO31] <;> with_reducible rfl))
      | ((with_reducible apply sc_false); (case hc => simp only [ev, pAT, nilT25, reduceIte, Nat.reduceEqDiff]; done))
      | ((with_reducible apply sc_true); (case hc => simp only [ev, pAT, nilT25, reduceIte, Nat.reduceEqDiff]; done)))
    apply res_fin (rs := [ResultVar.tmp 2]) trivial
    case h => simp (disch := (refine id ?_; first | assumption | omega | (simp only [pN, pO, oneCell]; done) | (simp only [pN]; omega))) only [aResults, aResult, aOp, ev, pAT, pI, aInt, aStr, aUn, AR.of, AR.ofB, AR.ofH, reduceIte, Nat.reduceEqDiff, aBuiltin, aLen, aField, aFieldAddr, aIndexAddr, aStore, aLoad, cellsL, oneCell, splice, pC, pL, Nat.reduceBEq, Nat.reduceLeDiff, Nat.reduceMul, Nat.reduceSub, Nat.reduceLT, Nat.reduceAdd, wTrO31] <;> with_reducible rfl
    case hq => exact ⟨Gr.nil .., Ext.refl H⟩
  | some ad =>
    repeat (first
      | (with_reducible refine sc_seq ?_)
      | (with_reducible refine sc_region ?_)
      | (with_reducible refine sc_block ?_)
      | (with_reducible refine sc_scope ?_)
      | ((with_reducible refine sc_skip ?_); dsimp only)
      | ((with_reducible refine sc_label ?_); dsimp only)
      | ((with_reducible refine sc_ret ?_); dsimp only)
      | ((with_reducible refine sc_exit ?_); dsimp only [Nat.beq])
      | ((with_reducible refine so_nil ?_); dsimp only)
      | ((with_reducible apply so_skip); (case hw => simp only [aWanted, aYield, pAT, pG, nilF25, reduceIte, Nat.reduceEqDiff]; done))
      | ((with_reducible apply so_val); (case hw => simp only [aWanted, aYield, pAT, pG, nilF25, reduceIte, Nat.reduceEqDiff]; done); (case ha => simp (maxSteps := 1000000) (disch := (refine id ?_; first | assumption | omega | (simp only [pN, pO, oneCell]; done) | (simp only [pN]; omega))) only [aOp, ev, pAT, nilF25, pI, aInt, aStr, aUn, AR.of, AR.ofB, AR.ofH, reduceIte, Nat.reduceEqDiff, aBuiltin, aLen, aField, aFieldAddr, aIndexAddr, aStore, aLoad, cellsL, oneCell, splice, pC, pL, Nat.reduceBEq, Nat.reduceLeDiff, Nat.reduceMul, Nat.reduceSub, Nat.reduceLT, Nat.reduceAdd, wTrO31] <;> with_reducible rfl))
      | ((with_reducible apply sc_false); (case hc => simp only [ev, pAT, nilF25, reduceIte, Nat.reduceEqDiff]; done))
      | ((with_reducible apply sc_true); (case hc => simp only [ev, pAT, nilF25, reduceIte, Nat.reduceEqDiff]; done)))
    refine so_val (v := .slice (some ⟨H.next, 0, none⟩) 0 0) (H' := H.new (.cells [] 6 .solo)) rfl (by simp only [aOp, List.map_nil, cfg_P]; rw [build0_25]; rfl) ?_
    repeat (first
      | (with_reducible refine sc_seq ?_)
      | (with_reducible refine sc_region ?_)
      | (with_reducible refine sc_block ?_)
      | (with_reducible refine sc_scope ?_)
      | ((with_reducible refine sc_skip ?_); dsimp only)
      | ((with_reducible refine sc_label ?_); dsimp only)
      | ((with_reducible refine sc_ret ?_); dsimp only)
      | ((with_reducible refine sc_exit ?_); dsimp only [Nat.beq])
      | ((with_reducible refine so_nil ?_); dsimp only)
      | ((with_reducible apply so_skip); (case hw => simp only [aWanted, aYield, pAT, pG, reduceIte, Nat.reduceEqDiff]; done))
      | ((with_reducible apply so_val); (case hw => simp only [aWanted, aYield, pAT, pG, reduceIte, Nat.reduceEqDiff]; done); (case ha => simp (maxSteps := 1000000) (disch := (refine id ?_; first | assumption | omega | (simp only [pN, pO, oneCell]; done) | (simp only [pN]; omega))) only [aOp, ev, pAT, pI, aInt, aStr, aUn, AR.of, AR.ofB, AR.ofH, reduceIte, Nat.reduceEqDiff, aBuiltin, aLen, aField, aFieldAddr, aIndexAddr, aStore, aLoad, cellsL, oneCell, splice, pC, pL, Nat.reduceBEq, Nat.reduceLeDiff, Nat.reduceMul, Nat.reduceSub, Nat.reduceLT, Nat.reduceAdd, wTrO31] <;> with_reducible rfl))
      | ((with_reducible apply sc_false); (case hc => simp only [ev, pAT, reduceIte, Nat.reduceEqDiff]; done))
      | ((with_reducible apply sc_true); (case hc => simp only [ev, pAT, reduceIte, Nat.reduceEqDiff]; done)))
    refine so_append rfl (by simp only [aWanted, aYield, pAT, pG, reduceIte, Nat.reduceEqDiff]) (by first | (simp only [ev, pAT, reduceIte, Nat.reduceEqDiff]; done) | (simp only [ev, pAT, reduceIte, Nat.reduceEqDiff]; rfl)) (by first | (simp only [ev, pAT, reduceIte, Nat.reduceEqDiff]; done) | (simp only [ev, pAT, reduceIte, Nat.reduceEqDiff]; rfl)) ?_
    obtain ⟨v', H', h3, h4, h5⟩ := append_gr (P := cfg.P) el25 (lo := H.next) (xs := xs) (gr_zero H 6) (h1.mono (Ext.new H _)) (nodes_one hx) (by simp only [List.length_nil]; omega) (by simp only [new_next]; omega) (by simp only [new_base]; exact hb)
    refine ⟨v', H', h3, ?_⟩
    repeat (first
      | (with_reducible refine sc_seq ?_)
      | (with_reducible refine sc_region ?_)
      | (with_reducible refine sc_block ?_)
      | (with_reducible refine sc_scope ?_)
      | ((with_reducible refine sc_skip ?_); dsimp only)
      | ((with_reducible refine sc_label ?_); dsimp only)
      | ((with_reducible refine sc_ret ?_); dsimp only)
      | ((with_reducible refine sc_exit ?_); dsimp only [Nat.beq])
      | ((with_reducible refine so_nil ?_); dsimp only)
      | ((with_reducible apply so_skip); (case hw => simp only [aWanted, aYield, pAT, pG, reduceIte, Nat.reduceEqDiff]; done))
      | ((with_reducible apply so_val); (case hw => simp only [aWanted, aYield, pAT, pG, reduceIte, Nat.reduceEqDiff]; done); (case ha => simp (maxSteps := 1000000) (disch := (refine id ?_; first | assumption | omega | (simp only [pN, pO, oneCell]; done) | (simp only [pN]; omega))) only [aOp, ev, pAT, pI, aInt, aStr, aUn, AR.of, AR.ofB, AR.ofH, reduceIte, Nat.reduceEqDiff, aBuiltin, aLen, aField, aFieldAddr, aIndexAddr, aStore, aLoad, cellsL, oneCell, splice, pC, pL, Nat.reduceBEq, Nat.reduceLeDiff, Nat.reduceMul, Nat.reduceSub, Nat.reduceLT, Nat.reduceAdd, wTrO31] <;> with_reducible rfl))
      | ((with_reducible apply sc_false); (case hc => simp only [ev, pAT, reduceIte, Nat.reduceEqDiff]; done))
      | ((with_reducible apply sc_true); (case hc => simp only [ev, pAT, reduceIte, Nat.reduceEqDiff]; done)))
    apply res_fin (rs := [ResultVar.tmp 2]) trivial
    case h => simp (disch := (refine id ?_; first | assumption | omega | (simp only [pN, pO, oneCell]; done) | (simp only [pN]; omega))) only [aResults, aResult, aOp, ev, pAT, pI, aInt, aStr, aUn, AR.of, AR.ofB, AR.ofH, reduceIte, Nat.reduceEqDiff, aBuiltin, aLen, aField, aFieldAddr, aIndexAddr, aStore, aLoad, cellsL, oneCell, splice, pC, pL, Nat.reduceBEq, Nat.reduceLeDiff, Nat.reduceMul, Nat.reduceSub, Nat.reduceLT, Nat.reduceAdd, wTrO31] <;> with_reducible rfl
    case hq => exact ⟨h4, h5.ext (Ext.new H _) (Nat.le_refl _)⟩

theorem nilT26 (xo yo : Operand) (n c : Nat) : aBin Tryz.prog .eql 26 xo yo (.slice none n c) (.slice none 0 0) = some (.bool true) := by
  have u : Tryz.prog.underlying 26 = some (.slice 25) := by kernel_rfl
  unfold aBin aGuard
  simp only
  rw [show Op.maxDepth = 9999 + 1 from rfl, aEq.eq_def]
  simp only [u]; rfl
theorem nilF26 (xo yo : Operand) (a : Addr) (n c : Nat) : aBin Tryz.prog .eql 26 xo yo (.slice (some a) n c) (.slice none 0 0) = some (.bool false) := by
  have u : Tryz.prog.underlying 26 = some (.slice 25) := by kernel_rfl
  unfold aBin aGuard
  simp only
  rw [show Op.maxDepth = 9999 + 1 from rfl, aEq.eq_def]
  simp only [u]
theorem build0_26 (H : AH) : aBuildSlice Tryz.prog H 26 0 [] = some (.slice (some ⟨H.next, 0, none⟩) 0 0, H.new (.cells [] 2 .solo)) := by
  have e1 : elemT Tryz.prog 26 = some 25 := by kernel_rfl
  have e2 : szT Tryz.prog 25 = some 2 := by kernel_rfl
  have e3 : zerosT Tryz.prog 25 0 = some [] := by kernel_rfl
  unfold aBuildSlice
  simp only [e1, e2, e3]
  rfl
set_option maxRecDepth 10000 in
set_option maxHeartbeats 4000000 in
theorem clone26_wf (H : AH) (hb : H.base ≤ H.next) (v : Value) (xs : List (List Value)) (h1 : Rd H 2 v xs) (hx : Labels xs) (hl : xs.length ≤ 1048576) :
    Wf cfg 19 [v] H fun r H' => Gr H' H.next 2 r xs ∧ Ext H H' := by
  obtain ⟨a, cap, rfl, h2⟩ := id h1
  refine wf_text (fn := Tryz.f19) rfl Tryz.func19 rfl rfl ?_
  cases a with
  | none =>
    have hn : xs = [] := by
      rcases h2 with h2 | ⟨b, o, c, e, w, h2, _⟩
      · exact h2
      · cases h2
    subst hn
    repeat (first
      | (with_reducible refine sc_seq ?_)
      | (with_reducible refine sc_region ?_)
      | (with_reducible refine sc_block ?_)
      | (with_reducible refine sc_scope ?_)
      | ((with_reducible refine sc_skip ?_); dsimp only)
      | ((with_reducible refine sc_label ?_); dsimp only)
      | ((with_reducible refine sc_ret ?_); dsimp only)
      | ((with_reducible refine sc_exit ?_); dsimp only [Nat.beq])
      | ((with_reducible refine so_nil ?_); dsimp only)
      | ((with_reducible apply so_skip); (case hw => simp only [aWanted, aYield, pAT, pG, nilT26, reduceIte, Nat.reduceEqDiff]; done))
      | ((with_reducible apply so_val); (case hw => simp only [aWanted, aYield, pAT, pG, nilT26, reduceIte, Nat.reduceEqDiff]; done); (case ha => simp (maxSteps := 1000000) (disch := (refine id ?_; first | assumption | omega | (simp only [pN, pO, oneCell]; done) | (simp only [pN]; omega))) only [aOp, ev, pAT, nilT26, pI, aInt, aStr, aUn, AR.of, AR.ofB, AR.ofH, reduceIte, Nat.reduceEqDiff, aBuiltin, aLen, aField, aFieldAddr, aIndexAddr, aStore, aLoad, cellsL, oneCell, splice, pC, pL, Nat.reduceBEq, Nat.reduceLeDiff, Nat.reduceMul, Nat.reduceSub, Nat.reduceLT, Nat.reduceAdd, wTrO31] <;> with_reducible rfl))
      | ((with_reducible apply sc_false); (case hc => simp only [ev, pAT, nilT26, reduceIte, Nat.reduceEqDiff]; done))
      | ((with_reducible apply sc_true); (case hc => simp only [ev, pAT, nilT26, reduceIte, Nat.reduceEqDiff]; done)))
    apply res_fin (rs := [ResultVar.tmp 2]) trivial
    case h => simp (disch := (refine id ?_; first | assumption | omega | (simp only [pN, pO, oneCell]; done) | (simp only [pN]; omega))) only [aResults, aResult, aOp, ev, pAT, pI, aInt, aStr, aUn, AR.of, AR.ofB, AR.ofH, reduceIte, Nat.reduceEqDiff, aBuiltin, aLen, aField, aFieldAddr, aIndexAddr, aStore, aLoad, cellsL, oneCell, splice, pC, pL, Nat.reduceBEq, Nat.reduceLeDiff, Nat.reduceMul, Nat.reduceSub, Nat.reduceLT, Nat.reduceAdd, wTrO31] <;> with_reducible rfl
    case hq => exact ⟨Gr.nil .., Ext.refl H⟩
  | some ad =>
    repeat (first
      | (with_reducible refine sc_seq ?_)
      | (with_reducible refine sc_region ?_)
      | (with_reducible refine sc_block ?_)
      | (with_reducible refine sc_scope ?_)
      | ((with_reducible refine sc_skip ?_); dsimp only)
      | ((with_reducible refine sc_label ?_); dsimp only)
      | ((with_reducible refine sc_ret ?_); dsimp only)
      | ((with_reducible refine sc_exit ?_); dsimp only [Nat.beq])
      | ((with_reducible refine so_nil ?_); dsimp only)
      | ((with_reducible apply so_skip); (case hw => simp only [aWanted, aYield, pAT, pG, nilF26, reduceIte, Nat.reduceEqDiff]; done))
      | ((with_reducible apply so_val); (case hw => simp only [aWanted, aYield, pAT, pG, nilF26, reduceIte, Nat.reduceEqDiff]; done); (case ha => simp (maxSteps := 1000000) (disch := (refine id ?_; first | assumption | omega | (simp only [pN, pO, oneCell]; done) | (simp only [pN]; omega))) only [aOp, ev, pAT, nilF26, pI, aInt, aStr, aUn, AR.of, AR.ofB, AR.ofH, reduceIte, Nat.reduceEqDiff, aBuiltin, aLen, aField, aFieldAddr, aIndexAddr, aStore, aLoad, cellsL, oneCell, splice, pC, pL, Nat.reduceBEq, Nat.reduceLeDiff, Nat.reduceMul, Nat.reduceSub, Nat.reduceLT, Nat.reduceAdd, wTrO31] <;> with_reducible rfl))
      | ((with_reducible apply sc_false); (case hc => simp only [ev, pAT, nilF26, reduceIte, Nat.reduceEqDiff]; done))
      | ((with_reducible apply sc_true); (case hc => simp only [ev, pAT, nilF26, reduceIte, Nat.reduceEqDiff]; done)))
    refine so_val (v := .slice (some ⟨H.next, 0, none⟩) 0 0) (H' := H.new (.cells [] 2 .solo)) rfl (by simp only [aOp, List.map_nil, cfg_P]; rw [build0_26]; rfl) ?_
    repeat (first
      | (with_reducible refine sc_seq ?_)
      | (with_reducible refine sc_region ?_)
      | (with_reducible refine sc_block ?_)
      | (with_reducible refine sc_scope ?_)
      | ((with_reducible refine sc_skip ?_); dsimp only)
      | ((with_reducible refine sc_label ?_); dsimp only)
      | ((with_reducible refine sc_ret ?_); dsimp only)
      | ((with_reducible refine sc_exit ?_); dsimp only [Nat.beq])
      | ((with_reducible refine so_nil ?_); dsimp only)
      | ((with_reducible apply so_skip); (case hw => simp only [aWanted, aYield, pAT, pG, reduceIte, Nat.reduceEqDiff]; done))
      | ((with_reducible apply so_val); (case hw => simp only [aWanted, aYield, pAT, pG, reduceIte, Nat.reduceEqDiff]; done); (case ha => simp (maxSteps := 1000000) (disch := (refine id ?_; first | assumption | omega | (simp only [pN, pO, oneCell]; done) | (simp only [pN]; omega))) only [aOp, ev, pAT, pI, aInt, aStr, aUn, AR.of, AR.ofB, AR.ofH, reduceIte, Nat.reduceEqDiff, aBuiltin, aLen, aField, aFieldAddr, aIndexAddr, aStore, aLoad, cellsL, oneCell, splice, pC, pL, Nat.reduceBEq, Nat.reduceLeDiff, Nat.reduceMul, Nat.reduceSub, Nat.reduceLT, Nat.reduceAdd, wTrO31] <;> with_reducible rfl))
      | ((with_reducible apply sc_false); (case hc => simp only [ev, pAT, reduceIte, Nat.reduceEqDiff]; done))
      | ((with_reducible apply sc_true); (case hc => simp only [ev, pAT, reduceIte, Nat.reduceEqDiff]; done)))
    refine so_append rfl (by simp only [aWanted, aYield, pAT, pG, reduceIte, Nat.reduceEqDiff]) (by first | (simp only [ev, pAT, reduceIte, Nat.reduceEqDiff]; done) | (simp only [ev, pAT, reduceIte, Nat.reduceEqDiff]; rfl)) (by first | (simp only [ev, pAT, reduceIte, Nat.reduceEqDiff]; done) | (simp only [ev, pAT, reduceIte, Nat.reduceEqDiff]; rfl)) ?_
    obtain ⟨v', H', h3, h4, h5⟩ := append_gr (P := cfg.P) el26 (lo := H.next) (xs := xs) (gr_zero H 2) (h1.mono (Ext.new H _)) (labels_one hx) (by simp only [List.length_nil]; omega) (by simp only [new_next]; omega) (by simp only [new_base]; exact hb)
    refine ⟨v', H', h3, ?_⟩
    repeat (first
      | (with_reducible refine sc_seq ?_)
      | (with_reducible refine sc_region ?_)
      | (with_reducible refine sc_block ?_)
      | (with_reducible refine sc_scope ?_)
      | ((with_reducible refine sc_skip ?_); dsimp only)
      | ((with_reducible refine sc_label ?_); dsimp only)
      | ((with_reducible refine sc_ret ?_); dsimp only)
      | ((with_reducible refine sc_exit ?_); dsimp only [Nat.beq])
      | ((with_reducible refine so_nil ?_); dsimp only)
      | ((with_reducible apply so_skip); (case hw => simp only [aWanted, aYield, pAT, pG, reduceIte, Nat.reduceEqDiff]; done))
      | ((with_reducible apply so_val); (case hw => simp only [aWanted, aYield, pAT, pG, reduceIte, Nat.reduceEqDiff]; done); (case ha => simp (maxSteps := 1000000) (disch := (refine id ?_; first | assumption | omega | (simp only [pN, pO, oneCell]; done) | (simp only [pN]; omega))) only [aOp, ev, pAT, pI, aInt, aStr, aUn, AR.of, AR.ofB, AR.ofH, reduceIte, Nat.reduceEqDiff, aBuiltin, aLen, aField, aFieldAddr, aIndexAddr, aStore, aLoad, cellsL, oneCell, splice, pC, pL, Nat.reduceBEq, Nat.reduceLeDiff, Nat.reduceMul, Nat.reduceSub, Nat.reduceLT, Nat.reduceAdd, wTrO31] <;> with_reducible rfl))
      | ((with_reducible apply sc_false); (case hc => simp only [ev, pAT, reduceIte, Nat.reduceEqDiff]; done))
      | ((with_reducible apply sc_true); (case hc => simp only [ev, pAT, reduceIte, Nat.reduceEqDiff]; done)))
    apply res_fin (rs := [ResultVar.tmp 2]) trivial
    case h => simp (disch := (refine id ?_; first | assumption | omega | (simp only [pN, pO, oneCell]; done) | (simp only [pN]; omega))) only [aResults, aResult, aOp, ev, pAT, pI, aInt, aStr, aUn, AR.of, AR.ofB, AR.ofH, reduceIte, Nat.reduceEqDiff, aBuiltin, aLen, aField, aFieldAddr, aIndexAddr, aStore, aLoad, cellsL, oneCell, splice, pC, pL, Nat.reduceBEq, Nat.reduceLeDiff, Nat.reduceMul, Nat.reduceSub, Nat.reduceLT, Nat.reduceAdd, wTrO31] <;> with_reducible rfl
    case hq => exact ⟨h4, h5.ext (Ext.new H _) (Nat.le_refl _)⟩
end Go.Am
