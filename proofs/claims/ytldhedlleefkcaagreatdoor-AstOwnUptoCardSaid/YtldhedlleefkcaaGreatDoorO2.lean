import Derived.Test.YtldhedlleefkcaaGreatDoorO1
set_option linter.unusedVariables false
set_option linter.unusedSimpArgs false
namespace Go.Am
open Go.Proofs Go
theorem build1 (H : AH) (a f n k p : Int) (s : ByteArray) : aBuildSlice Tryz.prog H 22 1 [(0, .agg #[.int .u8 a, .int .u8 f, .string s, .int .i64 n, .int .i64 k, .int .i64 p])] = some (.slice (some ⟨H.next, 0, none⟩) 1 1, H.new (.cells (nd a f s n k p) 6 .solo)) := by
  have e1 : elemT Tryz.prog 22 = some 73 := by kernel_rfl
  have e2 : zerosT Tryz.prog 73 1 = some [.int .u8 0, .int .u8 0, .string ⟨#[]⟩, .int .i64 0, .int .i64 0, .int .i64 0] := by kernel_rfl
  unfold aBuildSlice
  simp only [e1, sz38, e2]
  rfl

/-- Is a node a call? -/
def opCall : List Value → Bool
  | .int _ a :: _ => a == 2
  | _ => false
theorem take_yes {xs : List (List Value)} {t : Nat} {x : List Value} (h : xs[t]? = some x) (ho : opCall x = true) : (xs.take (t + 1)).filter opCall = (xs.take t).filter opCall ++ [x] := by
  rw [List.take_add_one, h]
  simp [ho]
theorem take_no {xs : List (List Value)} {t : Nat} {x : List Value} (h : xs[t]? = some x) (ho : opCall x = false) : (xs.take (t + 1)).filter opCall = (xs.take t).filter opCall := by
  rw [List.take_add_one, h]
  simp [ho]
theorem take_le (xs : List (List Value)) (t : Nat) : ((xs.take t).filter opCall).length ≤ xs.length := Nat.le_trans (List.length_filter_le ..) (by rw [List.length_take]; omega)

theorem wTrO21 : type_of% (And.intro @cfg_P <| And.intro @sz3 <| And.intro @sz38 <| And.intro @agg3 <| And.intro @agg38 <| And.intro @und25 <| And.intro @fld38_4 <| And.intro @fld38_5 <| And.intro @zero38 <| And.intro @und26 <| And.intro @und22 <| And.intro @sz24 <| And.intro @sz33 <| And.intro @sz9 <| And.intro @a9 <| And.intro @agg24 <| And.intro @fld24_0 <| And.intro @fld24_1 <| And.intro @f29_0 <| And.intro @f29_1 <| And.intro @f29_2 <| And.intro @f29_3 <| And.intro @f29_4 <| And.intro @f29_5 <| And.intro @f29_6 <| And.intro @f29_7 <| And.intro @f29_8 <| And.intro @f29_9 <| And.intro @f29_10 <| And.intro @f33_0 <| And.intro @f33_1 <| And.intro @f33_2 <| And.intro @s22 <| And.intro @s25 <| And.intro @s26 <| And.intro @s27 <| And.intro @s2 <| And.intro @s29 <| And.intro @g22 <| And.intro @g25 <| And.intro @g26 <| And.intro @g27 <| And.intro @g29 <| And.intro @g33 <| And.intro @a2 <| And.intro @zero29 <| And.intro @zero33 <| And.intro @fld38_0 <| And.intro @sz35 <| @a35) := And.intro @cfg_P <| And.intro @sz3 <| And.intro @sz38 <| And.intro @agg3 <| And.intro @agg38 <| And.intro @und25 <| And.intro @fld38_4 <| And.intro @fld38_5 <| And.intro @zero38 <| And.intro @und26 <| And.intro @und22 <| And.intro @sz24 <| And.intro @sz33 <| And.intro @sz9 <| And.intro @a9 <| And.intro @agg24 <| And.intro @fld24_0 <| And.intro @fld24_1 <| And.intro @f29_0 <| And.intro @f29_1 <| And.intro @f29_2 <| And.intro @f29_3 <| And.intro @f29_4 <| And.intro @f29_5 <| And.intro @f29_6 <| And.intro @f29_7 <| And.intro @f29_8 <| And.intro @f29_9 <| And.intro @f29_10 <| And.intro @f33_0 <| And.intro @f33_1 <| And.intro @f33_2 <| And.intro @s22 <| And.intro @s25 <| And.intro @s26 <| And.intro @s27 <| And.intro @s2 <| And.intro @s29 <| And.intro @g22 <| And.intro @g25 <| And.intro @g26 <| And.intro @g27 <| And.intro @g29 <| And.intro @g33 <| And.intro @a2 <| And.intro @zero29 <| And.intro @zero33 <| And.intro @fld38_0 <| And.intro @sz35 <| @a35
set_option maxRecDepth 10000 in
set_option maxHeartbeats 4000000 in
theorem calls_wf (H : AH) (hb : H.base ≤ H.next) (v : Value) (xs : List (List Value)) (h1 : Rd H 6 v xs) (hx : Nodes xs) (hl : xs.length ≤ 1048576) :
    Wf cfg 8 [v] H fun r H' => Gr H' H.next 6 r (xs.filter opCall) ∧ Ext H H' := by
  obtain ⟨q1, q2, e1, _⟩ := id h1
  refine wf_text (fn := Tryz.f8) rfl Tryz.func8 rfl rfl ?_
  repeat (first
    | (with_reducible refine sc_seq ?_)
    | (with_reducible refine sc_region ?_)
    | (with_reducible refine sc_block ?_)
    | (with_reducible refine sc_scope ?_)
    | ((with_reducible refine sc_skip ?_); dsimp only)
    | ((with_reducible refine sc_label ?_); dsimp only)
    | ((with_reducible refine sc_ret ?_); dsimp only)
    | ((with_reducible refine sc_exit ?_); dsimp only [Nat.beq])
    | ((with_reducible refine so_nil ?_); dsimp only)
    | ((with_reducible apply so_skip); (case hw => simp only [aWanted, aYield, pAT, pG, e1, reduceIte, Nat.reduceEqDiff]; done))
    | ((with_reducible apply so_val); (case hw => simp only [aWanted, aYield, pAT, pG, e1, reduceIte, Nat.reduceEqDiff]; done); (case ha => simp (maxSteps := 1000000) (disch := (refine id ?_; first | assumption | omega | (simp only [pN, pO, oneCell]; done) | (simp only [pN]; omega))) only [aOp, ev, pAT, e1, pI, aInt, aStr, aUn, AR.of, AR.ofB, AR.ofH, reduceIte, Nat.reduceEqDiff, aBuiltin, aLen, aField, aFieldAddr, aIndexAddr, aStore, aLoad, cellsL, oneCell, splice, pC, pL, Nat.reduceBEq, Nat.reduceLeDiff, Nat.reduceMul, Nat.reduceSub, Nat.reduceLT, Nat.reduceAdd, wTrO21] <;> with_reducible rfl))
    | ((with_reducible apply sc_false); (case hc => simp only [ev, pAT, e1, reduceIte, Nat.reduceEqDiff]; done))
    | ((with_reducible apply sc_true); (case hc => simp only [ev, pAT, e1, reduceIte, Nat.reduceEqDiff]; done)))
  refine sc_loop (I := fun n fr G => Ext H G ∧ ∃ t : Nat, t ≤ xs.length ∧ n = xs.length - t ∧ Fr.at fr 6 = v ∧ Fr.at fr 7 = .int .i64 xs.length ∧ Fr.at fr 8 = .int .i64 t ∧ Gr G H.next 6 (Fr.at fr 3) ((xs.take t).filter opCall)) ?_ xs.length _ _ ?_
  rotate_left
  · refine ⟨Ext.refl H, 0, by omega, rfl, ?_, ?_, ?_, ?_⟩ <;> simp only [at_some, at_none, at_args, List.getElem?_cons_zero, List.getElem?_cons_succ, Option.getD_some, reduceIte, Nat.reduceEqDiff, e1, List.take_zero, List.filter_nil]
    · rfl
    · exact Gr.nil ..
  rintro n fr G ⟨hG, t, ht, rfl, f6, f7, f8, hgr⟩
  obtain ⟨out, f3⟩ : ∃ out, Fr.at fr 3 = out := ⟨_, rfl⟩
  rw [f3] at hgr
  by_cases hlt : t < xs.length
  · obtain ⟨x, hxt⟩ : ∃ x, xs[t]? = some x := ⟨_, List.getElem?_eq_getElem hlt⟩
    obtain ⟨a, f, s, n, k, p, rfl⟩ := hx x (List.mem_of_getElem? hxt)
    obtain ⟨b1, o1, c1, rfl, hb1, _, l1, _⟩ := (h1.mono hG).at hxt
    have g1 : decide ((t : Int) < (xs.length : Int)) = true := decT (by omega)
    have g2 : (0 ≤ (t : Int) ∧ (t : Int) < (xs.length : Int)) := by omega
    have hbG : G.base ≤ G.next := by rw [hG.base]; exact Nat.le_trans hb hG.next
    by_cases ha : a = 2
    · subst ha
      repeat (first
        | (with_reducible refine sc_seq ?_)
        | (with_reducible refine sc_region ?_)
        | (with_reducible refine sc_block ?_)
        | (with_reducible refine sc_scope ?_)
        | ((with_reducible refine sc_skip ?_); dsimp only)
        | ((with_reducible refine sc_label ?_); dsimp only)
        | ((with_reducible refine sc_ret ?_); dsimp only)
        | ((with_reducible refine sc_exit ?_); dsimp only [Nat.beq])
        | ((with_reducible refine so_nil ?_); dsimp only)
        | ((with_reducible apply so_skip); (case hw => simp only [aWanted, aYield, pAT, pG, f3, f6, f7, f8, g1, g2, l1, if_true, Int.toNat_natCast, true_and, and_self, build1, reduceIte, Nat.reduceEqDiff]; done))
        | ((with_reducible apply so_val); (case hw => simp only [aWanted, aYield, pAT, pG, f3, f6, f7, f8, g1, g2, l1, if_true, Int.toNat_natCast, true_and, and_self, build1, reduceIte, Nat.reduceEqDiff]; done); (case ha => simp (maxSteps := 1000000) (disch := (refine id ?_; first | assumption | omega | (simp only [pN, pO, oneCell]; done) | (simp only [pN]; omega))) only [aOp, ev, pAT, f3, f6, f7, f8, g1, g2, l1, if_true, Int.toNat_natCast, true_and, and_self, build1, pI, aInt, aStr, aUn, AR.of, AR.ofB, AR.ofH, reduceIte, Nat.reduceEqDiff, aBuiltin, aLen, aField, aFieldAddr, aIndexAddr, aStore, aLoad, cellsL, oneCell, splice, pC, pL, Nat.reduceBEq, Nat.reduceLeDiff, Nat.reduceMul, Nat.reduceSub, Nat.reduceLT, Nat.reduceAdd, wTrO21] <;> with_reducible rfl))
        | ((with_reducible apply sc_false); (case hc => simp only [ev, pAT, f3, f6, f7, f8, g1, g2, l1, if_true, Int.toNat_natCast, true_and, and_self, build1, reduceIte, Nat.reduceEqDiff]; done))
        | ((with_reducible apply sc_true); (case hc => simp only [ev, pAT, f3, f6, f7, f8, g1, g2, l1, if_true, Int.toNat_natCast, true_and, and_self, build1, reduceIte, Nat.reduceEqDiff]; done)))
      refine so_append rfl (by simp only [aWanted, aYield, pAT, pG, f3, f6, f7, f8, reduceIte, Nat.reduceEqDiff]) (by first | (simp only [ev, pAT, f3, f6, f7, f8, reduceIte, Nat.reduceEqDiff]; done) | (simp only [ev, pAT, f3, f6, f7, f8, reduceIte, Nat.reduceEqDiff]; rfl)) (by first | (simp only [ev, pAT, f3, f6, f7, f8, reduceIte, Nat.reduceEqDiff]; done) | (simp only [ev, pAT, f3, f6, f7, f8, reduceIte, Nat.reduceEqDiff]; rfl)) ?_
      obtain ⟨v', H', h3, h4, h5⟩ := append_gr (P := cfg.P) el25 (lo := H.next) (xs := [nd 2 f s n k p]) (hgr.mono (((Ext.new G _).step _))) (Rd.one (c := nd 2 f s n k p) rfl) rfl (by have := take_le xs t; simp only [List.length_singleton]; omega) (by simp only [new_next]; have := hG.next; omega) (by simp only [new_base]; rw [hG.base]; exact hb)
      refine ⟨v', H', h3, ?_⟩
      repeat (first
        | (with_reducible refine sc_seq ?_)
        | (with_reducible refine sc_region ?_)
        | (with_reducible refine sc_block ?_)
        | (with_reducible refine sc_scope ?_)
        | ((with_reducible refine sc_skip ?_); dsimp only)
        | ((with_reducible refine sc_label ?_); dsimp only)
        | ((with_reducible refine sc_ret ?_); dsimp only)
        | ((with_reducible refine sc_exit ?_); dsimp only [Nat.beq])
        | ((with_reducible refine so_nil ?_); dsimp only)
        | ((with_reducible apply so_skip); (case hw => simp only [aWanted, aYield, pAT, pG, f3, f6, f7, f8, reduceIte, Nat.reduceEqDiff]; done))
        | ((with_reducible apply so_val); (case hw => simp only [aWanted, aYield, pAT, pG, f3, f6, f7, f8, reduceIte, Nat.reduceEqDiff]; done); (case ha => simp (maxSteps := 1000000) (disch := (refine id ?_; first | assumption | omega | (simp only [pN, pO, oneCell]; done) | (simp only [pN]; omega))) only [aOp, ev, pAT, f3, f6, f7, f8, pI, aInt, aStr, aUn, AR.of, AR.ofB, AR.ofH, reduceIte, Nat.reduceEqDiff, aBuiltin, aLen, aField, aFieldAddr, aIndexAddr, aStore, aLoad, cellsL, oneCell, splice, pC, pL, Nat.reduceBEq, Nat.reduceLeDiff, Nat.reduceMul, Nat.reduceSub, Nat.reduceLT, Nat.reduceAdd, wTrO21] <;> with_reducible rfl))
        | ((with_reducible apply sc_false); (case hc => simp only [ev, pAT, f3, f6, f7, f8, reduceIte, Nat.reduceEqDiff]; done))
        | ((with_reducible apply sc_true); (case hc => simp only [ev, pAT, f3, f6, f7, f8, reduceIte, Nat.reduceEqDiff]; done)))
      refine ⟨xs.length - (t + 1), by omega, h5.ext ((hG.step _).step _) (Nat.le_refl _), t + 1, by omega, rfl, ?_, ?_, ?_, ?_⟩ <;> simp only [at_some, at_none, f3, f6, f7, f8, reduceIte, Nat.reduceEqDiff]
      · congr 1
        simp [IntKind.wrap, IntKind.bits, IntKind.signed]; omega
      · rw [take_yes hxt rfl]; exact h4
    · have g3 : (a == 2) = false := by simpa using ha
      repeat (first
        | (with_reducible refine sc_seq ?_)
        | (with_reducible refine sc_region ?_)
        | (with_reducible refine sc_block ?_)
        | (with_reducible refine sc_scope ?_)
        | ((with_reducible refine sc_skip ?_); dsimp only)
        | ((with_reducible refine sc_label ?_); dsimp only)
        | ((with_reducible refine sc_ret ?_); dsimp only)
        | ((with_reducible refine sc_exit ?_); dsimp only [Nat.beq])
        | ((with_reducible refine so_nil ?_); dsimp only)
        | ((with_reducible apply so_skip); (case hw => simp only [aWanted, aYield, pAT, pG, f3, f6, f7, f8, g1, g2, l1, if_true, Int.toNat_natCast, true_and, and_self, g3, reduceIte, Nat.reduceEqDiff]; done))
        | ((with_reducible apply so_val); (case hw => simp only [aWanted, aYield, pAT, pG, f3, f6, f7, f8, g1, g2, l1, if_true, Int.toNat_natCast, true_and, and_self, g3, reduceIte, Nat.reduceEqDiff]; done); (case ha => simp (maxSteps := 1000000) (disch := (refine id ?_; first | assumption | omega | (simp only [pN, pO, oneCell]; done) | (simp only [pN]; omega))) only [aOp, ev, pAT, f3, f6, f7, f8, g1, g2, l1, if_true, Int.toNat_natCast, true_and, and_self, g3, pI, aInt, aStr, aUn, AR.of, AR.ofB, AR.ofH, reduceIte, Nat.reduceEqDiff, aBuiltin, aLen, aField, aFieldAddr, aIndexAddr, aStore, aLoad, cellsL, oneCell, splice, pC, pL, Nat.reduceBEq, Nat.reduceLeDiff, Nat.reduceMul, Nat.reduceSub, Nat.reduceLT, Nat.reduceAdd, wTrO21] <;> with_reducible rfl))
        | ((with_reducible apply sc_false); (case hc => simp only [ev, pAT, f3, f6, f7, f8, g1, g2, l1, if_true, Int.toNat_natCast, true_and, and_self, g3, reduceIte, Nat.reduceEqDiff]; done))
        | ((with_reducible apply sc_true); (case hc => simp only [ev, pAT, f3, f6, f7, f8, g1, g2, l1, if_true, Int.toNat_natCast, true_and, and_self, g3, reduceIte, Nat.reduceEqDiff]; done)))
      refine ⟨xs.length - (t + 1), by omega, hG.step _, t + 1, by omega, rfl, ?_, ?_, ?_, ?_⟩ <;> simp only [at_some, at_none, f3, f6, f7, f8, reduceIte, Nat.reduceEqDiff]
      · congr 1
        simp [IntKind.wrap, IntKind.bits, IntKind.signed]; omega
      · rw [take_no hxt g3]; exact hgr.mono (Ext.new G _)
  · obtain rfl : t = xs.length := by omega
    have g1 : decide ((xs.length : Int) < (xs.length : Int)) = false := decF (by omega)
    repeat (first
      | (with_reducible refine sc_seq ?_)
      | (with_reducible refine sc_region ?_)
      | (with_reducible refine sc_block ?_)
      | (with_reducible refine sc_scope ?_)
      | ((with_reducible refine sc_skip ?_); dsimp only)
      | ((with_reducible refine sc_label ?_); dsimp only)
      | ((with_reducible refine sc_ret ?_); dsimp only)
      | ((with_reducible refine sc_exit ?_); dsimp only [Nat.beq])
      | ((with_reducible refine so_nil ?_); dsimp only)
      | ((with_reducible apply so_skip); (case hw => simp only [aWanted, aYield, pAT, pG, f3, f6, f7, f8, g1, reduceIte, Nat.reduceEqDiff]; done))
      | ((with_reducible apply so_val); (case hw => simp only [aWanted, aYield, pAT, pG, f3, f6, f7, f8, g1, reduceIte, Nat.reduceEqDiff]; done); (case ha => simp (maxSteps := 1000000) (disch := (refine id ?_; first | assumption | omega | (simp only [pN, pO, oneCell]; done) | (simp only [pN]; omega))) only [aOp, ev, pAT, f3, f6, f7, f8, g1, pI, aInt, aStr, aUn, AR.of, AR.ofB, AR.ofH, reduceIte, Nat.reduceEqDiff, aBuiltin, aLen, aField, aFieldAddr, aIndexAddr, aStore, aLoad, cellsL, oneCell, splice, pC, pL, Nat.reduceBEq, Nat.reduceLeDiff, Nat.reduceMul, Nat.reduceSub, Nat.reduceLT, Nat.reduceAdd, wTrO21] <;> with_reducible rfl))
      | ((with_reducible apply sc_false); (case hc => simp only [ev, pAT, f3, f6, f7, f8, g1, reduceIte, Nat.reduceEqDiff]; done))
      | ((with_reducible apply sc_true); (case hc => simp only [ev, pAT, f3, f6, f7, f8, g1, reduceIte, Nat.reduceEqDiff]; done)))
    apply res_fin (rs := [ResultVar.tmp 2]) trivial
    case h => simp (disch := (refine id ?_; first | assumption | omega | (simp only [pN, pO, oneCell]; done) | (simp only [pN]; omega))) only [aResults, aResult, aOp, ev, pAT, f3, pI, aInt, aStr, aUn, AR.of, AR.ofB, AR.ofH, reduceIte, Nat.reduceEqDiff, aBuiltin, aLen, aField, aFieldAddr, aIndexAddr, aStore, aLoad, cellsL, oneCell, splice, pC, pL, Nat.reduceBEq, Nat.reduceLeDiff, Nat.reduceMul, Nat.reduceSub, Nat.reduceLT, Nat.reduceAdd, wTrO21] <;> with_reducible rfl
    case hq => exact ⟨by rw [List.take_length] at hgr; exact hgr, hG⟩

end Go.Am
