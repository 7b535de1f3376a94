import Derived.Test.YtldhedlleefkcaaGreatDoorO4
set_option linter.unusedVariables false
set_option linter.unusedSimpArgs false
namespace Go.Am
open Go.Proofs Go
theorem und96 : undT Tryz.prog 96 = some (.slice 5) := by kernel_rfl
theorem sz5 : szT Tryz.prog 5 = some 1 := by kernel_rfl
theorem sz96 : szT Tryz.prog 96 = some 1 := by kernel_rfl
theorem agg5 : aggT Tryz.prog 5 = some false := by kernel_rfl
theorem u8t : undT Tryz.prog 5 = some (.int .u8) := by kernel_rfl
theorem u9t : undT Tryz.prog 9 = some .string := by kernel_rfl
theorem u3t : undT Tryz.prog 3 = some (.int .i64) := by kernel_rfl
theorem conv35 (H : AH) (n : Int) : aConvert Tryz.prog H 3 5 (.int .i64 n) = some (.int .u8 (IntKind.u8.wrap n), H) := by
  unfold aConvert
  simp only [u3t, u8t]
theorem conv96 {H : AH} {b : Nat} {x y z : Int} (h : H.loads b 0 3 = some [.int .u8 x, .int .u8 y, .int .u8 z]) : aConvert Tryz.prog H 96 9 (.slice (some ⟨b, 0, none⟩) 3 3) = some (.string ⟨#[UInt8.ofNat x.toNat, UInt8.ofNat y.toNat, UInt8.ofNat z.toNat]⟩, H) := by
  unfold aConvert
  simp only [und96, u9t, u8t, h]
  rfl
theorem build3 (H : AH) (x y z : Int) : aBuildSlice Tryz.prog H 96 3 [(0, .int .u8 x), (1, .int .u8 y), (2, .int .u8 z)] = some (.slice (some ⟨H.next, 0, none⟩) 3 3, H.new (.cells [.int .u8 x, .int .u8 y, .int .u8 z] 1 .solo)) := by
  have e1 : elemT Tryz.prog 96 = some 5 := by kernel_rfl
  have e2 : zerosT Tryz.prog 5 3 = some [.int .u8 0, .int .u8 0, .int .u8 0] := by kernel_rfl
  unfold aBuildSlice
  simp only [e1, sz5, e2]
  rfl
theorem i26 : ¬ ((26 : Int) = 0) := by decide
theorem i676 : ¬ ((676 : Int) = 0) := by decide
theorem noBig (x y z : UInt8) : ((((⟨#[109, 97, 114, 107, 32]⟩ : ByteArray).size + (⟨#[x, y, z]⟩ : ByteArray).size : Nat) : Int) > IntKind.i64.max) = False := eq_false (by show ¬ ((8 : Int) > 9223372036854775807); decide)
theorem wTrOT1 : type_of% (@cfg_P) := @cfg_P
set_option maxRecDepth 10000 in
set_option maxHeartbeats 4000000 in
theorem text_ex (i : Int) : ∃ s : ByteArray, ∀ H : AH, H.base ≤ H.next → Wf cfg 59 [.int .i64 i] H fun r H' => r = .string s ∧ Ext H H' := by
  apply Exists.intro
  intro H hb
  refine wf_text (fn := Tryz.f59) rfl Tryz.func59 rfl rfl ?_
  have hld : ∀ x y z : Int, (H.new (.cells [.int .u8 x, .int .u8 y, .int .u8 z] 1 .solo)).loads H.next 0 3 = some [.int .u8 x, .int .u8 y, .int .u8 z] := fun x y z => loads_new_eq rfl (by simp)
  repeat (first
    | (with_reducible refine sc_seq ?_)
    | (with_reducible refine sc_region ?_)
    | (with_reducible refine sc_block ?_)
    | (with_reducible refine sc_scope ?_)
    | ((with_reducible refine sc_skip ?_); dsimp only)
    | ((with_reducible refine sc_label ?_); dsimp only)
    | ((with_reducible refine sc_ret ?_); dsimp only)
    | ((with_reducible refine sc_exit ?_); dsimp only [Nat.beq])
    | ((with_reducible refine so_nil ?_); dsimp only)
    | ((with_reducible apply so_skip); (case hw => simp only [aWanted, aYield, pAT, pG, conv35, build3, i26, i676, if_false, (conv96 (hld _ _ _)), aStr, noBig, reduceIte, Nat.reduceEqDiff]; done))
    | ((with_reducible apply so_val); (case hw => simp only [aWanted, aYield, pAT, pG, conv35, build3, i26, i676, if_false, (conv96 (hld _ _ _)), aStr, noBig, reduceIte, Nat.reduceEqDiff]; done); (case ha => simp only [aOp, ev, pAT, conv35, build3, i26, i676, if_false, (conv96 (hld _ _ _)), aStr, noBig, pI, aInt, aStr, aUn, AR.of, AR.ofB, AR.ofH, reduceIte, Nat.reduceEqDiff, aBuiltin, aLen, aField, aFieldAddr, aIndexAddr, aStore, aLoad, cellsL, oneCell, splice, pL, Nat.reduceBEq, Nat.reduceLeDiff, Nat.reduceMul, Nat.reduceSub, Nat.reduceLT, Nat.reduceAdd, wTrOT1] <;> with_reducible rfl))
    | ((with_reducible apply so_val); (case hw => simp only [aWanted, aYield, pAT, pG, conv35, build3, i26, i676, if_false, (conv96 (hld _ _ _)), aStr, noBig, reduceIte, Nat.reduceEqDiff]; done); (case ha => simp (maxSteps := 1000000) (disch := (refine id ?_; first | assumption | omega | (simp only [pN, pO, oneCell]; done) | (simp only [pN]; omega))) only [aOp, ev, pAT, conv35, build3, i26, i676, if_false, (conv96 (hld _ _ _)), aStr, noBig, pI, aInt, aStr, aUn, AR.of, AR.ofB, AR.ofH, reduceIte, Nat.reduceEqDiff, aBuiltin, aLen, aField, aFieldAddr, aIndexAddr, aStore, aLoad, cellsL, oneCell, splice, pC, pL, Nat.reduceBEq, Nat.reduceLeDiff, Nat.reduceMul, Nat.reduceSub, Nat.reduceLT, Nat.reduceAdd, wTrOT1] <;> with_reducible rfl))
    | ((with_reducible apply sc_false); (case hc => simp only [ev, pAT, conv35, build3, i26, i676, if_false, (conv96 (hld _ _ _)), aStr, noBig, reduceIte, Nat.reduceEqDiff]; done))
    | ((with_reducible apply sc_true); (case hc => simp only [ev, pAT, conv35, build3, i26, i676, if_false, (conv96 (hld _ _ _)), aStr, noBig, reduceIte, Nat.reduceEqDiff]; done)))
  apply res_fin (rs := [ResultVar.tmp 2]) trivial
  case h => simp (disch := (refine id ?_; first | assumption | omega | (simp only [pN, pO, oneCell]; done) | (simp only [pN]; omega))) only [aResults, aResult, aOp, ev, pAT, pI, aInt, aStr, aUn, AR.of, AR.ofB, AR.ofH, reduceIte, Nat.reduceEqDiff, aBuiltin, aLen, aField, aFieldAddr, aIndexAddr, aStore, aLoad, cellsL, oneCell, splice, pC, pL, Nat.reduceBEq, Nat.reduceLeDiff, Nat.reduceMul, Nat.reduceSub, Nat.reduceLT, Nat.reduceAdd, wTrOT1] <;> with_reducible rfl
  case hq => exact ⟨rfl, Ext.new H _⟩
/-- A number's mark. -/
noncomputable def markText (i : Nat) : ByteArray := Classical.choose (text_ex i)
theorem text_wf (i : Nat) (H : AH) (hb : H.base ≤ H.next) : Wf cfg 59 [.int .i64 i] H fun r H' => r = .string (markText i) ∧ Ext H H' := Classical.choose_spec (text_ex i) H hb
end Go.Am
