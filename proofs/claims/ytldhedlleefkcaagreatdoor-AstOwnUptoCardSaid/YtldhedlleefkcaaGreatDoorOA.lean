import Derived.Test.YtldhedlleefkcaaGreatDoorO4
set_option linter.unusedVariables false
set_option linter.unusedSimpArgs false
namespace Go.Am
open Go.Proofs Go
namespace Empty
theorem b0 : decide ((0 : Int) < ((0 : Nat) : Int)) = false := rfl
theorem b1 : decide ((0 : Int) < 0) = false := rfl
theorem qf0 : fieldT Tryz.prog 60 0 = some (0, 31) := by kernel_rfl
theorem qu0 : undT Tryz.prog 31 = some (.slice 96) := by kernel_rfl
theorem qs0 : szT Tryz.prog 31 = some 1 := by kernel_rfl
theorem qa0 : aggT Tryz.prog 31 = some false := by kernel_rfl
theorem qf1 : fieldT Tryz.prog 60 1 = some (1, 32) := by kernel_rfl
theorem qu1 : undT Tryz.prog 32 = some (.slice 97) := by kernel_rfl
theorem qs1 : szT Tryz.prog 32 = some 1 := by kernel_rfl
theorem qa1 : aggT Tryz.prog 32 = some false := by kernel_rfl
theorem qf3 : fieldT Tryz.prog 60 3 = some (3, 34) := by kernel_rfl
theorem qu3 : undT Tryz.prog 34 = some (.slice 99) := by kernel_rfl
theorem qs3 : szT Tryz.prog 34 = some 1 := by kernel_rfl
theorem qa3 : aggT Tryz.prog 34 = some false := by kernel_rfl
theorem qf4 : fieldT Tryz.prog 60 4 = some (4, 35) := by kernel_rfl
theorem qu4 : undT Tryz.prog 35 = some (.slice 100) := by kernel_rfl
theorem qs4 : szT Tryz.prog 35 = some 1 := by kernel_rfl
theorem qa4 : aggT Tryz.prog 35 = some false := by kernel_rfl
theorem qf5 : fieldT Tryz.prog 60 5 = some (5, 36) := by kernel_rfl
theorem qu5 : undT Tryz.prog 36 = some (.slice 102) := by kernel_rfl
theorem qs5 : szT Tryz.prog 36 = some 1 := by kernel_rfl
theorem qa5 : aggT Tryz.prog 36 = some false := by kernel_rfl
theorem qf6 : fieldT Tryz.prog 60 6 = some (6, 37) := by kernel_rfl
theorem qu6 : undT Tryz.prog 37 = some (.slice 105) := by kernel_rfl
theorem qs6 : szT Tryz.prog 37 = some 1 := by kernel_rfl
theorem qa6 : aggT Tryz.prog 37 = some false := by kernel_rfl
theorem qf7 : fieldT Tryz.prog 60 7 = some (7, 38) := by kernel_rfl
theorem qu7 : undT Tryz.prog 38 = some (.slice 108) := by kernel_rfl
theorem qs7 : szT Tryz.prog 38 = some 1 := by kernel_rfl
theorem qa7 : aggT Tryz.prog 38 = some false := by kernel_rfl
theorem qf10 : fieldT Tryz.prog 60 10 = some (10, 41) := by kernel_rfl
theorem qu10 : undT Tryz.prog 41 = some (.slice 114) := by kernel_rfl
theorem qs10 : szT Tryz.prog 41 = some 1 := by kernel_rfl
theorem qa10 : aggT Tryz.prog 41 = some false := by kernel_rfl
theorem qf11 : fieldT Tryz.prog 60 11 = some (11, 42) := by kernel_rfl
theorem qu11 : undT Tryz.prog 42 = some (.slice 117) := by kernel_rfl
theorem qs11 : szT Tryz.prog 42 = some 1 := by kernel_rfl
theorem qa11 : aggT Tryz.prog 42 = some false := by kernel_rfl
theorem qf12 : fieldT Tryz.prog 60 12 = some (12, 43) := by kernel_rfl
theorem qu12 : undT Tryz.prog 43 = some (.slice 121) := by kernel_rfl
theorem qs12 : szT Tryz.prog 43 = some 1 := by kernel_rfl
theorem qa12 : aggT Tryz.prog 43 = some false := by kernel_rfl
theorem qf13 : fieldT Tryz.prog 60 13 = some (13, 44) := by kernel_rfl
theorem qu13 : undT Tryz.prog 44 = some (.slice 124) := by kernel_rfl
theorem qs13 : szT Tryz.prog 44 = some 1 := by kernel_rfl
theorem qa13 : aggT Tryz.prog 44 = some false := by kernel_rfl
theorem qf14 : fieldT Tryz.prog 60 14 = some (14, 45) := by kernel_rfl
theorem qu14 : undT Tryz.prog 45 = some (.slice 127) := by kernel_rfl
theorem qs14 : szT Tryz.prog 45 = some 1 := by kernel_rfl
theorem qa14 : aggT Tryz.prog 45 = some false := by kernel_rfl
theorem qf15 : fieldT Tryz.prog 60 15 = some (15, 46) := by kernel_rfl
theorem qu15 : undT Tryz.prog 46 = some (.slice 131) := by kernel_rfl
theorem qs15 : szT Tryz.prog 46 = some 1 := by kernel_rfl
theorem qa15 : aggT Tryz.prog 46 = some false := by kernel_rfl
theorem qf16 : fieldT Tryz.prog 60 16 = some (16, 47) := by kernel_rfl
theorem qu16 : undT Tryz.prog 47 = some (.slice 136) := by kernel_rfl
theorem qs16 : szT Tryz.prog 47 = some 1 := by kernel_rfl
theorem qa16 : aggT Tryz.prog 47 = some false := by kernel_rfl
theorem qf17 : fieldT Tryz.prog 60 17 = some (17, 48) := by kernel_rfl
theorem qu17 : undT Tryz.prog 48 = some (.slice 139) := by kernel_rfl
theorem qs17 : szT Tryz.prog 48 = some 1 := by kernel_rfl
theorem qa17 : aggT Tryz.prog 48 = some false := by kernel_rfl
theorem qf18 : fieldT Tryz.prog 60 18 = some (18, 49) := by kernel_rfl
theorem qu18 : undT Tryz.prog 49 = some (.slice 142) := by kernel_rfl
theorem qs18 : szT Tryz.prog 49 = some 1 := by kernel_rfl
theorem qa18 : aggT Tryz.prog 49 = some false := by kernel_rfl
theorem qf19 : fieldT Tryz.prog 60 19 = some (19, 50) := by kernel_rfl
theorem qu19 : undT Tryz.prog 50 = some (.slice 147) := by kernel_rfl
theorem qs19 : szT Tryz.prog 50 = some 1 := by kernel_rfl
theorem qa19 : aggT Tryz.prog 50 = some false := by kernel_rfl
theorem qf20 : fieldT Tryz.prog 60 20 = some (20, 51) := by kernel_rfl
theorem qu20 : undT Tryz.prog 51 = some (.slice 150) := by kernel_rfl
theorem qs20 : szT Tryz.prog 51 = some 1 := by kernel_rfl
theorem qa20 : aggT Tryz.prog 51 = some false := by kernel_rfl
theorem qf22 : fieldT Tryz.prog 60 22 = some (22, 53) := by kernel_rfl
theorem qu22 : undT Tryz.prog 53 = some (.slice 151) := by kernel_rfl
theorem qs22 : szT Tryz.prog 53 = some 1 := by kernel_rfl
theorem qa22 : aggT Tryz.prog 53 = some false := by kernel_rfl
theorem qf23 : fieldT Tryz.prog 60 23 = some (23, 54) := by kernel_rfl
theorem qu23 : undT Tryz.prog 54 = some (.slice 154) := by kernel_rfl
theorem qs23 : szT Tryz.prog 54 = some 1 := by kernel_rfl
theorem qa23 : aggT Tryz.prog 54 = some false := by kernel_rfl
theorem qf24 : fieldT Tryz.prog 60 24 = some (24, 55) := by kernel_rfl
theorem qu24 : undT Tryz.prog 55 = some (.slice 32) := by kernel_rfl
theorem qs24 : szT Tryz.prog 55 = some 1 := by kernel_rfl
theorem qa24 : aggT Tryz.prog 55 = some false := by kernel_rfl
theorem qf25 : fieldT Tryz.prog 60 25 = some (25, 56) := by kernel_rfl
theorem qu25 : undT Tryz.prog 56 = some (.slice 157) := by kernel_rfl
theorem qs25 : szT Tryz.prog 56 = some 1 := by kernel_rfl
theorem qa25 : aggT Tryz.prog 56 = some false := by kernel_rfl
theorem qf26 : fieldT Tryz.prog 60 26 = some (26, 57) := by kernel_rfl
theorem qu26 : undT Tryz.prog 57 = some (.slice 160) := by kernel_rfl
theorem qs26 : szT Tryz.prog 57 = some 1 := by kernel_rfl
theorem qa26 : aggT Tryz.prog 57 = some false := by kernel_rfl
theorem qf27 : fieldT Tryz.prog 60 27 = some (27, 58) := by kernel_rfl
theorem qu27 : undT Tryz.prog 58 = some (.slice 163) := by kernel_rfl
theorem qs27 : szT Tryz.prog 58 = some 1 := by kernel_rfl
theorem qa27 : aggT Tryz.prog 58 = some false := by kernel_rfl
/-- The functions, each with its row's place in the book. -/
def all : List (Nat × Nat) := [(23, 0), (24, 1), (26, 3), (27, 4), (28, 5), (29, 6), (30, 7), (33, 10), (34, 11), (35, 12), (36, 13), (37, 14), (38, 15), (39, 16), (40, 17), (41, 18), (42, 19), (43, 20), (45, 22), (46, 23), (47, 24), (48, 25), (49, 26), (50, 27)]
theorem wTrOA1 : type_of% (And.intro @cfg_P <| And.intro @sz3 <| And.intro @agg3 <| And.intro @b0 <| And.intro @b1 <| And.intro @qf0 <| And.intro @qu0 <| And.intro @qs0 <| And.intro @qa0 <| And.intro @qf1 <| And.intro @qu1 <| And.intro @qs1 <| And.intro @qa1 <| And.intro @qf3 <| And.intro @qu3 <| And.intro @qs3 <| And.intro @qa3 <| And.intro @qf4 <| And.intro @qu4 <| And.intro @qs4 <| And.intro @qa4 <| And.intro @qf5 <| And.intro @qu5 <| And.intro @qs5 <| And.intro @qa5 <| And.intro @qf6 <| And.intro @qu6 <| And.intro @qs6 <| And.intro @qa6 <| And.intro @qf7 <| And.intro @qu7 <| And.intro @qs7 <| And.intro @qa7 <| And.intro @qf10 <| And.intro @qu10 <| And.intro @qs10 <| And.intro @qa10 <| And.intro @qf11 <| And.intro @qu11 <| And.intro @qs11 <| And.intro @qa11 <| And.intro @qf12 <| And.intro @qu12 <| And.intro @qs12 <| And.intro @qa12 <| And.intro @qf13 <| And.intro @qu13 <| And.intro @qs13 <| And.intro @qa13 <| And.intro @qf14 <| And.intro @qu14 <| And.intro @qs14 <| And.intro @qa14 <| And.intro @qf15 <| And.intro @qu15 <| And.intro @qs15 <| And.intro @qa15 <| And.intro @qf16 <| And.intro @qu16 <| And.intro @qs16 <| And.intro @qa16 <| And.intro @qf17 <| And.intro @qu17 <| And.intro @qs17 <| And.intro @qa17 <| And.intro @qf18 <| And.intro @qu18 <| And.intro @qs18 <| And.intro @qa18 <| And.intro @qf19 <| And.intro @qu19 <| And.intro @qs19 <| And.intro @qa19 <| And.intro @qf20 <| And.intro @qu20 <| And.intro @qs20 <| And.intro @qa20 <| And.intro @qf22 <| And.intro @qu22 <| And.intro @qs22 <| And.intro @qa22 <| And.intro @qf23 <| And.intro @qu23 <| And.intro @qs23 <| And.intro @qa23 <| And.intro @qf24 <| And.intro @qu24 <| And.intro @qs24 <| And.intro @qa24 <| And.intro @qf25 <| And.intro @qu25 <| And.intro @qs25 <| And.intro @qa25 <| And.intro @qf26 <| And.intro @qu26 <| And.intro @qs26 <| And.intro @qa26 <| And.intro @qf27 <| And.intro @qu27 <| And.intro @qs27 <| @qa27) := And.intro @cfg_P <| And.intro @sz3 <| And.intro @agg3 <| And.intro @b0 <| And.intro @b1 <| And.intro @qf0 <| And.intro @qu0 <| And.intro @qs0 <| And.intro @qa0 <| And.intro @qf1 <| And.intro @qu1 <| And.intro @qs1 <| And.intro @qa1 <| And.intro @qf3 <| And.intro @qu3 <| And.intro @qs3 <| And.intro @qa3 <| And.intro @qf4 <| And.intro @qu4 <| And.intro @qs4 <| And.intro @qa4 <| And.intro @qf5 <| And.intro @qu5 <| And.intro @qs5 <| And.intro @qa5 <| And.intro @qf6 <| And.intro @qu6 <| And.intro @qs6 <| And.intro @qa6 <| And.intro @qf7 <| And.intro @qu7 <| And.intro @qs7 <| And.intro @qa7 <| And.intro @qf10 <| And.intro @qu10 <| And.intro @qs10 <| And.intro @qa10 <| And.intro @qf11 <| And.intro @qu11 <| And.intro @qs11 <| And.intro @qa11 <| And.intro @qf12 <| And.intro @qu12 <| And.intro @qs12 <| And.intro @qa12 <| And.intro @qf13 <| And.intro @qu13 <| And.intro @qs13 <| And.intro @qa13 <| And.intro @qf14 <| And.intro @qu14 <| And.intro @qs14 <| And.intro @qa14 <| And.intro @qf15 <| And.intro @qu15 <| And.intro @qs15 <| And.intro @qa15 <| And.intro @qf16 <| And.intro @qu16 <| And.intro @qs16 <| And.intro @qa16 <| And.intro @qf17 <| And.intro @qu17 <| And.intro @qs17 <| And.intro @qa17 <| And.intro @qf18 <| And.intro @qu18 <| And.intro @qs18 <| And.intro @qa18 <| And.intro @qf19 <| And.intro @qu19 <| And.intro @qs19 <| And.intro @qa19 <| And.intro @qf20 <| And.intro @qu20 <| And.intro @qs20 <| And.intro @qa20 <| And.intro @qf22 <| And.intro @qu22 <| And.intro @qs22 <| And.intro @qa22 <| And.intro @qf23 <| And.intro @qu23 <| And.intro @qs23 <| And.intro @qa23 <| And.intro @qf24 <| And.intro @qu24 <| And.intro @qs24 <| And.intro @qa24 <| And.intro @qf25 <| And.intro @qu25 <| And.intro @qs25 <| And.intro @qa25 <| And.intro @qf26 <| And.intro @qu26 <| And.intro @qs26 <| And.intro @qa26 <| And.intro @qf27 <| And.intro @qu27 <| And.intro @qs27 <| @qa27
set_option maxRecDepth 10000 in
set_option maxHeartbeats 16000000 in
theorem alone_wf (H : AH) (B f J : Nat) (hf : (f, J) ∈ all) (xV : H.cell B J = some (.slice none 0 0)) :
    Wf cfg f [.pointer (some ⟨B, 0, none⟩)] H fun r H' => r = .bool true ∧ H' = H := by
  simp only [all, List.mem_cons, Prod.mk.injEq, List.not_mem_nil, or_false] at hf
  rcases hf with ⟨rfl, rfl⟩ | ⟨rfl, rfl⟩ | ⟨rfl, rfl⟩ | ⟨rfl, rfl⟩ | ⟨rfl, rfl⟩ | ⟨rfl, rfl⟩ | ⟨rfl, rfl⟩ | ⟨rfl, rfl⟩ | ⟨rfl, rfl⟩ | ⟨rfl, rfl⟩ | ⟨rfl, rfl⟩ | ⟨rfl, rfl⟩ | ⟨rfl, rfl⟩ | ⟨rfl, rfl⟩ | ⟨rfl, rfl⟩ | ⟨rfl, rfl⟩ | ⟨rfl, rfl⟩ | ⟨rfl, rfl⟩ | ⟨rfl, rfl⟩ | ⟨rfl, rfl⟩ | ⟨rfl, rfl⟩ | ⟨rfl, rfl⟩ | ⟨rfl, rfl⟩ | ⟨rfl, rfl⟩
  refine wf_text (fn := Tryz.f23) rfl Tryz.func23 rfl rfl ?_
  rotate_left
  refine wf_text (fn := Tryz.f24) rfl Tryz.func24 rfl rfl ?_
  rotate_left
  refine wf_text (fn := Tryz.f26) rfl Tryz.func26 rfl rfl ?_
  rotate_left
  refine wf_text (fn := Tryz.f27) rfl Tryz.func27 rfl rfl ?_
  rotate_left
  refine wf_text (fn := Tryz.f28) rfl Tryz.func28 rfl rfl ?_
  rotate_left
  refine wf_text (fn := Tryz.f29) rfl Tryz.func29 rfl rfl ?_
  rotate_left
  refine wf_text (fn := Tryz.f30) rfl Tryz.func30 rfl rfl ?_
  rotate_left
  refine wf_text (fn := Tryz.f33) rfl Tryz.func33 rfl rfl ?_
  rotate_left
  refine wf_text (fn := Tryz.f34) rfl Tryz.func34 rfl rfl ?_
  rotate_left
  refine wf_text (fn := Tryz.f35) rfl Tryz.func35 rfl rfl ?_
  rotate_left
  refine wf_text (fn := Tryz.f36) rfl Tryz.func36 rfl rfl ?_
  rotate_left
  refine wf_text (fn := Tryz.f37) rfl Tryz.func37 rfl rfl ?_
  rotate_left
  refine wf_text (fn := Tryz.f38) rfl Tryz.func38 rfl rfl ?_
  rotate_left
  refine wf_text (fn := Tryz.f39) rfl Tryz.func39 rfl rfl ?_
  rotate_left
  refine wf_text (fn := Tryz.f40) rfl Tryz.func40 rfl rfl ?_
  rotate_left
  refine wf_text (fn := Tryz.f41) rfl Tryz.func41 rfl rfl ?_
  rotate_left
  refine wf_text (fn := Tryz.f42) rfl Tryz.func42 rfl rfl ?_
  rotate_left
  refine wf_text (fn := Tryz.f43) rfl Tryz.func43 rfl rfl ?_
  rotate_left
  refine wf_text (fn := Tryz.f45) rfl Tryz.func45 rfl rfl ?_
  rotate_left
  refine wf_text (fn := Tryz.f46) rfl Tryz.func46 rfl rfl ?_
  rotate_left
  refine wf_text (fn := Tryz.f47) rfl Tryz.func47 rfl rfl ?_
  rotate_left
  refine wf_text (fn := Tryz.f48) rfl Tryz.func48 rfl rfl ?_
  rotate_left
  refine wf_text (fn := Tryz.f49) rfl Tryz.func49 rfl rfl ?_
  rotate_left
  refine wf_text (fn := Tryz.f50) rfl Tryz.func50 rfl rfl ?_
  rotate_left
  all_goals
    repeat (first
      | (with_reducible refine sc_seq ?_)
      | (with_reducible refine sc_region ?_)
      | (with_reducible refine sc_block ?_)
      | (with_reducible refine sc_scope ?_)
      | ((with_reducible refine sc_skip ?_); dsimp only)
      | ((with_reducible refine sc_label ?_); dsimp only)
      | ((with_reducible refine sc_ret ?_); dsimp only)
      | ((with_reducible refine sc_exit ?_); dsimp only [Nat.beq])
      | ((with_reducible refine so_nil ?_); dsimp only)
      | ((with_reducible apply so_skip); (case hw => simp only [aWanted, aYield, pAT, pG, xV, reduceIte, Nat.reduceEqDiff]; done))
      | ((with_reducible apply so_val); (case hw => simp only [aWanted, aYield, pAT, pG, xV, reduceIte, Nat.reduceEqDiff]; done); (case ha => simp (maxSteps := 1000000) (disch := (refine id ?_; first | assumption | omega | (simp only [pN, pO, oneCell]; done) | (simp only [pN]; omega))) only [aOp, ev, pAT, xV, pI, aInt, aStr, aUn, AR.of, AR.ofB, AR.ofH, reduceIte, Nat.reduceEqDiff, aBuiltin, aLen, aField, aFieldAddr, aIndexAddr, aStore, aLoad, cellsL, oneCell, splice, pC, pL, Nat.reduceBEq, Nat.reduceLeDiff, Nat.reduceMul, Nat.reduceSub, Nat.reduceLT, Nat.reduceAdd, wTrOA1] <;> with_reducible rfl))
      | ((with_reducible apply sc_false); (case hc => simp only [ev, pAT, xV, reduceIte, Nat.reduceEqDiff]; done))
      | ((with_reducible apply sc_true); (case hc => simp only [ev, pAT, xV, reduceIte, Nat.reduceEqDiff]; done)))
    refine sc_loop (I := fun m fr G => G = H ∧ Fr.at fr 0 = .pointer (some ⟨B, 0, none⟩) ∧ Fr.at fr 3 = .int .i64 0) ?_ 0 _ _ ?_
    rotate_left
    · refine ⟨rfl, ?_, ?_⟩ <;> simp only [at_some, at_none, at_args, List.getElem?_cons_zero, Option.getD_some, ev, reduceIte, Nat.reduceEqDiff]
    rintro m fr G ⟨rfl, f0, f3⟩
    repeat (first
      | (with_reducible refine sc_seq ?_)
      | (with_reducible refine sc_region ?_)
      | (with_reducible refine sc_block ?_)
      | (with_reducible refine sc_scope ?_)
      | ((with_reducible refine sc_skip ?_); dsimp only)
      | ((with_reducible refine sc_label ?_); dsimp only)
      | ((with_reducible refine sc_ret ?_); dsimp only)
      | ((with_reducible refine sc_exit ?_); dsimp only [Nat.beq])
      | ((with_reducible refine so_nil ?_); dsimp only)
      | ((with_reducible apply so_skip); (case hw => simp only [aWanted, aYield, pAT, pG, f0, f3, xV, reduceIte, Nat.reduceEqDiff]; done))
      | ((with_reducible apply so_val); (case hw => simp only [aWanted, aYield, pAT, pG, f0, f3, xV, reduceIte, Nat.reduceEqDiff]; done); (case ha => simp (maxSteps := 1000000) (disch := (refine id ?_; first | assumption | omega | (simp only [pN, pO, oneCell]; done) | (simp only [pN]; omega))) only [aOp, ev, pAT, f0, f3, xV, pI, aInt, aStr, aUn, AR.of, AR.ofB, AR.ofH, reduceIte, Nat.reduceEqDiff, aBuiltin, aLen, aField, aFieldAddr, aIndexAddr, aStore, aLoad, cellsL, oneCell, splice, pC, pL, Nat.reduceBEq, Nat.reduceLeDiff, Nat.reduceMul, Nat.reduceSub, Nat.reduceLT, Nat.reduceAdd, wTrOA1] <;> with_reducible rfl))
      | ((with_reducible apply sc_false); (case hc => simp only [ev, pAT, f0, f3, xV, reduceIte, Nat.reduceEqDiff]; done))
      | ((with_reducible apply sc_true); (case hc => simp only [ev, pAT, f0, f3, xV, reduceIte, Nat.reduceEqDiff]; done)))
    refine sc_loop (I := fun m fr G' => G' = G ∧ Fr.at fr 0 = .pointer (some ⟨B, 0, none⟩) ∧ Fr.at fr 5 = .slice none 0 0 ∧ Fr.at fr 6 = .int .i64 0) ?_ 0 _ _ ?_
    rotate_left
    · refine ⟨rfl, ?_, ?_, ?_⟩ <;> simp only [at_some, at_none, f0, f3, ev, reduceIte, Nat.reduceEqDiff]
    clear f0 f3
    rintro m fr G' ⟨rfl, f0, f5, f6⟩
    repeat (first
      | (with_reducible refine sc_seq ?_)
      | (with_reducible refine sc_region ?_)
      | (with_reducible refine sc_block ?_)
      | (with_reducible refine sc_scope ?_)
      | ((with_reducible refine sc_skip ?_); dsimp only)
      | ((with_reducible refine sc_label ?_); dsimp only)
      | ((with_reducible refine sc_ret ?_); dsimp only)
      | ((with_reducible refine sc_exit ?_); dsimp only [Nat.beq])
      | ((with_reducible refine so_nil ?_); dsimp only)
      | ((with_reducible apply so_skip); (case hw => simp only [aWanted, aYield, pAT, pG, f0, f5, f6, xV, reduceIte, Nat.reduceEqDiff]; done))
      | ((with_reducible apply so_val); (case hw => simp only [aWanted, aYield, pAT, pG, f0, f5, f6, xV, reduceIte, Nat.reduceEqDiff]; done); (case ha => simp (maxSteps := 1000000) (disch := (refine id ?_; first | assumption | omega | (simp only [pN, pO, oneCell]; done) | (simp only [pN]; omega))) only [aOp, ev, pAT, f0, f5, f6, xV, pI, aInt, aStr, aUn, AR.of, AR.ofB, AR.ofH, reduceIte, Nat.reduceEqDiff, aBuiltin, aLen, aField, aFieldAddr, aIndexAddr, aStore, aLoad, cellsL, oneCell, splice, pC, pL, Nat.reduceBEq, Nat.reduceLeDiff, Nat.reduceMul, Nat.reduceSub, Nat.reduceLT, Nat.reduceAdd, wTrOA1] <;> with_reducible rfl))
      | ((with_reducible apply sc_false); (case hc => simp only [ev, pAT, f0, f5, f6, xV, reduceIte, Nat.reduceEqDiff]; done))
      | ((with_reducible apply sc_true); (case hc => simp only [ev, pAT, f0, f5, f6, xV, reduceIte, Nat.reduceEqDiff]; done)))
    refine sc_loop (I := fun m fr G => G = G' ∧ Fr.at fr 5 = .slice none 0 0 ∧ Fr.at fr 9 = .int .i64 0) ?_ 0 _ _ ?_
    rotate_left
    · refine ⟨rfl, ?_, ?_⟩ <;> simp only [at_some, at_none, f0, f5, f6, ev, reduceIte, Nat.reduceEqDiff]
    clear f0 f5 f6
    rintro m fr G ⟨rfl, f5, f9⟩
    repeat (first
      | (with_reducible refine sc_seq ?_)
      | (with_reducible refine sc_region ?_)
      | (with_reducible refine sc_block ?_)
      | (with_reducible refine sc_scope ?_)
      | ((with_reducible refine sc_skip ?_); dsimp only)
      | ((with_reducible refine sc_label ?_); dsimp only)
      | ((with_reducible refine sc_ret ?_); dsimp only)
      | ((with_reducible refine sc_exit ?_); dsimp only [Nat.beq])
      | ((with_reducible refine so_nil ?_); dsimp only)
      | ((with_reducible apply so_skip); (case hw => simp only [aWanted, aYield, pAT, pG, f5, f9, reduceIte, Nat.reduceEqDiff]; done))
      | ((with_reducible apply so_val); (case hw => simp only [aWanted, aYield, pAT, pG, f5, f9, reduceIte, Nat.reduceEqDiff]; done); (case ha => simp (maxSteps := 1000000) (disch := (refine id ?_; first | assumption | omega | (simp only [pN, pO, oneCell]; done) | (simp only [pN]; omega))) only [aOp, ev, pAT, f5, f9, pI, aInt, aStr, aUn, AR.of, AR.ofB, AR.ofH, reduceIte, Nat.reduceEqDiff, aBuiltin, aLen, aField, aFieldAddr, aIndexAddr, aStore, aLoad, cellsL, oneCell, splice, pC, pL, Nat.reduceBEq, Nat.reduceLeDiff, Nat.reduceMul, Nat.reduceSub, Nat.reduceLT, Nat.reduceAdd, wTrOA1] <;> with_reducible rfl))
      | ((with_reducible apply sc_false); (case hc => simp only [ev, pAT, f5, f9, reduceIte, Nat.reduceEqDiff]; done))
      | ((with_reducible apply sc_true); (case hc => simp only [ev, pAT, f5, f9, reduceIte, Nat.reduceEqDiff]; done)))
    apply res_fin (rs := [ResultVar.tmp 2]) trivial
    case h => simp (disch := (refine id ?_; first | assumption | omega | (simp only [pN, pO, oneCell]; done) | (simp only [pN]; omega))) only [aResults, aResult, aOp, ev, pAT, pI, aInt, aStr, aUn, AR.of, AR.ofB, AR.ofH, reduceIte, Nat.reduceEqDiff, aBuiltin, aLen, aField, aFieldAddr, aIndexAddr, aStore, aLoad, cellsL, oneCell, splice, pC, pL, Nat.reduceBEq, Nat.reduceLeDiff, Nat.reduceMul, Nat.reduceSub, Nat.reduceLT, Nat.reduceAdd, wTrOA1] <;> with_reducible rfl
    case hq => exact ⟨rfl, rfl⟩
end Empty
end Go.Am
