import Derived.Test.YtldhedlleefkcaaGreatDoorOT
set_option linter.unusedVariables false
set_option linter.unusedSimpArgs false
namespace Go.Am
open Go.Proofs Go
theorem eq24 (xo yo : Operand) (p : Int) (s : ByteArray) : aBin Tryz.prog .eql 25 xo yo (.agg #[.string s, .int .i64 p]) (.agg #[.string s, .int .i64 p]) = some (.bool true) := by
  have g : Tryz.prog.eqGuardType Tryz.prog.depth 25 = false := by kernel_rfl
  have h1 : Tryz.prog.stoodInHeld 25 = false := by kernel_rfl
  have e : aEq Tryz.prog (9998 + 2) 25 (.agg #[.string s, .int .i64 p]) (.agg #[.string s, .int .i64 p]) = some true := by
    rw [aEq.eq_def]
    simp only [Tryz.underlying25, h1]
    simp [aEqParts, aPart, a9, agg3, aEq, u9, u3]
  unfold aBin aGuard
  simp only [g, Bool.not_false]
  rw [show Op.maxDepth = 9998 + 2 from rfl, e]

namespace LabelsL
theorem bk_9 : fieldT Tryz.prog 60 9 = some (9, 40) := by kernel_rfl
theorem ll_und : undT Tryz.prog 40 = some (.slice 26) := by kernel_rfl
theorem ll_sz : szT Tryz.prog 40 = some 1 := by kernel_rfl
theorem ll_agg : aggT Tryz.prog 40 = some false := by kernel_rfl
theorem li_und : undT Tryz.prog 26 = some (.slice 25) := by kernel_rfl
theorem li_sz : szT Tryz.prog 26 = some 1 := by kernel_rfl
theorem li_agg : aggT Tryz.prog 26 = some false := by kernel_rfl
theorem li_el : El Tryz.prog 26 2 24 := ⟨⟨25, _, by kernel_rfl, by kernel_rfl, by kernel_rfl, li_und, rfl⟩, by decide, by decide⟩
theorem ll_el : El Tryz.prog 40 1 24 := ⟨⟨26, _, by kernel_rfl, by kernel_rfl, by kernel_rfl, ll_und, rfl⟩, by decide, by decide⟩
theorem buildE (s : ByteArray) : aBuild Tryz.prog 25 [(0, .string s)] = some (.agg #[.string s, .int .i64 0]) := by kernel_rfl
/-- The mark of a list's number. -/
noncomputable abbrev mark (i : Nat) : List Value := [.string (markText i), .int .i64 0]
theorem mark_len (i : Nat) : (mark i).length = 2 := rfl
theorem mark_one (i : Nat) : (mark i).all oneCell = true := rfl
theorem buildL (H : AH) (i : Nat) : aBuildSlice Tryz.prog H 26 1 [(0, .agg #[.string (markText i), .int .i64 0])] = some (.slice (some ⟨H.next, 0, none⟩) 1 1, H.new (.cells (mark i) 2 .solo)) := by
  have e1 : elemT Tryz.prog 26 = some 25 := by kernel_rfl
  have e2 : zerosT Tryz.prog 25 1 = some [.string ⟨#[]⟩, .int .i64 0] := by kernel_rfl
  have e3 : szT Tryz.prog 25 = some 2 := by kernel_rfl
  unfold aBuildSlice
  simp only [e1, e3, e2]
  rfl
theorem buildLL (H : AH) (g : Value) (hg : ∃ a n c, g = .slice a n c) : aBuildSlice Tryz.prog H 40 1 [(0, g)] = some (.slice (some ⟨H.next, 0, none⟩) 1 1, H.new (.cells [g] 1 .solo)) := by
  obtain ⟨a, n, c, rfl⟩ := hg
  have e1 : elemT Tryz.prog 40 = some 26 := by kernel_rfl
  have e2 : zerosT Tryz.prog 26 1 = some [.slice none 0 0] := by kernel_rfl
  unfold aBuildSlice
  simp only [e1, li_sz, e2]
  rfl

theorem wTrO81 : type_of% (And.intro @cfg_P <| And.intro @sz3 <| And.intro @sz38 <| And.intro @agg3 <| And.intro @agg38 <| And.intro @und25 <| And.intro @fld38_4 <| And.intro @fld38_5 <| And.intro @zero38 <| And.intro @und26 <| And.intro @und22 <| And.intro @sz24 <| And.intro @sz33 <| And.intro @sz9 <| And.intro @a9 <| And.intro @agg24 <| And.intro @f33_0 <| And.intro @f33_1 <| And.intro @f33_2 <| And.intro @s22 <| And.intro @s25 <| And.intro @s26 <| And.intro @s2 <| And.intro @g22 <| And.intro @g25 <| And.intro @g26 <| And.intro @g33 <| And.intro @a2 <| And.intro @zero33 <| And.intro @fld38_0 <| And.intro @sz35 <| And.intro @a35 <| And.intro @zero24 <| And.intro @ll_und <| And.intro @ll_sz <| And.intro @ll_el <| And.intro @bk_9 <| And.intro @li_und <| And.intro @li_sz <| And.intro @li_agg <| And.intro @li_el <| @ll_agg) := And.intro @cfg_P <| And.intro @sz3 <| And.intro @sz38 <| And.intro @agg3 <| And.intro @agg38 <| And.intro @und25 <| And.intro @fld38_4 <| And.intro @fld38_5 <| And.intro @zero38 <| And.intro @und26 <| And.intro @und22 <| And.intro @sz24 <| And.intro @sz33 <| And.intro @sz9 <| And.intro @a9 <| And.intro @agg24 <| And.intro @f33_0 <| And.intro @f33_1 <| And.intro @f33_2 <| And.intro @s22 <| And.intro @s25 <| And.intro @s26 <| And.intro @s2 <| And.intro @g22 <| And.intro @g25 <| And.intro @g26 <| And.intro @g33 <| And.intro @a2 <| And.intro @zero33 <| And.intro @fld38_0 <| And.intro @sz35 <| And.intro @a35 <| And.intro @zero24 <| And.intro @ll_und <| And.intro @ll_sz <| And.intro @ll_el <| And.intro @bk_9 <| And.intro @li_und <| And.intro @li_sz <| And.intro @li_agg <| And.intro @li_el <| @ll_agg
set_option maxRecDepth 10000 in
set_option maxHeartbeats 16000000 in
theorem alone_wf (H : AH) (hb : H.base ≤ H.next) (B : Nat) (cs : List Value) (hBn : B < H.next) (hB : H.blk.get B = some (.cells cs 0 .solo)) (col : Nat → Nat) (hc0 : col B = 0) (v : Value) (ws : List Value) (yss : List (List (List Value))) (hj : cs[9]? = some v)
    (hv : RdB H (fun b => col b = 0) 1 v (ws.map fun w => [w])) (hm : Many H col 2 ws yss) (hn : ws.length ≤ 4194304) (hl : ∀ ys ∈ yss, ys.length ≤ 1048576) :
    Wf cfg 32 [.pointer (some ⟨B, 0, none⟩)] H fun r H' => r = .bool true ∧ Agr (fun b => col b = 0) H H' := by
  obtain ⟨va, vc, rfl, _⟩ := id hv
  simp only [List.length_map] at hv hj
  have xAt : ∀ {G : AH}, Agr (fun b => col b = 0) H G → G.cell B 9 = some (.slice va ws.length vc) := by
    intro G hA
    obtain ⟨_, _, xC, _⟩ := box_facts ((hA.blk B hBn hc0).trans hB) (Nat.lt_of_lt_of_le hBn hA.next)
    rw [xC, hj]
  have wAt : ∀ {i : Nat} {w : Value}, ws[i]? = some w → ∃ bv ov, va = some ⟨bv, ov, none⟩ ∧ ∀ {G : AH}, Agr (fun b => col b = 0) H G → G.cell bv (ov + i * 1) = some w := by
    intro i w hw
    have hwi : (ws.map fun w => [w])[i]? = some [w] := by rw [List.getElem?_map, hw]; rfl
    obtain ⟨bv, ov, cap, e1, _⟩ := hv.rd.at hwi
    simp only [Value.slice.injEq] at e1
    refine ⟨bv, ov, e1.1, fun hA => ?_⟩
    obtain ⟨bv', ov', cap', e1', _, _, _, l1⟩ := (hv.mono hA).rd.at hwi
    simp only [Value.slice.injEq] at e1'
    have e2 := e1'.1
    rw [e1.1] at e2
    cases e2
    simpa using l1 0 (by decide)
  refine wf_text (fn := Tryz.f32) rfl Tryz.func32 rfl rfl ?_
  repeat (first
    | (with_reducible refine sc_seq ?_)
    | (with_reducible refine sc_region ?_)
    | (with_reducible refine sc_block ?_)
    | (with_reducible refine sc_scope ?_)
    | ((with_reducible refine sc_skip ?_); dsimp only)
    | ((with_reducible refine sc_label ?_); dsimp only)
    | ((with_reducible refine sc_ret ?_); dsimp only)
    | ((with_reducible refine sc_exit ?_); dsimp only [Nat.beq])
    | ((with_reducible refine so_nil ?_); dsimp only)
    | ((with_reducible apply so_skip); (case hw => simp only [aWanted, aYield, pAT, pG, reduceIte, Nat.reduceEqDiff]; done))
    | ((with_reducible apply so_val); (case hw => simp only [aWanted, aYield, pAT, pG, reduceIte, Nat.reduceEqDiff]; done); (case ha => simp (maxSteps := 1000000) (disch := (refine id ?_; first | assumption | omega | (simp only [pN, pO, oneCell]; done) | (simp only [pN]; omega))) only [aOp, ev, pAT, pI, aInt, aStr, aUn, AR.of, AR.ofB, AR.ofH, reduceIte, Nat.reduceEqDiff, aBuiltin, aLen, aField, aFieldAddr, aIndexAddr, aStore, aLoad, cellsL, oneCell, splice, pC, pL, Nat.reduceBEq, Nat.reduceLeDiff, Nat.reduceMul, Nat.reduceSub, Nat.reduceLT, Nat.reduceAdd, wTrO81] <;> with_reducible rfl))
    | ((with_reducible apply sc_false); (case hc => simp only [ev, pAT, reduceIte, Nat.reduceEqDiff]; done))
    | ((with_reducible apply sc_true); (case hc => simp only [ev, pAT, reduceIte, Nat.reduceEqDiff]; done)))
  -- each is written over
  refine sc_loop (I := fun m fr G => Agr (fun b => col b = 0) H G ∧ ∃ (zss : List (List (List Value))) (i : Nat), Many G col 2 ws zss ∧ i ≤ ws.length ∧ m = ws.length - i ∧ Marked (yss.map List.length) mark i 0 zss ∧ Fr.at fr 0 = .pointer (some ⟨B, 0, none⟩) ∧ Fr.at fr 3 = .int .i64 i) ?_ ws.length _ _ ?_
  rotate_left
  · refine ⟨Agr.refl _ _, yss, 0, hm, by omega, rfl, Marked.start rfl, ?_, ?_⟩ <;> simp only [at_some, at_none, at_args, List.getElem?_cons_zero, Option.getD_some, ev, reduceIte, Nat.reduceEqDiff] <;> rfl
  rintro m fr G ⟨hA, zss, i, hz, hi, rfl, hmk, f0, f3⟩
  have xV := xAt hA
  have hbG : G.base ≤ G.next := by rw [hA.base]; exact Nat.le_trans hb hA.next
  by_cases hlt : i < ws.length
  · obtain ⟨w, hw⟩ : ∃ w, ws[i]? = some w := ⟨_, List.getElem?_eq_getElem hlt⟩
    obtain ⟨ys, hy⟩ : ∃ ys, zss[i]? = some ys := ⟨_, List.getElem?_eq_getElem (by rw [← hz.len]; exact hlt)⟩
    obtain ⟨wa, rfl⟩ := (hz.each i w ys hw hy).val
    have hL : (yss.map List.length)[i]? = some ys.length := (hmk.2 i ys hy).1
    have hlen : ys.length ≤ 1048576 := by
      have h1 := hL
      rw [List.getElem?_map] at h1
      cases hx : yss[i]? with
      | none => rw [hx] at h1; cases h1
      | some ys' =>
        rw [hx] at h1
        have := Option.some.inj h1
        have := hl ys' (List.mem_of_getElem? hx)
        omega
    obtain ⟨bv, ov, rfl, lW⟩ := wAt hw
    have g1 : decide ((i : Int) < (ws.length : Int)) = true := decT (by omega)
    have g2 : (0 ≤ (i : Int) ∧ (i : Int) < (ws.length : Int)) := by omega
    repeat (first
      | (with_reducible refine sc_seq ?_)
      | (with_reducible refine sc_region ?_)
      | (with_reducible refine sc_block ?_)
      | (with_reducible refine sc_scope ?_)
      | ((with_reducible refine sc_skip ?_); dsimp only)
      | ((with_reducible refine sc_label ?_); dsimp only)
      | ((with_reducible refine sc_ret ?_); dsimp only)
      | ((with_reducible refine sc_exit ?_); dsimp only [Nat.beq])
      | ((with_reducible refine so_nil ?_); dsimp only)
      | ((with_reducible apply so_skip); (case hw => simp only [aWanted, aYield, pAT, pG, f0, f3, xV, g1, reduceIte, Nat.reduceEqDiff]; done))
      | ((with_reducible apply so_val); (case hw => simp only [aWanted, aYield, pAT, pG, f0, f3, xV, g1, reduceIte, Nat.reduceEqDiff]; done); (case ha => simp (maxSteps := 1000000) (disch := (refine id ?_; first | assumption | omega | (simp only [pN, pO, oneCell]; done) | (simp only [pN]; omega))) only [aOp, ev, pAT, f0, f3, xV, g1, pI, aInt, aStr, aUn, AR.of, AR.ofB, AR.ofH, reduceIte, Nat.reduceEqDiff, aBuiltin, aLen, aField, aFieldAddr, aIndexAddr, aStore, aLoad, cellsL, oneCell, splice, pC, pL, Nat.reduceBEq, Nat.reduceLeDiff, Nat.reduceMul, Nat.reduceSub, Nat.reduceLT, Nat.reduceAdd, wTrO81] <;> with_reducible rfl))
      | ((with_reducible apply sc_false); (case hc => simp only [ev, pAT, f0, f3, xV, g1, reduceIte, Nat.reduceEqDiff]; done))
      | ((with_reducible apply sc_true); (case hc => simp only [ev, pAT, f0, f3, xV, g1, reduceIte, Nat.reduceEqDiff]; done)))
    refine sc_loop (I := fun m fr G => Agr (fun b => col b = 0) H G ∧ ∃ (zss : List (List (List Value))) (k : Nat), Many G col 2 ws zss ∧ k ≤ ys.length ∧ m = ys.length - k ∧ Marked (yss.map List.length) mark i k zss ∧ Fr.at fr 0 = .pointer (some ⟨B, 0, none⟩) ∧ Fr.at fr 3 = .int .i64 i ∧ Fr.at fr 4 = .int .i64 k) ?_ ys.length _ _ ?_
    rotate_left
    · refine ⟨hA, zss, 0, hz, by omega, rfl, hmk, ?_, ?_, ?_⟩ <;> simp only [at_some, at_none, f0, f3, ev, reduceIte, Nat.reduceEqDiff] <;> rfl
    clear hz hmk hy hA xV hbG f0 f3
    rintro m fr G ⟨hA, zss, k, hz, hk, rfl, hmk, f0, f3, f4⟩
    have xV := xAt hA
    have wV := lW hA
    have hbG : G.base ≤ G.next := by rw [hA.base]; exact Nat.le_trans hb hA.next
    by_cases hkl : k < ys.length
    · obtain ⟨zs, hzi⟩ : ∃ zs, zss[i]? = some zs := ⟨_, List.getElem?_eq_getElem (by rw [← hz.len]; exact hlt)⟩
      have hzl : zs.length = ys.length := by
        have := (hmk.2 i zs hzi).1
        rw [hL] at this
        exact (Option.some.inj this).symm
      obtain ⟨b, e1, _⟩ := hz.set hw hzi (k := k) (by omega) (mark_len i) (mark_one i)
      simp only [Value.slice.injEq] at e1
      obtain ⟨rfl, _⟩ := e1
      have w1 : decide ((k : Int) < (ys.length : Int)) = true := decT (by omega)
      have w2 : (0 ≤ (k : Int) ∧ (k : Int) < (ys.length : Int)) := by omega
      repeat (first
        | (with_reducible refine sc_seq ?_)
        | (with_reducible refine sc_region ?_)
        | (with_reducible refine sc_block ?_)
        | (with_reducible refine sc_scope ?_)
        | ((with_reducible refine sc_skip ?_); dsimp only)
        | ((with_reducible refine sc_label ?_); dsimp only)
        | ((with_reducible refine sc_ret ?_); dsimp only)
        | ((with_reducible refine sc_exit ?_); dsimp only [Nat.beq])
        | ((with_reducible refine so_nil ?_); dsimp only)
        | ((with_reducible apply so_skip); (case hw => simp only [aWanted, aYield, pAT, pG, f0, f3, f4, xV, wV, g2, w1, w2, if_true, Int.toNat_natCast, true_and, and_self, reduceIte, Nat.reduceEqDiff]; done))
        | ((with_reducible apply so_val); (case hw => simp only [aWanted, aYield, pAT, pG, f0, f3, f4, xV, wV, g2, w1, w2, if_true, Int.toNat_natCast, true_and, and_self, reduceIte, Nat.reduceEqDiff]; done); (case ha => simp only [aOp, ev, pAT, f0, f3, f4, xV, wV, g2, w1, w2, if_true, Int.toNat_natCast, true_and, and_self, pI, aInt, aStr, aUn, AR.of, AR.ofB, AR.ofH, reduceIte, Nat.reduceEqDiff, aBuiltin, aLen, aField, aFieldAddr, aIndexAddr, aStore, aLoad, cellsL, oneCell, splice, pL, Nat.reduceBEq, Nat.reduceLeDiff, Nat.reduceMul, Nat.reduceSub, Nat.reduceLT, Nat.reduceAdd, wTrO81] <;> with_reducible rfl))
        | ((with_reducible apply so_val); (case hw => simp only [aWanted, aYield, pAT, pG, f0, f3, f4, xV, wV, g2, w1, w2, if_true, Int.toNat_natCast, true_and, and_self, reduceIte, Nat.reduceEqDiff]; done); (case ha => simp (maxSteps := 1000000) (disch := (refine id ?_; first | assumption | omega | (simp only [pN, pO, oneCell]; done) | (simp only [pN]; omega))) only [aOp, ev, pAT, f0, f3, f4, xV, wV, g2, w1, w2, if_true, Int.toNat_natCast, true_and, and_self, pI, aInt, aStr, aUn, AR.of, AR.ofB, AR.ofH, reduceIte, Nat.reduceEqDiff, aBuiltin, aLen, aField, aFieldAddr, aIndexAddr, aStore, aLoad, cellsL, oneCell, splice, pC, pL, Nat.reduceBEq, Nat.reduceLeDiff, Nat.reduceMul, Nat.reduceSub, Nat.reduceLT, Nat.reduceAdd, wTrO81] <;> with_reducible rfl))
        | ((with_reducible apply sc_false); (case hc => simp only [ev, pAT, f0, f3, f4, xV, wV, g2, w1, w2, if_true, Int.toNat_natCast, true_and, and_self, reduceIte, Nat.reduceEqDiff]; done))
        | ((with_reducible apply sc_true); (case hc => simp only [ev, pAT, f0, f3, f4, xV, wV, g2, w1, w2, if_true, Int.toNat_natCast, true_and, and_self, reduceIte, Nat.reduceEqDiff]; done)))
      first
        | ((with_reducible apply so_call); (case hw => simp only [aWanted, aYield, pAT, pG, f0, f3, f4, xV, wV, g2, w1, w2, if_true, Int.toNat_natCast, true_and, and_self, reduceIte, Nat.reduceEqDiff]; done); (case ha => simp (maxSteps := 1000000) (disch := (refine id ?_; first | assumption | omega | (simp only [pN, pO, oneCell]; done) | (simp only [pN]; omega))) only [aOp, ev, pAT, f0, f3, f4, xV, wV, g2, w1, w2, if_true, Int.toNat_natCast, true_and, and_self, pI, aInt, aStr, aUn, AR.of, AR.ofB, AR.ofH, reduceIte, Nat.reduceEqDiff, aBuiltin, aLen, aField, aFieldAddr, aIndexAddr, aStore, aLoad, cellsL, oneCell, splice, pC, pL, Nat.reduceBEq, Nat.reduceLeDiff, Nat.reduceMul, Nat.reduceSub, Nat.reduceLT, Nat.reduceAdd, wTrO81] <;> with_reducible rfl))
        | ((with_reducible apply so_callD); (case hw => simp only [aWanted, aYield, pAT, pG, f0, f3, f4, xV, wV, g2, w1, w2, if_true, Int.toNat_natCast, true_and, and_self, reduceIte, Nat.reduceEqDiff]; done); (case ha => simp (maxSteps := 1000000) (disch := (first | omega | (simp only [new_next, new_base, upd_next, upd_base, List.length_cons, List.length_nil, List.all_cons, List.all_nil, oneCell, Bool.and_self, Bool.and_true]; done) | (simp only [new_next, new_base, upd_next, upd_base, List.length_cons, List.length_nil]; omega))) only [aOp, ev, pAT, f0, f3, f4, xV, wV, g2, w1, w2, if_true, Int.toNat_natCast, true_and, and_self, pI, aInt, aStr, aUn, AR.of, AR.ofB, AR.ofH, reduceIte, Nat.reduceEqDiff, aBuiltin, aLen, aField, aFieldAddr, aIndexAddr, aStore, aLoad, cellsL, oneCell, splice, pC, pL, Nat.reduceBEq, Nat.reduceLeDiff, Nat.reduceMul, Nat.reduceSub, Nat.reduceLT, Nat.reduceAdd, wTrO81] <;> with_reducible rfl))
      refine (text_wf i _ (Nat.le_refl _)).mono ?_
      rintro _ G' ⟨rfl, hxt⟩
      have hxt := Ext.wb hxt
      generalize G'.wb _ = G9 at hxt ⊢
      obtain ⟨b9, e9, H', hst, _, hz', hag⟩ := (hz.mono hxt).set hw hzi (k := k) (by omega) (mark_len i) (mark_one i)
      simp only [Value.slice.injEq, Option.some.injEq, Addr.mk.injEq, and_true, true_and] at e9
      obtain ⟨rfl, _⟩ := e9
      have hag := (hxt.agr _).trans hag
      repeat (first
        | (with_reducible refine sc_seq ?_)
        | (with_reducible refine sc_region ?_)
        | (with_reducible refine sc_block ?_)
        | (with_reducible refine sc_scope ?_)
        | ((with_reducible refine sc_skip ?_); dsimp only)
        | ((with_reducible refine sc_label ?_); dsimp only)
        | ((with_reducible refine sc_ret ?_); dsimp only)
        | ((with_reducible refine sc_exit ?_); dsimp only [Nat.beq])
        | ((with_reducible refine so_nil ?_); dsimp only)
        | ((with_reducible apply so_skip); (case hw => simp only [aWanted, aYield, pAT, pG, f0, f3, f4, w2, hst, buildE, if_true, Int.toNat_natCast, true_and, and_self, reduceIte, Nat.reduceEqDiff]; done))
        | ((with_reducible apply so_val); (case hw => simp only [aWanted, aYield, pAT, pG, f0, f3, f4, w2, hst, buildE, if_true, Int.toNat_natCast, true_and, and_self, reduceIte, Nat.reduceEqDiff]; done); (case ha => simp only [aOp, ev, pAT, f0, f3, f4, w2, hst, buildE, if_true, Int.toNat_natCast, true_and, and_self, pI, aInt, aStr, aUn, AR.of, AR.ofB, AR.ofH, reduceIte, Nat.reduceEqDiff, aBuiltin, aLen, aField, aFieldAddr, aIndexAddr, aStore, aLoad, cellsL, oneCell, splice, pL, Nat.reduceBEq, Nat.reduceLeDiff, Nat.reduceMul, Nat.reduceSub, Nat.reduceLT, Nat.reduceAdd, wTrO81] <;> with_reducible rfl))
        | ((with_reducible apply so_val); (case hw => simp only [aWanted, aYield, pAT, pG, f0, f3, f4, w2, hst, buildE, if_true, Int.toNat_natCast, true_and, and_self, reduceIte, Nat.reduceEqDiff]; done); (case ha => simp (maxSteps := 1000000) (disch := (refine id ?_; first | assumption | omega | (simp only [pN, pO, oneCell]; done) | (simp only [pN]; omega))) only [aOp, ev, pAT, f0, f3, f4, w2, hst, buildE, if_true, Int.toNat_natCast, true_and, and_self, pI, aInt, aStr, aUn, AR.of, AR.ofB, AR.ofH, reduceIte, Nat.reduceEqDiff, aBuiltin, aLen, aField, aFieldAddr, aIndexAddr, aStore, aLoad, cellsL, oneCell, splice, pC, pL, Nat.reduceBEq, Nat.reduceLeDiff, Nat.reduceMul, Nat.reduceSub, Nat.reduceLT, Nat.reduceAdd, wTrO81] <;> with_reducible rfl))
        | ((with_reducible apply sc_false); (case hc => simp only [ev, pAT, f0, f3, f4, w2, hst, buildE, if_true, Int.toNat_natCast, true_and, and_self, reduceIte, Nat.reduceEqDiff]; done))
        | ((with_reducible apply sc_true); (case hc => simp only [ev, pAT, f0, f3, f4, w2, hst, buildE, if_true, Int.toNat_natCast, true_and, and_self, reduceIte, Nat.reduceEqDiff]; done)))
      refine ⟨ys.length - (k + 1), by omega, hA.trans hag, _, k + 1, hz', by omega, rfl, hmk.set hzi (by omega), ?_, ?_, ?_⟩ <;> simp only [at_some, at_none, f0, f3, f4, reduceIte, Nat.reduceEqDiff]
      congr 1
      simp [IntKind.wrap, IntKind.bits, IntKind.signed]; omega
    · obtain rfl : k = ys.length := by omega
      have w1 : decide ((ys.length : Int) < (ys.length : Int)) = false := decF (by omega)
      repeat (first
        | (with_reducible refine sc_seq ?_)
        | (with_reducible refine sc_region ?_)
        | (with_reducible refine sc_block ?_)
        | (with_reducible refine sc_scope ?_)
        | ((with_reducible refine sc_skip ?_); dsimp only)
        | ((with_reducible refine sc_label ?_); dsimp only)
        | ((with_reducible refine sc_ret ?_); dsimp only)
        | ((with_reducible refine sc_exit ?_); dsimp only [Nat.beq])
        | ((with_reducible refine so_nil ?_); dsimp only)
        | ((with_reducible apply so_skip); (case hw => simp only [aWanted, aYield, pAT, pG, f0, f3, f4, xV, wV, g2, w1, if_true, Int.toNat_natCast, true_and, and_self, reduceIte, Nat.reduceEqDiff]; done))
        | ((with_reducible apply so_val); (case hw => simp only [aWanted, aYield, pAT, pG, f0, f3, f4, xV, wV, g2, w1, if_true, Int.toNat_natCast, true_and, and_self, reduceIte, Nat.reduceEqDiff]; done); (case ha => simp (maxSteps := 1000000) (disch := (refine id ?_; first | assumption | omega | (simp only [pN, pO, oneCell]; done) | (simp only [pN]; omega))) only [aOp, ev, pAT, f0, f3, f4, xV, wV, g2, w1, if_true, Int.toNat_natCast, true_and, and_self, pI, aInt, aStr, aUn, AR.of, AR.ofB, AR.ofH, reduceIte, Nat.reduceEqDiff, aBuiltin, aLen, aField, aFieldAddr, aIndexAddr, aStore, aLoad, cellsL, oneCell, splice, pC, pL, Nat.reduceBEq, Nat.reduceLeDiff, Nat.reduceMul, Nat.reduceSub, Nat.reduceLT, Nat.reduceAdd, wTrO81] <;> with_reducible rfl))
        | ((with_reducible apply sc_false); (case hc => simp only [ev, pAT, f0, f3, f4, xV, wV, g2, w1, if_true, Int.toNat_natCast, true_and, and_self, reduceIte, Nat.reduceEqDiff]; done))
        | ((with_reducible apply sc_true); (case hc => simp only [ev, pAT, f0, f3, f4, xV, wV, g2, w1, if_true, Int.toNat_natCast, true_and, and_self, reduceIte, Nat.reduceEqDiff]; done)))
      refine ⟨ws.length - (i + 1), by omega, hA, zss, i + 1, hz, by omega, rfl, hmk.next hL, ?_, ?_⟩ <;> simp only [at_some, at_none, f0, f3, reduceIte, Nat.reduceEqDiff]
      congr 1
      simp [IntKind.wrap, IntKind.bits, IntKind.signed]; omega
  obtain rfl : i = ws.length := by omega
  have g1 : decide ((ws.length : Int) < (ws.length : Int)) = false := decF (by omega)
  repeat (first
    | (with_reducible refine sc_seq ?_)
    | (with_reducible refine sc_region ?_)
    | (with_reducible refine sc_block ?_)
    | (with_reducible refine sc_scope ?_)
    | ((with_reducible refine sc_skip ?_); dsimp only)
    | ((with_reducible refine sc_label ?_); dsimp only)
    | ((with_reducible refine sc_ret ?_); dsimp only)
    | ((with_reducible refine sc_exit ?_); dsimp only [Nat.beq])
    | ((with_reducible refine so_nil ?_); dsimp only)
    | ((with_reducible apply so_skip); (case hw => simp only [aWanted, aYield, pAT, pG, f0, f3, xV, g1, reduceIte, Nat.reduceEqDiff]; done))
    | ((with_reducible apply so_val); (case hw => simp only [aWanted, aYield, pAT, pG, f0, f3, xV, g1, reduceIte, Nat.reduceEqDiff]; done); (case ha => simp (maxSteps := 1000000) (disch := (refine id ?_; first | assumption | omega | (simp only [pN, pO, oneCell]; done) | (simp only [pN]; omega))) only [aOp, ev, pAT, f0, f3, xV, g1, pI, aInt, aStr, aUn, AR.of, AR.ofB, AR.ofH, reduceIte, Nat.reduceEqDiff, aBuiltin, aLen, aField, aFieldAddr, aIndexAddr, aStore, aLoad, cellsL, oneCell, splice, pC, pL, Nat.reduceBEq, Nat.reduceLeDiff, Nat.reduceMul, Nat.reduceSub, Nat.reduceLT, Nat.reduceAdd, wTrO81] <;> with_reducible rfl))
    | ((with_reducible apply sc_false); (case hc => simp only [ev, pAT, f0, f3, xV, g1, reduceIte, Nat.reduceEqDiff]; done))
    | ((with_reducible apply sc_true); (case hc => simp only [ev, pAT, f0, f3, xV, g1, reduceIte, Nat.reduceEqDiff]; done)))
  -- each grows
  have hall : ∀ (j : Nat) (ys : List (List Value)), zss[j]? = some ys → ys.length ≤ 1048576 ∧ ∀ y ∈ ys, y = mark j := by
    intro j zs hj
    obtain ⟨h1, h2⟩ := hmk.2 j zs hj
    refine ⟨?_, fun y hy => ?_⟩
    · rw [List.getElem?_map] at h1
      cases hx : yss[j]? with
      | none => rw [hx] at h1; cases h1
      | some ys' =>
        rw [hx] at h1
        have := Option.some.inj h1
        have := hl ys' (List.mem_of_getElem? hx)
        omega
    · obtain ⟨t, ht, rfl⟩ := List.mem_iff_getElem.1 hy
      refine h2 t _ (List.getElem?_eq_getElem ht) (.inl ?_)
      rw [hz.len]
      exact (List.getElem?_eq_some_iff.1 hj).1
  refine sc_loop (I := fun m fr G2 => ∃ (col2 : Nat → Nat) (gs : List Value) (vall : Value) (i : Nat), Grown G G2 col2 2 mark ws zss ws.length i gs vall ∧ (∀ b, b < G.next → col2 b = col b) ∧ i ≤ ws.length ∧ m = ws.length - i ∧ Fr.at fr 0 = .pointer (some ⟨B, 0, none⟩) ∧ Fr.at fr 5 = vall ∧ Fr.at fr 6 = .int .i64 i) ?_ ws.length _ _ ?_
  rotate_left
  · refine ⟨col, [], .slice none 0 0, 0, ⟨Agr.refl _ _, rfl, hz.len.symm, hz.rows, rfl, (fun j w g ys _ h => by simp at h), fun j w ys _ h1 h2 => hz.each j w ys h1 h2, GrP.nil ..⟩, fun _ _ => rfl, by omega, rfl, ?_, ?_, ?_⟩ <;> simp only [at_some, at_none, f0, ev, reduceIte, Nat.reduceEqDiff] <;> rfl
  clear hmk xV f0 f3
  rintro m fr G2 ⟨col2, gs, vall, i, hg, hcol, hi, rfl, f0, f5, f6⟩
  have hag : ∀ {G2 : AH} {col2 : Nat → Nat}, (∀ b, b < G.next → col2 b = col b) → Agr (fun b => col2 b = 0) G G2 → Agr (fun b => col b = 0) H G2 := by
    intro G2 col2 hcol h
    have h' : Agr (fun b => col b = 0) G G2 := ⟨h.next, h.base, fun b hb hc => h.blk b hb (by rw [hcol b hb]; exact hc), fun f hf hc => h.fam f hf (by rw [hcol f hf]; exact hc)⟩
    exact hA.trans h'
  have hA2 := hag hcol hg.agr
  have xV := xAt hA2
  have hbG2 : G2.base ≤ G2.next := by rw [hA2.base]; exact Nat.le_trans hb hA2.next
  by_cases hlt : i < ws.length
  · obtain ⟨w, hw⟩ : ∃ w, ws[i]? = some w := ⟨_, List.getElem?_eq_getElem hlt⟩
    obtain ⟨ys, hy⟩ : ∃ ys, zss[i]? = some ys := ⟨_, List.getElem?_eq_getElem (by rw [← hz.len]; exact hlt)⟩
    obtain ⟨wa, rfl⟩ := (hz.each i w ys hw hy).val
    obtain ⟨bv, ov, rfl, lW⟩ := wAt hw
    have wV := lW hA2
    have g1 : decide ((i : Int) < (ws.length : Int)) = true := decT (by omega)
    have g2 : (0 ≤ (i : Int) ∧ (i : Int) < (ws.length : Int)) := by omega
    repeat (first
      | (with_reducible refine sc_seq ?_)
      | (with_reducible refine sc_region ?_)
      | (with_reducible refine sc_block ?_)
      | (with_reducible refine sc_scope ?_)
      | ((with_reducible refine sc_skip ?_); dsimp only)
      | ((with_reducible refine sc_label ?_); dsimp only)
      | ((with_reducible refine sc_ret ?_); dsimp only)
      | ((with_reducible refine sc_exit ?_); dsimp only [Nat.beq])
      | ((with_reducible refine so_nil ?_); dsimp only)
      | ((with_reducible apply so_skip); (case hw => simp only [aWanted, aYield, pAT, pG, f0, f5, f6, xV, wV, g1, g2, if_true, Int.toNat_natCast, true_and, and_self, reduceIte, Nat.reduceEqDiff]; done))
      | ((with_reducible apply so_val); (case hw => simp only [aWanted, aYield, pAT, pG, f0, f5, f6, xV, wV, g1, g2, if_true, Int.toNat_natCast, true_and, and_self, reduceIte, Nat.reduceEqDiff]; done); (case ha => simp (maxSteps := 1000000) (disch := (refine id ?_; first | assumption | omega | (simp only [pN, pO, oneCell]; done) | (simp only [pN]; omega))) only [aOp, ev, pAT, f0, f5, f6, xV, wV, g1, g2, if_true, Int.toNat_natCast, true_and, and_self, pI, aInt, aStr, aUn, AR.of, AR.ofB, AR.ofH, reduceIte, Nat.reduceEqDiff, aBuiltin, aLen, aField, aFieldAddr, aIndexAddr, aStore, aLoad, cellsL, oneCell, splice, pC, pL, Nat.reduceBEq, Nat.reduceLeDiff, Nat.reduceMul, Nat.reduceSub, Nat.reduceLT, Nat.reduceAdd, wTrO81] <;> with_reducible rfl))
      | ((with_reducible apply sc_false); (case hc => simp only [ev, pAT, f0, f5, f6, xV, wV, g1, g2, if_true, Int.toNat_natCast, true_and, and_self, reduceIte, Nat.reduceEqDiff]; done))
      | ((with_reducible apply sc_true); (case hc => simp only [ev, pAT, f0, f5, f6, xV, wV, g1, g2, if_true, Int.toNat_natCast, true_and, and_self, reduceIte, Nat.reduceEqDiff]; done)))
    have hb0 := hg.begin hw (fun ys' h => (hall i ys' h).2)
    refine sc_loop (I := fun m fr G3 => ∃ (col3 : Nat → Nat) (g : Value) (k : Nat), Growing G G3 col3 2 mark ws zss ws.length i k gs vall g ∧ (∀ b, b < G.next → col3 b = col b) ∧ k ≤ 20 ∧ m = 20 - k ∧ Fr.at fr 0 = .pointer (some ⟨B, 0, none⟩) ∧ Fr.at fr 5 = vall ∧ Fr.at fr 6 = .int .i64 i ∧ Fr.at fr 7 = g ∧ Fr.at fr 8 = .int .i64 k) ?_ 20 _ _ ?_
    rotate_left
    · refine ⟨col2, _, 0, hb0, hcol, by omega, rfl, ?_, ?_, ?_, ?_, ?_⟩ <;> simp only [at_some, at_none, f0, f5, f6, ev, reduceIte, Nat.reduceEqDiff] <;> rfl
    clear hg hb0 hcol hA2 xV wV hbG2 f0 f5 f6
    rintro m fr G3 ⟨col3, g, k, hg, hcol, hk, rfl, f0, f5, f6, f7, f8⟩
    have hA3 := hag hcol hg.agr
    have hbG3 : G3.base ≤ G3.next := by rw [hA3.base]; exact Nat.le_trans hb hA3.next
    by_cases hkl : k < 20
    · have w1 : decide ((k : Int) < 20) = true := decT (by omega)
      repeat (first
        | (with_reducible refine sc_seq ?_)
        | (with_reducible refine sc_region ?_)
        | (with_reducible refine sc_block ?_)
        | (with_reducible refine sc_scope ?_)
        | ((with_reducible refine sc_skip ?_); dsimp only)
        | ((with_reducible refine sc_label ?_); dsimp only)
        | ((with_reducible refine sc_ret ?_); dsimp only)
        | ((with_reducible refine sc_exit ?_); dsimp only [Nat.beq])
        | ((with_reducible refine so_nil ?_); dsimp only)
        | ((with_reducible apply so_skip); (case hw => simp only [aWanted, aYield, pAT, pG, f0, f5, f6, f7, f8, w1, reduceIte, Nat.reduceEqDiff]; done))
        | ((with_reducible apply so_val); (case hw => simp only [aWanted, aYield, pAT, pG, f0, f5, f6, f7, f8, w1, reduceIte, Nat.reduceEqDiff]; done); (case ha => simp only [aOp, ev, pAT, f0, f5, f6, f7, f8, w1, pI, aInt, aStr, aUn, AR.of, AR.ofB, AR.ofH, reduceIte, Nat.reduceEqDiff, aBuiltin, aLen, aField, aFieldAddr, aIndexAddr, aStore, aLoad, cellsL, oneCell, splice, pL, Nat.reduceBEq, Nat.reduceLeDiff, Nat.reduceMul, Nat.reduceSub, Nat.reduceLT, Nat.reduceAdd, wTrO81] <;> with_reducible rfl))
        | ((with_reducible apply so_val); (case hw => simp only [aWanted, aYield, pAT, pG, f0, f5, f6, f7, f8, w1, reduceIte, Nat.reduceEqDiff]; done); (case ha => simp (maxSteps := 1000000) (disch := (refine id ?_; first | assumption | omega | (simp only [pN, pO, oneCell]; done) | (simp only [pN]; omega))) only [aOp, ev, pAT, f0, f5, f6, f7, f8, w1, pI, aInt, aStr, aUn, AR.of, AR.ofB, AR.ofH, reduceIte, Nat.reduceEqDiff, aBuiltin, aLen, aField, aFieldAddr, aIndexAddr, aStore, aLoad, cellsL, oneCell, splice, pC, pL, Nat.reduceBEq, Nat.reduceLeDiff, Nat.reduceMul, Nat.reduceSub, Nat.reduceLT, Nat.reduceAdd, wTrO81] <;> with_reducible rfl))
        | ((with_reducible apply sc_false); (case hc => simp only [ev, pAT, f0, f5, f6, f7, f8, w1, reduceIte, Nat.reduceEqDiff]; done))
        | ((with_reducible apply sc_true); (case hc => simp only [ev, pAT, f0, f5, f6, f7, f8, w1, reduceIte, Nat.reduceEqDiff]; done)))
      first
        | ((with_reducible apply so_call); (case hw => simp only [aWanted, aYield, pAT, pG, f0, f5, f6, f7, f8, w1, reduceIte, Nat.reduceEqDiff]; done); (case ha => simp (maxSteps := 1000000) (disch := (refine id ?_; first | assumption | omega | (simp only [pN, pO, oneCell]; done) | (simp only [pN]; omega))) only [aOp, ev, pAT, f0, f5, f6, f7, f8, w1, pI, aInt, aStr, aUn, AR.of, AR.ofB, AR.ofH, reduceIte, Nat.reduceEqDiff, aBuiltin, aLen, aField, aFieldAddr, aIndexAddr, aStore, aLoad, cellsL, oneCell, splice, pC, pL, Nat.reduceBEq, Nat.reduceLeDiff, Nat.reduceMul, Nat.reduceSub, Nat.reduceLT, Nat.reduceAdd, wTrO81] <;> with_reducible rfl))
        | ((with_reducible apply so_callD); (case hw => simp only [aWanted, aYield, pAT, pG, f0, f5, f6, f7, f8, w1, reduceIte, Nat.reduceEqDiff]; done); (case ha => simp (maxSteps := 1000000) (disch := (first | omega | (simp only [new_next, new_base, upd_next, upd_base, List.length_cons, List.length_nil, List.all_cons, List.all_nil, oneCell, Bool.and_self, Bool.and_true]; done) | (simp only [new_next, new_base, upd_next, upd_base, List.length_cons, List.length_nil]; omega))) only [aOp, ev, pAT, f0, f5, f6, f7, f8, w1, pI, aInt, aStr, aUn, AR.of, AR.ofB, AR.ofH, reduceIte, Nat.reduceEqDiff, aBuiltin, aLen, aField, aFieldAddr, aIndexAddr, aStore, aLoad, cellsL, oneCell, splice, pC, pL, Nat.reduceBEq, Nat.reduceLeDiff, Nat.reduceMul, Nat.reduceSub, Nat.reduceLT, Nat.reduceAdd, wTrO81] <;> with_reducible rfl))
      refine (text_wf i _ hbG3).mono ?_
      rintro _ G' ⟨rfl, hxt⟩
      have hxn := hxt.next
      have hbG9 : G'.base ≤ G'.next := by rw [hxt.base]; omega
      repeat (first
        | (with_reducible refine sc_seq ?_)
        | (with_reducible refine sc_region ?_)
        | (with_reducible refine sc_block ?_)
        | (with_reducible refine sc_scope ?_)
        | ((with_reducible refine sc_skip ?_); dsimp only)
        | ((with_reducible refine sc_label ?_); dsimp only)
        | ((with_reducible refine sc_ret ?_); dsimp only)
        | ((with_reducible refine sc_exit ?_); dsimp only [Nat.beq])
        | ((with_reducible refine so_nil ?_); dsimp only)
        | ((with_reducible apply so_skip); (case hw => simp only [aWanted, aYield, pAT, pG, f0, f5, f6, f7, f8, (buildL _ i), buildE, reduceIte, Nat.reduceEqDiff]; done))
        | ((with_reducible apply so_val); (case hw => simp only [aWanted, aYield, pAT, pG, f0, f5, f6, f7, f8, (buildL _ i), buildE, reduceIte, Nat.reduceEqDiff]; done); (case ha => simp only [aOp, ev, pAT, f0, f5, f6, f7, f8, (buildL _ i), buildE, pI, aInt, aStr, aUn, AR.of, AR.ofB, AR.ofH, reduceIte, Nat.reduceEqDiff, aBuiltin, aLen, aField, aFieldAddr, aIndexAddr, aStore, aLoad, cellsL, oneCell, splice, pL, Nat.reduceBEq, Nat.reduceLeDiff, Nat.reduceMul, Nat.reduceSub, Nat.reduceLT, Nat.reduceAdd, wTrO81] <;> with_reducible rfl))
        | ((with_reducible apply so_val); (case hw => simp only [aWanted, aYield, pAT, pG, f0, f5, f6, f7, f8, (buildL _ i), buildE, reduceIte, Nat.reduceEqDiff]; done); (case ha => simp (maxSteps := 1000000) (disch := (refine id ?_; first | assumption | omega | (simp only [pN, pO, oneCell]; done) | (simp only [pN]; omega))) only [aOp, ev, pAT, f0, f5, f6, f7, f8, (buildL _ i), buildE, pI, aInt, aStr, aUn, AR.of, AR.ofB, AR.ofH, reduceIte, Nat.reduceEqDiff, aBuiltin, aLen, aField, aFieldAddr, aIndexAddr, aStore, aLoad, cellsL, oneCell, splice, pC, pL, Nat.reduceBEq, Nat.reduceLeDiff, Nat.reduceMul, Nat.reduceSub, Nat.reduceLT, Nat.reduceAdd, wTrO81] <;> with_reducible rfl))
        | ((with_reducible apply sc_false); (case hc => simp only [ev, pAT, f0, f5, f6, f7, f8, (buildL _ i), buildE, reduceIte, Nat.reduceEqDiff]; done))
        | ((with_reducible apply sc_true); (case hc => simp only [ev, pAT, f0, f5, f6, f7, f8, (buildL _ i), buildE, reduceIte, Nat.reduceEqDiff]; done)))
      refine so_append rfl (by simp only [aWanted, aYield, pAT, pG, f0, f5, f6, f7, f8, reduceIte, Nat.reduceEqDiff]) (by first | (simp only [ev, pAT, f0, f5, f6, f7, f8, reduceIte, Nat.reduceEqDiff]; done) | (simp only [ev, pAT, f0, f5, f6, f7, f8, reduceIte, Nat.reduceEqDiff]; rfl)) (by first | (simp only [ev, pAT, f0, f5, f6, f7, f8, reduceIte, Nat.reduceEqDiff]; done) | (simp only [ev, pAT, f0, f5, f6, f7, f8, reduceIte, Nat.reduceEqDiff]; rfl)) ?_
      obtain ⟨g', G', h1, hg', hcol'⟩ := (hg.ext (hxt.trans (Ext.new _ _))).step (P := cfg.P) li_el hlt (Rd.one (c := mark i) rfl) (mark_len i) (mark_one i) (M := 1048576) (fun ys' h => (hall i ys' h).1) (by omega) (by simp only [new_next, new_base]; omega)
      have hn3 := hg.agr.next
      refine ⟨g', G', h1, ?_⟩
      repeat (first
        | (with_reducible refine sc_seq ?_)
        | (with_reducible refine sc_region ?_)
        | (with_reducible refine sc_block ?_)
        | (with_reducible refine sc_scope ?_)
        | ((with_reducible refine sc_skip ?_); dsimp only)
        | ((with_reducible refine sc_label ?_); dsimp only)
        | ((with_reducible refine sc_ret ?_); dsimp only)
        | ((with_reducible refine sc_exit ?_); dsimp only [Nat.beq])
        | ((with_reducible refine so_nil ?_); dsimp only)
        | ((with_reducible apply so_skip); (case hw => simp only [aWanted, aYield, pAT, pG, f0, f5, f6, f7, f8, reduceIte, Nat.reduceEqDiff]; done))
        | ((with_reducible apply so_val); (case hw => simp only [aWanted, aYield, pAT, pG, f0, f5, f6, f7, f8, reduceIte, Nat.reduceEqDiff]; done); (case ha => simp (maxSteps := 1000000) (disch := (refine id ?_; first | assumption | omega | (simp only [pN, pO, oneCell]; done) | (simp only [pN]; omega))) only [aOp, ev, pAT, f0, f5, f6, f7, f8, pI, aInt, aStr, aUn, AR.of, AR.ofB, AR.ofH, reduceIte, Nat.reduceEqDiff, aBuiltin, aLen, aField, aFieldAddr, aIndexAddr, aStore, aLoad, cellsL, oneCell, splice, pC, pL, Nat.reduceBEq, Nat.reduceLeDiff, Nat.reduceMul, Nat.reduceSub, Nat.reduceLT, Nat.reduceAdd, wTrO81] <;> with_reducible rfl))
        | ((with_reducible apply sc_false); (case hc => simp only [ev, pAT, f0, f5, f6, f7, f8, reduceIte, Nat.reduceEqDiff]; done))
        | ((with_reducible apply sc_true); (case hc => simp only [ev, pAT, f0, f5, f6, f7, f8, reduceIte, Nat.reduceEqDiff]; done)))
      refine ⟨20 - (k + 1), by omega, _, g', k + 1, hg', fun b hb => (hcol' b (by simp only [new_next]; omega)).trans (hcol b hb), by omega, rfl, ?_, ?_, ?_, ?_, ?_⟩ <;> simp only [at_some, at_none, f0, f5, f6, f7, f8, reduceIte, Nat.reduceEqDiff]
      congr 1
      simp [IntKind.wrap, IntKind.bits, IntKind.signed]; omega
    · obtain rfl : k = 20 := by omega
      have w1 : decide (((20 : Nat) : Int) < 20) = false := decF (by omega)
      obtain ⟨zs, hzs, _⟩ := hg.cur ys hy
      have hgv : ∃ a n c, g = .slice a n c := let ⟨a, h⟩ := hzs.val; ⟨a, _, _, h⟩
      repeat (first
        | (with_reducible refine sc_seq ?_)
        | (with_reducible refine sc_region ?_)
        | (with_reducible refine sc_block ?_)
        | (with_reducible refine sc_scope ?_)
        | ((with_reducible refine sc_skip ?_); dsimp only)
        | ((with_reducible refine sc_label ?_); dsimp only)
        | ((with_reducible refine sc_ret ?_); dsimp only)
        | ((with_reducible refine sc_exit ?_); dsimp only [Nat.beq])
        | ((with_reducible refine so_nil ?_); dsimp only)
        | ((with_reducible apply so_skip); (case hw => simp only [aWanted, aYield, pAT, pG, f0, f5, f6, f7, f8, w1, (buildLL _ _ hgv), reduceIte, Nat.reduceEqDiff]; done))
        | ((with_reducible apply so_val); (case hw => simp only [aWanted, aYield, pAT, pG, f0, f5, f6, f7, f8, w1, (buildLL _ _ hgv), reduceIte, Nat.reduceEqDiff]; done); (case ha => simp (maxSteps := 1000000) (disch := (refine id ?_; first | assumption | omega | (simp only [pN, pO, oneCell]; done) | (simp only [pN]; omega))) only [aOp, ev, pAT, f0, f5, f6, f7, f8, w1, (buildLL _ _ hgv), pI, aInt, aStr, aUn, AR.of, AR.ofB, AR.ofH, reduceIte, Nat.reduceEqDiff, aBuiltin, aLen, aField, aFieldAddr, aIndexAddr, aStore, aLoad, cellsL, oneCell, splice, pC, pL, Nat.reduceBEq, Nat.reduceLeDiff, Nat.reduceMul, Nat.reduceSub, Nat.reduceLT, Nat.reduceAdd, wTrO81] <;> with_reducible rfl))
        | ((with_reducible apply sc_false); (case hc => simp only [ev, pAT, f0, f5, f6, f7, f8, w1, (buildLL _ _ hgv), reduceIte, Nat.reduceEqDiff]; done))
        | ((with_reducible apply sc_true); (case hc => simp only [ev, pAT, f0, f5, f6, f7, f8, w1, (buildLL _ _ hgv), reduceIte, Nat.reduceEqDiff]; done)))
      refine so_append rfl (by simp only [aWanted, aYield, pAT, pG, f0, f5, f6, f7, f8, reduceIte, Nat.reduceEqDiff]) (by first | (simp only [ev, pAT, f0, f5, f6, f7, f8, reduceIte, Nat.reduceEqDiff]; done) | (simp only [ev, pAT, f0, f5, f6, f7, f8, reduceIte, Nat.reduceEqDiff]; rfl)) (by first | (simp only [ev, pAT, f0, f5, f6, f7, f8, reduceIte, Nat.reduceEqDiff]; done) | (simp only [ev, pAT, f0, f5, f6, f7, f8, reduceIte, Nat.reduceEqDiff]; rfl)) ?_
      obtain ⟨vall', G', h1, hg', hcol'⟩ := (hg.ext (Ext.new G3 _)).lay (P := cfg.P) ll_el hlt (by omega) (mark_len i) (Rd.one (c := [g]) rfl) (by obtain ⟨a, n, c, rfl⟩ := hgv; rfl) (by omega) (by simp only [new_next, new_base]; omega)
      refine ⟨vall', G', h1, ?_⟩
      repeat (first
        | (with_reducible refine sc_seq ?_)
        | (with_reducible refine sc_region ?_)
        | (with_reducible refine sc_block ?_)
        | (with_reducible refine sc_scope ?_)
        | ((with_reducible refine sc_skip ?_); dsimp only)
        | ((with_reducible refine sc_label ?_); dsimp only)
        | ((with_reducible refine sc_ret ?_); dsimp only)
        | ((with_reducible refine sc_exit ?_); dsimp only [Nat.beq])
        | ((with_reducible refine so_nil ?_); dsimp only)
        | ((with_reducible apply so_skip); (case hw => simp only [aWanted, aYield, pAT, pG, f0, f5, f6, f7, f8, reduceIte, Nat.reduceEqDiff]; done))
        | ((with_reducible apply so_val); (case hw => simp only [aWanted, aYield, pAT, pG, f0, f5, f6, f7, f8, reduceIte, Nat.reduceEqDiff]; done); (case ha => simp (maxSteps := 1000000) (disch := (refine id ?_; first | assumption | omega | (simp only [pN, pO, oneCell]; done) | (simp only [pN]; omega))) only [aOp, ev, pAT, f0, f5, f6, f7, f8, pI, aInt, aStr, aUn, AR.of, AR.ofB, AR.ofH, reduceIte, Nat.reduceEqDiff, aBuiltin, aLen, aField, aFieldAddr, aIndexAddr, aStore, aLoad, cellsL, oneCell, splice, pC, pL, Nat.reduceBEq, Nat.reduceLeDiff, Nat.reduceMul, Nat.reduceSub, Nat.reduceLT, Nat.reduceAdd, wTrO81] <;> with_reducible rfl))
        | ((with_reducible apply sc_false); (case hc => simp only [ev, pAT, f0, f5, f6, f7, f8, reduceIte, Nat.reduceEqDiff]; done))
        | ((with_reducible apply sc_true); (case hc => simp only [ev, pAT, f0, f5, f6, f7, f8, reduceIte, Nat.reduceEqDiff]; done)))
      have hn3 := hg.agr.next
      refine ⟨ws.length - (i + 1), by omega, _, gs ++ [g], vall', i + 1, hg', fun b hb => (hcol' b (by simp only [new_next]; omega)).trans (hcol b hb), by omega, rfl, ?_, ?_, ?_⟩ <;> simp only [at_some, at_none, f0, f5, f6, reduceIte, Nat.reduceEqDiff]
      congr 1
      simp [IntKind.wrap, IntKind.bits, IntKind.signed]; omega
  obtain rfl : i = ws.length := by omega
  have g1 : decide ((ws.length : Int) < (ws.length : Int)) = false := decF (by omega)
  repeat (first
    | (with_reducible refine sc_seq ?_)
    | (with_reducible refine sc_region ?_)
    | (with_reducible refine sc_block ?_)
    | (with_reducible refine sc_scope ?_)
    | ((with_reducible refine sc_skip ?_); dsimp only)
    | ((with_reducible refine sc_label ?_); dsimp only)
    | ((with_reducible refine sc_ret ?_); dsimp only)
    | ((with_reducible refine sc_exit ?_); dsimp only [Nat.beq])
    | ((with_reducible refine so_nil ?_); dsimp only)
    | ((with_reducible apply so_skip); (case hw => simp only [aWanted, aYield, pAT, pG, f0, f5, f6, xV, g1, reduceIte, Nat.reduceEqDiff]; done))
    | ((with_reducible apply so_val); (case hw => simp only [aWanted, aYield, pAT, pG, f0, f5, f6, xV, g1, reduceIte, Nat.reduceEqDiff]; done); (case ha => simp (maxSteps := 1000000) (disch := (refine id ?_; first | assumption | omega | (simp only [pN, pO, oneCell]; done) | (simp only [pN]; omega))) only [aOp, ev, pAT, f0, f5, f6, xV, g1, pI, aInt, aStr, aUn, AR.of, AR.ofB, AR.ofH, reduceIte, Nat.reduceEqDiff, aBuiltin, aLen, aField, aFieldAddr, aIndexAddr, aStore, aLoad, cellsL, oneCell, splice, pC, pL, Nat.reduceBEq, Nat.reduceLeDiff, Nat.reduceMul, Nat.reduceSub, Nat.reduceLT, Nat.reduceAdd, wTrO81] <;> with_reducible rfl))
    | ((with_reducible apply sc_false); (case hc => simp only [ev, pAT, f0, f5, f6, xV, g1, reduceIte, Nat.reduceEqDiff]; done))
    | ((with_reducible apply sc_true); (case hc => simp only [ev, pAT, f0, f5, f6, xV, g1, reduceIte, Nat.reduceEqDiff]; done)))
  -- all are looked at
  obtain ⟨aa, hav⟩ := hg.all.val
  simp only [List.length_map, hg.glen] at hav
  subst hav
  have hga : Rd G2 1 (.slice aa ws.length ws.length) (gs.map fun g => [g]) := (hg.all.rdb fun y hy => by obtain ⟨z, _, rfl⟩ := List.mem_map.1 hy; rfl).rd
  have hgl := hg.glen
  have hgd := hg.done
  clear hg xV f6 hi
  refine sc_loop (I := fun m fr G3 => Ext G2 G3 ∧ ∃ (i : Nat), i ≤ ws.length ∧ m = ws.length - i ∧ Fr.at fr 0 = .pointer (some ⟨B, 0, none⟩) ∧ Fr.at fr 5 = .slice aa ws.length ws.length ∧ Fr.at fr 9 = .int .i64 i) ?_ ws.length _ _ ?_
  rotate_left
  · refine ⟨Ext.refl _, 0, by omega, rfl, ?_, ?_, ?_⟩ <;> simp only [at_some, at_none, f0, f5, ev, reduceIte, Nat.reduceEqDiff] <;> rfl
  clear f0 f5
  rintro m fr G3 ⟨hx, i, hi, rfl, f0, f5, f9⟩
  have hbG3 : G3.base ≤ G3.next := by rw [hx.base]; exact Nat.le_trans hbG2 hx.next
  by_cases hlt : i < ws.length
  · obtain ⟨w, hw⟩ : ∃ w, ws[i]? = some w := ⟨_, List.getElem?_eq_getElem hlt⟩
    obtain ⟨ys, hy⟩ : ∃ ys, zss[i]? = some ys := ⟨_, List.getElem?_eq_getElem (by rw [← hz.len]; exact hlt)⟩
    obtain ⟨g, hgi⟩ : ∃ g, gs[i]? = some g := ⟨_, List.getElem?_eq_getElem (by omega)⟩
    obtain ⟨hrw, zs, hrg, hzl, hzm⟩ := hgd i w g ys hw hgi hy
    have hym := (hall i ys hy)
    obtain ⟨wa, wc, rfl, _⟩ := id hrw
    obtain ⟨ga, gc, rfl, _⟩ := id hrg
    obtain ⟨bv, ov, rfl, lW⟩ := wAt hw
    have g1 : decide ((i : Int) < (ws.length : Int)) = true := decT (by omega)
    have g2 : (0 ≤ (i : Int) ∧ (i : Int) < (ws.length : Int)) := by omega
    have hgmi : (gs.map fun g => [g])[i]? = some [.slice ga zs.length gc] := by rw [List.getElem?_map, hgi]; rfl
    have aAt : ∃ ba oa, aa = some ⟨ba, oa, none⟩ ∧ ∀ {G : AH}, Ext G2 G → G.cell ba (oa + i * 1) = some (.slice ga zs.length gc) := by
      obtain ⟨ba, oa, cap, e1, _⟩ := hga.at hgmi
      simp only [Value.slice.injEq] at e1
      refine ⟨ba, oa, e1.1, fun hA => ?_⟩
      obtain ⟨ba', oa', cap', e1', _, _, _, l1⟩ := (hga.mono hA).at hgmi
      simp only [Value.slice.injEq] at e1'
      have e2 := e1'.1
      rw [e1.1] at e2
      cases e2
      simpa using l1 0 (by decide)
    obtain ⟨ba, oa, rfl, lA⟩ := aAt
    repeat (first
      | (with_reducible refine sc_seq ?_)
      | (with_reducible refine sc_region ?_)
      | (with_reducible refine sc_block ?_)
      | (with_reducible refine sc_scope ?_)
      | ((with_reducible refine sc_skip ?_); dsimp only)
      | ((with_reducible refine sc_label ?_); dsimp only)
      | ((with_reducible refine sc_ret ?_); dsimp only)
      | ((with_reducible refine sc_exit ?_); dsimp only [Nat.beq])
      | ((with_reducible refine so_nil ?_); dsimp only)
      | ((with_reducible apply so_skip); (case hw => simp only [aWanted, aYield, pAT, pG, f0, f5, f9, g1, reduceIte, Nat.reduceEqDiff]; done))
      | ((with_reducible apply so_val); (case hw => simp only [aWanted, aYield, pAT, pG, f0, f5, f9, g1, reduceIte, Nat.reduceEqDiff]; done); (case ha => simp (maxSteps := 1000000) (disch := (refine id ?_; first | assumption | omega | (simp only [pN, pO, oneCell]; done) | (simp only [pN]; omega))) only [aOp, ev, pAT, f0, f5, f9, g1, pI, aInt, aStr, aUn, AR.of, AR.ofB, AR.ofH, reduceIte, Nat.reduceEqDiff, aBuiltin, aLen, aField, aFieldAddr, aIndexAddr, aStore, aLoad, cellsL, oneCell, splice, pC, pL, Nat.reduceBEq, Nat.reduceLeDiff, Nat.reduceMul, Nat.reduceSub, Nat.reduceLT, Nat.reduceAdd, wTrO81] <;> with_reducible rfl))
      | ((with_reducible apply sc_false); (case hc => simp only [ev, pAT, f0, f5, f9, g1, reduceIte, Nat.reduceEqDiff]; done))
      | ((with_reducible apply sc_true); (case hc => simp only [ev, pAT, f0, f5, f9, g1, reduceIte, Nat.reduceEqDiff]; done)))
    refine sc_loop (I := fun m fr G4 => Ext G2 G4 ∧ ∃ (k : Nat), k ≤ zs.length ∧ m = zs.length - k ∧ Fr.at fr 0 = .pointer (some ⟨B, 0, none⟩) ∧ Fr.at fr 5 = .slice (some ⟨ba, oa, none⟩) ws.length ws.length ∧ Fr.at fr 9 = .int .i64 i ∧ Fr.at fr 10 = .int .i64 k) ?_ zs.length _ _ ?_
    rotate_left
    · refine ⟨hx, 0, by omega, rfl, ?_, ?_, ?_, ?_⟩ <;> simp only [at_some, at_none, f0, f5, f9, ev, reduceIte, Nat.reduceEqDiff] <;> rfl
    clear hx f0 f5 f9 hbG3
    rintro m fr G4 ⟨hx, k, hk, rfl, f0, f5, f9, f10⟩
    have aV := lA hx
    have hbG4 : G4.base ≤ G4.next := by rw [hx.base]; exact Nat.le_trans hbG2 hx.next
    by_cases hkl : k < zs.length
    · have hzk : zs[k]? = some (mark i) := by rw [List.getElem?_eq_getElem hkl, hzm _ (List.getElem_mem hkl)]
      obtain ⟨bg, og, cg, e1, hbg, _, l6, l1⟩ := (hrg.mono hx).at hzk
      simp only [Value.slice.injEq] at e1
      obtain ⟨rfl, _, rfl⟩ := e1
      have w1 : decide ((k : Int) < (zs.length : Int)) = true := decT (by omega)
      have w2 : (0 ≤ (k : Int) ∧ (k : Int) < (zs.length : Int)) := by omega
      repeat (first
        | (with_reducible refine sc_seq ?_)
        | (with_reducible refine sc_region ?_)
        | (with_reducible refine sc_block ?_)
        | (with_reducible refine sc_scope ?_)
        | ((with_reducible refine sc_skip ?_); dsimp only)
        | ((with_reducible refine sc_label ?_); dsimp only)
        | ((with_reducible refine sc_ret ?_); dsimp only)
        | ((with_reducible refine sc_exit ?_); dsimp only [Nat.beq])
        | ((with_reducible refine so_nil ?_); dsimp only)
        | ((with_reducible apply so_skip); (case hw => simp only [aWanted, aYield, pAT, pG, f0, f5, f9, f10, aV, g2, w1, w2, l6, if_true, Int.toNat_natCast, true_and, and_self, reduceIte, Nat.reduceEqDiff]; done))
        | ((with_reducible apply so_val); (case hw => simp only [aWanted, aYield, pAT, pG, f0, f5, f9, f10, aV, g2, w1, w2, l6, if_true, Int.toNat_natCast, true_and, and_self, reduceIte, Nat.reduceEqDiff]; done); (case ha => simp only [aOp, ev, pAT, f0, f5, f9, f10, aV, g2, w1, w2, l6, if_true, Int.toNat_natCast, true_and, and_self, pI, aInt, aStr, aUn, AR.of, AR.ofB, AR.ofH, reduceIte, Nat.reduceEqDiff, aBuiltin, aLen, aField, aFieldAddr, aIndexAddr, aStore, aLoad, cellsL, oneCell, splice, pL, Nat.reduceBEq, Nat.reduceLeDiff, Nat.reduceMul, Nat.reduceSub, Nat.reduceLT, Nat.reduceAdd, wTrO81] <;> with_reducible rfl))
        | ((with_reducible apply so_val); (case hw => simp only [aWanted, aYield, pAT, pG, f0, f5, f9, f10, aV, g2, w1, w2, l6, if_true, Int.toNat_natCast, true_and, and_self, reduceIte, Nat.reduceEqDiff]; done); (case ha => simp (maxSteps := 1000000) (disch := (refine id ?_; first | assumption | omega | (simp only [pN, pO, oneCell]; done) | (simp only [pN]; omega))) only [aOp, ev, pAT, f0, f5, f9, f10, aV, g2, w1, w2, l6, if_true, Int.toNat_natCast, true_and, and_self, pI, aInt, aStr, aUn, AR.of, AR.ofB, AR.ofH, reduceIte, Nat.reduceEqDiff, aBuiltin, aLen, aField, aFieldAddr, aIndexAddr, aStore, aLoad, cellsL, oneCell, splice, pC, pL, Nat.reduceBEq, Nat.reduceLeDiff, Nat.reduceMul, Nat.reduceSub, Nat.reduceLT, Nat.reduceAdd, wTrO81] <;> with_reducible rfl))
        | ((with_reducible apply sc_false); (case hc => simp only [ev, pAT, f0, f5, f9, f10, aV, g2, w1, w2, l6, if_true, Int.toNat_natCast, true_and, and_self, reduceIte, Nat.reduceEqDiff]; done))
        | ((with_reducible apply sc_true); (case hc => simp only [ev, pAT, f0, f5, f9, f10, aV, g2, w1, w2, l6, if_true, Int.toNat_natCast, true_and, and_self, reduceIte, Nat.reduceEqDiff]; done)))
      first
        | ((with_reducible apply so_call); (case hw => simp only [aWanted, aYield, pAT, pG, f0, f5, f9, f10, aV, g2, w1, w2, l6, if_true, Int.toNat_natCast, true_and, and_self, reduceIte, Nat.reduceEqDiff]; done); (case ha => simp (maxSteps := 1000000) (disch := (refine id ?_; first | assumption | omega | (simp only [pN, pO, oneCell]; done) | (simp only [pN]; omega))) only [aOp, ev, pAT, f0, f5, f9, f10, aV, g2, w1, w2, l6, if_true, Int.toNat_natCast, true_and, and_self, pI, aInt, aStr, aUn, AR.of, AR.ofB, AR.ofH, reduceIte, Nat.reduceEqDiff, aBuiltin, aLen, aField, aFieldAddr, aIndexAddr, aStore, aLoad, cellsL, oneCell, splice, pC, pL, Nat.reduceBEq, Nat.reduceLeDiff, Nat.reduceMul, Nat.reduceSub, Nat.reduceLT, Nat.reduceAdd, wTrO81] <;> with_reducible rfl))
        | ((with_reducible apply so_callD); (case hw => simp only [aWanted, aYield, pAT, pG, f0, f5, f9, f10, aV, g2, w1, w2, l6, if_true, Int.toNat_natCast, true_and, and_self, reduceIte, Nat.reduceEqDiff]; done); (case ha => simp (maxSteps := 1000000) (disch := (first | omega | (simp only [new_next, new_base, upd_next, upd_base, List.length_cons, List.length_nil, List.all_cons, List.all_nil, oneCell, Bool.and_self, Bool.and_true]; done) | (simp only [new_next, new_base, upd_next, upd_base, List.length_cons, List.length_nil]; omega))) only [aOp, ev, pAT, f0, f5, f9, f10, aV, g2, w1, w2, l6, if_true, Int.toNat_natCast, true_and, and_self, pI, aInt, aStr, aUn, AR.of, AR.ofB, AR.ofH, reduceIte, Nat.reduceEqDiff, aBuiltin, aLen, aField, aFieldAddr, aIndexAddr, aStore, aLoad, cellsL, oneCell, splice, pC, pL, Nat.reduceBEq, Nat.reduceLeDiff, Nat.reduceMul, Nat.reduceSub, Nat.reduceLT, Nat.reduceAdd, wTrO81] <;> with_reducible rfl))
      refine (text_wf i _ (Nat.le_refl _)).mono ?_
      rintro _ G' ⟨rfl, hxt⟩
      have hxt := Ext.wb hxt
      generalize G'.wb _ = G9 at hxt ⊢
      repeat (first
        | (with_reducible refine sc_seq ?_)
        | (with_reducible refine sc_region ?_)
        | (with_reducible refine sc_block ?_)
        | (with_reducible refine sc_scope ?_)
        | ((with_reducible refine sc_skip ?_); dsimp only)
        | ((with_reducible refine sc_label ?_); dsimp only)
        | ((with_reducible refine sc_ret ?_); dsimp only)
        | ((with_reducible refine sc_exit ?_); dsimp only [Nat.beq])
        | ((with_reducible refine so_nil ?_); dsimp only)
        | ((with_reducible apply so_skip); (case hw => simp only [aWanted, aYield, pAT, pG, f0, f5, f9, f10, eq24, buildE, reduceIte, Nat.reduceEqDiff]; done))
        | ((with_reducible apply so_val); (case hw => simp only [aWanted, aYield, pAT, pG, f0, f5, f9, f10, eq24, buildE, reduceIte, Nat.reduceEqDiff]; done); (case ha => simp only [aOp, ev, pAT, f0, f5, f9, f10, eq24, buildE, pI, aInt, aStr, aUn, AR.of, AR.ofB, AR.ofH, reduceIte, Nat.reduceEqDiff, aBuiltin, aLen, aField, aFieldAddr, aIndexAddr, aStore, aLoad, cellsL, oneCell, splice, pL, Nat.reduceBEq, Nat.reduceLeDiff, Nat.reduceMul, Nat.reduceSub, Nat.reduceLT, Nat.reduceAdd, wTrO81] <;> with_reducible rfl))
        | ((with_reducible apply so_val); (case hw => simp only [aWanted, aYield, pAT, pG, f0, f5, f9, f10, eq24, buildE, reduceIte, Nat.reduceEqDiff]; done); (case ha => simp (maxSteps := 1000000) (disch := (refine id ?_; first | assumption | omega | (simp only [pN, pO, oneCell]; done) | (simp only [pN]; omega))) only [aOp, ev, pAT, f0, f5, f9, f10, eq24, buildE, pI, aInt, aStr, aUn, AR.of, AR.ofB, AR.ofH, reduceIte, Nat.reduceEqDiff, aBuiltin, aLen, aField, aFieldAddr, aIndexAddr, aStore, aLoad, cellsL, oneCell, splice, pC, pL, Nat.reduceBEq, Nat.reduceLeDiff, Nat.reduceMul, Nat.reduceSub, Nat.reduceLT, Nat.reduceAdd, wTrO81] <;> with_reducible rfl))
        | ((with_reducible apply sc_false); (case hc => simp only [ev, pAT, f0, f5, f9, f10, eq24, buildE, reduceIte, Nat.reduceEqDiff]; done))
        | ((with_reducible apply sc_true); (case hc => simp only [ev, pAT, f0, f5, f9, f10, eq24, buildE, reduceIte, Nat.reduceEqDiff]; done)))
      refine ⟨zs.length - (k + 1), by omega, (hx.step _).trans hxt, k + 1, by omega, rfl, ?_, ?_, ?_, ?_⟩ <;> simp only [at_some, at_none, f0, f5, f9, f10, reduceIte, Nat.reduceEqDiff]
      congr 1
      simp [IntKind.wrap, IntKind.bits, IntKind.signed]; omega
    obtain rfl : k = zs.length := by omega
    have w1 : decide ((zs.length : Int) < (zs.length : Int)) = false := decF (by omega)
    repeat (first
      | (with_reducible refine sc_seq ?_)
      | (with_reducible refine sc_region ?_)
      | (with_reducible refine sc_block ?_)
      | (with_reducible refine sc_scope ?_)
      | ((with_reducible refine sc_skip ?_); dsimp only)
      | ((with_reducible refine sc_label ?_); dsimp only)
      | ((with_reducible refine sc_ret ?_); dsimp only)
      | ((with_reducible refine sc_exit ?_); dsimp only [Nat.beq])
      | ((with_reducible refine so_nil ?_); dsimp only)
      | ((with_reducible apply so_skip); (case hw => simp only [aWanted, aYield, pAT, pG, f0, f5, f9, f10, aV, g2, w1, if_true, Int.toNat_natCast, true_and, and_self, reduceIte, Nat.reduceEqDiff]; done))
      | ((with_reducible apply so_val); (case hw => simp only [aWanted, aYield, pAT, pG, f0, f5, f9, f10, aV, g2, w1, if_true, Int.toNat_natCast, true_and, and_self, reduceIte, Nat.reduceEqDiff]; done); (case ha => simp (maxSteps := 1000000) (disch := (refine id ?_; first | assumption | omega | (simp only [pN, pO, oneCell]; done) | (simp only [pN]; omega))) only [aOp, ev, pAT, f0, f5, f9, f10, aV, g2, w1, if_true, Int.toNat_natCast, true_and, and_self, pI, aInt, aStr, aUn, AR.of, AR.ofB, AR.ofH, reduceIte, Nat.reduceEqDiff, aBuiltin, aLen, aField, aFieldAddr, aIndexAddr, aStore, aLoad, cellsL, oneCell, splice, pC, pL, Nat.reduceBEq, Nat.reduceLeDiff, Nat.reduceMul, Nat.reduceSub, Nat.reduceLT, Nat.reduceAdd, wTrO81] <;> with_reducible rfl))
      | ((with_reducible apply sc_false); (case hc => simp only [ev, pAT, f0, f5, f9, f10, aV, g2, w1, if_true, Int.toNat_natCast, true_and, and_self, reduceIte, Nat.reduceEqDiff]; done))
      | ((with_reducible apply sc_true); (case hc => simp only [ev, pAT, f0, f5, f9, f10, aV, g2, w1, if_true, Int.toNat_natCast, true_and, and_self, reduceIte, Nat.reduceEqDiff]; done)))
    refine sc_loop (I := fun m fr G4 => Ext G2 G4 ∧ ∃ (k : Nat), k ≤ ys.length ∧ m = ys.length - k ∧ Fr.at fr 0 = .pointer (some ⟨B, 0, none⟩) ∧ Fr.at fr 5 = .slice (some ⟨ba, oa, none⟩) ws.length ws.length ∧ Fr.at fr 9 = .int .i64 i ∧ Fr.at fr 12 = .int .i64 k) ?_ ys.length _ _ ?_
    rotate_left
    · refine ⟨hx, 0, by omega, rfl, ?_, ?_, ?_, ?_⟩ <;> simp only [at_some, at_none, f0, f5, f9, ev, reduceIte, Nat.reduceEqDiff] <;> rfl
    clear hx f0 f5 f9 f10 hbG4 aV
    rintro m fr G4 ⟨hx, k, hk, rfl, f0, f5, f9, f12⟩
    have hA4 : Agr (fun b => col b = 0) H G4 := hA2.trans (hx.agr _)
    have xV := xAt hA4
    have wV := lW hA4
    have hbG4 : G4.base ≤ G4.next := by rw [hx.base]; exact Nat.le_trans hbG2 hx.next
    by_cases hkl : k < ys.length
    · have hzk : ys[k]? = some (mark i) := by rw [List.getElem?_eq_getElem hkl, hym.2 _ (List.getElem_mem hkl)]
      obtain ⟨bg, og, cg, e1, hbg, _, l6, l1⟩ := (hrw.mono hx).at hzk
      simp only [Value.slice.injEq] at e1
      obtain ⟨rfl, _, rfl⟩ := e1
      have w1 : decide ((k : Int) < (ys.length : Int)) = true := decT (by omega)
      have w2 : (0 ≤ (k : Int) ∧ (k : Int) < (ys.length : Int)) := by omega
      repeat (first
        | (with_reducible refine sc_seq ?_)
        | (with_reducible refine sc_region ?_)
        | (with_reducible refine sc_block ?_)
        | (with_reducible refine sc_scope ?_)
        | ((with_reducible refine sc_skip ?_); dsimp only)
        | ((with_reducible refine sc_label ?_); dsimp only)
        | ((with_reducible refine sc_ret ?_); dsimp only)
        | ((with_reducible refine sc_exit ?_); dsimp only [Nat.beq])
        | ((with_reducible refine so_nil ?_); dsimp only)
        | ((with_reducible apply so_skip); (case hw => simp only [aWanted, aYield, pAT, pG, f0, f5, f9, f12, xV, wV, g2, w1, w2, l6, if_true, Int.toNat_natCast, true_and, and_self, reduceIte, Nat.reduceEqDiff]; done))
        | ((with_reducible apply so_val); (case hw => simp only [aWanted, aYield, pAT, pG, f0, f5, f9, f12, xV, wV, g2, w1, w2, l6, if_true, Int.toNat_natCast, true_and, and_self, reduceIte, Nat.reduceEqDiff]; done); (case ha => simp only [aOp, ev, pAT, f0, f5, f9, f12, xV, wV, g2, w1, w2, l6, if_true, Int.toNat_natCast, true_and, and_self, pI, aInt, aStr, aUn, AR.of, AR.ofB, AR.ofH, reduceIte, Nat.reduceEqDiff, aBuiltin, aLen, aField, aFieldAddr, aIndexAddr, aStore, aLoad, cellsL, oneCell, splice, pL, Nat.reduceBEq, Nat.reduceLeDiff, Nat.reduceMul, Nat.reduceSub, Nat.reduceLT, Nat.reduceAdd, wTrO81] <;> with_reducible rfl))
        | ((with_reducible apply so_val); (case hw => simp only [aWanted, aYield, pAT, pG, f0, f5, f9, f12, xV, wV, g2, w1, w2, l6, if_true, Int.toNat_natCast, true_and, and_self, reduceIte, Nat.reduceEqDiff]; done); (case ha => simp (maxSteps := 1000000) (disch := (refine id ?_; first | assumption | omega | (simp only [pN, pO, oneCell]; done) | (simp only [pN]; omega))) only [aOp, ev, pAT, f0, f5, f9, f12, xV, wV, g2, w1, w2, l6, if_true, Int.toNat_natCast, true_and, and_self, pI, aInt, aStr, aUn, AR.of, AR.ofB, AR.ofH, reduceIte, Nat.reduceEqDiff, aBuiltin, aLen, aField, aFieldAddr, aIndexAddr, aStore, aLoad, cellsL, oneCell, splice, pC, pL, Nat.reduceBEq, Nat.reduceLeDiff, Nat.reduceMul, Nat.reduceSub, Nat.reduceLT, Nat.reduceAdd, wTrO81] <;> with_reducible rfl))
        | ((with_reducible apply sc_false); (case hc => simp only [ev, pAT, f0, f5, f9, f12, xV, wV, g2, w1, w2, l6, if_true, Int.toNat_natCast, true_and, and_self, reduceIte, Nat.reduceEqDiff]; done))
        | ((with_reducible apply sc_true); (case hc => simp only [ev, pAT, f0, f5, f9, f12, xV, wV, g2, w1, w2, l6, if_true, Int.toNat_natCast, true_and, and_self, reduceIte, Nat.reduceEqDiff]; done)))
      first
        | ((with_reducible apply so_call); (case hw => simp only [aWanted, aYield, pAT, pG, f0, f5, f9, f12, xV, wV, g2, w1, w2, l6, if_true, Int.toNat_natCast, true_and, and_self, reduceIte, Nat.reduceEqDiff]; done); (case ha => simp (maxSteps := 1000000) (disch := (refine id ?_; first | assumption | omega | (simp only [pN, pO, oneCell]; done) | (simp only [pN]; omega))) only [aOp, ev, pAT, f0, f5, f9, f12, xV, wV, g2, w1, w2, l6, if_true, Int.toNat_natCast, true_and, and_self, pI, aInt, aStr, aUn, AR.of, AR.ofB, AR.ofH, reduceIte, Nat.reduceEqDiff, aBuiltin, aLen, aField, aFieldAddr, aIndexAddr, aStore, aLoad, cellsL, oneCell, splice, pC, pL, Nat.reduceBEq, Nat.reduceLeDiff, Nat.reduceMul, Nat.reduceSub, Nat.reduceLT, Nat.reduceAdd, wTrO81] <;> with_reducible rfl))
        | ((with_reducible apply so_callD); (case hw => simp only [aWanted, aYield, pAT, pG, f0, f5, f9, f12, xV, wV, g2, w1, w2, l6, if_true, Int.toNat_natCast, true_and, and_self, reduceIte, Nat.reduceEqDiff]; done); (case ha => simp (maxSteps := 1000000) (disch := (first | omega | (simp only [new_next, new_base, upd_next, upd_base, List.length_cons, List.length_nil, List.all_cons, List.all_nil, oneCell, Bool.and_self, Bool.and_true]; done) | (simp only [new_next, new_base, upd_next, upd_base, List.length_cons, List.length_nil]; omega))) only [aOp, ev, pAT, f0, f5, f9, f12, xV, wV, g2, w1, w2, l6, if_true, Int.toNat_natCast, true_and, and_self, pI, aInt, aStr, aUn, AR.of, AR.ofB, AR.ofH, reduceIte, Nat.reduceEqDiff, aBuiltin, aLen, aField, aFieldAddr, aIndexAddr, aStore, aLoad, cellsL, oneCell, splice, pC, pL, Nat.reduceBEq, Nat.reduceLeDiff, Nat.reduceMul, Nat.reduceSub, Nat.reduceLT, Nat.reduceAdd, wTrO81] <;> with_reducible rfl))
      refine (text_wf i _ (Nat.le_refl _)).mono ?_
      rintro _ G' ⟨rfl, hxt⟩
      have hxt := Ext.wb hxt
      generalize G'.wb _ = G9 at hxt ⊢
      repeat (first
        | (with_reducible refine sc_seq ?_)
        | (with_reducible refine sc_region ?_)
        | (with_reducible refine sc_block ?_)
        | (with_reducible refine sc_scope ?_)
        | ((with_reducible refine sc_skip ?_); dsimp only)
        | ((with_reducible refine sc_label ?_); dsimp only)
        | ((with_reducible refine sc_ret ?_); dsimp only)
        | ((with_reducible refine sc_exit ?_); dsimp only [Nat.beq])
        | ((with_reducible refine so_nil ?_); dsimp only)
        | ((with_reducible apply so_skip); (case hw => simp only [aWanted, aYield, pAT, pG, f0, f5, f9, f12, eq24, buildE, reduceIte, Nat.reduceEqDiff]; done))
        | ((with_reducible apply so_val); (case hw => simp only [aWanted, aYield, pAT, pG, f0, f5, f9, f12, eq24, buildE, reduceIte, Nat.reduceEqDiff]; done); (case ha => simp only [aOp, ev, pAT, f0, f5, f9, f12, eq24, buildE, pI, aInt, aStr, aUn, AR.of, AR.ofB, AR.ofH, reduceIte, Nat.reduceEqDiff, aBuiltin, aLen, aField, aFieldAddr, aIndexAddr, aStore, aLoad, cellsL, oneCell, splice, pL, Nat.reduceBEq, Nat.reduceLeDiff, Nat.reduceMul, Nat.reduceSub, Nat.reduceLT, Nat.reduceAdd, wTrO81] <;> with_reducible rfl))
        | ((with_reducible apply so_val); (case hw => simp only [aWanted, aYield, pAT, pG, f0, f5, f9, f12, eq24, buildE, reduceIte, Nat.reduceEqDiff]; done); (case ha => simp (maxSteps := 1000000) (disch := (refine id ?_; first | assumption | omega | (simp only [pN, pO, oneCell]; done) | (simp only [pN]; omega))) only [aOp, ev, pAT, f0, f5, f9, f12, eq24, buildE, pI, aInt, aStr, aUn, AR.of, AR.ofB, AR.ofH, reduceIte, Nat.reduceEqDiff, aBuiltin, aLen, aField, aFieldAddr, aIndexAddr, aStore, aLoad, cellsL, oneCell, splice, pC, pL, Nat.reduceBEq, Nat.reduceLeDiff, Nat.reduceMul, Nat.reduceSub, Nat.reduceLT, Nat.reduceAdd, wTrO81] <;> with_reducible rfl))
        | ((with_reducible apply sc_false); (case hc => simp only [ev, pAT, f0, f5, f9, f12, eq24, buildE, reduceIte, Nat.reduceEqDiff]; done))
        | ((with_reducible apply sc_true); (case hc => simp only [ev, pAT, f0, f5, f9, f12, eq24, buildE, reduceIte, Nat.reduceEqDiff]; done)))
      refine ⟨ys.length - (k + 1), by omega, (hx.step _).trans hxt, k + 1, by omega, rfl, ?_, ?_, ?_, ?_⟩ <;> simp only [at_some, at_none, f0, f5, f9, f12, reduceIte, Nat.reduceEqDiff]
      congr 1
      simp [IntKind.wrap, IntKind.bits, IntKind.signed]; omega
    obtain rfl : k = ys.length := by omega
    have w1 : decide ((ys.length : Int) < (ys.length : Int)) = false := decF (by omega)
    repeat (first
      | (with_reducible refine sc_seq ?_)
      | (with_reducible refine sc_region ?_)
      | (with_reducible refine sc_block ?_)
      | (with_reducible refine sc_scope ?_)
      | ((with_reducible refine sc_skip ?_); dsimp only)
      | ((with_reducible refine sc_label ?_); dsimp only)
      | ((with_reducible refine sc_ret ?_); dsimp only)
      | ((with_reducible refine sc_exit ?_); dsimp only [Nat.beq])
      | ((with_reducible refine so_nil ?_); dsimp only)
      | ((with_reducible apply so_skip); (case hw => simp only [aWanted, aYield, pAT, pG, f0, f5, f9, f12, xV, wV, g2, w1, if_true, Int.toNat_natCast, true_and, and_self, reduceIte, Nat.reduceEqDiff]; done))
      | ((with_reducible apply so_val); (case hw => simp only [aWanted, aYield, pAT, pG, f0, f5, f9, f12, xV, wV, g2, w1, if_true, Int.toNat_natCast, true_and, and_self, reduceIte, Nat.reduceEqDiff]; done); (case ha => simp (maxSteps := 1000000) (disch := (refine id ?_; first | assumption | omega | (simp only [pN, pO, oneCell]; done) | (simp only [pN]; omega))) only [aOp, ev, pAT, f0, f5, f9, f12, xV, wV, g2, w1, if_true, Int.toNat_natCast, true_and, and_self, pI, aInt, aStr, aUn, AR.of, AR.ofB, AR.ofH, reduceIte, Nat.reduceEqDiff, aBuiltin, aLen, aField, aFieldAddr, aIndexAddr, aStore, aLoad, cellsL, oneCell, splice, pC, pL, Nat.reduceBEq, Nat.reduceLeDiff, Nat.reduceMul, Nat.reduceSub, Nat.reduceLT, Nat.reduceAdd, wTrO81] <;> with_reducible rfl))
      | ((with_reducible apply sc_false); (case hc => simp only [ev, pAT, f0, f5, f9, f12, xV, wV, g2, w1, if_true, Int.toNat_natCast, true_and, and_self, reduceIte, Nat.reduceEqDiff]; done))
      | ((with_reducible apply sc_true); (case hc => simp only [ev, pAT, f0, f5, f9, f12, xV, wV, g2, w1, if_true, Int.toNat_natCast, true_and, and_self, reduceIte, Nat.reduceEqDiff]; done)))
    refine ⟨ws.length - (i + 1), by omega, hx, i + 1, by omega, rfl, ?_, ?_, ?_⟩ <;> simp only [at_some, at_none, f0, f5, f9, reduceIte, Nat.reduceEqDiff]
    congr 1
    simp [IntKind.wrap, IntKind.bits, IntKind.signed]; omega
  obtain rfl : i = ws.length := by omega
  have g1 : decide ((ws.length : Int) < (ws.length : Int)) = false := decF (by omega)
  repeat (first
    | (with_reducible refine sc_seq ?_)
    | (with_reducible refine sc_region ?_)
    | (with_reducible refine sc_block ?_)
    | (with_reducible refine sc_scope ?_)
    | ((with_reducible refine sc_skip ?_); dsimp only)
    | ((with_reducible refine sc_label ?_); dsimp only)
    | ((with_reducible refine sc_ret ?_); dsimp only)
    | ((with_reducible refine sc_exit ?_); dsimp only [Nat.beq])
    | ((with_reducible refine so_nil ?_); dsimp only)
    | ((with_reducible apply so_skip); (case hw => simp only [aWanted, aYield, pAT, pG, f0, f5, f9, g1, reduceIte, Nat.reduceEqDiff]; done))
    | ((with_reducible apply so_val); (case hw => simp only [aWanted, aYield, pAT, pG, f0, f5, f9, g1, reduceIte, Nat.reduceEqDiff]; done); (case ha => simp (maxSteps := 1000000) (disch := (refine id ?_; first | assumption | omega | (simp only [pN, pO, oneCell]; done) | (simp only [pN]; omega))) only [aOp, ev, pAT, f0, f5, f9, g1, pI, aInt, aStr, aUn, AR.of, AR.ofB, AR.ofH, reduceIte, Nat.reduceEqDiff, aBuiltin, aLen, aField, aFieldAddr, aIndexAddr, aStore, aLoad, cellsL, oneCell, splice, pC, pL, Nat.reduceBEq, Nat.reduceLeDiff, Nat.reduceMul, Nat.reduceSub, Nat.reduceLT, Nat.reduceAdd, wTrO81] <;> with_reducible rfl))
    | ((with_reducible apply sc_false); (case hc => simp only [ev, pAT, f0, f5, f9, g1, reduceIte, Nat.reduceEqDiff]; done))
    | ((with_reducible apply sc_true); (case hc => simp only [ev, pAT, f0, f5, f9, g1, reduceIte, Nat.reduceEqDiff]; done)))
  apply res_fin (rs := [ResultVar.tmp 2]) trivial
  case h => simp (disch := (refine id ?_; first | assumption | omega | (simp only [pN, pO, oneCell]; done) | (simp only [pN]; omega))) only [aResults, aResult, aOp, ev, pAT, pI, aInt, aStr, aUn, AR.of, AR.ofB, AR.ofH, reduceIte, Nat.reduceEqDiff, aBuiltin, aLen, aField, aFieldAddr, aIndexAddr, aStore, aLoad, cellsL, oneCell, splice, pC, pL, Nat.reduceBEq, Nat.reduceLeDiff, Nat.reduceMul, Nat.reduceSub, Nat.reduceLT, Nat.reduceAdd, wTrO81] <;> with_reducible rfl
  case hq => exact ⟨rfl, hA2.trans (hx.agr _)⟩
end LabelsL
end Go.Am
