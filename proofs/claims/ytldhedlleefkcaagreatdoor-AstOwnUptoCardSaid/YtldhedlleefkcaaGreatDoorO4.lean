import Derived.Test.YtldhedlleefkcaaGreatDoorO3
set_option linter.unusedVariables false
set_option linter.unusedSimpArgs false
namespace Go.Am
open Go.Proofs Go
/-- What a copy's rows are: each in a range of its own. -/
def CW (H : AH) (L M : Nat) (Q : Qd) (vi vw vg : Value) : Prop :=
  ∃ (tv : Nat → Value) (lo hi : Nat → Nat) (h0 l1 h1 h2 : Nat) (ys : List (List Value)), L ≤ h0 ∧ Gb H L h0 4 vi ys ∧ ys.length = Q.its.length ∧
    (∀ (i : Nat) (it : List (List Value) × ByteArray × Int × Int), Q.its[i]? = some it → ys[i]? = some (im (tv i) it.2.1 it.2.2.1 it.2.2.2) ∧ h0 ≤ lo i ∧ hi i ≤ l1 ∧ Gb H (lo i) (hi i) 6 (tv i) it.1 ∧ ∀ k, k < i → hi k ≤ lo i) ∧
    h0 ≤ l1 ∧ l1 ≤ h1 ∧ h1 ≤ h2 ∧ h2 ≤ M ∧ Gb H l1 h1 6 vw Q.wh ∧ Gb H h1 h2 2 vg Q.gr

theorem CW.mono {H H' : AH} (hx : Ext H H') {L M : Nat} {Q : Qd} {vi vw vg : Value} (h : CW H L M Q vi vw vg) : CW H' L M Q vi vw vg := by
  obtain ⟨tv, lo, hi, h0, l1, h1, h2, ys, k0, k1, k2, k3, k4, k5, k8, k9, k6, k7⟩ := h
  exact ⟨tv, lo, hi, h0, l1, h1, h2, ys, k0, k1.mono (hx.agr _), k2, fun i it hit => let ⟨a, b, c, d, e⟩ := k3 i it hit; ⟨a, b, c, d.mono (hx.agr _), e⟩, k4, k5, k8, k9, k6.mono (hx.agr _), k7.mono (hx.agr _)⟩
theorem CW.upd {H : AH} {L M b : Nat} {k : Blk} {Q : Qd} {vi vw vg : Value} (hb : b < L) (h : CW H L M Q vi vw vg) : CW (H.upd b k) L M Q vi vw vg := by
  obtain ⟨tv, lo, hi, h0, l1, h1, h2, ys, k0, k1, k2, k3, k4, k5, k8, k9, k6, k7⟩ := h
  exact ⟨tv, lo, hi, h0, l1, h1, h2, ys, k0, k1.mono (Agr.upd _ (by omega) _), k2, fun i it hit => let ⟨a, b, c, d, e⟩ := k3 i it hit; ⟨a, b, c, d.mono (Agr.upd _ (by omega) _), e⟩, k4, k5, k8, k9, k6.mono (Agr.upd _ (by omega) _), k7.mono (Agr.upd _ (by omega) _)⟩
theorem CW.ir {H : AH} {L M : Nat} {Q : Qd} (hq : Q.Ok) {vi vw vg : Value} (h : CW H L M Q vi vw vg) : IR H vi Q.its ∧ Rd H 6 vw Q.wh ∧ Rd H 2 vg Q.gr := by
  obtain ⟨tv, lo, hi, h0, l1, h1, h2, ys, k0, k1, k2, k3, k4, k5, k8, k9, k6, k7⟩ := h
  refine ⟨⟨ys, k1.gr.rd ?_, k2, fun i it hit => ?_⟩, k6.gr.rd (nodes_len hq.wh), k7.gr.rd (labels_len hq.gr)⟩
  · intro y hy
    obtain ⟨i, hlt, rfl⟩ := List.getElem_of_mem hy
    obtain ⟨a, _⟩ := k3 i (Q.its[i]'(by omega)) (List.getElem?_eq_getElem (by omega))
    rw [List.getElem?_eq_getElem hlt] at a
    rw [Option.some.inj a]; rfl
  · obtain ⟨a, _, _, d, _⟩ := k3 i it hit
    exact ⟨_, a, d.gr.rd (nodes_len (hq.its it (List.mem_of_getElem? hit)).1)⟩

theorem wTrO41 : type_of% (And.intro @cfg_P <| And.intro @sz3 <| And.intro @sz38 <| And.intro @agg3 <| And.intro @agg38 <| And.intro @und25 <| And.intro @fld38_4 <| And.intro @fld38_5 <| And.intro @zero38 <| And.intro @und26 <| And.intro @und22 <| And.intro @sz24 <| And.intro @sz33 <| And.intro @sz9 <| And.intro @a9 <| And.intro @agg24 <| And.intro @fld24_0 <| And.intro @fld24_1 <| And.intro @f29_0 <| And.intro @f29_1 <| And.intro @f29_2 <| And.intro @f29_3 <| And.intro @f29_4 <| And.intro @f29_5 <| And.intro @f29_6 <| And.intro @f29_7 <| And.intro @f29_8 <| And.intro @f29_9 <| And.intro @f29_10 <| And.intro @f33_0 <| And.intro @f33_1 <| And.intro @f33_2 <| And.intro @s22 <| And.intro @s25 <| And.intro @s26 <| And.intro @s27 <| And.intro @s2 <| And.intro @s29 <| And.intro @g22 <| And.intro @g25 <| And.intro @g26 <| And.intro @g27 <| And.intro @g29 <| And.intro @g33 <| And.intro @a2 <| And.intro @zero29 <| And.intro @zero33 <| And.intro @fld38_0 <| And.intro @sz35 <| @a35) := And.intro @cfg_P <| And.intro @sz3 <| And.intro @sz38 <| And.intro @agg3 <| And.intro @agg38 <| And.intro @und25 <| And.intro @fld38_4 <| And.intro @fld38_5 <| And.intro @zero38 <| And.intro @und26 <| And.intro @und22 <| And.intro @sz24 <| And.intro @sz33 <| And.intro @sz9 <| And.intro @a9 <| And.intro @agg24 <| And.intro @fld24_0 <| And.intro @fld24_1 <| And.intro @f29_0 <| And.intro @f29_1 <| And.intro @f29_2 <| And.intro @f29_3 <| And.intro @f29_4 <| And.intro @f29_5 <| And.intro @f29_6 <| And.intro @f29_7 <| And.intro @f29_8 <| And.intro @f29_9 <| And.intro @f29_10 <| And.intro @f33_0 <| And.intro @f33_1 <| And.intro @f33_2 <| And.intro @s22 <| And.intro @s25 <| And.intro @s26 <| And.intro @s27 <| And.intro @s2 <| And.intro @s29 <| And.intro @g22 <| And.intro @g25 <| And.intro @g26 <| And.intro @g27 <| And.intro @g29 <| And.intro @g33 <| And.intro @a2 <| And.intro @zero29 <| And.intro @zero33 <| And.intro @fld38_0 <| And.intro @sz35 <| @a35
set_option maxRecDepth 10000 in
set_option maxHeartbeats 8000000 in
theorem copy_wf (H : AH) (hb : H.base ≤ H.next) (Q : Qd) (hq : Q.Ok) (vi vw vg : Value) (hi : IR H vi Q.its) (hw : Rd H 6 vw Q.wh) (hg : Rd H 2 vg Q.gr) :
    Wf cfg 10 [.agg (qc Q vi vw vg).toArray] H fun v H' => ∃ vi' vw' vg', v = .agg (qc Q vi' vw' vg').toArray ∧ CW H' H.next H'.next Q vi' vw' vg' ∧ Ext H H' := by
  obtain ⟨xs, hr, hxl, hxs⟩ := id hi
  have hIt : Items xs := by
    intro x hx
    obtain ⟨i, hlt, rfl⟩ := List.getElem_of_mem hx
    obtain ⟨tv, k1, k2⟩ := hxs i (Q.its[i]'(by omega)) (List.getElem?_eq_getElem (by omega))
    rw [List.getElem?_eq_getElem hlt] at k1
    obtain ⟨a, c, rfl, _⟩ := k2
    exact ⟨_, _, _, _, Option.some.inj k1, rfl⟩
  obtain ⟨n1, n2, rfl⟩ := hi.len
  obtain ⟨n3, n4, rfl, _⟩ := id hw
  obtain ⟨n5, n6, rfl, _⟩ := id hg
  have hql := hq.len
  refine wf_text (fn := Tryz.f10) rfl Tryz.func10 rfl rfl ?_
  repeat (first
    | (with_reducible refine sc_seq ?_)
    | (with_reducible refine sc_region ?_)
    | (with_reducible refine sc_block ?_)
    | (with_reducible refine sc_scope ?_)
    | ((with_reducible refine sc_skip ?_); dsimp only)
    | ((with_reducible refine sc_label ?_); dsimp only)
    | ((with_reducible refine sc_ret ?_); dsimp only)
    | ((with_reducible refine sc_exit ?_); dsimp only [Nat.beq])
    | ((with_reducible refine so_nil ?_); dsimp only)
    | ((with_reducible apply so_skip); (case hw => simp only [aWanted, aYield, pAT, pG, reduceIte, Nat.reduceEqDiff]; done))
    | ((with_reducible apply so_val); (case hw => simp only [aWanted, aYield, pAT, pG, reduceIte, Nat.reduceEqDiff]; done); (case ha => simp (maxSteps := 1000000) (disch := (refine id ?_; first | assumption | omega | (simp only [pN, pO, oneCell]; done) | (simp only [pN]; omega))) only [aOp, ev, pAT, pI, aInt, aStr, aUn, AR.of, AR.ofB, AR.ofH, reduceIte, Nat.reduceEqDiff, aBuiltin, aLen, aField, aFieldAddr, aIndexAddr, aStore, aLoad, cellsL, oneCell, splice, pC, pL, Nat.reduceBEq, Nat.reduceLeDiff, Nat.reduceMul, Nat.reduceSub, Nat.reduceLT, Nat.reduceAdd, wTrO41] <;> with_reducible rfl))
    | ((with_reducible apply sc_false); (case hc => simp only [ev, pAT, reduceIte, Nat.reduceEqDiff]; done))
    | ((with_reducible apply sc_true); (case hc => simp only [ev, pAT, reduceIte, Nat.reduceEqDiff]; done)))
  first
    | ((with_reducible apply so_call); (case hw => simp only [aWanted, aYield, pAT, pG, reduceIte, Nat.reduceEqDiff]; done); (case ha => simp (maxSteps := 1000000) (disch := (refine id ?_; first | assumption | omega | (simp only [pN, pO, oneCell]; done) | (simp only [pN]; omega))) only [aOp, ev, pAT, pI, aInt, aStr, aUn, AR.of, AR.ofB, AR.ofH, reduceIte, Nat.reduceEqDiff, aBuiltin, aLen, aField, aFieldAddr, aIndexAddr, aStore, aLoad, cellsL, oneCell, splice, pC, pL, Nat.reduceBEq, Nat.reduceLeDiff, Nat.reduceMul, Nat.reduceSub, Nat.reduceLT, Nat.reduceAdd, wTrO41] <;> with_reducible rfl))
    | ((with_reducible apply so_callD); (case hw => simp only [aWanted, aYield, pAT, pG, reduceIte, Nat.reduceEqDiff]; done); (case ha => simp (maxSteps := 1000000) (disch := (first | omega | (simp only [new_next, new_base, upd_next, upd_base, List.length_cons, List.length_nil, List.all_cons, List.all_nil, oneCell, Bool.and_self, Bool.and_true]; done) | (simp only [new_next, new_base, upd_next, upd_base, List.length_cons, List.length_nil]; omega))) only [aOp, ev, pAT, pI, aInt, aStr, aUn, AR.of, AR.ofB, AR.ofH, reduceIte, Nat.reduceEqDiff, aBuiltin, aLen, aField, aFieldAddr, aIndexAddr, aStore, aLoad, cellsL, oneCell, splice, pC, pL, Nat.reduceBEq, Nat.reduceLeDiff, Nat.reduceMul, Nat.reduceSub, Nat.reduceLT, Nat.reduceAdd, wTrO41] <;> with_reducible rfl))
  have hT : Ext H ((H.new (.cells (qc Q (.slice n1 Q.its.length n2) (.slice n3 Q.wh.length n4) (.slice n5 Q.gr.length n6)) 0 .solo)).new (.cells z29 0 .solo)) := (Ext.new H _).step _
  refine (clone22_wf _ (by simp only [new_base, new_next]; omega) _ xs (hr.mono hT) hIt (by omega)).mono ?_
  rintro r1 T1 ⟨hgr, hx1⟩
  have hgb := hgr.gb
  simp only [new_next] at hgb
  obtain ⟨xB, xN, xC, xL, xS⟩ := hx1.box (b := H.next) (by first | assumption | omega | (simp only [new_next, upd_next]; omega)) (by first | assumption | (simp (disch := (refine id ?_; first | assumption | omega | (simp only [pN, pO, oneCell]; done) | (simp only [pN]; omega))) only [get_new_ne, get_new_eq, get_upd_ne, get_upd_eq] <;> first | rfl | assumption))
  obtain ⟨zB, zN, zC, zL, zS⟩ := hx1.box (b := (H.next + 1)) (by first | assumption | omega | (simp only [new_next, upd_next]; omega)) (by first | assumption | (simp (disch := (refine id ?_; first | assumption | omega | (simp only [pN, pO, oneCell]; done) | (simp only [pN]; omega))) only [get_new_ne, get_new_eq, get_upd_ne, get_upd_eq] <;> first | rfl | assumption))
  have hHT := hT.trans hx1
  have hTn := hx1.next
  simp only [new_next] at hTn
  clear hgr hx1 hT
  obtain ⟨ra, rfl⟩ := hgb.val
  rw [hxl] at hgb ⊢
  have hbT : T1.base ≤ H.next := by rw [hHT.base]; exact hb
  repeat (first
    | (with_reducible refine sc_seq ?_)
    | (with_reducible refine sc_region ?_)
    | (with_reducible refine sc_block ?_)
    | (with_reducible refine sc_scope ?_)
    | ((with_reducible refine sc_skip ?_); dsimp only)
    | ((with_reducible refine sc_label ?_); dsimp only)
    | ((with_reducible refine sc_ret ?_); dsimp only)
    | ((with_reducible refine sc_exit ?_); dsimp only [Nat.beq])
    | ((with_reducible refine so_nil ?_); dsimp only)
    | ((with_reducible apply so_skip); (case hw => simp only [aWanted, aYield, pAT, pG, xC, xS, reduceIte, Nat.reduceEqDiff]; done))
    | ((with_reducible apply so_val); (case hw => simp only [aWanted, aYield, pAT, pG, xC, xS, reduceIte, Nat.reduceEqDiff]; done); (case ha => simp (maxSteps := 1000000) (disch := (refine id ?_; first | assumption | omega | (simp only [pN, pO, oneCell]; done) | (simp only [pN]; omega))) only [aOp, ev, pAT, xC, xS, pI, aInt, aStr, aUn, AR.of, AR.ofB, AR.ofH, reduceIte, Nat.reduceEqDiff, aBuiltin, aLen, aField, aFieldAddr, aIndexAddr, aStore, aLoad, cellsL, oneCell, splice, pC, pL, Nat.reduceBEq, Nat.reduceLeDiff, Nat.reduceMul, Nat.reduceSub, Nat.reduceLT, Nat.reduceAdd, wTrO41] <;> with_reducible rfl))
    | ((with_reducible apply sc_false); (case hc => simp only [ev, pAT, xC, xS, reduceIte, Nat.reduceEqDiff]; done))
    | ((with_reducible apply sc_true); (case hc => simp only [ev, pAT, xC, xS, reduceIte, Nat.reduceEqDiff]; done)))
  refine sc_loop (I := fun n fr G => Ext H G ∧ T1.next ≤ G.next ∧ G.blk.get H.next = some (.cells (qc Q (.slice ra Q.its.length Q.its.length) (.slice n3 Q.wh.length n4) (.slice n5 Q.gr.length n6)) 0 .solo) ∧ G.blk.get (H.next + 1) = some (.cells z29 0 .solo) ∧
    ∃ (t : Nat) (tv : Nat → Value) (lo hi : Nat → Nat) (ys : List (List Value)), t ≤ Q.its.length ∧ n = Q.its.length - t ∧ ys.length = Q.its.length ∧ Gb G (H.next + 1 + 1) T1.next 4 (.slice ra Q.its.length Q.its.length) ys ∧
      (∀ (i : Nat) (it : List (List Value) × ByteArray × Int × Int), i < t → Q.its[i]? = some it → ys[i]? = some (im (tv i) it.2.1 it.2.2.1 it.2.2.2) ∧ T1.next ≤ lo i ∧ hi i ≤ G.next ∧ Gb G (lo i) (hi i) 6 (tv i) it.1 ∧ ∀ k, k < i → hi k ≤ lo i) ∧
      (∀ i, t ≤ i → ys[i]? = xs[i]?) ∧
      Fr.at fr 1 = .pointer (some ⟨H.next, 0, none⟩) ∧ Fr.at fr 2 = .pointer (some ⟨H.next + 1, 0, none⟩) ∧ Fr.at fr 10 = .int .i64 Q.its.length ∧ Fr.at fr 11 = .int .i64 t) ?_ Q.its.length _ _ ?_
  rotate_left
  · refine ⟨hHT.upd (Nat.le_refl _) _, Nat.le_refl _, get_upd_eq rfl, (get_upd_ne (by omega)).trans zB, 0, fun _ => .nilIface, fun _ => 0, fun _ => 0, xs, by omega, rfl, hxl, hgb.mono (Agr.upd _ (by omega) _), fun i it h => by omega, fun _ _ => rfl, ?_, ?_, ?_, ?_⟩ <;>
      simp only [at_some, at_none, at_args, ev, reduceIte, Nat.reduceEqDiff] <;> rfl
  clear xB xN xC xL xS zB zN zC zL zS hgb hbT
  rintro n fr G ⟨hG, hTG, xB, zB, t, tv, lo, hh, ys, ht, rfl, hys, hgb, hdone, htodo, f1, f2, f10, f11⟩
  obtain ⟨_, xN, xC, xL, xS⟩ := box_facts xB (by omega)
  have hbG : G.base ≤ H.next := by rw [hG.base]; exact hb
  have hlen4 : ∀ y ∈ ys, y.length = 4 := by
    intro y hy
    obtain ⟨i, hlt, rfl⟩ := List.getElem_of_mem hy
    by_cases hit : i < t
    · obtain ⟨k1, _⟩ := hdone i (Q.its[i]'(by omega)) hit (List.getElem?_eq_getElem (by omega))
      rw [List.getElem?_eq_getElem hlt] at k1
      rw [Option.some.inj k1]; rfl
    · have k1 := htodo i (by omega)
      rw [List.getElem?_eq_getElem hlt, List.getElem?_eq_getElem (by omega)] at k1
      rw [Option.some.inj k1]
      exact items_len hIt _ (List.getElem_mem _)
  by_cases hlt : t < Q.its.length
  · obtain ⟨it, hit⟩ : ∃ it, Q.its[t]? = some it := ⟨_, List.getElem?_eq_getElem hlt⟩
    obtain ⟨hn, hnl⟩ := hq.its it (List.mem_of_getElem? hit)
    obtain ⟨tv0, hxt, hr0⟩ := hxs t it hit
    have hyt : ys[t]? = some (im tv0 it.2.1 it.2.2.1 it.2.2.2) := (htodo t (Nat.le_refl _)).trans hxt
    obtain ⟨b, hv, hb1, hb2, hb3, l1, m1⟩ := hgb.at hlen4 hyt
    rw [hys] at hv
    have m10 := m1 0 (by omega)
    simp only [Nat.add_zero, List.getElem?_cons_zero] at m10
    have g1 : decide ((t : Int) < (Q.its.length : Int)) = true := decT (by omega)
    have g2 : (0 ≤ (t : Int) ∧ (t : Int) < (Q.its.length : Int)) := by omega
    rw [hv] at xC
    repeat (first
      | (with_reducible refine sc_seq ?_)
      | (with_reducible refine sc_region ?_)
      | (with_reducible refine sc_block ?_)
      | (with_reducible refine sc_scope ?_)
      | ((with_reducible refine sc_skip ?_); dsimp only)
      | ((with_reducible refine sc_label ?_); dsimp only)
      | ((with_reducible refine sc_ret ?_); dsimp only)
      | ((with_reducible refine sc_exit ?_); dsimp only [Nat.beq])
      | ((with_reducible refine so_nil ?_); dsimp only)
      | ((with_reducible apply so_skip); (case hw => simp only [aWanted, aYield, pAT, pG, f1, f10, f11, xC, g1, g2, m10, if_true, Int.toNat_natCast, true_and, and_self, reduceIte, Nat.reduceEqDiff]; done))
      | ((with_reducible apply so_val); (case hw => simp only [aWanted, aYield, pAT, pG, f1, f10, f11, xC, g1, g2, m10, if_true, Int.toNat_natCast, true_and, and_self, reduceIte, Nat.reduceEqDiff]; done); (case ha => simp (maxSteps := 1000000) (disch := (refine id ?_; first | assumption | omega | (simp only [pN, pO, oneCell]; done) | (simp only [pN]; omega))) only [aOp, ev, pAT, f1, f10, f11, xC, g1, g2, m10, if_true, Int.toNat_natCast, true_and, and_self, pI, aInt, aStr, aUn, AR.of, AR.ofB, AR.ofH, reduceIte, Nat.reduceEqDiff, aBuiltin, aLen, aField, aFieldAddr, aIndexAddr, aStore, aLoad, cellsL, oneCell, splice, pC, pL, Nat.reduceBEq, Nat.reduceLeDiff, Nat.reduceMul, Nat.reduceSub, Nat.reduceLT, Nat.reduceAdd, wTrO41] <;> with_reducible rfl))
      | ((with_reducible apply sc_false); (case hc => simp only [ev, pAT, f1, f10, f11, xC, g1, g2, m10, if_true, Int.toNat_natCast, true_and, and_self, reduceIte, Nat.reduceEqDiff]; done))
      | ((with_reducible apply sc_true); (case hc => simp only [ev, pAT, f1, f10, f11, xC, g1, g2, m10, if_true, Int.toNat_natCast, true_and, and_self, reduceIte, Nat.reduceEqDiff]; done)))
    first
      | ((with_reducible apply so_call); (case hw => simp only [aWanted, aYield, pAT, pG, f1, f10, f11, reduceIte, Nat.reduceEqDiff]; done); (case ha => simp (maxSteps := 1000000) (disch := (refine id ?_; first | assumption | omega | (simp only [pN, pO, oneCell]; done) | (simp only [pN]; omega))) only [aOp, ev, pAT, f1, f10, f11, pI, aInt, aStr, aUn, AR.of, AR.ofB, AR.ofH, reduceIte, Nat.reduceEqDiff, aBuiltin, aLen, aField, aFieldAddr, aIndexAddr, aStore, aLoad, cellsL, oneCell, splice, pC, pL, Nat.reduceBEq, Nat.reduceLeDiff, Nat.reduceMul, Nat.reduceSub, Nat.reduceLT, Nat.reduceAdd, wTrO41] <;> with_reducible rfl))
      | ((with_reducible apply so_callD); (case hw => simp only [aWanted, aYield, pAT, pG, f1, f10, f11, reduceIte, Nat.reduceEqDiff]; done); (case ha => simp (maxSteps := 1000000) (disch := (first | omega | (simp only [new_next, new_base, upd_next, upd_base, List.length_cons, List.length_nil, List.all_cons, List.all_nil, oneCell, Bool.and_self, Bool.and_true]; done) | (simp only [new_next, new_base, upd_next, upd_base, List.length_cons, List.length_nil]; omega))) only [aOp, ev, pAT, f1, f10, f11, pI, aInt, aStr, aUn, AR.of, AR.ofB, AR.ofH, reduceIte, Nat.reduceEqDiff, aBuiltin, aLen, aField, aFieldAddr, aIndexAddr, aStore, aLoad, cellsL, oneCell, splice, pC, pL, Nat.reduceBEq, Nat.reduceLeDiff, Nat.reduceMul, Nat.reduceSub, Nat.reduceLT, Nat.reduceAdd, wTrO41] <;> with_reducible rfl))
    refine (clone25_wf _ (Nat.le_refl _) tv0 it.1 (hr0.mono hG).wb hn hnl).mono ?_
    rintro r G1 ⟨hgr, hx1⟩
    have hx1 := Ext.wb hx1
    have hgr := hgr.wb (β := G.base)
    generalize G1.wb _ = G2 at hx1 hgr ⊢
    obtain ⟨rr, rfl⟩ := hgr.gb.val
    have hone : oneCell (.slice rr it.1.length it.1.length) = true := rfl
    obtain ⟨b', hv', H', hst, hnx, hgb', hag⟩ := (hgb.mono (hx1.agr _)).set hlen4 (by rw [hx1.base]; omega) hyt (j := 0) (by omega) hone
    rw [hys, hv] at hv'
    simp only [Value.slice.injEq, Option.some.injEq, Addr.mk.injEq, and_true] at hv'
    subst hv'
    simp only [Nat.add_zero] at hst
    repeat (first
      | (with_reducible refine sc_seq ?_)
      | (with_reducible refine sc_region ?_)
      | (with_reducible refine sc_block ?_)
      | (with_reducible refine sc_scope ?_)
      | ((with_reducible refine sc_skip ?_); dsimp only)
      | ((with_reducible refine sc_label ?_); dsimp only)
      | ((with_reducible refine sc_ret ?_); dsimp only)
      | ((with_reducible refine sc_exit ?_); dsimp only [Nat.beq])
      | ((with_reducible refine so_nil ?_); dsimp only)
      | ((with_reducible apply so_skip); (case hw => simp only [aWanted, aYield, pAT, pG, f1, f10, f11, g2, hst, if_true, Int.toNat_natCast, true_and, and_self, reduceIte, Nat.reduceEqDiff]; done))
      | ((with_reducible apply so_val); (case hw => simp only [aWanted, aYield, pAT, pG, f1, f10, f11, g2, hst, if_true, Int.toNat_natCast, true_and, and_self, reduceIte, Nat.reduceEqDiff]; done); (case ha => simp (maxSteps := 1000000) (disch := (refine id ?_; first | assumption | omega | (simp only [pN, pO, oneCell]; done) | (simp only [pN]; omega))) only [aOp, ev, pAT, f1, f10, f11, g2, hst, if_true, Int.toNat_natCast, true_and, and_self, pI, aInt, aStr, aUn, AR.of, AR.ofB, AR.ofH, reduceIte, Nat.reduceEqDiff, aBuiltin, aLen, aField, aFieldAddr, aIndexAddr, aStore, aLoad, cellsL, oneCell, splice, pC, pL, Nat.reduceBEq, Nat.reduceLeDiff, Nat.reduceMul, Nat.reduceSub, Nat.reduceLT, Nat.reduceAdd, wTrO41] <;> with_reducible rfl))
      | ((with_reducible apply sc_false); (case hc => simp only [ev, pAT, f1, f10, f11, g2, hst, if_true, Int.toNat_natCast, true_and, and_self, reduceIte, Nat.reduceEqDiff]; done))
      | ((with_reducible apply sc_true); (case hc => simp only [ev, pAT, f1, f10, f11, g2, hst, if_true, Int.toNat_natCast, true_and, and_self, reduceIte, Nat.reduceEqDiff]; done)))
    have hA : Agr (fun j => ¬ (H.next + 1 + 1 ≤ j ∧ j < T1.next)) G2 H' := hag _ (fun j h => h)
    have hn12 := hx1.next
    refine ⟨Q.its.length - (t + 1), by omega, hA.ext (hG.trans hx1) (fun j h => by omega), by omega, ?_, ?_, t + 1, fun i => if i = t then .slice rr it.1.length it.1.length else tv i, fun i => if i = t then G.next else lo i, fun i => if i = t then G2.next else hh i, _, by omega, rfl, by rw [List.length_set]; exact hys, hgb', ?_, ?_, ?_, ?_, ?_, ?_⟩
    · exact (hA.blk _ (by omega) (by omega)).trans ((hx1.blk _ (by omega)).trans xB)
    · exact (hA.blk _ (by omega) (by omega)).trans ((hx1.blk _ (by omega)).trans zB)
    · intro i it' hi' hit'
      by_cases e : i = t
      · subst e
        rw [hit] at hit'
        cases hit'
        simp only [if_true]
        refine ⟨?_, hTG, by omega, ?_, fun k hk => ?_⟩
        · rw [List.getElem?_set_self (by omega)]; rfl
        · exact (hgr.gb).mono (hA.imp (fun j h => by have h' : G.next ≤ j ∧ j < G2.next := h; omega))
        · rw [if_neg (by omega)]
          obtain ⟨_, _, k3, _⟩ := hdone k (Q.its[k]'(by omega)) hk (List.getElem?_eq_getElem (by omega))
          exact k3
      · obtain ⟨k1, k2, k3, k4, k5⟩ := hdone i it' (by omega) hit'
        simp only [if_neg e]
        refine ⟨?_, k2, by omega, ?_, fun k hk => ?_⟩
        · rw [List.getElem?_set_ne (fun h => e h.symm)]; exact k1
        · exact (k4.mono (hx1.agr _)).mono (hA.imp (fun j h => by omega))
        · rw [if_neg (by omega)]; exact k5 k hk
    · intro i hi'
      rw [List.getElem?_set_ne (by omega)]
      exact htodo i (by omega)
    all_goals simp only [at_some, at_none, f1, f2, f10, f11, reduceIte, Nat.reduceEqDiff]
    congr 1
    simp [IntKind.wrap, IntKind.bits, IntKind.signed]; omega
  · obtain rfl : t = Q.its.length := by omega
    have g1 : decide ((Q.its.length : Int) < (Q.its.length : Int)) = false := decF (by omega)
    repeat (first
      | (with_reducible refine sc_seq ?_)
      | (with_reducible refine sc_region ?_)
      | (with_reducible refine sc_block ?_)
      | (with_reducible refine sc_scope ?_)
      | ((with_reducible refine sc_skip ?_); dsimp only)
      | ((with_reducible refine sc_label ?_); dsimp only)
      | ((with_reducible refine sc_ret ?_); dsimp only)
      | ((with_reducible refine sc_exit ?_); dsimp only [Nat.beq])
      | ((with_reducible refine so_nil ?_); dsimp only)
      | ((with_reducible apply so_skip); (case hw => simp only [aWanted, aYield, pAT, pG, f1, f10, f11, xC, g1, reduceIte, Nat.reduceEqDiff]; done))
      | ((with_reducible apply so_val); (case hw => simp only [aWanted, aYield, pAT, pG, f1, f10, f11, xC, g1, reduceIte, Nat.reduceEqDiff]; done); (case ha => simp (maxSteps := 1000000) (disch := (refine id ?_; first | assumption | omega | (simp only [pN, pO, oneCell]; done) | (simp only [pN]; omega))) only [aOp, ev, pAT, f1, f10, f11, xC, g1, pI, aInt, aStr, aUn, AR.of, AR.ofB, AR.ofH, reduceIte, Nat.reduceEqDiff, aBuiltin, aLen, aField, aFieldAddr, aIndexAddr, aStore, aLoad, cellsL, oneCell, splice, pC, pL, Nat.reduceBEq, Nat.reduceLeDiff, Nat.reduceMul, Nat.reduceSub, Nat.reduceLT, Nat.reduceAdd, wTrO41] <;> with_reducible rfl))
      | ((with_reducible apply sc_false); (case hc => simp only [ev, pAT, f1, f10, f11, xC, g1, reduceIte, Nat.reduceEqDiff]; done))
      | ((with_reducible apply sc_true); (case hc => simp only [ev, pAT, f1, f10, f11, xC, g1, reduceIte, Nat.reduceEqDiff]; done)))
    first
      | ((with_reducible apply so_call); (case hw => simp only [aWanted, aYield, pAT, pG, f1, f10, f11, xC, reduceIte, Nat.reduceEqDiff]; done); (case ha => simp (maxSteps := 1000000) (disch := (refine id ?_; first | assumption | omega | (simp only [pN, pO, oneCell]; done) | (simp only [pN]; omega))) only [aOp, ev, pAT, f1, f10, f11, xC, pI, aInt, aStr, aUn, AR.of, AR.ofB, AR.ofH, reduceIte, Nat.reduceEqDiff, aBuiltin, aLen, aField, aFieldAddr, aIndexAddr, aStore, aLoad, cellsL, oneCell, splice, pC, pL, Nat.reduceBEq, Nat.reduceLeDiff, Nat.reduceMul, Nat.reduceSub, Nat.reduceLT, Nat.reduceAdd, wTrO41] <;> with_reducible rfl))
      | ((with_reducible apply so_callD); (case hw => simp only [aWanted, aYield, pAT, pG, f1, f10, f11, xC, reduceIte, Nat.reduceEqDiff]; done); (case ha => simp (maxSteps := 1000000) (disch := (first | omega | (simp only [new_next, new_base, upd_next, upd_base, List.length_cons, List.length_nil, List.all_cons, List.all_nil, oneCell, Bool.and_self, Bool.and_true]; done) | (simp only [new_next, new_base, upd_next, upd_base, List.length_cons, List.length_nil]; omega))) only [aOp, ev, pAT, f1, f10, f11, xC, pI, aInt, aStr, aUn, AR.of, AR.ofB, AR.ofH, reduceIte, Nat.reduceEqDiff, aBuiltin, aLen, aField, aFieldAddr, aIndexAddr, aStore, aLoad, cellsL, oneCell, splice, pC, pL, Nat.reduceBEq, Nat.reduceLeDiff, Nat.reduceMul, Nat.reduceSub, Nat.reduceLT, Nat.reduceAdd, wTrO41] <;> with_reducible rfl))
    refine (clone25_wf _ (by omega) _ Q.wh (hw.mono hG) hq.wh hq.whl).mono ?_
    rintro r2 G1 ⟨hgr2, hx1⟩
    obtain ⟨uB, uN, uC, uL, uS⟩ := hx1.box (b := H.next) (by first | assumption | omega | (simp only [new_next, upd_next]; omega)) (by first | assumption | (simp (disch := (refine id ?_; first | assumption | omega | (simp only [pN, pO, oneCell]; done) | (simp only [pN]; omega))) only [get_new_ne, get_new_eq, get_upd_ne, get_upd_eq] <;> first | rfl | assumption))
    obtain ⟨wB, wN, wC, wL, wS⟩ := hx1.box (b := (H.next + 1)) (by first | assumption | omega | (simp only [new_next, upd_next]; omega)) (by first | assumption | (simp (disch := (refine id ?_; first | assumption | omega | (simp only [pN, pO, oneCell]; done) | (simp only [pN]; omega))) only [get_new_ne, get_new_eq, get_upd_ne, get_upd_eq] <;> first | rfl | assumption))
    have hbT : G1.base ≤ H.next := by rw [hx1.base]; exact hbG
    obtain ⟨ra2, rfl⟩ := hgr2.gb.val
    repeat (first
      | (with_reducible refine sc_seq ?_)
      | (with_reducible refine sc_region ?_)
      | (with_reducible refine sc_block ?_)
      | (with_reducible refine sc_scope ?_)
      | ((with_reducible refine sc_skip ?_); dsimp only)
      | ((with_reducible refine sc_label ?_); dsimp only)
      | ((with_reducible refine sc_ret ?_); dsimp only)
      | ((with_reducible refine sc_exit ?_); dsimp only [Nat.beq])
      | ((with_reducible refine so_nil ?_); dsimp only)
      | ((with_reducible apply so_skip); (case hw => simp only [aWanted, aYield, pAT, pG, f1, f2, uC, uS, reduceIte, Nat.reduceEqDiff]; done))
      | ((with_reducible apply so_val); (case hw => simp only [aWanted, aYield, pAT, pG, f1, f2, uC, uS, reduceIte, Nat.reduceEqDiff]; done); (case ha => simp (maxSteps := 1000000) (disch := (refine id ?_; first | assumption | omega | (simp only [pN, pO, oneCell]; done) | (simp only [pN]; omega))) only [aOp, ev, pAT, f1, f2, uC, uS, pI, aInt, aStr, aUn, AR.of, AR.ofB, AR.ofH, reduceIte, Nat.reduceEqDiff, aBuiltin, aLen, aField, aFieldAddr, aIndexAddr, aStore, aLoad, cellsL, oneCell, splice, pC, pL, Nat.reduceBEq, Nat.reduceLeDiff, Nat.reduceMul, Nat.reduceSub, Nat.reduceLT, Nat.reduceAdd, wTrO41] <;> with_reducible rfl))
      | ((with_reducible apply sc_false); (case hc => simp only [ev, pAT, f1, f2, uC, uS, reduceIte, Nat.reduceEqDiff]; done))
      | ((with_reducible apply sc_true); (case hc => simp only [ev, pAT, f1, f2, uC, uS, reduceIte, Nat.reduceEqDiff]; done)))
    first
      | ((with_reducible apply so_call); (case hw => simp only [aWanted, aYield, pAT, pG, f1, f2, uC, reduceIte, Nat.reduceEqDiff]; done); (case ha => simp (maxSteps := 1000000) (disch := (refine id ?_; first | assumption | omega | (simp only [pN, pO, oneCell]; done) | (simp only [pN]; omega))) only [aOp, ev, pAT, f1, f2, uC, pI, aInt, aStr, aUn, AR.of, AR.ofB, AR.ofH, reduceIte, Nat.reduceEqDiff, aBuiltin, aLen, aField, aFieldAddr, aIndexAddr, aStore, aLoad, cellsL, oneCell, splice, pC, pL, Nat.reduceBEq, Nat.reduceLeDiff, Nat.reduceMul, Nat.reduceSub, Nat.reduceLT, Nat.reduceAdd, wTrO41] <;> with_reducible rfl))
      | ((with_reducible apply so_callD); (case hw => simp only [aWanted, aYield, pAT, pG, f1, f2, uC, reduceIte, Nat.reduceEqDiff]; done); (case ha => simp (maxSteps := 1000000) (disch := (first | omega | (simp only [new_next, new_base, upd_next, upd_base, List.length_cons, List.length_nil, List.all_cons, List.all_nil, oneCell, Bool.and_self, Bool.and_true]; done) | (simp only [new_next, new_base, upd_next, upd_base, List.length_cons, List.length_nil]; omega))) only [aOp, ev, pAT, f1, f2, uC, pI, aInt, aStr, aUn, AR.of, AR.ofB, AR.ofH, reduceIte, Nat.reduceEqDiff, aBuiltin, aLen, aField, aFieldAddr, aIndexAddr, aStore, aLoad, cellsL, oneCell, splice, pC, pL, Nat.reduceBEq, Nat.reduceLeDiff, Nat.reduceMul, Nat.reduceSub, Nat.reduceLT, Nat.reduceAdd, wTrO41] <;> with_reducible rfl))
    have hx2 : Ext H (G1.upd H.next (.cells (qc Q (.slice ra Q.its.length Q.its.length) (.slice ra2 Q.wh.length Q.wh.length) (.slice n5 Q.gr.length n6)) 0 .solo)) := (hG.trans hx1).upd (Nat.le_refl _) _
    refine (clone26_wf _ (by simp only [upd_base, upd_next]; omega) _ Q.gr (hg.mono hx2) hq.gr hq.grl).mono ?_
    rintro r3 G3 ⟨hgr3, hx3⟩
    obtain ⟨ra3, rfl⟩ := hgr3.gb.val
    obtain ⟨xB', xN', xC', xL', xS'⟩ := hx3.box (b := H.next) (by simp only [upd_next]; omega) (get_upd_eq rfl)
    obtain ⟨zB', zN', _, _, zS'⟩ := hx3.box (b := H.next + 1) (by simp only [upd_next]; omega) ((get_upd_ne (by omega)).trans wB)
    have hbH' : G3.base ≤ H.next := by rw [hx3.base]; simp only [upd_base]; exact hbT
    repeat (first
      | (with_reducible refine sc_seq ?_)
      | (with_reducible refine sc_region ?_)
      | (with_reducible refine sc_block ?_)
      | (with_reducible refine sc_scope ?_)
      | ((with_reducible refine sc_skip ?_); dsimp only)
      | ((with_reducible refine sc_label ?_); dsimp only)
      | ((with_reducible refine sc_ret ?_); dsimp only)
      | ((with_reducible refine sc_exit ?_); dsimp only [Nat.beq])
      | ((with_reducible refine so_nil ?_); dsimp only)
      | ((with_reducible apply so_skip); (case hw => simp only [aWanted, aYield, pAT, pG, f1, f2, xC', xS', zS', reduceIte, Nat.reduceEqDiff]; done))
      | ((with_reducible apply so_val); (case hw => simp only [aWanted, aYield, pAT, pG, f1, f2, xC', xS', zS', reduceIte, Nat.reduceEqDiff]; done); (case ha => simp (maxSteps := 1000000) (disch := (refine id ?_; first | assumption | omega | (simp only [pN, pO, oneCell]; done) | (simp only [pN]; omega))) only [aOp, ev, pAT, f1, f2, xC', xS', zS', pI, aInt, aStr, aUn, AR.of, AR.ofB, AR.ofH, reduceIte, Nat.reduceEqDiff, aBuiltin, aLen, aField, aFieldAddr, aIndexAddr, aStore, aLoad, cellsL, oneCell, splice, pC, pL, Nat.reduceBEq, Nat.reduceLeDiff, Nat.reduceMul, Nat.reduceSub, Nat.reduceLT, Nat.reduceAdd, wTrO41] <;> with_reducible rfl))
      | ((with_reducible apply sc_false); (case hc => simp only [ev, pAT, f1, f2, xC', xS', zS', reduceIte, Nat.reduceEqDiff]; done))
      | ((with_reducible apply sc_true); (case hc => simp only [ev, pAT, f1, f2, xC', xS', zS', reduceIte, Nat.reduceEqDiff]; done)))
    apply res_fin (rs := [ResultVar.cell 2 29]) trivial
    case h => simp (disch := (refine id ?_; first | assumption | omega | (simp only [pN, pO, oneCell]; done) | (simp only [pN]; omega))) only [aResults, aResult, aOp, ev, pAT, f2, pI, aInt, aStr, aUn, AR.of, AR.ofB, AR.ofH, reduceIte, Nat.reduceEqDiff, aBuiltin, aLen, aField, aFieldAddr, aIndexAddr, aStore, aLoad, cellsL, oneCell, splice, pC, pL, Nat.reduceBEq, Nat.reduceLeDiff, Nat.reduceMul, Nat.reduceSub, Nat.reduceLT, Nat.reduceAdd, wTrO41] <;> with_reducible rfl
    case hq =>
      have hn1 := hx1.next
      have hn3 := hx3.next
      simp only [upd_next] at hn3 hgr3
      have aU : ∀ (p : Nat → Prop), (∀ j, p j → H.next + 1 + 1 ≤ j) → Agr p G3 ((G3.upd (H.next + 1) (.cells (qc Q (.slice ra Q.its.length Q.its.length) (.slice ra2 Q.wh.length Q.wh.length) (.slice ra3 Q.gr.length Q.gr.length)) 0 .solo)).upd H.next (.cells (qc Q (.slice ra Q.its.length Q.its.length) (.slice ra2 Q.wh.length Q.wh.length) (.slice ra3 Q.gr.length Q.gr.length)) 0 .solo)) := fun p hp =>
        (Agr.upd p (fun h => by have := hp _ h; omega) _).trans (Agr.upd p (fun h => by have := hp _ h; omega) _)
      have aV : ∀ (p : Nat → Prop), (∀ j, p j → H.next + 1 + 1 ≤ j) → Agr p G1 G3 := fun p hp => (Agr.upd p (fun h => by have := hp _ h; omega) _).trans (hx3.agr p)
      refine ⟨.slice ra Q.its.length Q.its.length, .slice ra2 Q.wh.length Q.wh.length, .slice ra3 Q.gr.length Q.gr.length, rfl, ⟨tv, lo, hh, T1.next, G.next, G1.next, G3.next, ys, by omega, ?_, hys, ?_, hTG, hn1, hn3, Nat.le_refl _, ?_, ?_⟩, ?_⟩
      · have := (((hgb.mono (hx1.agr _)).mono (aV _ (fun j h => h.1))).mono (aU _ (fun j h => h.1)))
        rcases this with h | ⟨b, w, h1, h2, h3, h4, h5, h6, h7⟩
        · exact .inl h
        · refine .inr ⟨b, w, h1, by omega, h3, h4, h5, h6, ?_⟩
          rcases h7 with h7 | ⟨f, u, l, h7, h8, h9⟩
          · exact .inl h7
          · exact .inr ⟨f, u, l, h7, by omega, h9⟩
      · intro i it hit
        obtain ⟨k1, k2, k3, k4, k5⟩ := hdone i it (List.getElem?_eq_some_iff.1 hit).1 hit
        exact ⟨k1, k2, k3, ((k4.mono (hx1.agr _)).mono (aV _ (fun j h => by omega))).mono (aU _ (fun j h => by omega)), k5⟩
      · exact ((hgr2.gb.mono (aV _ (fun j h => by omega))).mono (aU _ (fun j h => by omega)))
      · exact (hgr3.gb.mono (aU _ (fun j h => by omega)))
      · exact ((hx2.trans hx3).upd (by omega) _).upd (Nat.le_refl _) _
end Go.Am
