import Derived.Test.YtldhedlleefkcaaGreatDoorOK
set_option linter.unusedVariables false
set_option linter.unusedSimpArgs false
namespace Go.Am
open Go.Proofs Go
/-- A query's rows of one's own, in blocks of the colours of the book's next lists. -/
def Pend (H : AH) (col : Nat → Nat) (n1 n2 n3 : Nat) (Q : Qd) (vi vw vg : Value) : Prop :=
  ∃ (tv : Nat → Value) (ys : List (List Value)), GrP H (fun b => col b = 10 + 4 * n3 + 3) 4 vi ys ∧ ys.length = Q.its.length ∧
    (∀ (i : Nat) (it : List (List Value) × ByteArray × Int × Int), Q.its[i]? = some it → ys[i]? = some (im (tv i) it.2.1 it.2.2.1 it.2.2.2) ∧ GrP H (fun b => col b = 10 + 4 * (n1 + i) + 1) 6 (tv i) it.1) ∧
    GrP H (fun b => col b = 10 + 4 * (n1 + Q.its.length) + 1) 6 vw Q.wh ∧ GrP H (fun b => col b = 10 + 4 * n2 + 2) 2 vg Q.gr

theorem Pend.kp {H H' : AH} {col col' : Nat → Nat} (hk : Kp H col H' col') {n1 n2 n3 : Nat} {Q : Qd} {vi vw vg : Value} (h : Pend H col n1 n2 n3 Q vi vw vg) : Pend H' col' n1 n2 n3 Q vi vw vg := by
  obtain ⟨tv, ys, h1, h2, h3, h4, h5⟩ := h
  exact ⟨tv, ys, hk.grp (.inr (by omega)) h1, h2, fun i it hi => ⟨(h3 i it hi).1, hk.grp (.inr (by omega)) (h3 i it hi).2⟩, hk.grp (.inr (by omega)) h4, hk.grp (.inr (by omega)) h5⟩

theorem Gb.grp {H : AH} {lo hi s : Nat} {v : Value} {xs : List (List Value)} (h : Gb H lo hi s v xs) (hb : H.base ≤ lo) : GrP H (fun b => lo ≤ b ∧ b < hi) s v xs := by
  rcases h with h | ⟨b, w, h1, h2, h3, h0, h4, h5, h6⟩
  · exact .inl h
  · refine .inr ⟨b, w, h1, ⟨h2, h3⟩, Nat.le_trans hb h2, Nat.lt_of_lt_of_le h3 h0, h4, h5, ?_⟩
    rcases h6 with h6 | ⟨f, u, l, h6, h7, h8, h9⟩
    · exact .inl h6
    · exact .inr ⟨f, u, l, h6, ⟨h7, h8⟩, Nat.le_trans hb h7, Nat.lt_of_lt_of_le h8 h0, h9⟩

open Classical in
/-- A copy's rows get their colours. -/
theorem CW.pend {H : AH} {L : Nat} {Q : Qd} {vi vw vg : Value} (h : CW H L H.next Q vi vw vg) (hb : H.base ≤ L) (col : Nat → Nat) (n1 n2 n3 : Nat) : ∃ col' : Nat → Nat, (∀ b, b < L → col' b = col b) ∧ Pend H col' n1 n2 n3 Q vi vw vg := by
  obtain ⟨tv, lo, hi, h0, l1, h1, h2, ys, k0, k1, k2, k3, k4, k5, k8, k9, k6, k7⟩ := h
  let ix : Nat → Nat := fun b => if h : ∃ i, i < Q.its.length ∧ lo i ≤ b ∧ b < hi i then Classical.choose h else 0
  have hix : ∀ i b, i < Q.its.length → lo i ≤ b → b < hi i → ix b = i := by
    intro i b hi1 hi2 hi3
    have he : ∃ i, i < Q.its.length ∧ lo i ≤ b ∧ b < hi i := ⟨i, hi1, hi2, hi3⟩
    have e : ix b = Classical.choose he := dif_pos he
    obtain ⟨j1, j2, j3⟩ := Classical.choose_spec he
    rw [e]
    rcases Nat.lt_trichotomy (Classical.choose he) i with hlt | hlt | hlt
    · have := (k3 i _ (List.getElem?_eq_getElem hi1)).2.2.2.2 _ hlt
      omega
    · exact hlt
    · have := (k3 _ _ (List.getElem?_eq_getElem j1)).2.2.2.2 _ hlt
      omega
  refine ⟨fun b => if b < L then col b else if b < h0 then 10 + 4 * n3 + 3 else if b < l1 then 10 + 4 * (n1 + ix b) + 1 else if b < h1 then 10 + 4 * (n1 + Q.its.length) + 1 else 10 + 4 * n2 + 2, fun b hb => if_pos hb, tv, ys, ?_, k2, fun i it hit => ?_, ?_, ?_⟩
  · refine (k1.grp hb).imp fun b _ ⟨e1, e2⟩ => ?_
    dsimp only
    rw [if_neg (by omega), if_pos e2]
  · obtain ⟨j1, j2, j3, j4, j5⟩ := k3 i it hit
    have hil := (List.getElem?_eq_some_iff.1 hit).1
    refine ⟨j1, (j4.grp (by omega)).imp fun b _ ⟨e1, e2⟩ => ?_⟩
    dsimp only
    rw [if_neg (by omega), if_neg (by omega), if_pos (by omega), hix i b hil e1 e2]
  · refine (k6.grp (by omega)).imp fun b _ ⟨e1, e2⟩ => ?_
    dsimp only
    rw [if_neg (by omega), if_neg (by omega), if_neg (by omega), if_pos (by omega)]
  · refine (k7.grp (by omega)).imp fun b _ ⟨e1, e2⟩ => ?_
    dsimp only
    rw [if_neg (by omega), if_neg (by omega), if_neg (by omega), if_neg (by omega)]

theorem wrap_succ2 {n : Nat} (h : n < 4611686018427387904) : IntKind.i64.wrap ((n : Int) + 1) = ((n + 1 : Nat) : Int) := by
  simp [IntKind.wrap, IntKind.bits, IntKind.signed]; omega

namespace ItemsL
theorem und22' : undT Tryz.prog 23 = some (.slice 80) := by kernel_rfl
theorem wTrOP1 : type_of% (And.intro @cfg_P <| And.intro @sz3 <| And.intro @agg3 <| And.intro @ll_und <| And.intro @ll_sz <| And.intro @ll_agg <| And.intro @bk_21 <| And.intro @und22' <| And.intro @sz33 <| And.intro @f33_0 <| And.intro @s25 <| @g25) := And.intro @cfg_P <| And.intro @sz3 <| And.intro @agg3 <| And.intro @ll_und <| And.intro @ll_sz <| And.intro @ll_agg <| And.intro @bk_21 <| And.intro @und22' <| And.intro @sz33 <| And.intro @f33_0 <| And.intro @s25 <| @g25
set_option maxRecDepth 10000 in
set_option maxHeartbeats 4000000 in
theorem take_wf (H : AH) (hb : H.base ≤ H.next) (col : Nat → Nat) (B n0 n1 n2 n3 : Nat) (hB : Bd H col B n0 n1 n2 n3) (Q : Qd) (hq : Q.Ok) (vi vw vg : Value) (hp : Pend H col n1 n2 n3 Q vi vw vg) (hn : n3 ≤ 4194304) (hn1 : n1 + Q.its.length ≤ 4194304) :
    Wf cfg 15 [.pointer (some ⟨B, 0, none⟩), vi] H fun r H' => ∃ col', Bd H' col' B n0 (n1 + Q.its.length) n2 (n3 + 1) ∧ Kp H col H' col' := by
  obtain ⟨tv, ys, hx, hyl, hit, _, _⟩ := hp
  have hys : ∀ z ∈ ys, z.length = 4 := by
    intro z hz
    obtain ⟨i, hi, rfl⟩ := List.mem_iff_getElem.1 hz
    have h := (hit i _ (List.getElem?_eq_getElem (by omega))).1
    rw [List.getElem?_eq_getElem hi] at h
    rw [Option.some.inj h]; rfl
  have hql := hq.len
  obtain ⟨w, y, ⟨⟨v, h0⟩, hm⟩, rfl, rfl, rfl, rfl, hy⟩ := hB
  obtain ⟨a, rfl⟩ := hx.val
  have hgv : ∃ a' n c, Value.slice a ys.length ys.length = .slice a' n c := ⟨a, _, _, rfl⟩
  have hBn := h0.lt
  have hBb := h0.low
  refine wf_text (fn := Tryz.f15) rfl Tryz.func15 rfl rfl ?_
  obtain ⟨_, _, bC, _⟩ := box_facts h0.blk hBn
  repeat (first
    | (with_reducible refine sc_seq ?_)
    | (with_reducible refine sc_region ?_)
    | (with_reducible refine sc_block ?_)
    | (with_reducible refine sc_scope ?_)
    | ((with_reducible refine sc_skip ?_); dsimp only)
    | ((with_reducible refine sc_label ?_); dsimp only)
    | ((with_reducible refine sc_ret ?_); dsimp only)
    | ((with_reducible refine sc_exit ?_); dsimp only [Nat.beq])
    | ((with_reducible refine so_nil ?_); dsimp only)
    | ((with_reducible apply so_skip); (case hw => simp only [aWanted, aYield, pAT, pG, bC, List.getElem?_cons_succ, (buildLL _ _ hgv), reduceIte, Nat.reduceEqDiff]; done))
    | ((with_reducible apply so_val); (case hw => simp only [aWanted, aYield, pAT, pG, bC, List.getElem?_cons_succ, (buildLL _ _ hgv), reduceIte, Nat.reduceEqDiff]; done); (case ha => simp only [aOp, ev, pAT, bC, List.getElem?_cons_succ, (buildLL _ _ hgv), pI, aInt, aStr, aUn, AR.of, AR.ofB, AR.ofH, reduceIte, Nat.reduceEqDiff, aBuiltin, aLen, aField, aFieldAddr, aIndexAddr, aStore, aLoad, cellsL, oneCell, splice, pL, Nat.reduceBEq, Nat.reduceLeDiff, Nat.reduceMul, Nat.reduceSub, Nat.reduceLT, Nat.reduceAdd, wTrOP1] <;> with_reducible rfl))
    | ((with_reducible apply so_val); (case hw => simp only [aWanted, aYield, pAT, pG, bC, List.getElem?_cons_succ, (buildLL _ _ hgv), reduceIte, Nat.reduceEqDiff]; done); (case ha => simp (maxSteps := 1000000) (disch := (refine id ?_; first | assumption | omega | (simp only [pN, pO, oneCell]; done) | (simp only [pN]; omega))) only [aOp, ev, pAT, bC, List.getElem?_cons_succ, (buildLL _ _ hgv), pI, aInt, aStr, aUn, AR.of, AR.ofB, AR.ofH, reduceIte, Nat.reduceEqDiff, aBuiltin, aLen, aField, aFieldAddr, aIndexAddr, aStore, aLoad, cellsL, oneCell, splice, pC, pL, Nat.reduceBEq, Nat.reduceLeDiff, Nat.reduceMul, Nat.reduceSub, Nat.reduceLT, Nat.reduceAdd, wTrOP1] <;> with_reducible rfl))
    | ((with_reducible apply sc_false); (case hc => simp only [ev, pAT, bC, List.getElem?_cons_succ, (buildLL _ _ hgv), reduceIte, Nat.reduceEqDiff]; done))
    | ((with_reducible apply sc_true); (case hc => simp only [ev, pAT, bC, List.getElem?_cons_succ, (buildLL _ _ hgv), reduceIte, Nat.reduceEqDiff]; done)))
  refine so_append rfl (by simp only [aWanted, aYield, pAT, pG, reduceIte, Nat.reduceEqDiff]) (by first | (simp only [ev, pAT, reduceIte, Nat.reduceEqDiff]; done) | (simp only [ev, pAT, reduceIte, Nat.reduceEqDiff]; rfl)) (by first | (simp only [ev, pAT, reduceIte, Nat.reduceEqDiff]; done) | (simp only [ev, pAT, reduceIte, Nat.reduceEqDiff]; rfl)) ?_
  obtain ⟨v', G', h1, hG, hGn, hGb, col', hbk, hkp⟩ := Bk.take (P := cfg.P) (k := 3) ll_el h0 hm (by decide) hx hys hn hb
  refine ⟨v', G', h1, ?_⟩
  obtain ⟨zB, zN, zC, zL, zS⟩ := box_facts hG hGn
  obtain ⟨av, nv, cv, rfl⟩ : ∃ a n c, v' = .slice a n c := by
    obtain ⟨⟨v2, hk⟩, _⟩ := hbk
    obtain ⟨a2, e2⟩ := (hk.own 3 (by decide)).val
    have e3 := get_upd_eq (H := G') (b := B) (b0 := B) (k := .cells (bookC (up v 3 v')) 0 .solo) rfl
    rw [hk.blk] at e3
    have e4 : v2 3 = v' := by
      have := Option.some.inj e3
      simp only [Blk.cells.injEq, List.cons.injEq] at this
      exact this.1.2.2.2.2.2.2.2.2.2.2.2.2.2.2.2.2.2.2.2.2.2.1
    exact ⟨_, _, _, e4.symm.trans e2⟩
  have hst := zS 21 [.slice av nv cv] hGb rfl (by simp)
  repeat (first
    | (with_reducible refine sc_seq ?_)
    | (with_reducible refine sc_region ?_)
    | (with_reducible refine sc_block ?_)
    | (with_reducible refine sc_scope ?_)
    | ((with_reducible refine sc_skip ?_); dsimp only)
    | ((with_reducible refine sc_label ?_); dsimp only)
    | ((with_reducible refine sc_ret ?_); dsimp only)
    | ((with_reducible refine sc_exit ?_); dsimp only [Nat.beq])
    | ((with_reducible refine so_nil ?_); dsimp only)
    | ((with_reducible apply so_skip); (case hw => simp only [aWanted, aYield, pAT, pG, hst, reduceIte, Nat.reduceEqDiff]; done))
    | ((with_reducible apply so_val); (case hw => simp only [aWanted, aYield, pAT, pG, hst, reduceIte, Nat.reduceEqDiff]; done); (case ha => simp (maxSteps := 1000000) (disch := (refine id ?_; first | assumption | omega | (simp only [pN, pO, oneCell]; done) | (simp only [pN]; omega))) only [aOp, ev, pAT, hst, pI, aInt, aStr, aUn, AR.of, AR.ofB, AR.ofH, reduceIte, Nat.reduceEqDiff, aBuiltin, aLen, aField, aFieldAddr, aIndexAddr, aStore, aLoad, cellsL, oneCell, splice, pC, pL, Nat.reduceBEq, Nat.reduceLeDiff, Nat.reduceMul, Nat.reduceSub, Nat.reduceLT, Nat.reduceAdd, wTrOP1] <;> with_reducible rfl))
    | ((with_reducible apply sc_false); (case hc => simp only [ev, pAT, hst, reduceIte, Nat.reduceEqDiff]; done))
    | ((with_reducible apply sc_true); (case hc => simp only [ev, pAT, hst, reduceIte, Nat.reduceEqDiff]; done)))
  have hbd : Bd (G'.upd B (.cells (bookC (up v 3 (.slice av nv cv))) 0 .solo)) col' B (w 0).length (w 1).length (w 2).length ((w 3).length + 1) := ⟨_, _, hbk, by simp [up], by simp [up], by simp [up], by simp [up], up_le hy (by decide) (by omega)⟩
  refine sc_loop (I := fun m fr G => ∃ (t : Nat) (colt : Nat → Nat), t ≤ ys.length ∧ m = ys.length - t ∧ Bd G colt B (w 0).length ((w 1).length + t) (w 2).length ((w 3).length + 1) ∧ Kp H col G colt ∧ Fr.at fr 0 = .pointer (some ⟨B, 0, none⟩) ∧ Fr.at fr 1 = .slice a ys.length ys.length ∧ Fr.at fr 4 = .int .i64 t) ?_ ys.length _ _ ?_
  rotate_left
  · refine ⟨0, col', Nat.zero_le _, rfl, hbd, hkp, ?_, ?_, ?_⟩ <;> simp only [at_some, at_none, at_args, List.getElem?_cons_zero, List.getElem?_cons_succ, Option.getD_some, ev, reduceIte, Nat.reduceEqDiff] <;> rfl
  clear hbd hkp hbk hst zB zN zC zL zS h1 hG hGn hGb bC hgv hm h0
  rintro m fr G ⟨t, colt, ht, rfl, hbd, hkp, f0, f1, f4⟩
  have hbG : G.base ≤ G.next := by rw [hkp.base]; exact Nat.le_trans hb hkp.next
  by_cases hlt : t < ys.length
  · obtain ⟨it, hi⟩ : ∃ it, Q.its[t]? = some it := ⟨_, List.getElem?_eq_getElem (by omega)⟩
    obtain ⟨hyt, htr⟩ := hit t it hi
    obtain ⟨hn, hnl⟩ := hq.its it (List.mem_of_getElem? hi)
    obtain ⟨b1, o1, c1, e1, hb1, _, _, l1⟩ := ((hkp.grp (.inr (by omega)) hx).rdb hys).rd.at hyt
    simp only [Value.slice.injEq] at e1
    obtain ⟨rfl, _⟩ := e1
    have m0 := l1 0 (by omega)
    simp only [Nat.add_zero, List.getElem?_cons_zero] at m0
    have g1 : decide ((t : Int) < (ys.length : Int)) = true := decT (by omega)
    have g2 : (0 ≤ (t : Int) ∧ (t : Int) < (ys.length : Int)) := by omega
    repeat (first
      | (with_reducible refine sc_seq ?_)
      | (with_reducible refine sc_region ?_)
      | (with_reducible refine sc_block ?_)
      | (with_reducible refine sc_scope ?_)
      | ((with_reducible refine sc_skip ?_); dsimp only)
      | ((with_reducible refine sc_label ?_); dsimp only)
      | ((with_reducible refine sc_ret ?_); dsimp only)
      | ((with_reducible refine sc_exit ?_); dsimp only [Nat.beq])
      | ((with_reducible refine so_nil ?_); dsimp only)
      | ((with_reducible apply so_skip); (case hw => simp only [aWanted, aYield, pAT, pG, f0, f1, f4, g1, g2, m0, if_true, Int.toNat_natCast, true_and, and_self, reduceIte, Nat.reduceEqDiff]; done))
      | ((with_reducible apply so_val); (case hw => simp only [aWanted, aYield, pAT, pG, f0, f1, f4, g1, g2, m0, if_true, Int.toNat_natCast, true_and, and_self, reduceIte, Nat.reduceEqDiff]; done); (case ha => simp (maxSteps := 1000000) (disch := (refine id ?_; first | assumption | omega | (simp only [pN, pO, oneCell]; done) | (simp only [pN]; omega))) only [aOp, ev, pAT, f0, f1, f4, g1, g2, m0, if_true, Int.toNat_natCast, true_and, and_self, pI, aInt, aStr, aUn, AR.of, AR.ofB, AR.ofH, reduceIte, Nat.reduceEqDiff, aBuiltin, aLen, aField, aFieldAddr, aIndexAddr, aStore, aLoad, cellsL, oneCell, splice, pC, pL, Nat.reduceBEq, Nat.reduceLeDiff, Nat.reduceMul, Nat.reduceSub, Nat.reduceLT, Nat.reduceAdd, wTrOP1] <;> with_reducible rfl))
      | ((with_reducible apply sc_false); (case hc => simp only [ev, pAT, f0, f1, f4, g1, g2, m0, if_true, Int.toNat_natCast, true_and, and_self, reduceIte, Nat.reduceEqDiff]; done))
      | ((with_reducible apply sc_true); (case hc => simp only [ev, pAT, f0, f1, f4, g1, g2, m0, if_true, Int.toNat_natCast, true_and, and_self, reduceIte, Nat.reduceEqDiff]; done)))
    first
      | ((with_reducible apply so_call); (case hw => simp only [aWanted, aYield, pAT, pG, f0, f1, f4, g1, g2, m0, if_true, Int.toNat_natCast, true_and, and_self, reduceIte, Nat.reduceEqDiff]; done); (case ha => simp (maxSteps := 1000000) (disch := (refine id ?_; first | assumption | omega | (simp only [pN, pO, oneCell]; done) | (simp only [pN]; omega))) only [aOp, ev, pAT, f0, f1, f4, g1, g2, m0, if_true, Int.toNat_natCast, true_and, and_self, pI, aInt, aStr, aUn, AR.of, AR.ofB, AR.ofH, reduceIte, Nat.reduceEqDiff, aBuiltin, aLen, aField, aFieldAddr, aIndexAddr, aStore, aLoad, cellsL, oneCell, splice, pC, pL, Nat.reduceBEq, Nat.reduceLeDiff, Nat.reduceMul, Nat.reduceSub, Nat.reduceLT, Nat.reduceAdd, wTrOP1] <;> with_reducible rfl))
      | ((with_reducible apply so_callD); (case hw => simp only [aWanted, aYield, pAT, pG, f0, f1, f4, g1, g2, m0, if_true, Int.toNat_natCast, true_and, and_self, reduceIte, Nat.reduceEqDiff]; done); (case ha => simp (maxSteps := 1000000) (disch := (first | omega | (simp only [new_next, new_base, upd_next, upd_base, List.length_cons, List.length_nil, List.all_cons, List.all_nil, oneCell, Bool.and_self, Bool.and_true]; done) | (simp only [new_next, new_base, upd_next, upd_base, List.length_cons, List.length_nil]; omega))) only [aOp, ev, pAT, f0, f1, f4, g1, g2, m0, if_true, Int.toNat_natCast, true_and, and_self, pI, aInt, aStr, aUn, AR.of, AR.ofB, AR.ofH, reduceIte, Nat.reduceEqDiff, aBuiltin, aLen, aField, aFieldAddr, aIndexAddr, aStore, aLoad, cellsL, oneCell, splice, pC, pL, Nat.reduceBEq, Nat.reduceLeDiff, Nat.reduceMul, Nat.reduceSub, Nat.reduceLT, Nat.reduceAdd, wTrOP1] <;> with_reducible rfl))
    refine (NodesL.take_wf G hbG colt B _ _ _ _ hbd (tv t) it.1 (hkp.grp (.inr (by omega)) htr) (nodes_len hn) hnl (by omega)).mono ?_
    rintro r G2 ⟨col2, hbd2, hkp2⟩
    repeat (first
      | (with_reducible refine sc_seq ?_)
      | (with_reducible refine sc_region ?_)
      | (with_reducible refine sc_block ?_)
      | (with_reducible refine sc_scope ?_)
      | ((with_reducible refine sc_skip ?_); dsimp only)
      | ((with_reducible refine sc_label ?_); dsimp only)
      | ((with_reducible refine sc_ret ?_); dsimp only)
      | ((with_reducible refine sc_exit ?_); dsimp only [Nat.beq])
      | ((with_reducible refine so_nil ?_); dsimp only)
      | ((with_reducible apply so_skip); (case hw => simp only [aWanted, aYield, pAT, pG, f0, f1, f4, reduceIte, Nat.reduceEqDiff]; done))
      | ((with_reducible apply so_val); (case hw => simp only [aWanted, aYield, pAT, pG, f0, f1, f4, reduceIte, Nat.reduceEqDiff]; done); (case ha => simp (maxSteps := 1000000) (disch := (refine id ?_; first | assumption | omega | (simp only [pN, pO, oneCell]; done) | (simp only [pN]; omega))) only [aOp, ev, pAT, f0, f1, f4, pI, aInt, aStr, aUn, AR.of, AR.ofB, AR.ofH, reduceIte, Nat.reduceEqDiff, aBuiltin, aLen, aField, aFieldAddr, aIndexAddr, aStore, aLoad, cellsL, oneCell, splice, pC, pL, Nat.reduceBEq, Nat.reduceLeDiff, Nat.reduceMul, Nat.reduceSub, Nat.reduceLT, Nat.reduceAdd, wTrOP1] <;> with_reducible rfl))
      | ((with_reducible apply sc_false); (case hc => simp only [ev, pAT, f0, f1, f4, reduceIte, Nat.reduceEqDiff]; done))
      | ((with_reducible apply sc_true); (case hc => simp only [ev, pAT, f0, f1, f4, reduceIte, Nat.reduceEqDiff]; done)))
    refine ⟨ys.length - (t + 1), by omega, t + 1, col2, by omega, rfl, hbd2, hkp.trans hkp2, ?_, ?_, ?_⟩ <;> simp only [at_some, at_none, f0, f1, f4, reduceIte, Nat.reduceEqDiff]
    rw [wrap_succ2 (by omega)]
  · obtain rfl : t = ys.length := by omega
    have g1 : decide ((ys.length : Int) < (ys.length : Int)) = false := decF (by omega)
    repeat (first
      | (with_reducible refine sc_seq ?_)
      | (with_reducible refine sc_region ?_)
      | (with_reducible refine sc_block ?_)
      | (with_reducible refine sc_scope ?_)
      | ((with_reducible refine sc_skip ?_); dsimp only)
      | ((with_reducible refine sc_label ?_); dsimp only)
      | ((with_reducible refine sc_ret ?_); dsimp only)
      | ((with_reducible refine sc_exit ?_); dsimp only [Nat.beq])
      | ((with_reducible refine so_nil ?_); dsimp only)
      | ((with_reducible apply so_skip); (case hw => simp only [aWanted, aYield, pAT, pG, f0, f1, f4, g1, reduceIte, Nat.reduceEqDiff]; done))
      | ((with_reducible apply so_val); (case hw => simp only [aWanted, aYield, pAT, pG, f0, f1, f4, g1, reduceIte, Nat.reduceEqDiff]; done); (case ha => simp (maxSteps := 1000000) (disch := (refine id ?_; first | assumption | omega | (simp only [pN, pO, oneCell]; done) | (simp only [pN]; omega))) only [aOp, ev, pAT, f0, f1, f4, g1, pI, aInt, aStr, aUn, AR.of, AR.ofB, AR.ofH, reduceIte, Nat.reduceEqDiff, aBuiltin, aLen, aField, aFieldAddr, aIndexAddr, aStore, aLoad, cellsL, oneCell, splice, pC, pL, Nat.reduceBEq, Nat.reduceLeDiff, Nat.reduceMul, Nat.reduceSub, Nat.reduceLT, Nat.reduceAdd, wTrOP1] <;> with_reducible rfl))
      | ((with_reducible apply sc_false); (case hc => simp only [ev, pAT, f0, f1, f4, g1, reduceIte, Nat.reduceEqDiff]; done))
      | ((with_reducible apply sc_true); (case hc => simp only [ev, pAT, f0, f1, f4, g1, reduceIte, Nat.reduceEqDiff]; done)))
    apply res_fin (rs := []) trivial
    case h => simp (disch := (refine id ?_; first | assumption | omega | (simp only [pN, pO, oneCell]; done) | (simp only [pN]; omega))) only [aResults, aResult, aOp, ev, pAT, pI, aInt, aStr, aUn, AR.of, AR.ofB, AR.ofH, reduceIte, Nat.reduceEqDiff, aBuiltin, aLen, aField, aFieldAddr, aIndexAddr, aStore, aLoad, cellsL, oneCell, splice, pC, pL, Nat.reduceBEq, Nat.reduceLeDiff, Nat.reduceMul, Nat.reduceSub, Nat.reduceLT, Nat.reduceAdd, wTrOP1] <;> with_reducible rfl
    case hq => exact ⟨colt, by rw [← hyl]; exact hbd, hkp⟩
end ItemsL

theorem wTrOP2 : type_of% (And.intro @cfg_P <| And.intro @s22 <| And.intro @s25 <| And.intro @s26 <| And.intro @g22 <| And.intro @g25 <| And.intro @g26 <| And.intro @f29_0 <| And.intro @f29_1 <| And.intro @f29_2 <| And.intro @f29_3 <| And.intro @f29_4 <| And.intro @f29_5 <| And.intro @f29_6 <| And.intro @f29_7 <| And.intro @f29_8 <| And.intro @f29_9 <| @f29_10) := And.intro @cfg_P <| And.intro @s22 <| And.intro @s25 <| And.intro @s26 <| And.intro @g22 <| And.intro @g25 <| And.intro @g26 <| And.intro @f29_0 <| And.intro @f29_1 <| And.intro @f29_2 <| And.intro @f29_3 <| And.intro @f29_4 <| And.intro @f29_5 <| And.intro @f29_6 <| And.intro @f29_7 <| And.intro @f29_8 <| And.intro @f29_9 <| @f29_10
set_option maxRecDepth 10000 in
set_option maxHeartbeats 4000000 in
theorem takeQuery_wf (H : AH) (hb : H.base ≤ H.next) (col : Nat → Nat) (B n0 n1 n2 n3 : Nat) (hB : Bd H col B n0 n1 n2 n3) (Q : Qd) (hq : Q.Ok) (vi vw vg : Value) (hp : Pend H col n1 n2 n3 Q vi vw vg) (hn : n3 ≤ 4194304) (hn2 : n2 ≤ 4194304) (hn1 : n1 + Q.its.length ≤ 4194304) :
    Wf cfg 9 [.pointer (some ⟨B, 0, none⟩), .agg (qc Q vi vw vg).toArray] H fun r H' => ∃ col', Bd H' col' B n0 (n1 + Q.its.length + 1) (n2 + 1) (n3 + 1) ∧ Kp H col H' col' := by
  have hp0 := hp
  obtain ⟨tv, ys, hx, hyl, hit, hw, hg⟩ := hp
  obtain ⟨ai, rfl⟩ := hx.val
  obtain ⟨aw, rfl⟩ := hw.val
  obtain ⟨ag, rfl⟩ := hg.val
  refine wf_text (fn := Tryz.f9) rfl Tryz.func9 rfl rfl ?_
  repeat (first
    | (with_reducible refine sc_seq ?_)
    | (with_reducible refine sc_region ?_)
    | (with_reducible refine sc_block ?_)
    | (with_reducible refine sc_scope ?_)
    | ((with_reducible refine sc_skip ?_); dsimp only)
    | ((with_reducible refine sc_label ?_); dsimp only)
    | ((with_reducible refine sc_ret ?_); dsimp only)
    | ((with_reducible refine sc_exit ?_); dsimp only [Nat.beq])
    | ((with_reducible refine so_nil ?_); dsimp only)
    | ((with_reducible apply so_skip); (case hw => simp only [aWanted, aYield, pAT, pG, reduceIte, Nat.reduceEqDiff]; done))
    | ((with_reducible apply so_val); (case hw => simp only [aWanted, aYield, pAT, pG, reduceIte, Nat.reduceEqDiff]; done); (case ha => simp (maxSteps := 1000000) (disch := (refine id ?_; first | assumption | omega | (simp only [pN, pO, oneCell]; done) | (simp only [pN]; omega))) only [aOp, ev, pAT, pI, aInt, aStr, aUn, AR.of, AR.ofB, AR.ofH, reduceIte, Nat.reduceEqDiff, aBuiltin, aLen, aField, aFieldAddr, aIndexAddr, aStore, aLoad, cellsL, oneCell, splice, pC, pL, Nat.reduceBEq, Nat.reduceLeDiff, Nat.reduceMul, Nat.reduceSub, Nat.reduceLT, Nat.reduceAdd, wTrOP2] <;> with_reducible rfl))
    | ((with_reducible apply sc_false); (case hc => simp only [ev, pAT, reduceIte, Nat.reduceEqDiff]; done))
    | ((with_reducible apply sc_true); (case hc => simp only [ev, pAT, reduceIte, Nat.reduceEqDiff]; done)))
  first
    | ((with_reducible apply so_call); (case hw => simp only [aWanted, aYield, pAT, pG, reduceIte, Nat.reduceEqDiff]; done); (case ha => simp (maxSteps := 1000000) (disch := (refine id ?_; first | assumption | omega | (simp only [pN, pO, oneCell]; done) | (simp only [pN]; omega))) only [aOp, ev, pAT, pI, aInt, aStr, aUn, AR.of, AR.ofB, AR.ofH, reduceIte, Nat.reduceEqDiff, aBuiltin, aLen, aField, aFieldAddr, aIndexAddr, aStore, aLoad, cellsL, oneCell, splice, pC, pL, Nat.reduceBEq, Nat.reduceLeDiff, Nat.reduceMul, Nat.reduceSub, Nat.reduceLT, Nat.reduceAdd, wTrOP2] <;> with_reducible rfl))
    | ((with_reducible apply so_callD); (case hw => simp only [aWanted, aYield, pAT, pG, reduceIte, Nat.reduceEqDiff]; done); (case ha => simp (maxSteps := 1000000) (disch := (first | omega | (simp only [new_next, new_base, upd_next, upd_base, List.length_cons, List.length_nil, List.all_cons, List.all_nil, oneCell, Bool.and_self, Bool.and_true]; done) | (simp only [new_next, new_base, upd_next, upd_base, List.length_cons, List.length_nil]; omega))) only [aOp, ev, pAT, pI, aInt, aStr, aUn, AR.of, AR.ofB, AR.ofH, reduceIte, Nat.reduceEqDiff, aBuiltin, aLen, aField, aFieldAddr, aIndexAddr, aStore, aLoad, cellsL, oneCell, splice, pC, pL, Nat.reduceBEq, Nat.reduceLeDiff, Nat.reduceMul, Nat.reduceSub, Nat.reduceLT, Nat.reduceAdd, wTrOP2] <;> with_reducible rfl))
  have hx0 : Ext H (H.new (.cells (qc Q (.slice ai ys.length ys.length) (.slice aw Q.wh.length Q.wh.length) (.slice ag Q.gr.length Q.gr.length)) 0 .solo)) := Ext.new H _
  have hbox : (H.new (.cells (qc Q (.slice ai ys.length ys.length) (.slice aw Q.wh.length Q.wh.length) (.slice ag Q.gr.length Q.gr.length)) 0 .solo)).blk.get H.next = some (.cells (qc Q (.slice ai ys.length ys.length) (.slice aw Q.wh.length Q.wh.length) (.slice ag Q.gr.length Q.gr.length)) 0 .solo) := get_new_eq rfl
  have hbn : H.next < (H.new (.cells (qc Q (.slice ai ys.length ys.length) (.slice aw Q.wh.length Q.wh.length) (.slice ag Q.gr.length Q.gr.length)) 0 .solo)).next := Nat.lt_succ_self _
  generalize H.new (.cells (qc Q (.slice ai ys.length ys.length) (.slice aw Q.wh.length Q.wh.length) (.slice ag Q.gr.length Q.gr.length)) 0 .solo) = H1 at hx0 hbox hbn ⊢
  obtain ⟨col0, hc0, hcb⟩ : ∃ col0 : Nat → Nat, (∀ b, b < H.next → col0 b = col b) ∧ col0 H.next = 0 := ⟨fun b => if b < H.next then col b else 0, fun b hb => if_pos hb, if_neg (Nat.lt_irrefl _)⟩
  have k0 : Kp H col H1 col0 := Kp.ext hx0 hc0
  have hb1 : H1.base ≤ H1.next := by rw [hx0.base]; exact Nat.le_trans hb hx0.next
  have p1 := hp0.kp k0
  refine (ItemsL.take_wf H1 hb1 col0 B n0 n1 n2 n3 (hB.ext hx0 hc0) Q hq _ _ _ p1 hn hn1).mono ?_
  rintro r1 G1 ⟨col1, d1, k1⟩
  have p2 := p1.kp k1
  have hbG1 : G1.base ≤ G1.next := by rw [k1.base]; exact Nat.le_trans hb1 k1.next
  have hc1 : col1 H.next = 0 := (k1.col _ hbn).trans hcb
  have hbox1 := ((k1.agr 0 (.inl rfl)).blk H.next hbn hc1).trans hbox
  have hbn1 := Nat.lt_of_lt_of_le hbn k1.next
  obtain ⟨_, _, bC, _⟩ := box_facts hbox1 hbn1
  repeat (first
    | (with_reducible refine sc_seq ?_)
    | (with_reducible refine sc_region ?_)
    | (with_reducible refine sc_block ?_)
    | (with_reducible refine sc_scope ?_)
    | ((with_reducible refine sc_skip ?_); dsimp only)
    | ((with_reducible refine sc_label ?_); dsimp only)
    | ((with_reducible refine sc_ret ?_); dsimp only)
    | ((with_reducible refine sc_exit ?_); dsimp only [Nat.beq])
    | ((with_reducible refine so_nil ?_); dsimp only)
    | ((with_reducible apply so_skip); (case hw => simp only [aWanted, aYield, pAT, pG, bC, reduceIte, Nat.reduceEqDiff]; done))
    | ((with_reducible apply so_val); (case hw => simp only [aWanted, aYield, pAT, pG, bC, reduceIte, Nat.reduceEqDiff]; done); (case ha => simp (maxSteps := 1000000) (disch := (refine id ?_; first | assumption | omega | (simp only [pN, pO, oneCell]; done) | (simp only [pN]; omega))) only [aOp, ev, pAT, bC, pI, aInt, aStr, aUn, AR.of, AR.ofB, AR.ofH, reduceIte, Nat.reduceEqDiff, aBuiltin, aLen, aField, aFieldAddr, aIndexAddr, aStore, aLoad, cellsL, oneCell, splice, pC, pL, Nat.reduceBEq, Nat.reduceLeDiff, Nat.reduceMul, Nat.reduceSub, Nat.reduceLT, Nat.reduceAdd, wTrOP2] <;> with_reducible rfl))
    | ((with_reducible apply sc_false); (case hc => simp only [ev, pAT, bC, reduceIte, Nat.reduceEqDiff]; done))
    | ((with_reducible apply sc_true); (case hc => simp only [ev, pAT, bC, reduceIte, Nat.reduceEqDiff]; done)))
  first
    | ((with_reducible apply so_call); (case hw => simp only [aWanted, aYield, pAT, pG, bC, reduceIte, Nat.reduceEqDiff]; done); (case ha => simp (maxSteps := 1000000) (disch := (refine id ?_; first | assumption | omega | (simp only [pN, pO, oneCell]; done) | (simp only [pN]; omega))) only [aOp, ev, pAT, bC, pI, aInt, aStr, aUn, AR.of, AR.ofB, AR.ofH, reduceIte, Nat.reduceEqDiff, aBuiltin, aLen, aField, aFieldAddr, aIndexAddr, aStore, aLoad, cellsL, oneCell, splice, pC, pL, Nat.reduceBEq, Nat.reduceLeDiff, Nat.reduceMul, Nat.reduceSub, Nat.reduceLT, Nat.reduceAdd, wTrOP2] <;> with_reducible rfl))
    | ((with_reducible apply so_callD); (case hw => simp only [aWanted, aYield, pAT, pG, bC, reduceIte, Nat.reduceEqDiff]; done); (case ha => simp (maxSteps := 1000000) (disch := (first | omega | (simp only [new_next, new_base, upd_next, upd_base, List.length_cons, List.length_nil, List.all_cons, List.all_nil, oneCell, Bool.and_self, Bool.and_true]; done) | (simp only [new_next, new_base, upd_next, upd_base, List.length_cons, List.length_nil]; omega))) only [aOp, ev, pAT, bC, pI, aInt, aStr, aUn, AR.of, AR.ofB, AR.ofH, reduceIte, Nat.reduceEqDiff, aBuiltin, aLen, aField, aFieldAddr, aIndexAddr, aStore, aLoad, cellsL, oneCell, splice, pC, pL, Nat.reduceBEq, Nat.reduceLeDiff, Nat.reduceMul, Nat.reduceSub, Nat.reduceLT, Nat.reduceAdd, wTrOP2] <;> with_reducible rfl))
  obtain ⟨_, _, _, _, _, pw, _⟩ := p2
  refine (NodesL.take_wf G1 hbG1 col1 B _ _ _ _ d1 _ Q.wh pw (nodes_len hq.wh) hq.whl (by omega)).mono ?_
  rintro r2 G2 ⟨col2, d2, k2⟩
  have p3 := (p1.kp k1).kp k2
  have hbG2 : G2.base ≤ G2.next := by rw [k2.base]; exact Nat.le_trans hbG1 k2.next
  have hc2 : col2 H.next = 0 := (k2.col _ hbn1).trans hc1
  have hbox2 := ((k2.agr 0 (.inl rfl)).blk H.next hbn1 hc2).trans hbox1
  have hbn2 := Nat.lt_of_lt_of_le hbn1 k2.next
  clear bC
  obtain ⟨_, _, bC, _⟩ := box_facts hbox2 hbn2
  repeat (first
    | (with_reducible refine sc_seq ?_)
    | (with_reducible refine sc_region ?_)
    | (with_reducible refine sc_block ?_)
    | (with_reducible refine sc_scope ?_)
    | ((with_reducible refine sc_skip ?_); dsimp only)
    | ((with_reducible refine sc_label ?_); dsimp only)
    | ((with_reducible refine sc_ret ?_); dsimp only)
    | ((with_reducible refine sc_exit ?_); dsimp only [Nat.beq])
    | ((with_reducible refine so_nil ?_); dsimp only)
    | ((with_reducible apply so_skip); (case hw => simp only [aWanted, aYield, pAT, pG, bC, reduceIte, Nat.reduceEqDiff]; done))
    | ((with_reducible apply so_val); (case hw => simp only [aWanted, aYield, pAT, pG, bC, reduceIte, Nat.reduceEqDiff]; done); (case ha => simp (maxSteps := 1000000) (disch := (refine id ?_; first | assumption | omega | (simp only [pN, pO, oneCell]; done) | (simp only [pN]; omega))) only [aOp, ev, pAT, bC, pI, aInt, aStr, aUn, AR.of, AR.ofB, AR.ofH, reduceIte, Nat.reduceEqDiff, aBuiltin, aLen, aField, aFieldAddr, aIndexAddr, aStore, aLoad, cellsL, oneCell, splice, pC, pL, Nat.reduceBEq, Nat.reduceLeDiff, Nat.reduceMul, Nat.reduceSub, Nat.reduceLT, Nat.reduceAdd, wTrOP2] <;> with_reducible rfl))
    | ((with_reducible apply sc_false); (case hc => simp only [ev, pAT, bC, reduceIte, Nat.reduceEqDiff]; done))
    | ((with_reducible apply sc_true); (case hc => simp only [ev, pAT, bC, reduceIte, Nat.reduceEqDiff]; done)))
  first
    | ((with_reducible apply so_call); (case hw => simp only [aWanted, aYield, pAT, pG, bC, reduceIte, Nat.reduceEqDiff]; done); (case ha => simp (maxSteps := 1000000) (disch := (refine id ?_; first | assumption | omega | (simp only [pN, pO, oneCell]; done) | (simp only [pN]; omega))) only [aOp, ev, pAT, bC, pI, aInt, aStr, aUn, AR.of, AR.ofB, AR.ofH, reduceIte, Nat.reduceEqDiff, aBuiltin, aLen, aField, aFieldAddr, aIndexAddr, aStore, aLoad, cellsL, oneCell, splice, pC, pL, Nat.reduceBEq, Nat.reduceLeDiff, Nat.reduceMul, Nat.reduceSub, Nat.reduceLT, Nat.reduceAdd, wTrOP2] <;> with_reducible rfl))
    | ((with_reducible apply so_callD); (case hw => simp only [aWanted, aYield, pAT, pG, bC, reduceIte, Nat.reduceEqDiff]; done); (case ha => simp (maxSteps := 1000000) (disch := (first | omega | (simp only [new_next, new_base, upd_next, upd_base, List.length_cons, List.length_nil, List.all_cons, List.all_nil, oneCell, Bool.and_self, Bool.and_true]; done) | (simp only [new_next, new_base, upd_next, upd_base, List.length_cons, List.length_nil]; omega))) only [aOp, ev, pAT, bC, pI, aInt, aStr, aUn, AR.of, AR.ofB, AR.ofH, reduceIte, Nat.reduceEqDiff, aBuiltin, aLen, aField, aFieldAddr, aIndexAddr, aStore, aLoad, cellsL, oneCell, splice, pC, pL, Nat.reduceBEq, Nat.reduceLeDiff, Nat.reduceMul, Nat.reduceSub, Nat.reduceLT, Nat.reduceAdd, wTrOP2] <;> with_reducible rfl))
  obtain ⟨_, _, _, _, _, _, pg⟩ := p3
  refine (LabelsL.take_wf G2 hbG2 col2 B _ _ _ _ d2 _ Q.gr pg (labels_len hq.gr) hq.grl (by omega)).mono ?_
  rintro r3 G3 ⟨col3, d3, k3⟩
  repeat (first
    | (with_reducible refine sc_seq ?_)
    | (with_reducible refine sc_region ?_)
    | (with_reducible refine sc_block ?_)
    | (with_reducible refine sc_scope ?_)
    | ((with_reducible refine sc_skip ?_); dsimp only)
    | ((with_reducible refine sc_label ?_); dsimp only)
    | ((with_reducible refine sc_ret ?_); dsimp only)
    | ((with_reducible refine sc_exit ?_); dsimp only [Nat.beq])
    | ((with_reducible refine so_nil ?_); dsimp only)
    | ((with_reducible apply so_skip); (case hw => simp only [aWanted, aYield, pAT, pG, reduceIte, Nat.reduceEqDiff]; done))
    | ((with_reducible apply so_val); (case hw => simp only [aWanted, aYield, pAT, pG, reduceIte, Nat.reduceEqDiff]; done); (case ha => simp (maxSteps := 1000000) (disch := (refine id ?_; first | assumption | omega | (simp only [pN, pO, oneCell]; done) | (simp only [pN]; omega))) only [aOp, ev, pAT, pI, aInt, aStr, aUn, AR.of, AR.ofB, AR.ofH, reduceIte, Nat.reduceEqDiff, aBuiltin, aLen, aField, aFieldAddr, aIndexAddr, aStore, aLoad, cellsL, oneCell, splice, pC, pL, Nat.reduceBEq, Nat.reduceLeDiff, Nat.reduceMul, Nat.reduceSub, Nat.reduceLT, Nat.reduceAdd, wTrOP2] <;> with_reducible rfl))
    | ((with_reducible apply sc_false); (case hc => simp only [ev, pAT, reduceIte, Nat.reduceEqDiff]; done))
    | ((with_reducible apply sc_true); (case hc => simp only [ev, pAT, reduceIte, Nat.reduceEqDiff]; done)))
  apply res_fin (rs := []) trivial
  case h => simp (disch := (refine id ?_; first | assumption | omega | (simp only [pN, pO, oneCell]; done) | (simp only [pN]; omega))) only [aResults, aResult, aOp, ev, pAT, pI, aInt, aStr, aUn, AR.of, AR.ofB, AR.ofH, reduceIte, Nat.reduceEqDiff, aBuiltin, aLen, aField, aFieldAddr, aIndexAddr, aStore, aLoad, cellsL, oneCell, splice, pC, pL, Nat.reduceBEq, Nat.reduceLeDiff, Nat.reduceMul, Nat.reduceSub, Nat.reduceLT, Nat.reduceAdd, wTrOP2] <;> with_reducible rfl
  case hq => exact ⟨col3, d3, ((k0.trans k1).trans k2).trans k3⟩
end Go.Am
