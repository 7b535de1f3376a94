import Derived.Test.YtldhedlleefkcaaGreatDoorOB
import Derived.Test.YtldhedlleefkcaaGreatDoorO5
import Derived.Test.YtldhedlleefkcaaGreatDoorO6
import Derived.Test.YtldhedlleefkcaaGreatDoorO7
import Derived.Test.YtldhedlleefkcaaGreatDoorO8
set_option linter.unusedVariables false
set_option linter.unusedSimpArgs false
namespace Go.Am
open Go.Proofs Go

/-- A book, by how many lists it holds of each kind. -/
def Bd (H : AH) (col : Nat → Nat) (B n0 n1 n2 n3 : Nat) : Prop :=
  ∃ w y, Bk H col B w y ∧ (w 0).length = n0 ∧ (w 1).length = n1 ∧ (w 2).length = n2 ∧ (w 3).length = n3 ∧ ∀ k, k < 4 → ∀ ys ∈ y k, ys.length ≤ 1048576
theorem Bd.ext {H H' : AH} (hx : Ext H H') {col col' : Nat → Nat} (hc : ∀ b, b < H.next → col' b = col b) {B n0 n1 n2 n3 : Nat} (h : Bd H col B n0 n1 n2 n3) : Bd H' col' B n0 n1 n2 n3 := by
  obtain ⟨w, y, h1, h2⟩ := h
  exact ⟨w, y, h1.ext hx hc, h2⟩
theorem up_le {y : Nat → List (List (List Value))} {k : Nat} {ys : List (List Value)} (h : ∀ k, k < 4 → ∀ ys ∈ y k, ys.length ≤ 1048576) (hk : k < 4) (hl : ys.length ≤ 1048576) : ∀ j, j < 4 → ∀ zs ∈ up y k (y k ++ [ys]) j, zs.length ≤ 1048576 := by
  intro j hj zs hz
  by_cases e : j = k
  · subst e
    rw [up_eq] at hz
    rcases List.mem_append.1 hz with hz | hz
    · exact h j hj zs hz
    · cases List.mem_singleton.1 hz
      exact hl
  · rw [up_ne e] at hz
    exact h j hj zs hz


namespace Ints
theorem wTrOK1 : type_of% (And.intro @cfg_P <| And.intro @sz3 <| And.intro @ll_und <| And.intro @ll_sz <| And.intro @ll_agg <| @bk_2) := And.intro @cfg_P <| And.intro @sz3 <| And.intro @ll_und <| And.intro @ll_sz <| And.intro @ll_agg <| @bk_2
set_option maxRecDepth 10000 in
set_option maxHeartbeats 4000000 in
theorem take_wf (H : AH) (hb : H.base ≤ H.next) (col : Nat → Nat) (B n0 n1 n2 n3 : Nat) (hB : Bd H col B n0 n1 n2 n3) (x : Value) (ys : List (List Value)) (hx : GrP H (fun b => col b = 10 + 4 * n0 + 0) 1 x ys) (hs : ∀ z ∈ ys, z.length = 1) (hl : ys.length ≤ 1048576) (hn : n0 ≤ 4194304) :
    Wf cfg 5 [.pointer (some ⟨B, 0, none⟩), x] H fun r H' => ∃ col', Bd H' col' B (n0 + 1) n1 n2 n3 ∧ Kp H col H' col' := by
  obtain ⟨w, y, ⟨⟨v, h0⟩, hm⟩, rfl, rfl, rfl, rfl, hy⟩ := hB
  obtain ⟨a, hxv⟩ := id hx.val
  have hgv : ∃ a n c, x = .slice a n c := ⟨a, _, _, hxv⟩
  have hBn := h0.lt
  have hBb := h0.low
  refine wf_text (fn := Tryz.f5) rfl Tryz.func5 rfl rfl ?_
  obtain ⟨_, _, bC, _⟩ := box_facts h0.blk hBn
  repeat (first
    | (with_reducible refine sc_seq ?_)
    | (with_reducible refine sc_region ?_)
    | (with_reducible refine sc_block ?_)
    | (with_reducible refine sc_scope ?_)
    | ((with_reducible refine sc_skip ?_); dsimp only)
    | ((with_reducible refine sc_label ?_); dsimp only)
    | ((with_reducible refine sc_ret ?_); dsimp only)
    | ((with_reducible refine sc_exit ?_); dsimp only [Nat.beq])
    | ((with_reducible refine so_nil ?_); dsimp only)
    | ((with_reducible apply so_skip); (case hw => simp only [aWanted, aYield, pAT, pG, bC, List.getElem?_cons_succ, (buildLL _ _ hgv), reduceIte, Nat.reduceEqDiff]; done))
    | ((with_reducible apply so_val); (case hw => simp only [aWanted, aYield, pAT, pG, bC, List.getElem?_cons_succ, (buildLL _ _ hgv), reduceIte, Nat.reduceEqDiff]; done); (case ha => simp only [aOp, ev, pAT, bC, List.getElem?_cons_succ, (buildLL _ _ hgv), pI, aInt, aStr, aUn, AR.of, AR.ofB, AR.ofH, reduceIte, Nat.reduceEqDiff, aBuiltin, aLen, aField, aFieldAddr, aIndexAddr, aStore, aLoad, cellsL, oneCell, splice, pL, Nat.reduceBEq, Nat.reduceLeDiff, Nat.reduceMul, Nat.reduceSub, Nat.reduceLT, Nat.reduceAdd, wTrOK1] <;> with_reducible rfl))
    | ((with_reducible apply so_val); (case hw => simp only [aWanted, aYield, pAT, pG, bC, List.getElem?_cons_succ, (buildLL _ _ hgv), reduceIte, Nat.reduceEqDiff]; done); (case ha => simp (maxSteps := 1000000) (disch := (refine id ?_; first | assumption | omega | (simp only [pN, pO, oneCell]; done) | (simp only [pN]; omega))) only [aOp, ev, pAT, bC, List.getElem?_cons_succ, (buildLL _ _ hgv), pI, aInt, aStr, aUn, AR.of, AR.ofB, AR.ofH, reduceIte, Nat.reduceEqDiff, aBuiltin, aLen, aField, aFieldAddr, aIndexAddr, aStore, aLoad, cellsL, oneCell, splice, pC, pL, Nat.reduceBEq, Nat.reduceLeDiff, Nat.reduceMul, Nat.reduceSub, Nat.reduceLT, Nat.reduceAdd, wTrOK1] <;> with_reducible rfl))
    | ((with_reducible apply sc_false); (case hc => simp only [ev, pAT, bC, List.getElem?_cons_succ, (buildLL _ _ hgv), reduceIte, Nat.reduceEqDiff]; done))
    | ((with_reducible apply sc_true); (case hc => simp only [ev, pAT, bC, List.getElem?_cons_succ, (buildLL _ _ hgv), reduceIte, Nat.reduceEqDiff]; done)))
  refine so_append rfl (by simp only [aWanted, aYield, pAT, pG, reduceIte, Nat.reduceEqDiff]) (by first | (simp only [ev, pAT, reduceIte, Nat.reduceEqDiff]; done) | (simp only [ev, pAT, reduceIte, Nat.reduceEqDiff]; rfl)) (by first | (simp only [ev, pAT, reduceIte, Nat.reduceEqDiff]; done) | (simp only [ev, pAT, reduceIte, Nat.reduceEqDiff]; rfl)) ?_
  obtain ⟨v', G', h1, hG, hGn, hGb, col', hbk, hkp⟩ := Bk.take (P := cfg.P) (k := 0) ll_el h0 hm (by decide) hx hs hn hb
  refine ⟨v', G', h1, ?_⟩
  obtain ⟨zB, zN, zC, zL, zS⟩ := box_facts hG hGn
  obtain ⟨av, nv, cv, rfl⟩ : ∃ a n c, v' = .slice a n c := by
    obtain ⟨⟨v2, hk⟩, _⟩ := hbk
    obtain ⟨a2, e2⟩ := (hk.own 0 (by decide)).val
    have e3 := get_upd_eq (H := G') (b := B) (b0 := B) (k := .cells (bookC (up v 0 v')) 0 .solo) rfl
    rw [hk.blk] at e3
    have e4 : v2 0 = v' := by
      have := Option.some.inj e3
      simp only [Blk.cells.injEq, List.cons.injEq] at this
      exact this.1.2.2.1
    exact ⟨_, _, _, e4.symm.trans e2⟩
  have hst := zS 2 [.slice av nv cv] hGb rfl (by simp)
  repeat (first
    | (with_reducible refine sc_seq ?_)
    | (with_reducible refine sc_region ?_)
    | (with_reducible refine sc_block ?_)
    | (with_reducible refine sc_scope ?_)
    | ((with_reducible refine sc_skip ?_); dsimp only)
    | ((with_reducible refine sc_label ?_); dsimp only)
    | ((with_reducible refine sc_ret ?_); dsimp only)
    | ((with_reducible refine sc_exit ?_); dsimp only [Nat.beq])
    | ((with_reducible refine so_nil ?_); dsimp only)
    | ((with_reducible apply so_skip); (case hw => simp only [aWanted, aYield, pAT, pG, hst, reduceIte, Nat.reduceEqDiff]; done))
    | ((with_reducible apply so_val); (case hw => simp only [aWanted, aYield, pAT, pG, hst, reduceIte, Nat.reduceEqDiff]; done); (case ha => simp (maxSteps := 1000000) (disch := (refine id ?_; first | assumption | omega | (simp only [pN, pO, oneCell]; done) | (simp only [pN]; omega))) only [aOp, ev, pAT, hst, pI, aInt, aStr, aUn, AR.of, AR.ofB, AR.ofH, reduceIte, Nat.reduceEqDiff, aBuiltin, aLen, aField, aFieldAddr, aIndexAddr, aStore, aLoad, cellsL, oneCell, splice, pC, pL, Nat.reduceBEq, Nat.reduceLeDiff, Nat.reduceMul, Nat.reduceSub, Nat.reduceLT, Nat.reduceAdd, wTrOK1] <;> with_reducible rfl))
    | ((with_reducible apply sc_false); (case hc => simp only [ev, pAT, hst, reduceIte, Nat.reduceEqDiff]; done))
    | ((with_reducible apply sc_true); (case hc => simp only [ev, pAT, hst, reduceIte, Nat.reduceEqDiff]; done)))
  apply res_fin (rs := []) trivial
  case h => simp (disch := (refine id ?_; first | assumption | omega | (simp only [pN, pO, oneCell]; done) | (simp only [pN]; omega))) only [aResults, aResult, aOp, ev, pAT, pI, aInt, aStr, aUn, AR.of, AR.ofB, AR.ofH, reduceIte, Nat.reduceEqDiff, aBuiltin, aLen, aField, aFieldAddr, aIndexAddr, aStore, aLoad, cellsL, oneCell, splice, pC, pL, Nat.reduceBEq, Nat.reduceLeDiff, Nat.reduceMul, Nat.reduceSub, Nat.reduceLT, Nat.reduceAdd, wTrOK1] <;> with_reducible rfl
  case hq => exact ⟨col', ⟨_, _, hbk, by simp [up], by simp [up], by simp [up], by simp [up], up_le hy (by decide) hl⟩, hkp⟩
end Ints


namespace NodesL
theorem wTrOK2 : type_of% (And.intro @cfg_P <| And.intro @sz3 <| And.intro @ll_und <| And.intro @ll_sz <| And.intro @ll_agg <| @bk_8) := And.intro @cfg_P <| And.intro @sz3 <| And.intro @ll_und <| And.intro @ll_sz <| And.intro @ll_agg <| @bk_8
set_option maxRecDepth 10000 in
set_option maxHeartbeats 4000000 in
theorem take_wf (H : AH) (hb : H.base ≤ H.next) (col : Nat → Nat) (B n0 n1 n2 n3 : Nat) (hB : Bd H col B n0 n1 n2 n3) (x : Value) (ys : List (List Value)) (hx : GrP H (fun b => col b = 10 + 4 * n1 + 1) 6 x ys) (hs : ∀ z ∈ ys, z.length = 6) (hl : ys.length ≤ 1048576) (hn : n1 ≤ 4194304) :
    Wf cfg 7 [.pointer (some ⟨B, 0, none⟩), x] H fun r H' => ∃ col', Bd H' col' B n0 (n1 + 1) n2 n3 ∧ Kp H col H' col' := by
  obtain ⟨w, y, ⟨⟨v, h0⟩, hm⟩, rfl, rfl, rfl, rfl, hy⟩ := hB
  obtain ⟨a, hxv⟩ := id hx.val
  have hgv : ∃ a n c, x = .slice a n c := ⟨a, _, _, hxv⟩
  have hBn := h0.lt
  have hBb := h0.low
  refine wf_text (fn := Tryz.f7) rfl Tryz.func7 rfl rfl ?_
  obtain ⟨_, _, bC, _⟩ := box_facts h0.blk hBn
  repeat (first
    | (with_reducible refine sc_seq ?_)
    | (with_reducible refine sc_region ?_)
    | (with_reducible refine sc_block ?_)
    | (with_reducible refine sc_scope ?_)
    | ((with_reducible refine sc_skip ?_); dsimp only)
    | ((with_reducible refine sc_label ?_); dsimp only)
    | ((with_reducible refine sc_ret ?_); dsimp only)
    | ((with_reducible refine sc_exit ?_); dsimp only [Nat.beq])
    | ((with_reducible refine so_nil ?_); dsimp only)
    | ((with_reducible apply so_skip); (case hw => simp only [aWanted, aYield, pAT, pG, bC, List.getElem?_cons_succ, (buildLL _ _ hgv), reduceIte, Nat.reduceEqDiff]; done))
    | ((with_reducible apply so_val); (case hw => simp only [aWanted, aYield, pAT, pG, bC, List.getElem?_cons_succ, (buildLL _ _ hgv), reduceIte, Nat.reduceEqDiff]; done); (case ha => simp only [aOp, ev, pAT, bC, List.getElem?_cons_succ, (buildLL _ _ hgv), pI, aInt, aStr, aUn, AR.of, AR.ofB, AR.ofH, reduceIte, Nat.reduceEqDiff, aBuiltin, aLen, aField, aFieldAddr, aIndexAddr, aStore, aLoad, cellsL, oneCell, splice, pL, Nat.reduceBEq, Nat.reduceLeDiff, Nat.reduceMul, Nat.reduceSub, Nat.reduceLT, Nat.reduceAdd, wTrOK2] <;> with_reducible rfl))
    | ((with_reducible apply so_val); (case hw => simp only [aWanted, aYield, pAT, pG, bC, List.getElem?_cons_succ, (buildLL _ _ hgv), reduceIte, Nat.reduceEqDiff]; done); (case ha => simp (maxSteps := 1000000) (disch := (refine id ?_; first | assumption | omega | (simp only [pN, pO, oneCell]; done) | (simp only [pN]; omega))) only [aOp, ev, pAT, bC, List.getElem?_cons_succ, (buildLL _ _ hgv), pI, aInt, aStr, aUn, AR.of, AR.ofB, AR.ofH, reduceIte, Nat.reduceEqDiff, aBuiltin, aLen, aField, aFieldAddr, aIndexAddr, aStore, aLoad, cellsL, oneCell, splice, pC, pL, Nat.reduceBEq, Nat.reduceLeDiff, Nat.reduceMul, Nat.reduceSub, Nat.reduceLT, Nat.reduceAdd, wTrOK2] <;> with_reducible rfl))
    | ((with_reducible apply sc_false); (case hc => simp only [ev, pAT, bC, List.getElem?_cons_succ, (buildLL _ _ hgv), reduceIte, Nat.reduceEqDiff]; done))
    | ((with_reducible apply sc_true); (case hc => simp only [ev, pAT, bC, List.getElem?_cons_succ, (buildLL _ _ hgv), reduceIte, Nat.reduceEqDiff]; done)))
  refine so_append rfl (by simp only [aWanted, aYield, pAT, pG, reduceIte, Nat.reduceEqDiff]) (by first | (simp only [ev, pAT, reduceIte, Nat.reduceEqDiff]; done) | (simp only [ev, pAT, reduceIte, Nat.reduceEqDiff]; rfl)) (by first | (simp only [ev, pAT, reduceIte, Nat.reduceEqDiff]; done) | (simp only [ev, pAT, reduceIte, Nat.reduceEqDiff]; rfl)) ?_
  obtain ⟨v', G', h1, hG, hGn, hGb, col', hbk, hkp⟩ := Bk.take (P := cfg.P) (k := 1) ll_el h0 hm (by decide) hx hs hn hb
  refine ⟨v', G', h1, ?_⟩
  obtain ⟨zB, zN, zC, zL, zS⟩ := box_facts hG hGn
  obtain ⟨av, nv, cv, rfl⟩ : ∃ a n c, v' = .slice a n c := by
    obtain ⟨⟨v2, hk⟩, _⟩ := hbk
    obtain ⟨a2, e2⟩ := (hk.own 1 (by decide)).val
    have e3 := get_upd_eq (H := G') (b := B) (b0 := B) (k := .cells (bookC (up v 1 v')) 0 .solo) rfl
    rw [hk.blk] at e3
    have e4 : v2 1 = v' := by
      have := Option.some.inj e3
      simp only [Blk.cells.injEq, List.cons.injEq] at this
      exact this.1.2.2.2.2.2.2.2.2.1
    exact ⟨_, _, _, e4.symm.trans e2⟩
  have hst := zS 8 [.slice av nv cv] hGb rfl (by simp)
  repeat (first
    | (with_reducible refine sc_seq ?_)
    | (with_reducible refine sc_region ?_)
    | (with_reducible refine sc_block ?_)
    | (with_reducible refine sc_scope ?_)
    | ((with_reducible refine sc_skip ?_); dsimp only)
    | ((with_reducible refine sc_label ?_); dsimp only)
    | ((with_reducible refine sc_ret ?_); dsimp only)
    | ((with_reducible refine sc_exit ?_); dsimp only [Nat.beq])
    | ((with_reducible refine so_nil ?_); dsimp only)
    | ((with_reducible apply so_skip); (case hw => simp only [aWanted, aYield, pAT, pG, hst, reduceIte, Nat.reduceEqDiff]; done))
    | ((with_reducible apply so_val); (case hw => simp only [aWanted, aYield, pAT, pG, hst, reduceIte, Nat.reduceEqDiff]; done); (case ha => simp (maxSteps := 1000000) (disch := (refine id ?_; first | assumption | omega | (simp only [pN, pO, oneCell]; done) | (simp only [pN]; omega))) only [aOp, ev, pAT, hst, pI, aInt, aStr, aUn, AR.of, AR.ofB, AR.ofH, reduceIte, Nat.reduceEqDiff, aBuiltin, aLen, aField, aFieldAddr, aIndexAddr, aStore, aLoad, cellsL, oneCell, splice, pC, pL, Nat.reduceBEq, Nat.reduceLeDiff, Nat.reduceMul, Nat.reduceSub, Nat.reduceLT, Nat.reduceAdd, wTrOK2] <;> with_reducible rfl))
    | ((with_reducible apply sc_false); (case hc => simp only [ev, pAT, hst, reduceIte, Nat.reduceEqDiff]; done))
    | ((with_reducible apply sc_true); (case hc => simp only [ev, pAT, hst, reduceIte, Nat.reduceEqDiff]; done)))
  apply res_fin (rs := []) trivial
  case h => simp (disch := (refine id ?_; first | assumption | omega | (simp only [pN, pO, oneCell]; done) | (simp only [pN]; omega))) only [aResults, aResult, aOp, ev, pAT, pI, aInt, aStr, aUn, AR.of, AR.ofB, AR.ofH, reduceIte, Nat.reduceEqDiff, aBuiltin, aLen, aField, aFieldAddr, aIndexAddr, aStore, aLoad, cellsL, oneCell, splice, pC, pL, Nat.reduceBEq, Nat.reduceLeDiff, Nat.reduceMul, Nat.reduceSub, Nat.reduceLT, Nat.reduceAdd, wTrOK2] <;> with_reducible rfl
  case hq => exact ⟨col', ⟨_, _, hbk, by simp [up], by simp [up], by simp [up], by simp [up], up_le hy (by decide) hl⟩, hkp⟩
end NodesL


namespace LabelsL
theorem wTrOK3 : type_of% (And.intro @cfg_P <| And.intro @sz3 <| And.intro @ll_und <| And.intro @ll_sz <| And.intro @ll_agg <| @bk_9) := And.intro @cfg_P <| And.intro @sz3 <| And.intro @ll_und <| And.intro @ll_sz <| And.intro @ll_agg <| @bk_9
set_option maxRecDepth 10000 in
set_option maxHeartbeats 4000000 in
theorem take_wf (H : AH) (hb : H.base ≤ H.next) (col : Nat → Nat) (B n0 n1 n2 n3 : Nat) (hB : Bd H col B n0 n1 n2 n3) (x : Value) (ys : List (List Value)) (hx : GrP H (fun b => col b = 10 + 4 * n2 + 2) 2 x ys) (hs : ∀ z ∈ ys, z.length = 2) (hl : ys.length ≤ 1048576) (hn : n2 ≤ 4194304) :
    Wf cfg 16 [.pointer (some ⟨B, 0, none⟩), x] H fun r H' => ∃ col', Bd H' col' B n0 n1 (n2 + 1) n3 ∧ Kp H col H' col' := by
  obtain ⟨w, y, ⟨⟨v, h0⟩, hm⟩, rfl, rfl, rfl, rfl, hy⟩ := hB
  obtain ⟨a, hxv⟩ := id hx.val
  have hgv : ∃ a n c, x = .slice a n c := ⟨a, _, _, hxv⟩
  have hBn := h0.lt
  have hBb := h0.low
  refine wf_text (fn := Tryz.f16) rfl Tryz.func16 rfl rfl ?_
  obtain ⟨_, _, bC, _⟩ := box_facts h0.blk hBn
  repeat (first
    | (with_reducible refine sc_seq ?_)
    | (with_reducible refine sc_region ?_)
    | (with_reducible refine sc_block ?_)
    | (with_reducible refine sc_scope ?_)
    | ((with_reducible refine sc_skip ?_); dsimp only)
    | ((with_reducible refine sc_label ?_); dsimp only)
    | ((with_reducible refine sc_ret ?_); dsimp only)
    | ((with_reducible refine sc_exit ?_); dsimp only [Nat.beq])
    | ((with_reducible refine so_nil ?_); dsimp only)
    | ((with_reducible apply so_skip); (case hw => simp only [aWanted, aYield, pAT, pG, bC, List.getElem?_cons_succ, (buildLL _ _ hgv), reduceIte, Nat.reduceEqDiff]; done))
    | ((with_reducible apply so_val); (case hw => simp only [aWanted, aYield, pAT, pG, bC, List.getElem?_cons_succ, (buildLL _ _ hgv), reduceIte, Nat.reduceEqDiff]; done); (case ha => simp only [aOp, ev, pAT, bC, List.getElem?_cons_succ, (buildLL _ _ hgv), pI, aInt, aStr, aUn, AR.of, AR.ofB, AR.ofH, reduceIte, Nat.reduceEqDiff, aBuiltin, aLen, aField, aFieldAddr, aIndexAddr, aStore, aLoad, cellsL, oneCell, splice, pL, Nat.reduceBEq, Nat.reduceLeDiff, Nat.reduceMul, Nat.reduceSub, Nat.reduceLT, Nat.reduceAdd, wTrOK3] <;> with_reducible rfl))
    | ((with_reducible apply so_val); (case hw => simp only [aWanted, aYield, pAT, pG, bC, List.getElem?_cons_succ, (buildLL _ _ hgv), reduceIte, Nat.reduceEqDiff]; done); (case ha => simp (maxSteps := 1000000) (disch := (refine id ?_; first | assumption | omega | (simp only [pN, pO, oneCell]; done) | (simp only [pN]; omega))) only [aOp, ev, pAT, bC, List.getElem?_cons_succ, (buildLL _ _ hgv), pI, aInt, aStr, aUn, AR.of, AR.ofB, AR.ofH, reduceIte, Nat.reduceEqDiff, aBuiltin, aLen, aField, aFieldAddr, aIndexAddr, aStore, aLoad, cellsL, oneCell, splice, pC, pL, Nat.reduceBEq, Nat.reduceLeDiff, Nat.reduceMul, Nat.reduceSub, Nat.reduceLT, Nat.reduceAdd, wTrOK3] <;> with_reducible rfl))
    | ((with_reducible apply sc_false); (case hc => simp only [ev, pAT, bC, List.getElem?_cons_succ, (buildLL _ _ hgv), reduceIte, Nat.reduceEqDiff]; done))
    | ((with_reducible apply sc_true); (case hc => simp only [ev, pAT, bC, List.getElem?_cons_succ, (buildLL _ _ hgv), reduceIte, Nat.reduceEqDiff]; done)))
  refine so_append rfl (by simp only [aWanted, aYield, pAT, pG, reduceIte, Nat.reduceEqDiff]) (by first | (simp only [ev, pAT, reduceIte, Nat.reduceEqDiff]; done) | (simp only [ev, pAT, reduceIte, Nat.reduceEqDiff]; rfl)) (by first | (simp only [ev, pAT, reduceIte, Nat.reduceEqDiff]; done) | (simp only [ev, pAT, reduceIte, Nat.reduceEqDiff]; rfl)) ?_
  obtain ⟨v', G', h1, hG, hGn, hGb, col', hbk, hkp⟩ := Bk.take (P := cfg.P) (k := 2) ll_el h0 hm (by decide) hx hs hn hb
  refine ⟨v', G', h1, ?_⟩
  obtain ⟨zB, zN, zC, zL, zS⟩ := box_facts hG hGn
  obtain ⟨av, nv, cv, rfl⟩ : ∃ a n c, v' = .slice a n c := by
    obtain ⟨⟨v2, hk⟩, _⟩ := hbk
    obtain ⟨a2, e2⟩ := (hk.own 2 (by decide)).val
    have e3 := get_upd_eq (H := G') (b := B) (b0 := B) (k := .cells (bookC (up v 2 v')) 0 .solo) rfl
    rw [hk.blk] at e3
    have e4 : v2 2 = v' := by
      have := Option.some.inj e3
      simp only [Blk.cells.injEq, List.cons.injEq] at this
      exact this.1.2.2.2.2.2.2.2.2.2.1
    exact ⟨_, _, _, e4.symm.trans e2⟩
  have hst := zS 9 [.slice av nv cv] hGb rfl (by simp)
  repeat (first
    | (with_reducible refine sc_seq ?_)
    | (with_reducible refine sc_region ?_)
    | (with_reducible refine sc_block ?_)
    | (with_reducible refine sc_scope ?_)
    | ((with_reducible refine sc_skip ?_); dsimp only)
    | ((with_reducible refine sc_label ?_); dsimp only)
    | ((with_reducible refine sc_ret ?_); dsimp only)
    | ((with_reducible refine sc_exit ?_); dsimp only [Nat.beq])
    | ((with_reducible refine so_nil ?_); dsimp only)
    | ((with_reducible apply so_skip); (case hw => simp only [aWanted, aYield, pAT, pG, hst, reduceIte, Nat.reduceEqDiff]; done))
    | ((with_reducible apply so_val); (case hw => simp only [aWanted, aYield, pAT, pG, hst, reduceIte, Nat.reduceEqDiff]; done); (case ha => simp (maxSteps := 1000000) (disch := (refine id ?_; first | assumption | omega | (simp only [pN, pO, oneCell]; done) | (simp only [pN]; omega))) only [aOp, ev, pAT, hst, pI, aInt, aStr, aUn, AR.of, AR.ofB, AR.ofH, reduceIte, Nat.reduceEqDiff, aBuiltin, aLen, aField, aFieldAddr, aIndexAddr, aStore, aLoad, cellsL, oneCell, splice, pC, pL, Nat.reduceBEq, Nat.reduceLeDiff, Nat.reduceMul, Nat.reduceSub, Nat.reduceLT, Nat.reduceAdd, wTrOK3] <;> with_reducible rfl))
    | ((with_reducible apply sc_false); (case hc => simp only [ev, pAT, hst, reduceIte, Nat.reduceEqDiff]; done))
    | ((with_reducible apply sc_true); (case hc => simp only [ev, pAT, hst, reduceIte, Nat.reduceEqDiff]; done)))
  apply res_fin (rs := []) trivial
  case h => simp (disch := (refine id ?_; first | assumption | omega | (simp only [pN, pO, oneCell]; done) | (simp only [pN]; omega))) only [aResults, aResult, aOp, ev, pAT, pI, aInt, aStr, aUn, AR.of, AR.ofB, AR.ofH, reduceIte, Nat.reduceEqDiff, aBuiltin, aLen, aField, aFieldAddr, aIndexAddr, aStore, aLoad, cellsL, oneCell, splice, pC, pL, Nat.reduceBEq, Nat.reduceLeDiff, Nat.reduceMul, Nat.reduceSub, Nat.reduceLT, Nat.reduceAdd, wTrOK3] <;> with_reducible rfl
  case hq => exact ⟨col', ⟨_, _, hbk, by simp [up], by simp [up], by simp [up], by simp [up], up_le hy (by decide) hl⟩, hkp⟩
end LabelsL

end Go.Am
