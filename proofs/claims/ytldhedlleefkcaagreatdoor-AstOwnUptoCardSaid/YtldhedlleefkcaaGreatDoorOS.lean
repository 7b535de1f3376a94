import Derived.Test.YtldhedlleefkcaaGreatDoorOP
import Derived.Test.YtldhedlleefkcaaGreatDoorOA
set_option linter.unusedVariables false
set_option linter.unusedSimpArgs false
namespace Go.Am
open Go.Proofs Go

/-- One guarded call more: what was true so far, a call that answers true, both together. -/
theorem alone_step {C : Cfg} {ops : Array Oper} {rest : List Oper} {fr : Fr} {H : AH} {K : Fr → AH → Prop} {o1 o2 o3 o4 oj : Oper} {a b c d p j : Nat} {f : FuncId} {ty : Array TypeId} {x : Value} {P : AH → Prop}
    (h1 : o1.op = .move (.tmp p)) (d1 : o1.dst = some a) (g1 : o1.guard = none) (h2 : o2.op = .move (.tmp 0)) (d2 : o2.dst = some b) (g2 : o2.guard = some (j, true))
    (h3 : o3.op = .call { callee := .value (.func f), args := #[.tmp b], argTypes := ty }) (d3 : o3.dst = some c) (g3 : o3.guard = some (j, true))
    (h4 : o4.op = .pick (.tmp a) (.tmp c) (.const (.bool false))) (d4 : o4.dst = some d) (g4 : o4.guard = none) (hj : ops[j]? = some oj) (dj : oj.dst = some a)
    (n : a ≠ 0 ∧ b ≠ 0 ∧ c ≠ 0 ∧ d ≠ 0 ∧ a ≠ b ∧ a ≠ c) (f0 : Fr.at fr 0 = x) (fp : Fr.at fr p = .bool true)
    (hw : Wf C f [x] H fun r H' => r = .bool true ∧ P H') (h : ∀ fr' H', P H' → Fr.at fr' 0 = x → Fr.at fr' d = .bool true → So C false ops rest fr' H' K) :
    So C false ops (o1 :: o2 :: o3 :: o4 :: rest) fr H K := by
  obtain ⟨n1, n2, n3, n4, n5, n6⟩ := n
  refine so_val (v := .bool true) (H' := H) (by simp only [aWanted, g1]) (by simp only [aOp, h1, ev, fp]) ?_
  rw [d1]
  have yj : ∀ fr : Fr, Fr.at fr a = .bool true → aYield ops fr j = some true := fun fr h => by simp only [aYield, hj, dj, h]
  refine so_val (v := x) (H' := H) (by simp only [aWanted, g2, yj _ (at_some fr a a _ |>.trans (if_pos rfl))]; rfl) (by simp only [aOp, h2, ev, at_some, if_neg n1, f0]) ?_
  rw [d2]
  refine so_call (f := f) (args := [x]) ?_ ?_ (hw.mono ?_)
  · simp only [aWanted, g3]
    rw [yj _ (by simp only [at_some, if_neg n5.symm, if_pos])]
    rfl
  · simp only [aOp, h3, ev]
    simp only [ev, at_some, if_pos, List.map_cons, List.map_nil, List.append_nil, List.nil_append]
  rintro r H' ⟨rfl, hP⟩
  rw [d3]
  refine so_val (v := .bool true) (H' := H') (by simp only [aWanted, g4]) ?_ ?_
  · simp only [aOp, h4, ev, at_some, if_neg n6.symm, if_neg n5.symm, if_pos]
  rw [d4]
  refine h _ _ hP ?_ ?_
  · simp only [at_some, if_neg n4, if_neg n3, if_neg n2, if_neg n1, f0]
  · simp only [at_some, if_pos]

theorem sz60 : szT Tryz.prog 60 = some 28 := by kernel_rfl
theorem agg60 : aggT Tryz.prog 60 = some true := by kernel_rfl
theorem build60 : aBuild Tryz.prog 60 [] = some (.agg #[.slice none 0 0, .slice none 0 0, .slice none 0 0, .slice none 0 0, .slice none 0 0, .slice none 0 0, .slice none 0 0, .slice none 0 0, .slice none 0 0, .slice none 0 0, .slice none 0 0, .slice none 0 0, .slice none 0 0, .slice none 0 0, .slice none 0 0, .slice none 0 0, .slice none 0 0, .slice none 0 0, .slice none 0 0, .slice none 0 0, .slice none 0 0, .slice none 0 0, .slice none 0 0, .slice none 0 0, .slice none 0 0, .slice none 0 0, .slice none 0 0, .slice none 0 0]) := by kernel_rfl
theorem wTrOS1 : type_of% (And.intro @cfg_P <| And.intro @sz60 <| @agg60) := And.intro @cfg_P <| And.intro @sz60 <| @agg60
set_option maxRecDepth 10000 in
set_option maxHeartbeats 16000000 in
theorem allAlone_wf (H : AH) (hb : H.base ≤ H.next) (col : Nat → Nat) (B n0 n1 n2 n3 : Nat) (hB : Bd H col B n0 n1 n2 n3) (hn : n0 ≤ 4194304 ∧ n1 ≤ 4194304 ∧ n2 ≤ 4194304 ∧ n3 ≤ 4194304) :
    Wf cfg 12 [.pointer (some ⟨B, 0, none⟩)] H fun r H' => r = .bool true ∧ Agr (fun b => col b = 0) H H' := by
  obtain ⟨w, y, ⟨⟨v, hk⟩, hm⟩, rfl, rfl, rfl, rfl, hy⟩ := hB
  obtain ⟨hn0, hn1, hn2, hn3⟩ := hn
  have z : ∀ k b, col b = 0 → colK col k b = 0 := fun k b h => colK_zero (by omega)
  have zB : ∀ k, colK col k B = 0 := fun k => colK_zero (by have := hk.colB; omega)
  have hA : Agr (fun b => col b = 0) H H := Agr.refl _ _
  have m0 := hm 0 (by decide)
  have m1 := hm 1 (by decide)
  have m2 := hm 2 (by decide)
  have m3 := hm 3 (by decide)
  clear hm
  refine wf_text (fn := Tryz.f12) rfl Tryz.func12 rfl rfl ?_
  obtain ⟨_, _, bC, _⟩ := box_facts hk.blk hk.lt
  repeat (first
    | (with_reducible refine sc_seq ?_)
    | (with_reducible refine sc_region ?_)
    | (with_reducible refine sc_block ?_)
    | (with_reducible refine sc_scope ?_)
    | ((with_reducible refine sc_skip ?_); dsimp only)
    | ((with_reducible refine sc_label ?_); dsimp only)
    | ((with_reducible refine sc_ret ?_); dsimp only)
    | ((with_reducible refine sc_exit ?_); dsimp only [Nat.beq])
    | ((with_reducible refine so_nil ?_); dsimp only)
    | ((with_reducible apply so_skip); (case hw => simp only [aWanted, aYield, pAT, pG, reduceIte, Nat.reduceEqDiff]; done))
    | ((with_reducible apply so_val); (case hw => simp only [aWanted, aYield, pAT, pG, reduceIte, Nat.reduceEqDiff]; done); (case ha => simp (maxSteps := 1000000) (disch := (refine id ?_; first | assumption | omega | (simp only [pN, pO, oneCell]; done) | (simp only [pN]; omega))) only [aOp, ev, pAT, pI, aInt, aStr, aUn, AR.of, AR.ofB, AR.ofH, reduceIte, Nat.reduceEqDiff, aBuiltin, aLen, aField, aFieldAddr, aIndexAddr, aStore, aLoad, cellsL, oneCell, splice, pC, pL, Nat.reduceBEq, Nat.reduceLeDiff, Nat.reduceMul, Nat.reduceSub, Nat.reduceLT, Nat.reduceAdd, wTrOS1] <;> with_reducible rfl))
    | ((with_reducible apply sc_false); (case hc => simp only [ev, pAT, reduceIte, Nat.reduceEqDiff]; done))
    | ((with_reducible apply sc_true); (case hc => simp only [ev, pAT, reduceIte, Nat.reduceEqDiff]; done)))
  simp only [List.append_eq, List.cons_append, List.nil_append]
  repeat (first
    | (with_reducible refine sc_seq ?_)
    | (with_reducible refine sc_region ?_)
    | (with_reducible refine sc_block ?_)
    | (with_reducible refine sc_scope ?_)
    | ((with_reducible refine sc_skip ?_); dsimp only)
    | ((with_reducible refine sc_label ?_); dsimp only)
    | ((with_reducible refine sc_ret ?_); dsimp only)
    | ((with_reducible refine sc_exit ?_); dsimp only [Nat.beq])
    | ((with_reducible refine so_nil ?_); dsimp only)
    | ((with_reducible apply so_skip); (case hw => simp only [aWanted, aYield, pAT, pG, reduceIte, Nat.reduceEqDiff]; done))
    | ((with_reducible apply so_val); (case hw => simp only [aWanted, aYield, pAT, pG, reduceIte, Nat.reduceEqDiff]; done); (case ha => simp (maxSteps := 1000000) (disch := (refine id ?_; first | assumption | omega | (simp only [pN, pO, oneCell]; done) | (simp only [pN]; omega))) only [aOp, ev, pAT, pI, aInt, aStr, aUn, AR.of, AR.ofB, AR.ofH, reduceIte, Nat.reduceEqDiff, aBuiltin, aLen, aField, aFieldAddr, aIndexAddr, aStore, aLoad, cellsL, oneCell, splice, pC, pL, Nat.reduceBEq, Nat.reduceLeDiff, Nat.reduceMul, Nat.reduceSub, Nat.reduceLT, Nat.reduceAdd, wTrOS1] <;> with_reducible rfl))
    | ((with_reducible apply sc_false); (case hc => simp only [ev, pAT, reduceIte, Nat.reduceEqDiff]; done))
    | ((with_reducible apply sc_true); (case hc => simp only [ev, pAT, reduceIte, Nat.reduceEqDiff]; done)))
  first
    | ((with_reducible apply so_call); (case hw => simp only [aWanted, aYield, pAT, pG, reduceIte, Nat.reduceEqDiff]; done); (case ha => simp (maxSteps := 1000000) (disch := (refine id ?_; first | assumption | omega | (simp only [pN, pO, oneCell]; done) | (simp only [pN]; omega))) only [aOp, ev, pAT, pI, aInt, aStr, aUn, AR.of, AR.ofB, AR.ofH, reduceIte, Nat.reduceEqDiff, aBuiltin, aLen, aField, aFieldAddr, aIndexAddr, aStore, aLoad, cellsL, oneCell, splice, pC, pL, Nat.reduceBEq, Nat.reduceLeDiff, Nat.reduceMul, Nat.reduceSub, Nat.reduceLT, Nat.reduceAdd, wTrOS1] <;> with_reducible rfl))
    | ((with_reducible apply so_callD); (case hw => simp only [aWanted, aYield, pAT, pG, reduceIte, Nat.reduceEqDiff]; done); (case ha => simp (maxSteps := 1000000) (disch := (first | omega | (simp only [new_next, new_base, upd_next, upd_base, List.length_cons, List.length_nil, List.all_cons, List.all_nil, oneCell, Bool.and_self, Bool.and_true]; done) | (simp only [new_next, new_base, upd_next, upd_base, List.length_cons, List.length_nil]; omega))) only [aOp, ev, pAT, pI, aInt, aStr, aUn, AR.of, AR.ofB, AR.ofH, reduceIte, Nat.reduceEqDiff, aBuiltin, aLen, aField, aFieldAddr, aIndexAddr, aStore, aLoad, cellsL, oneCell, splice, pC, pL, Nat.reduceBEq, Nat.reduceLeDiff, Nat.reduceMul, Nat.reduceSub, Nat.reduceLT, Nat.reduceAdd, wTrOS1] <;> with_reducible rfl))
  refine (Empty.alone_wf H B _ 0 (by decide) ((bC 0).trans rfl)).mono ?_
  rintro _ _ ⟨rfl, rfl⟩
  generalize hf : Fr.put _ _ _ = fr
  have f0 : Fr.at fr 0 = .pointer (some ⟨B, 0, none⟩) := by
    subst hf
    simp only [at_some, at_none, at_args, List.getElem?_cons_zero, Option.getD_some, reduceIte, Nat.reduceEqDiff]
  have fp : Fr.at fr 5 = .bool true := by
    subst hf
    simp only [at_some, reduceIte]
  clear hf
  refine alone_step rfl rfl rfl rfl rfl rfl rfl rfl rfl rfl rfl rfl rfl rfl (by decide) f0 fp (Empty.alone_wf _ B _ 1 (by decide) ((bC 1).trans rfl)) ?_
  clear f0 fp
  rintro fr _ rfl f0 fp
  refine alone_step rfl rfl rfl rfl rfl rfl rfl rfl rfl rfl rfl rfl rfl rfl (by decide) f0 fp (Ints.alone_wf _ hb B _ hk.lt hk.blk (colK col 0) (zB 0) _ _ _ rfl (hk.rdb (by decide)) (m0.many (by decide)) hn0 (hy 0 (by decide))) ?_
  clear f0 fp
  rintro fr H1 ha f0 fp
  have hA := hA.trans (ha.imp (z 0))
  have hk := hk.other ha
  have hb : H1.base ≤ H1.next := by rw [ha.base]; exact Nat.le_trans hb ha.next
  clear bC
  obtain ⟨_, _, bC, _⟩ := box_facts hk.blk hk.lt
  have m1 := m1.other (k := 0) (by decide) (by decide) (by decide) ha
  have m2 := m2.other (k := 0) (by decide) (by decide) (by decide) ha
  have m3 := m3.other (k := 0) (by decide) (by decide) (by decide) ha
  clear ha
  refine alone_step rfl rfl rfl rfl rfl rfl rfl rfl rfl rfl rfl rfl rfl rfl (by decide) f0 fp (Empty.alone_wf _ B _ 3 (by decide) ((bC 3).trans rfl)) ?_
  clear f0 fp
  rintro fr _ rfl f0 fp
  refine alone_step rfl rfl rfl rfl rfl rfl rfl rfl rfl rfl rfl rfl rfl rfl (by decide) f0 fp (Empty.alone_wf _ B _ 4 (by decide) ((bC 4).trans rfl)) ?_
  clear f0 fp
  rintro fr _ rfl f0 fp
  refine alone_step rfl rfl rfl rfl rfl rfl rfl rfl rfl rfl rfl rfl rfl rfl (by decide) f0 fp (Empty.alone_wf _ B _ 5 (by decide) ((bC 5).trans rfl)) ?_
  clear f0 fp
  rintro fr _ rfl f0 fp
  refine alone_step rfl rfl rfl rfl rfl rfl rfl rfl rfl rfl rfl rfl rfl rfl (by decide) f0 fp (Empty.alone_wf _ B _ 6 (by decide) ((bC 6).trans rfl)) ?_
  clear f0 fp
  rintro fr _ rfl f0 fp
  refine alone_step rfl rfl rfl rfl rfl rfl rfl rfl rfl rfl rfl rfl rfl rfl (by decide) f0 fp (Empty.alone_wf _ B _ 7 (by decide) ((bC 7).trans rfl)) ?_
  clear f0 fp
  rintro fr _ rfl f0 fp
  refine alone_step rfl rfl rfl rfl rfl rfl rfl rfl rfl rfl rfl rfl rfl rfl (by decide) f0 fp (NodesL.alone_wf _ hb B _ hk.lt hk.blk (colK col 1) (zB 1) _ _ _ rfl (hk.rdb (by decide)) (m1.many (by decide)) hn1 (hy 1 (by decide))) ?_
  clear f0 fp
  rintro fr H2 ha f0 fp
  have hA := hA.trans (ha.imp (z 1))
  have hk := hk.other ha
  have hb : H2.base ≤ H2.next := by rw [ha.base]; exact Nat.le_trans hb ha.next
  clear bC
  obtain ⟨_, _, bC, _⟩ := box_facts hk.blk hk.lt
  have m2 := m2.other (k := 1) (by decide) (by decide) (by decide) ha
  have m3 := m3.other (k := 1) (by decide) (by decide) (by decide) ha
  clear ha
  refine alone_step rfl rfl rfl rfl rfl rfl rfl rfl rfl rfl rfl rfl rfl rfl (by decide) f0 fp (LabelsL.alone_wf _ hb B _ hk.lt hk.blk (colK col 2) (zB 2) _ _ _ rfl (hk.rdb (by decide)) (m2.many (by decide)) hn2 (hy 2 (by decide))) ?_
  clear f0 fp
  rintro fr H3 ha f0 fp
  have hA := hA.trans (ha.imp (z 2))
  have hk := hk.other ha
  have hb : H3.base ≤ H3.next := by rw [ha.base]; exact Nat.le_trans hb ha.next
  clear bC
  obtain ⟨_, _, bC, _⟩ := box_facts hk.blk hk.lt
  have m3 := m3.other (k := 2) (by decide) (by decide) (by decide) ha
  clear ha
  refine alone_step rfl rfl rfl rfl rfl rfl rfl rfl rfl rfl rfl rfl rfl rfl (by decide) f0 fp (Empty.alone_wf _ B _ 10 (by decide) ((bC 10).trans rfl)) ?_
  clear f0 fp
  rintro fr _ rfl f0 fp
  refine alone_step rfl rfl rfl rfl rfl rfl rfl rfl rfl rfl rfl rfl rfl rfl (by decide) f0 fp (Empty.alone_wf _ B _ 11 (by decide) ((bC 11).trans rfl)) ?_
  clear f0 fp
  rintro fr _ rfl f0 fp
  refine alone_step rfl rfl rfl rfl rfl rfl rfl rfl rfl rfl rfl rfl rfl rfl (by decide) f0 fp (Empty.alone_wf _ B _ 12 (by decide) ((bC 12).trans rfl)) ?_
  clear f0 fp
  rintro fr _ rfl f0 fp
  refine alone_step rfl rfl rfl rfl rfl rfl rfl rfl rfl rfl rfl rfl rfl rfl (by decide) f0 fp (Empty.alone_wf _ B _ 13 (by decide) ((bC 13).trans rfl)) ?_
  clear f0 fp
  rintro fr _ rfl f0 fp
  refine alone_step rfl rfl rfl rfl rfl rfl rfl rfl rfl rfl rfl rfl rfl rfl (by decide) f0 fp (Empty.alone_wf _ B _ 14 (by decide) ((bC 14).trans rfl)) ?_
  clear f0 fp
  rintro fr _ rfl f0 fp
  refine alone_step rfl rfl rfl rfl rfl rfl rfl rfl rfl rfl rfl rfl rfl rfl (by decide) f0 fp (Empty.alone_wf _ B _ 15 (by decide) ((bC 15).trans rfl)) ?_
  clear f0 fp
  rintro fr _ rfl f0 fp
  refine alone_step rfl rfl rfl rfl rfl rfl rfl rfl rfl rfl rfl rfl rfl rfl (by decide) f0 fp (Empty.alone_wf _ B _ 16 (by decide) ((bC 16).trans rfl)) ?_
  clear f0 fp
  rintro fr _ rfl f0 fp
  refine alone_step rfl rfl rfl rfl rfl rfl rfl rfl rfl rfl rfl rfl rfl rfl (by decide) f0 fp (Empty.alone_wf _ B _ 17 (by decide) ((bC 17).trans rfl)) ?_
  clear f0 fp
  rintro fr _ rfl f0 fp
  refine alone_step rfl rfl rfl rfl rfl rfl rfl rfl rfl rfl rfl rfl rfl rfl (by decide) f0 fp (Empty.alone_wf _ B _ 18 (by decide) ((bC 18).trans rfl)) ?_
  clear f0 fp
  rintro fr _ rfl f0 fp
  refine alone_step rfl rfl rfl rfl rfl rfl rfl rfl rfl rfl rfl rfl rfl rfl (by decide) f0 fp (Empty.alone_wf _ B _ 19 (by decide) ((bC 19).trans rfl)) ?_
  clear f0 fp
  rintro fr _ rfl f0 fp
  refine alone_step rfl rfl rfl rfl rfl rfl rfl rfl rfl rfl rfl rfl rfl rfl (by decide) f0 fp (Empty.alone_wf _ B _ 20 (by decide) ((bC 20).trans rfl)) ?_
  clear f0 fp
  rintro fr _ rfl f0 fp
  refine alone_step rfl rfl rfl rfl rfl rfl rfl rfl rfl rfl rfl rfl rfl rfl (by decide) f0 fp (ItemsL.alone_wf _ hb B _ hk.lt hk.blk (colK col 3) (zB 3) _ _ _ rfl (hk.rdb (by decide)) (m3.many (by decide)) hn3 (hy 3 (by decide))) ?_
  clear f0 fp
  rintro fr H4 ha f0 fp
  have hA := hA.trans (ha.imp (z 3))
  have hk := hk.other ha
  have hb : H4.base ≤ H4.next := by rw [ha.base]; exact Nat.le_trans hb ha.next
  clear bC
  obtain ⟨_, _, bC, _⟩ := box_facts hk.blk hk.lt
  clear ha
  refine alone_step rfl rfl rfl rfl rfl rfl rfl rfl rfl rfl rfl rfl rfl rfl (by decide) f0 fp (Empty.alone_wf _ B _ 22 (by decide) ((bC 22).trans rfl)) ?_
  clear f0 fp
  rintro fr _ rfl f0 fp
  refine alone_step rfl rfl rfl rfl rfl rfl rfl rfl rfl rfl rfl rfl rfl rfl (by decide) f0 fp (Empty.alone_wf _ B _ 23 (by decide) ((bC 23).trans rfl)) ?_
  clear f0 fp
  rintro fr _ rfl f0 fp
  refine alone_step rfl rfl rfl rfl rfl rfl rfl rfl rfl rfl rfl rfl rfl rfl (by decide) f0 fp (Empty.alone_wf _ B _ 24 (by decide) ((bC 24).trans rfl)) ?_
  clear f0 fp
  rintro fr _ rfl f0 fp
  refine alone_step rfl rfl rfl rfl rfl rfl rfl rfl rfl rfl rfl rfl rfl rfl (by decide) f0 fp (Empty.alone_wf _ B _ 25 (by decide) ((bC 25).trans rfl)) ?_
  clear f0 fp
  rintro fr _ rfl f0 fp
  refine alone_step rfl rfl rfl rfl rfl rfl rfl rfl rfl rfl rfl rfl rfl rfl (by decide) f0 fp (Empty.alone_wf _ B _ 26 (by decide) ((bC 26).trans rfl)) ?_
  clear f0 fp
  rintro fr _ rfl f0 fp
  refine alone_step rfl rfl rfl rfl rfl rfl rfl rfl rfl rfl rfl rfl rfl rfl (by decide) f0 fp (Empty.alone_wf _ B _ 27 (by decide) ((bC 27).trans rfl)) ?_
  clear f0 fp
  rintro fr _ rfl f0 fp
  obtain ⟨_, _, _, _, bS⟩ := box_facts hk.blk hk.lt
  have hst := bS 0 [.slice none 0 0, .slice none 0 0, .slice none 0 0, .slice none 0 0, .slice none 0 0, .slice none 0 0, .slice none 0 0, .slice none 0 0, .slice none 0 0, .slice none 0 0, .slice none 0 0, .slice none 0 0, .slice none 0 0, .slice none 0 0, .slice none 0 0, .slice none 0 0, .slice none 0 0, .slice none 0 0, .slice none 0 0, .slice none 0 0, .slice none 0 0, .slice none 0 0, .slice none 0 0, .slice none 0 0, .slice none 0 0, .slice none 0 0, .slice none 0 0, .slice none 0 0] hk.low rfl (by simp)
  repeat (first
    | (with_reducible refine sc_seq ?_)
    | (with_reducible refine sc_region ?_)
    | (with_reducible refine sc_block ?_)
    | (with_reducible refine sc_scope ?_)
    | ((with_reducible refine sc_skip ?_); dsimp only)
    | ((with_reducible refine sc_label ?_); dsimp only)
    | ((with_reducible refine sc_ret ?_); dsimp only)
    | ((with_reducible refine sc_exit ?_); dsimp only [Nat.beq])
    | ((with_reducible refine so_nil ?_); dsimp only)
    | ((with_reducible apply so_skip); (case hw => simp only [aWanted, aYield, pAT, pG, f0, fp, build60, hst, reduceIte, Nat.reduceEqDiff]; done))
    | ((with_reducible apply so_val); (case hw => simp only [aWanted, aYield, pAT, pG, f0, fp, build60, hst, reduceIte, Nat.reduceEqDiff]; done); (case ha => simp only [aOp, ev, pAT, f0, fp, build60, hst, pI, aInt, aStr, aUn, AR.of, AR.ofB, AR.ofH, reduceIte, Nat.reduceEqDiff, aBuiltin, aLen, aField, aFieldAddr, aIndexAddr, aStore, aLoad, cellsL, oneCell, splice, pL, Nat.reduceBEq, Nat.reduceLeDiff, Nat.reduceMul, Nat.reduceSub, Nat.reduceLT, Nat.reduceAdd, wTrOS1] <;> with_reducible rfl))
    | ((with_reducible apply so_val); (case hw => simp only [aWanted, aYield, pAT, pG, f0, fp, build60, hst, reduceIte, Nat.reduceEqDiff]; done); (case ha => simp (maxSteps := 1000000) (disch := (refine id ?_; first | assumption | omega | (simp only [pN, pO, oneCell]; done) | (simp only [pN]; omega))) only [aOp, ev, pAT, f0, fp, build60, hst, pI, aInt, aStr, aUn, AR.of, AR.ofB, AR.ofH, reduceIte, Nat.reduceEqDiff, aBuiltin, aLen, aField, aFieldAddr, aIndexAddr, aStore, aLoad, cellsL, oneCell, splice, pC, pL, Nat.reduceBEq, Nat.reduceLeDiff, Nat.reduceMul, Nat.reduceSub, Nat.reduceLT, Nat.reduceAdd, wTrOS1] <;> with_reducible rfl))
    | ((with_reducible apply sc_false); (case hc => simp only [ev, pAT, f0, fp, build60, hst, reduceIte, Nat.reduceEqDiff]; done))
    | ((with_reducible apply sc_true); (case hc => simp only [ev, pAT, f0, fp, build60, hst, reduceIte, Nat.reduceEqDiff]; done)))
  apply res_fin (rs := [ResultVar.tmp 2]) trivial
  case h => simp (disch := (refine id ?_; first | assumption | omega | (simp only [pN, pO, oneCell]; done) | (simp only [pN]; omega))) only [aResults, aResult, aOp, ev, pAT, fp, pI, aInt, aStr, aUn, AR.of, AR.ofB, AR.ofH, reduceIte, Nat.reduceEqDiff, aBuiltin, aLen, aField, aFieldAddr, aIndexAddr, aStore, aLoad, cellsL, oneCell, splice, pC, pL, Nat.reduceBEq, Nat.reduceLeDiff, Nat.reduceMul, Nat.reduceSub, Nat.reduceLT, Nat.reduceAdd, wTrOS1] <;> with_reducible rfl
  case hq => exact ⟨rfl, hA.trans (Agr.upd _ (by have := hk.colB; omega) _)⟩
end Go.Am
