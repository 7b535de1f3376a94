/- weirref23.Compare of like cells: 0; walked on the abstract machine. -/
import Derived.Test.YthfkednlgehchaaGreatDoorTextRows
set_option linter.unusedVariables false
set_option linter.unusedSimpArgs false
namespace Go.Am
open Go Go.Proofs Go.RowKit Go.Proofs.YthfkednlgehchaaGreatDoor


/-! ### the walks -/
def fnsC : List Nat := [10, 27]
noncomputable def fnC (f : Nat) : Option Func := match fnsC.any fun g => g.beq f with
  | true => Tryz.prog.funcs[f]?
  | false => none
theorem fnsC_ok : (fnsC.all fun f => match Tryz.prog.funcs[f]? with | some fn => fnOk Tryz.prog fn | none => false) = true := by kernel_rfl
theorem fnC_ok (f : Nat) (fn : Func) (h : fnC f = some fn) : Tryz.prog.funcs[f]? = some fn ∧ fnOk Tryz.prog fn = true := by
  unfold fnC at h
  split at h
  · rename_i hc
    obtain ⟨g, hg, hb⟩ := List.any_eq_true.1 hc
    obtain rfl := Nat.eq_of_beq_eq_true hb
    have := List.all_eq_true.1 fnsC_ok g hg
    rw [h] at this
    exact ⟨h, this⟩
  · cases h
theorem none_orc : CallOk Tryz.prog (fun _ _ _ => none) := fun f args H v H' h => by cases h
noncomputable def cfg : Cfg := { P := Tryz.prog, fn := fnC, orc := fun _ _ _ => none }
theorem cfg_ok : cfg.Ok := ⟨YthfkednlgehchaaGreatDoor.Am.zok, YthfkednlgehchaaGreatDoor.Am.mixed, fnC_ok, none_orc⟩
theorem cfg_P : cfg.P = Tryz.prog := rfl
theorem f24_0 : fieldT Tryz.prog 27 0 = some (0, 2) := by kernel_rfl
theorem f24_1 : fieldT Tryz.prog 27 1 = some (1, 22) := by kernel_rfl
theorem s2 : szT Tryz.prog 2 = some 1 := by kernel_rfl
theorem a2 : aggT Tryz.prog 2 = some false := by kernel_rfl
theorem s22 : szT Tryz.prog 22 = some 1 := by kernel_rfl
theorem a22 : aggT Tryz.prog 22 = some false := by kernel_rfl
theorem u22 : undT Tryz.prog 22 = some (.slice 9) := by kernel_rfl
theorem s9 : szT Tryz.prog 9 = some 1 := by kernel_rfl
theorem a9 : aggT Tryz.prog 9 = some false := by kernel_rfl
theorem less_irrefl : ∀ a : List UInt8, Op.bytesLess a a = false
  | [] => rfl
  | x :: a => by unfold Op.bytesLess; rw [less_irrefl a]; simp
theorem great_irrefl (a : List UInt8) : (!(Op.bytesLess a a || a == a)) = false := by rw [less_irrefl]; simp
theorem wrap_succ {n : Nat} (h : n < 4611686018427387904) : IntKind.i64.wrap ((n : Int) + 1) = ((n + 1 : Nat) : Int) := by
  simp [IntKind.wrap, IntKind.bits, IntKind.signed]; omega

theorem wTCmp1 : type_of% (And.intro @cfg_P <| And.intro @f24_0 <| And.intro @f24_1 <| And.intro @s2 <| And.intro @a2 <| And.intro @s22 <| And.intro @a22 <| And.intro @u22 <| And.intro @s9 <| @a9) := And.intro @cfg_P <| And.intro @f24_0 <| And.intro @f24_1 <| And.intro @s2 <| And.intro @a2 <| And.intro @s22 <| And.intro @a22 <| And.intro @u22 <| And.intro @s9 <| @a9
set_option maxRecDepth 10000 in
set_option maxHeartbeats 4000000 in
theorem groups_wf (H : AH) (v1 v2 : Value) (gs : List ByteArray) (h1 : Rd H 1 v1 (txts gs)) (h2 : Rd H 1 v2 (txts gs)) (hl : gs.length ≤ 4294967296) : Wf cfg 27 [v1, v2] H fun r H' => r = .int .i64 0 ∧ H' = H := by
  obtain ⟨q1, q2, e1, _⟩ := id h1
  obtain ⟨q3, q4, e2, _⟩ := id h2
  have hlen : (txts gs).length = gs.length := List.length_map _
  rw [hlen] at e1 e2
  subst e1 e2
  refine wf_text (fn := Tryz.f27) rfl Tryz.func27 rfl rfl ?_
  repeat (first
    | (with_reducible refine sc_seq ?_)
    | (with_reducible refine sc_region ?_)
    | (with_reducible refine sc_block ?_)
    | (with_reducible refine sc_scope ?_)
    | ((with_reducible refine sc_skip ?_); dsimp only)
    | ((with_reducible refine sc_label ?_); dsimp only)
    | ((with_reducible refine sc_ret ?_); dsimp only)
    | ((with_reducible refine sc_exit ?_); dsimp only [Nat.beq])
    | ((with_reducible refine so_nil ?_); dsimp only)
    | ((with_reducible apply so_skip); (case hw => simp only [aWanted, aYield, pAT, pG, reduceIte, Nat.reduceEqDiff]; done))
    | ((with_reducible apply so_val); (case hw => simp only [aWanted, aYield, pAT, pG, reduceIte, Nat.reduceEqDiff]; done); (case ha => simp (maxSteps := 1000000) (disch := (refine id ?_; first | assumption | omega | (simp only [pN, pO, oneCell]; done) | (simp only [pN]; omega))) only [aOp, ev, pAT, pI, aInt, aStr, aUn, AR.of, AR.ofB, AR.ofH, reduceIte, Nat.reduceEqDiff, aBuiltin, aLen, aField, aFieldAddr, aIndexAddr, aStore, aLoad, cellsL, oneCell, splice, pC, pL, Nat.reduceBEq, Nat.reduceLeDiff, Nat.reduceMul, Nat.reduceSub, Nat.reduceLT, Nat.reduceAdd, wTCmp1] <;> with_reducible rfl))
    | ((with_reducible apply sc_false); (case hc => simp only [ev, pAT, reduceIte, Nat.reduceEqDiff]; done))
    | ((with_reducible apply sc_true); (case hc => simp only [ev, pAT, reduceIte, Nat.reduceEqDiff]; done)))
  refine sc_loop (I := fun m fr G => G = H ∧ ∃ t : Nat, t ≤ gs.length ∧ m = gs.length - t ∧ Fr.at fr 0 = .slice q1 gs.length q2 ∧ Fr.at fr 1 = .slice q3 gs.length q4 ∧ Fr.at fr 5 = .int .i64 t) ?_ gs.length _ _ ?_
  rotate_left
  · refine ⟨rfl, 0, by omega, rfl, ?_, ?_, ?_⟩ <;> simp only [at_some, at_none, at_args, List.getElem?_cons_zero, List.getElem?_cons_succ, Option.getD_some, ev, reduceIte, Nat.reduceEqDiff] <;> rfl
  rintro m fr G ⟨rfl, t, ht, rfl, f0, f1, f5⟩
  by_cases hlt : t < gs.length
  · obtain ⟨g, hg⟩ : ∃ g, gs[t]? = some g := ⟨_, List.getElem?_eq_getElem hlt⟩
    have hx : (txts gs)[t]? = some [.string g] := by unfold txts; rw [List.getElem?_map, hg]; rfl
    obtain ⟨b1, o1, c1, e1, _, _, _, l1⟩ := h1.at hx
    obtain ⟨b2, o2, c2, e2, _, _, _, l2⟩ := h2.at hx
    simp only [Value.slice.injEq] at e1 e2
    obtain ⟨rfl, _⟩ := e1
    obtain ⟨rfl, _⟩ := e2
    have m1 := l1 0 (by omega)
    have m2 := l2 0 (by omega)
    simp only [Nat.add_zero, List.getElem?_cons_zero, Nat.mul_one] at m1 m2
    have g1 : decide ((t : Int) < (gs.length : Int)) = true := decT (by omega)
    have g2 : (0 ≤ (t : Int) ∧ (t : Int) < (gs.length : Int)) := by omega
    repeat (first
      | (with_reducible refine sc_seq ?_)
      | (with_reducible refine sc_region ?_)
      | (with_reducible refine sc_block ?_)
      | (with_reducible refine sc_scope ?_)
      | ((with_reducible refine sc_skip ?_); dsimp only)
      | ((with_reducible refine sc_label ?_); dsimp only)
      | ((with_reducible refine sc_ret ?_); dsimp only)
      | ((with_reducible refine sc_exit ?_); dsimp only [Nat.beq])
      | ((with_reducible refine so_nil ?_); dsimp only)
      | ((with_reducible apply so_skip); (case hw => simp only [aWanted, aYield, pAT, pG, f0, f1, f5, g1, g2, m1, m2, if_true, Int.toNat_natCast, true_and, and_self, Nat.mul_one, (less_irrefl g.data.toList), Bool.false_or, Bool.not_true, reduceIte, Nat.reduceEqDiff]; done))
      | ((with_reducible apply so_val); (case hw => simp only [aWanted, aYield, pAT, pG, f0, f1, f5, g1, g2, m1, m2, if_true, Int.toNat_natCast, true_and, and_self, Nat.mul_one, (less_irrefl g.data.toList), Bool.false_or, Bool.not_true, reduceIte, Nat.reduceEqDiff]; done); (case ha => simp (maxSteps := 1000000) (disch := (refine id ?_; first | assumption | omega | (simp only [pN, pO, oneCell]; done) | (simp only [pN]; omega))) only [aOp, ev, pAT, f0, f1, f5, g1, g2, m1, m2, if_true, Int.toNat_natCast, true_and, and_self, Nat.mul_one, (less_irrefl g.data.toList), Bool.false_or, Bool.not_true, pI, aInt, aStr, aUn, AR.of, AR.ofB, AR.ofH, reduceIte, Nat.reduceEqDiff, aBuiltin, aLen, aField, aFieldAddr, aIndexAddr, aStore, aLoad, cellsL, oneCell, splice, pC, pL, Nat.reduceBEq, Nat.reduceLeDiff, Nat.reduceMul, Nat.reduceSub, Nat.reduceLT, Nat.reduceAdd, wTCmp1] <;> with_reducible rfl))
      | ((with_reducible apply sc_false); (case hc => simp only [ev, pAT, f0, f1, f5, g1, g2, m1, m2, if_true, Int.toNat_natCast, true_and, and_self, Nat.mul_one, (less_irrefl g.data.toList), Bool.false_or, Bool.not_true, reduceIte, Nat.reduceEqDiff]; done))
      | ((with_reducible apply sc_true); (case hc => simp only [ev, pAT, f0, f1, f5, g1, g2, m1, m2, if_true, Int.toNat_natCast, true_and, and_self, Nat.mul_one, (less_irrefl g.data.toList), Bool.false_or, Bool.not_true, reduceIte, Nat.reduceEqDiff]; done)))
    refine ⟨gs.length - (t + 1), by omega, rfl, t + 1, by omega, rfl, ?_, ?_, ?_⟩ <;> simp only [at_some, at_none, f0, f1, f5, reduceIte, Nat.reduceEqDiff]
    rw [wrap_succ (by omega)]
  · obtain rfl : t = gs.length := by omega
    have g1 : decide ((gs.length : Int) < (gs.length : Int)) = false := decF (by omega)
    have g2 : decide ((gs.length : Int) > (gs.length : Int)) = false := decF (by omega)
    repeat (first
      | (with_reducible refine sc_seq ?_)
      | (with_reducible refine sc_region ?_)
      | (with_reducible refine sc_block ?_)
      | (with_reducible refine sc_scope ?_)
      | ((with_reducible refine sc_skip ?_); dsimp only)
      | ((with_reducible refine sc_label ?_); dsimp only)
      | ((with_reducible refine sc_ret ?_); dsimp only)
      | ((with_reducible refine sc_exit ?_); dsimp only [Nat.beq])
      | ((with_reducible refine so_nil ?_); dsimp only)
      | ((with_reducible apply so_skip); (case hw => simp only [aWanted, aYield, pAT, pG, f0, f1, f5, g1, g2, reduceIte, Nat.reduceEqDiff]; done))
      | ((with_reducible apply so_val); (case hw => simp only [aWanted, aYield, pAT, pG, f0, f1, f5, g1, g2, reduceIte, Nat.reduceEqDiff]; done); (case ha => simp (maxSteps := 1000000) (disch := (refine id ?_; first | assumption | omega | (simp only [pN, pO, oneCell]; done) | (simp only [pN]; omega))) only [aOp, ev, pAT, f0, f1, f5, g1, g2, pI, aInt, aStr, aUn, AR.of, AR.ofB, AR.ofH, reduceIte, Nat.reduceEqDiff, aBuiltin, aLen, aField, aFieldAddr, aIndexAddr, aStore, aLoad, cellsL, oneCell, splice, pC, pL, Nat.reduceBEq, Nat.reduceLeDiff, Nat.reduceMul, Nat.reduceSub, Nat.reduceLT, Nat.reduceAdd, wTCmp1] <;> with_reducible rfl))
      | ((with_reducible apply sc_false); (case hc => simp only [ev, pAT, f0, f1, f5, g1, g2, reduceIte, Nat.reduceEqDiff]; done))
      | ((with_reducible apply sc_true); (case hc => simp only [ev, pAT, f0, f1, f5, g1, g2, reduceIte, Nat.reduceEqDiff]; done)))
    apply res_fin (rs := [ResultVar.tmp 4]) trivial
    case h => simp (disch := (refine id ?_; first | assumption | omega | (simp only [pN, pO, oneCell]; done) | (simp only [pN]; omega))) only [aResults, aResult, aOp, ev, pAT, pI, aInt, aStr, aUn, AR.of, AR.ofB, AR.ofH, reduceIte, Nat.reduceEqDiff, aBuiltin, aLen, aField, aFieldAddr, aIndexAddr, aStore, aLoad, cellsL, oneCell, splice, pC, pL, Nat.reduceBEq, Nat.reduceLeDiff, Nat.reduceMul, Nat.reduceSub, Nat.reduceLT, Nat.reduceAdd, wTCmp1] <;> with_reducible rfl
    case hq => exact ⟨rfl, rfl⟩

set_option maxRecDepth 10000 in
set_option maxHeartbeats 4000000 in
theorem compare_wf (H : AH) (n : Int) (v1 v2 : Value) (gs : List ByteArray) (h1 : Rd H 1 v1 (txts gs)) (h2 : Rd H 1 v2 (txts gs)) (hl : gs.length ≤ 4294967296) : Wf cfg 10 [.agg #[.int .i64 n, v1], .agg #[.int .i64 n, v2]] H fun r H' => r = .int .i64 0 := by
  obtain ⟨q1, q2, rfl, _⟩ := id h1
  obtain ⟨q3, q4, rfl, _⟩ := id h2
  have g1 : decide (n < n) = false := decF (by omega)
  have g2 : decide (n > n) = false := decF (by omega)
  refine wf_text (fn := Tryz.f10) rfl Tryz.func10 rfl rfl ?_
  repeat (first
    | (with_reducible refine sc_seq ?_)
    | (with_reducible refine sc_region ?_)
    | (with_reducible refine sc_block ?_)
    | (with_reducible refine sc_scope ?_)
    | ((with_reducible refine sc_skip ?_); dsimp only)
    | ((with_reducible refine sc_label ?_); dsimp only)
    | ((with_reducible refine sc_ret ?_); dsimp only)
    | ((with_reducible refine sc_exit ?_); dsimp only [Nat.beq])
    | ((with_reducible refine so_nil ?_); dsimp only)
    | ((with_reducible apply so_skip); (case hw => simp only [aWanted, aYield, pAT, pG, g1, g2, reduceIte, Nat.reduceEqDiff]; done))
    | ((with_reducible apply so_val); (case hw => simp only [aWanted, aYield, pAT, pG, g1, g2, reduceIte, Nat.reduceEqDiff]; done); (case ha => simp (maxSteps := 1000000) (disch := (refine id ?_; first | assumption | omega | (simp only [pN, pO, oneCell]; done) | (simp only [pN]; omega))) only [aOp, ev, pAT, g1, g2, pI, aInt, aStr, aUn, AR.of, AR.ofB, AR.ofH, reduceIte, Nat.reduceEqDiff, aBuiltin, aLen, aField, aFieldAddr, aIndexAddr, aStore, aLoad, cellsL, oneCell, splice, pC, pL, Nat.reduceBEq, Nat.reduceLeDiff, Nat.reduceMul, Nat.reduceSub, Nat.reduceLT, Nat.reduceAdd, wTCmp1] <;> with_reducible rfl))
    | ((with_reducible apply sc_false); (case hc => simp only [ev, pAT, g1, g2, reduceIte, Nat.reduceEqDiff]; done))
    | ((with_reducible apply sc_true); (case hc => simp only [ev, pAT, g1, g2, reduceIte, Nat.reduceEqDiff]; done)))
  first
    | ((with_reducible apply so_call); (case hw => simp only [aWanted, aYield, pAT, pG, g1, g2, reduceIte, Nat.reduceEqDiff]; done); (case ha => simp (maxSteps := 1000000) (disch := (refine id ?_; first | assumption | omega | (simp only [pN, pO, oneCell]; done) | (simp only [pN]; omega))) only [aOp, ev, pAT, g1, g2, pI, aInt, aStr, aUn, AR.of, AR.ofB, AR.ofH, reduceIte, Nat.reduceEqDiff, aBuiltin, aLen, aField, aFieldAddr, aIndexAddr, aStore, aLoad, cellsL, oneCell, splice, pC, pL, Nat.reduceBEq, Nat.reduceLeDiff, Nat.reduceMul, Nat.reduceSub, Nat.reduceLT, Nat.reduceAdd, wTCmp1] <;> with_reducible rfl))
    | ((with_reducible apply so_callD); (case hw => simp only [aWanted, aYield, pAT, pG, g1, g2, reduceIte, Nat.reduceEqDiff]; done); (case ha => simp (maxSteps := 1000000) (disch := (first | omega | (simp only [new_next, new_base, upd_next, upd_base, List.length_cons, List.length_nil, List.all_cons, List.all_nil, oneCell, Bool.and_self, Bool.and_true]; done) | (simp only [new_next, new_base, upd_next, upd_base, List.length_cons, List.length_nil]; omega))) only [aOp, ev, pAT, g1, g2, pI, aInt, aStr, aUn, AR.of, AR.ofB, AR.ofH, reduceIte, Nat.reduceEqDiff, aBuiltin, aLen, aField, aFieldAddr, aIndexAddr, aStore, aLoad, cellsL, oneCell, splice, pC, pL, Nat.reduceBEq, Nat.reduceLeDiff, Nat.reduceMul, Nat.reduceSub, Nat.reduceLT, Nat.reduceAdd, wTCmp1] <;> with_reducible rfl))
  have hx : Ext H ((H.new (.cells [.int .i64 n, .slice q1 (txts gs).length q2] 0 .solo)).new (.cells [.int .i64 n, .slice q3 (txts gs).length q4] 0 .solo)) := (Ext.new H _).step _
  generalize (H.new (.cells [.int .i64 n, .slice q1 (txts gs).length q2] 0 .solo)).new (.cells [.int .i64 n, .slice q3 (txts gs).length q4] 0 .solo) = X at hx ⊢
  refine (groups_wf _ _ _ gs (h1.mono hx).wb (h2.mono hx).wb hl).mono ?_
  rintro _ _ ⟨rfl, rfl⟩
  repeat (first
    | (with_reducible refine sc_seq ?_)
    | (with_reducible refine sc_region ?_)
    | (with_reducible refine sc_block ?_)
    | (with_reducible refine sc_scope ?_)
    | ((with_reducible refine sc_skip ?_); dsimp only)
    | ((with_reducible refine sc_label ?_); dsimp only)
    | ((with_reducible refine sc_ret ?_); dsimp only)
    | ((with_reducible refine sc_exit ?_); dsimp only [Nat.beq])
    | ((with_reducible refine so_nil ?_); dsimp only)
    | ((with_reducible apply so_skip); (case hw => simp only [aWanted, aYield, pAT, pG, reduceIte, Nat.reduceEqDiff]; done))
    | ((with_reducible apply so_val); (case hw => simp only [aWanted, aYield, pAT, pG, reduceIte, Nat.reduceEqDiff]; done); (case ha => simp (maxSteps := 1000000) (disch := (refine id ?_; first | assumption | omega | (simp only [pN, pO, oneCell]; done) | (simp only [pN]; omega))) only [aOp, ev, pAT, pI, aInt, aStr, aUn, AR.of, AR.ofB, AR.ofH, reduceIte, Nat.reduceEqDiff, aBuiltin, aLen, aField, aFieldAddr, aIndexAddr, aStore, aLoad, cellsL, oneCell, splice, pC, pL, Nat.reduceBEq, Nat.reduceLeDiff, Nat.reduceMul, Nat.reduceSub, Nat.reduceLT, Nat.reduceAdd, wTCmp1] <;> with_reducible rfl))
    | ((with_reducible apply sc_false); (case hc => simp only [ev, pAT, reduceIte, Nat.reduceEqDiff]; done))
    | ((with_reducible apply sc_true); (case hc => simp only [ev, pAT, reduceIte, Nat.reduceEqDiff]; done)))
  apply res_fin (rs := [ResultVar.tmp 4]) trivial
  case h => simp (disch := (refine id ?_; first | assumption | omega | (simp only [pN, pO, oneCell]; done) | (simp only [pN]; omega))) only [aResults, aResult, aOp, ev, pAT, pI, aInt, aStr, aUn, AR.of, AR.ofB, AR.ofH, reduceIte, Nat.reduceEqDiff, aBuiltin, aLen, aField, aFieldAddr, aIndexAddr, aStore, aLoad, cellsL, oneCell, splice, pC, pL, Nat.reduceBEq, Nat.reduceLeDiff, Nat.reduceMul, Nat.reduceSub, Nat.reduceLT, Nat.reduceAdd, wTCmp1] <;> with_reducible rfl
  case hq => rfl
end Go.Am
namespace Go.Proofs.YthfkednlgehchaaGreatDoor.RefCmp
open Go Go.RowKit Go.Proofs Go.Am Go.Proofs.YthfkednlgehchaaGreatDoor.Esc Go.Proofs.YthfkednlgehchaaGreatDoor.Base Go.Proofs.YthfkednlgehchaaGreatDoor.Name
theorem compare_any (n : Int) (v1 v2 : Value) (gs : List ByteArray) (hgl : gs.length ≤ 4294967296) (W : World) (hG : Globs W) (h1 : Strs W v1 gs) (h2 : Strs W v2 gs) :
    Calls Tryz.prog 10 #[.agg #[.int .i64 n, v1], .agg #[.int .i64 n, v2]] W fun e W' => e = .returned (.int .i64 0) ∧ Below W.heap.size W W' := by
  have r1 := strs_row h1
  have r2 := strs_row h2
  let cs : List (List Value) := [(txts gs).flatten, (txts gs).flatten]
  let As : List (Option Addr) := [adr v1 (txts gs), adr v2 (txts gs)]
  have hpl : ∀ ρ, ∀ x ∈ txts gs, ∀ u ∈ x, VR ρ u u := by
    intro ρ x hx u hu
    obtain ⟨g, _, rfl⟩ := List.mem_map.1 hx
    cases List.mem_singleton.1 hu
    exact .string _
  obtain ⟨hR, hW⟩ := start_of hG (cs := cs) (As := As) rfl (fun i c A hc hA => by
    match i, hc, hA with
    | 0, hc, hA =>
      cases hc; cases hA
      exact lies_plain r1 (by decide) (hpl _)
    | 1, hc, hA =>
      cases hc; cases hA
      exact lies_plain r2 (by decide) (hpl _)
    | i + 2, hc, hA => simp [cs] at hc)
  have hs1 : ∀ x ∈ txts gs, x.length = 1 := by obtain ⟨_, _, _, _, _, h, _⟩ := r1; exact h
  have hb : ∀ (k : Nat) (c : List Value), cs[k]? = some c → (heapOf cs).blk.get (12 + k) = some (.cells c 0 .ext) := by
    intro k c hk
    have : k < cs.length := (List.getElem?_eq_some_iff.1 hk).1
    simp only [heapOf]
    rw [lay_get, if_pos (by omega), Nat.add_sub_cancel_left, hk]; rfl
  have hrho : ∀ (k : Nat) (A : Option Addr) (a : Addr), As[k]? = some A → A = some a → rhoOf As (12 + k) = some ⟨a.block, a.off, 0, 0⟩ := by
    intro k A a h1 h2
    subst h2
    unfold rhoOf
    rw [if_neg (by omega), Nat.add_sub_cancel_left, h1]
  have d1 : Rd (heapOf cs) 1 (amv 12 v1 (txts gs)) (txts gs) := amv_rd hs1 (by simp only [heapOf, cs, List.length_cons, List.length_nil]; omega) (hb 0 _ rfl)
  have d2 : Rd (heapOf cs) 1 (amv (12 + 1) v2 (txts gs)) (txts gs) := amv_rd hs1 (by simp only [heapOf, cs, List.length_cons, List.length_nil]; omega) (hb 1 _ rfl)
  have e1 : VR (rhoOf As) (amv 12 v1 (txts gs)) v1 := amv_vr r1 fun a ha => hrho 0 _ a rfl ha
  have e2 : VR (rhoOf As) (amv (12 + 1) v2 (txts gs)) v2 := amv_vr r2 fun a ha => hrho 1 _ a rfl ha
  have a1 : VR (rhoOf As) (.agg #[.int .i64 n, amv 12 v1 (txts gs)]) (.agg #[.int .i64 n, v1]) := VR.agg_of (by exact .cons (.int _ _) (.cons e1 .nil))
  have a2 : VR (rhoOf As) (.agg #[.int .i64 n, amv (12 + 1) v2 (txts gs)]) (.agg #[.int .i64 n, v2]) := VR.agg_of (by exact .cons (.int _ _) (.cons e2 .nil))
  refine (Wf.told cfg_ok ⟨Tryz.f10, Tryz.func10, by decide, by kernel_rfl⟩ (compare_wf _ n _ _ gs d1 d2 hgl) hR hW (.cons a1 (.cons a2 .nil))).mono fun e w' ⟨v, H', v', ρ', hv, he, hr, hbl⟩ => ?_
  subst hv
  cases hr
  exact ⟨he, hbl⟩


end Go.Proofs.YthfkednlgehchaaGreatDoor.RefCmp
