import Derived.Test.YtldhedlleefkcaaGreatDoorO4
set_option linter.unusedVariables false
set_option linter.unusedSimpArgs false
namespace Go.Am
open Go.Proofs Go
theorem eq38 (xo yo : Operand) (a f n k p : Int) (s : ByteArray) : aBin Tryz.prog .eql 73 xo yo (.agg #[.int .u8 a, .int .u8 f, .string s, .int .i64 n, .int .i64 k, .int .i64 p]) (.agg #[.int .u8 a, .int .u8 f, .string s, .int .i64 n, .int .i64 k, .int .i64 p]) = some (.bool true) := by
  have g : Tryz.prog.eqGuardType Tryz.prog.depth 73 = false := by kernel_rfl
  have h1 : Tryz.prog.stoodInHeld 73 = false := by kernel_rfl
  have e : aEq Tryz.prog (9998 + 2) 73 (.agg #[.int .u8 a, .int .u8 f, .string s, .int .i64 n, .int .i64 k, .int .i64 p]) (.agg #[.int .u8 a, .int .u8 f, .string s, .int .i64 n, .int .i64 k, .int .i64 p]) = some true := by
    rw [aEq.eq_def]
    simp only [Tryz.underlying73, h1]
    simp [aEqParts, aPart, a35, a36, a9, a2, agg3, aEq, u35, u36, u9, u2, u3]
  unfold aBin aGuard
  simp only [g, Bool.not_false]
  rw [show Op.maxDepth = 9998 + 2 from rfl, e]
theorem ne38 (xo yo : Operand) (a f n k p : Int) (s : ByteArray) : aBin Tryz.prog .neq 73 xo yo (.agg #[.int .u8 a, .int .u8 f, .string s, .int .i64 n, .int .i64 k, .int .i64 p]) (.agg #[.int .u8 a, .int .u8 f, .string s, .int .i64 n, .int .i64 k, .int .i64 p]) = some (.bool false) := by
  have h := eq38 xo yo a f n k p s
  unfold aBin aGuard at h ⊢
  have g : Tryz.prog.eqGuardType Tryz.prog.depth 73 = false := by kernel_rfl
  simp only [g, Bool.not_false] at h ⊢
  cases he : aEq Tryz.prog Op.maxDepth 73 (.agg #[.int .u8 a, .int .u8 f, .string s, .int .i64 n, .int .i64 k, .int .i64 p]) (.agg #[.int .u8 a, .int .u8 f, .string s, .int .i64 n, .int .i64 k, .int .i64 p]) with
  | none => rw [he] at h; simp at h
  | some b => rw [he] at h; simp at h; subst h; rfl
abbrev n77 : List Value := [.int .u8 77, .int .u8 0, .string ⟨#[]⟩, .int .i64 0, .int .i64 0, .int .i64 0]
theorem build77 : aBuild Tryz.prog 73 [(0, .int .u8 77)] = some (.agg #[.int .u8 77, .int .u8 0, .string ⟨#[]⟩, .int .i64 0, .int .i64 0, .int .i64 0]) := by kernel_rfl
theorem build1b (H : AH) (a f n k p : Int) (s : ByteArray) : aBuildSlice Tryz.prog H 22 1 [(0, .agg #[.int .u8 a, .int .u8 f, .string s, .int .i64 n, .int .i64 k, .int .i64 p])] = some (.slice (some ⟨H.next, 0, none⟩) 1 1, H.new (.cells (nd a f s n k p) 6 .solo)) := by
  have e1 : elemT Tryz.prog 22 = some 73 := by kernel_rfl
  have e2 : zerosT Tryz.prog 73 1 = some [.int .u8 0, .int .u8 0, .string ⟨#[]⟩, .int .i64 0, .int .i64 0, .int .i64 0] := by kernel_rfl
  unfold aBuildSlice
  simp only [e1, sz38, e2]
  rfl
theorem slice_hi {H : AH} {b n m cap : Nat} {c : List Value} {w : Own} (hb : H.blk.get b = some (.cells c 6 w)) (hm : m ≤ cap) :
    aSlice Tryz.prog H 22 (.slice (some ⟨b, 0, none⟩) n cap) none (some (.int .i64 (m : Nat))) none = some (.slice (some ⟨b, 0, none⟩) m cap) := by
  have e : (0 ≤ (m : Int) ∧ (m : Int) ≤ (cap : Int)) := by omega
  unfold aSlice
  simp only [und25, aBounds, aBound, e, and_self, if_true, Int.toNat_natCast, Int.le_refl, Nat.zero_le, true_and, hb, sz38, Nat.beq_refl, Bool.or_true, aFrom]

/-- A list of one's own with one place more behind it. -/
def Lent (H : AH) (p : Nat → Prop) (r : Value) (xs : List (List Value)) : Prop :=
  ∃ b, r = .slice (some ⟨b, 0, none⟩) xs.length (xs.length + 1) ∧ GrP H p 6 (.slice (some ⟨b, 0, none⟩) (xs.length + 1) (xs.length + 1)) (xs ++ [n77])
theorem nodes77 {xs : List (List Value)} (h : Nodes xs) : Nodes (xs ++ [n77]) := by
  intro x hx
  rcases List.mem_append.1 hx with h1 | h1
  · exact h x h1
  · cases List.mem_singleton.1 h1
    exact ⟨_, _, _, _, _, _, rfl⟩
theorem Lent.rdb {H : AH} {p : Nat → Prop} {r : Value} {xs : List (List Value)} (hx : Nodes xs) (h : Lent H p r xs) : RdB H p 6 r xs := by
  obtain ⟨b, rfl, hg⟩ := h
  have hr := hg.rdb (nodes_len (nodes77 hx))
  obtain ⟨a, cap, h1, h2⟩ := hr
  refine ⟨some ⟨b, 0, none⟩, xs.length + 1, rfl, ?_⟩
  rcases h2 with h2 | ⟨b', o, c, e, w, g1, g2, g3, g4, g5, g6, g7⟩
  · simp at h2
  · have e1 := (Value.slice.inj h1).1
    rw [g1] at e1
    refine .inr ⟨b', o, c, e, w, e1, g2, g3, g4, g5, g6, fun i x hi => g7 i x ?_⟩
    have hl := (List.getElem?_eq_some_iff.1 hi).1
    rw [List.getElem?_append_left hl]; exact hi
theorem Lent.rd {H : AH} {p : Nat → Prop} {r : Value} {xs : List (List Value)} (hx : Nodes xs) (h : Lent H p r xs) : Rd H 6 r xs := (h.rdb hx).rd

theorem wTrOL1 : type_of% (And.intro @cfg_P <| And.intro @sz3 <| And.intro @sz38 <| And.intro @agg3 <| And.intro @agg38 <| And.intro @und25 <| And.intro @fld38_4 <| And.intro @fld38_5 <| And.intro @zero38 <| And.intro @und26 <| And.intro @und22 <| And.intro @sz24 <| And.intro @sz33 <| And.intro @sz9 <| And.intro @a9 <| And.intro @agg24 <| And.intro @fld38_0 <| And.intro @sz35 <| @a35) := And.intro @cfg_P <| And.intro @sz3 <| And.intro @sz38 <| And.intro @agg3 <| And.intro @agg38 <| And.intro @und25 <| And.intro @fld38_4 <| And.intro @fld38_5 <| And.intro @zero38 <| And.intro @und26 <| And.intro @und22 <| And.intro @sz24 <| And.intro @sz33 <| And.intro @sz9 <| And.intro @a9 <| And.intro @agg24 <| And.intro @fld38_0 <| And.intro @sz35 <| @a35
set_option maxRecDepth 10000 in
set_option maxHeartbeats 4000000 in
theorem lent_wf (H : AH) (hb : H.base ≤ H.next) (v : Value) (xs : List (List Value)) (h1 : Rd H 6 v xs) (hx : Nodes xs) (hl : xs.length ≤ 1048576) :
    Wf cfg 4 [v] H fun r H' => Lent H' (fun b => H.next ≤ b) r xs ∧ Ext H H' := by
  obtain ⟨q1, q2, e1, _⟩ := id h1
  subst e1
  refine wf_text (fn := Tryz.f4) rfl Tryz.func4 rfl rfl ?_
  repeat (first
    | (with_reducible refine sc_seq ?_)
    | (with_reducible refine sc_region ?_)
    | (with_reducible refine sc_block ?_)
    | (with_reducible refine sc_scope ?_)
    | ((with_reducible refine sc_skip ?_); dsimp only)
    | ((with_reducible refine sc_label ?_); dsimp only)
    | ((with_reducible refine sc_ret ?_); dsimp only)
    | ((with_reducible refine sc_exit ?_); dsimp only [Nat.beq])
    | ((with_reducible refine so_nil ?_); dsimp only)
    | ((with_reducible apply so_skip); (case hw => simp only [aWanted, aYield, pAT, pG, reduceIte, Nat.reduceEqDiff]; done))
    | ((with_reducible apply so_val); (case hw => simp only [aWanted, aYield, pAT, pG, reduceIte, Nat.reduceEqDiff]; done); (case ha => simp (maxSteps := 1000000) (disch := (refine id ?_; first | assumption | omega | (simp only [pN, pO, oneCell]; done) | (simp only [pN]; omega))) only [aOp, ev, pAT, pI, aInt, aStr, aUn, AR.of, AR.ofB, AR.ofH, reduceIte, Nat.reduceEqDiff, aBuiltin, aLen, aField, aFieldAddr, aIndexAddr, aStore, aLoad, cellsL, oneCell, splice, pC, pL, Nat.reduceBEq, Nat.reduceLeDiff, Nat.reduceMul, Nat.reduceSub, Nat.reduceLT, Nat.reduceAdd, wTrOL1] <;> with_reducible rfl))
    | ((with_reducible apply sc_false); (case hc => simp only [ev, pAT, reduceIte, Nat.reduceEqDiff]; done))
    | ((with_reducible apply sc_true); (case hc => simp only [ev, pAT, reduceIte, Nat.reduceEqDiff]; done)))
  refine so_append rfl (by simp only [aWanted, aYield, pAT, pG, reduceIte, Nat.reduceEqDiff]) (by first | (simp only [ev, pAT, reduceIte, Nat.reduceEqDiff]; done) | (simp only [ev, pAT, reduceIte, Nat.reduceEqDiff]; rfl)) (by first | (simp only [ev, pAT, reduceIte, Nat.reduceEqDiff]; done) | (simp only [ev, pAT, reduceIte, Nat.reduceEqDiff]; rfl)) ?_
  obtain ⟨v1, H1, k1, k2, k3⟩ := append_gr (P := cfg.P) el25 (lo := H.next) (Gr.nil H H.next 6) h1 (nodes_one hx) (by simp only [List.length_nil]; omega) (Nat.le_refl _) hb
  have hx1 := k3.ext (Ext.refl H) (Nat.le_refl _)
  have hn1 := hx1.next
  have hb1 : H1.base ≤ H1.next := by rw [hx1.base]; omega
  rw [List.nil_append] at k2
  refine ⟨v1, H1, k1, ?_⟩
  repeat (first
    | (with_reducible refine sc_seq ?_)
    | (with_reducible refine sc_region ?_)
    | (with_reducible refine sc_block ?_)
    | (with_reducible refine sc_scope ?_)
    | ((with_reducible refine sc_skip ?_); dsimp only)
    | ((with_reducible refine sc_label ?_); dsimp only)
    | ((with_reducible refine sc_ret ?_); dsimp only)
    | ((with_reducible refine sc_exit ?_); dsimp only [Nat.beq])
    | ((with_reducible refine so_nil ?_); dsimp only)
    | ((with_reducible apply so_skip); (case hw => simp only [aWanted, aYield, pAT, pG, build77, build1b, reduceIte, Nat.reduceEqDiff]; done))
    | ((with_reducible apply so_val); (case hw => simp only [aWanted, aYield, pAT, pG, build77, build1b, reduceIte, Nat.reduceEqDiff]; done); (case ha => simp only [aOp, ev, pAT, build77, build1b, pI, aInt, aStr, aUn, AR.of, AR.ofB, AR.ofH, reduceIte, Nat.reduceEqDiff, aBuiltin, aLen, aField, aFieldAddr, aIndexAddr, aStore, aLoad, cellsL, oneCell, splice, pL, Nat.reduceBEq, Nat.reduceLeDiff, Nat.reduceMul, Nat.reduceSub, Nat.reduceLT, Nat.reduceAdd, wTrOL1] <;> with_reducible rfl))
    | ((with_reducible apply so_val); (case hw => simp only [aWanted, aYield, pAT, pG, build77, build1b, reduceIte, Nat.reduceEqDiff]; done); (case ha => simp (maxSteps := 1000000) (disch := (refine id ?_; first | assumption | omega | (simp only [pN, pO, oneCell]; done) | (simp only [pN]; omega))) only [aOp, ev, pAT, build77, build1b, pI, aInt, aStr, aUn, AR.of, AR.ofB, AR.ofH, reduceIte, Nat.reduceEqDiff, aBuiltin, aLen, aField, aFieldAddr, aIndexAddr, aStore, aLoad, cellsL, oneCell, splice, pC, pL, Nat.reduceBEq, Nat.reduceLeDiff, Nat.reduceMul, Nat.reduceSub, Nat.reduceLT, Nat.reduceAdd, wTrOL1] <;> with_reducible rfl))
    | ((with_reducible apply sc_false); (case hc => simp only [ev, pAT, build77, build1b, reduceIte, Nat.reduceEqDiff]; done))
    | ((with_reducible apply sc_true); (case hc => simp only [ev, pAT, build77, build1b, reduceIte, Nat.reduceEqDiff]; done)))
  refine so_append rfl (by simp only [aWanted, aYield, pAT, pG, reduceIte, Nat.reduceEqDiff]) (by first | (simp only [ev, pAT, reduceIte, Nat.reduceEqDiff]; done) | (simp only [ev, pAT, reduceIte, Nat.reduceEqDiff]; rfl)) (by first | (simp only [ev, pAT, reduceIte, Nat.reduceEqDiff]; done) | (simp only [ev, pAT, reduceIte, Nat.reduceEqDiff]; rfl)) ?_
  obtain ⟨v2, H2, j1, j2, j3⟩ := append_gr (P := cfg.P) el25 (lo := H.next) (k2.mono (Ext.new H1 (.cells n77 6 .solo))) (Rd.one (c := n77) rfl) rfl (by simp only [List.length_singleton]; omega) (by simp only [new_next]; omega) (by simp only [new_base]; rw [hx1.base]; exact hb)
  have hx2 := j3.ext (hx1.trans (Ext.new H1 _)) (Nat.le_refl _)
  refine ⟨v2, H2, j1, ?_⟩
  have jg := j2.grp (by rw [hx2.base]; exact hb)
  rcases jg with ⟨_, h⟩ | ⟨b, w, rfl, g2, g3, g4, g5, g6, g7⟩
  · simp at h
  have hsl := slice_hi (n := (xs ++ [n77]).length) (cap := (xs ++ [n77]).length) (m := xs.length) g5 (by simp)
  repeat (first
    | (with_reducible refine sc_seq ?_)
    | (with_reducible refine sc_region ?_)
    | (with_reducible refine sc_block ?_)
    | (with_reducible refine sc_scope ?_)
    | ((with_reducible refine sc_skip ?_); dsimp only)
    | ((with_reducible refine sc_label ?_); dsimp only)
    | ((with_reducible refine sc_ret ?_); dsimp only)
    | ((with_reducible refine sc_exit ?_); dsimp only [Nat.beq])
    | ((with_reducible refine so_nil ?_); dsimp only)
    | ((with_reducible apply so_skip); (case hw => simp only [aWanted, aYield, pAT, pG, hsl, Option.map_none, reduceIte, Nat.reduceEqDiff]; done))
    | ((with_reducible apply so_val); (case hw => simp only [aWanted, aYield, pAT, pG, hsl, Option.map_none, reduceIte, Nat.reduceEqDiff]; done); (case ha => simp (maxSteps := 1000000) (disch := (refine id ?_; first | assumption | omega | (simp only [pN, pO, oneCell]; done) | (simp only [pN]; omega))) only [aOp, ev, pAT, hsl, Option.map_none, pI, aInt, aStr, aUn, AR.of, AR.ofB, AR.ofH, reduceIte, Nat.reduceEqDiff, aBuiltin, aLen, aField, aFieldAddr, aIndexAddr, aStore, aLoad, cellsL, oneCell, splice, pC, pL, Nat.reduceBEq, Nat.reduceLeDiff, Nat.reduceMul, Nat.reduceSub, Nat.reduceLT, Nat.reduceAdd, wTrOL1] <;> with_reducible rfl))
    | ((with_reducible apply sc_false); (case hc => simp only [ev, pAT, hsl, Option.map_none, reduceIte, Nat.reduceEqDiff]; done))
    | ((with_reducible apply sc_true); (case hc => simp only [ev, pAT, hsl, Option.map_none, reduceIte, Nat.reduceEqDiff]; done)))
  apply res_fin (rs := [ResultVar.tmp 2]) trivial
  case h => simp (disch := (refine id ?_; first | assumption | omega | (simp only [pN, pO, oneCell]; done) | (simp only [pN]; omega))) only [aResults, aResult, aOp, ev, pAT, pI, aInt, aStr, aUn, AR.of, AR.ofB, AR.ofH, reduceIte, Nat.reduceEqDiff, aBuiltin, aLen, aField, aFieldAddr, aIndexAddr, aStore, aLoad, cellsL, oneCell, splice, pC, pL, Nat.reduceBEq, Nat.reduceLeDiff, Nat.reduceMul, Nat.reduceSub, Nat.reduceLT, Nat.reduceAdd, wTrOL1] <;> with_reducible rfl
  case hq => exact ⟨⟨b, by simp only [List.length_append, List.length_cons, List.length_nil]; rfl, .inr ⟨b, w, by simp, g2, g3, g4, g5, g6, g7⟩⟩, hx2⟩

set_option maxRecDepth 10000 in
set_option maxHeartbeats 4000000 in
theorem kept_wf (H : AH) (hb : H.base ≤ H.next) (p : Nat → Prop) (own v : Value) (xs : List (List Value)) (h1 : Lent H p own xs) (h2 : Rd H 6 v xs) (hx : Nodes xs) (hl : xs.length ≤ 1048576) :
    Wf cfg 13 [own, v] H fun r H' => r = .bool true ∧ Ext H H' := by
  have h3 := h1.rd hx
  obtain ⟨b, rfl, hg⟩ := id h1
  have h4 := hg.rdb (nodes_len (nodes77 hx)) |>.rd
  obtain ⟨q3, q4, rfl, _⟩ := id h2
  refine wf_text (fn := Tryz.f13) rfl Tryz.func13 rfl rfl ?_
  repeat (first
    | (with_reducible refine sc_seq ?_)
    | (with_reducible refine sc_region ?_)
    | (with_reducible refine sc_block ?_)
    | (with_reducible refine sc_scope ?_)
    | ((with_reducible refine sc_skip ?_); dsimp only)
    | ((with_reducible refine sc_label ?_); dsimp only)
    | ((with_reducible refine sc_ret ?_); dsimp only)
    | ((with_reducible refine sc_exit ?_); dsimp only [Nat.beq])
    | ((with_reducible refine so_nil ?_); dsimp only)
    | ((with_reducible apply so_skip); (case hw => simp only [aWanted, aYield, pAT, pG, reduceIte, Nat.reduceEqDiff]; done))
    | ((with_reducible apply so_val); (case hw => simp only [aWanted, aYield, pAT, pG, reduceIte, Nat.reduceEqDiff]; done); (case ha => simp (maxSteps := 1000000) (disch := (refine id ?_; first | assumption | omega | (simp only [pN, pO, oneCell]; done) | (simp only [pN]; omega))) only [aOp, ev, pAT, pI, aInt, aStr, aUn, AR.of, AR.ofB, AR.ofH, reduceIte, Nat.reduceEqDiff, aBuiltin, aLen, aField, aFieldAddr, aIndexAddr, aStore, aLoad, cellsL, oneCell, splice, pC, pL, Nat.reduceBEq, Nat.reduceLeDiff, Nat.reduceMul, Nat.reduceSub, Nat.reduceLT, Nat.reduceAdd, wTrOL1] <;> with_reducible rfl))
    | ((with_reducible apply sc_false); (case hc => simp only [ev, pAT, reduceIte, Nat.reduceEqDiff]; done))
    | ((with_reducible apply sc_true); (case hc => simp only [ev, pAT, reduceIte, Nat.reduceEqDiff]; done)))
  refine sc_loop (I := fun n fr G => Ext H G ∧ ∃ t : Nat, t ≤ xs.length ∧ n = xs.length - t ∧ Fr.at fr 0 = .slice (some ⟨b, 0, none⟩) xs.length (xs.length + 1) ∧ Fr.at fr 1 = .slice q3 xs.length q4 ∧ Fr.at fr 5 = .int .i64 t) ?_ xs.length _ _ ?_
  rotate_left
  · refine ⟨Ext.refl H, 0, by omega, rfl, ?_, ?_, ?_⟩ <;> simp only [at_some, at_none, at_args, List.getElem?_cons_zero, List.getElem?_cons_succ, Option.getD_some, reduceIte, Nat.reduceEqDiff] <;> rfl
  rintro n fr G ⟨hG, t, ht, rfl, f0, f1, f5⟩
  have hbG : G.base ≤ G.next := by rw [hG.base]; exact Nat.le_trans hb hG.next
  by_cases hlt : t < xs.length
  · obtain ⟨x, hxt⟩ : ∃ x, xs[t]? = some x := ⟨_, List.getElem?_eq_getElem hlt⟩
    obtain ⟨a, f, s, n, k, p, rfl⟩ := hx x (List.mem_of_getElem? hxt)
    obtain ⟨b1, o1, c1, e1, hb1, _, l1, _⟩ := (h3.mono hG).at hxt
    obtain ⟨b2, o2, c2, e2, hb2, _, l2, _⟩ := (h2.mono hG).at hxt
    simp only [Value.slice.injEq, Option.some.injEq, Addr.mk.injEq, and_true, true_and] at e1 e2
    obtain ⟨⟨rfl, rfl⟩, _⟩ := e1
    obtain ⟨rfl, _⟩ := e2
    rw [Nat.zero_add] at l1
    have g1 : decide ((t : Int) < (xs.length : Int)) = true := decT (by omega)
    have g2 : (0 ≤ (t : Int) ∧ (t : Int) < (xs.length : Int)) := by omega
    repeat (first
      | (with_reducible refine sc_seq ?_)
      | (with_reducible refine sc_region ?_)
      | (with_reducible refine sc_block ?_)
      | (with_reducible refine sc_scope ?_)
      | ((with_reducible refine sc_skip ?_); dsimp only)
      | ((with_reducible refine sc_label ?_); dsimp only)
      | ((with_reducible refine sc_ret ?_); dsimp only)
      | ((with_reducible refine sc_exit ?_); dsimp only [Nat.beq])
      | ((with_reducible refine so_nil ?_); dsimp only)
      | ((with_reducible apply so_skip); (case hw => simp only [aWanted, aYield, pAT, pG, f0, f1, f5, g1, g2, l1, l2, if_true, Int.toNat_natCast, true_and, and_self, ne38, reduceIte, Nat.reduceEqDiff]; done))
      | ((with_reducible apply so_val); (case hw => simp only [aWanted, aYield, pAT, pG, f0, f1, f5, g1, g2, l1, l2, if_true, Int.toNat_natCast, true_and, and_self, ne38, reduceIte, Nat.reduceEqDiff]; done); (case ha => simp only [aOp, ev, pAT, f0, f1, f5, g1, g2, l1, l2, if_true, Int.toNat_natCast, true_and, and_self, ne38, pI, aInt, aStr, aUn, AR.of, AR.ofB, AR.ofH, reduceIte, Nat.reduceEqDiff, aBuiltin, aLen, aField, aFieldAddr, aIndexAddr, aStore, aLoad, cellsL, oneCell, splice, pL, Nat.reduceBEq, Nat.reduceLeDiff, Nat.reduceMul, Nat.reduceSub, Nat.reduceLT, Nat.reduceAdd, wTrOL1] <;> with_reducible rfl))
      | ((with_reducible apply so_val); (case hw => simp only [aWanted, aYield, pAT, pG, f0, f1, f5, g1, g2, l1, l2, if_true, Int.toNat_natCast, true_and, and_self, ne38, reduceIte, Nat.reduceEqDiff]; done); (case ha => simp (maxSteps := 1000000) (disch := (refine id ?_; first | assumption | omega | (simp only [pN, pO, oneCell]; done) | (simp only [pN]; omega))) only [aOp, ev, pAT, f0, f1, f5, g1, g2, l1, l2, if_true, Int.toNat_natCast, true_and, and_self, ne38, pI, aInt, aStr, aUn, AR.of, AR.ofB, AR.ofH, reduceIte, Nat.reduceEqDiff, aBuiltin, aLen, aField, aFieldAddr, aIndexAddr, aStore, aLoad, cellsL, oneCell, splice, pC, pL, Nat.reduceBEq, Nat.reduceLeDiff, Nat.reduceMul, Nat.reduceSub, Nat.reduceLT, Nat.reduceAdd, wTrOL1] <;> with_reducible rfl))
      | ((with_reducible apply sc_false); (case hc => simp only [ev, pAT, f0, f1, f5, g1, g2, l1, l2, if_true, Int.toNat_natCast, true_and, and_self, ne38, reduceIte, Nat.reduceEqDiff]; done))
      | ((with_reducible apply sc_true); (case hc => simp only [ev, pAT, f0, f1, f5, g1, g2, l1, l2, if_true, Int.toNat_natCast, true_and, and_self, ne38, reduceIte, Nat.reduceEqDiff]; done)))
    refine ⟨xs.length - (t + 1), by omega, hG, t + 1, by omega, rfl, ?_, ?_, ?_⟩ <;> simp only [at_some, at_none, f0, f1, f5, reduceIte, Nat.reduceEqDiff]
    congr 1
    simp [IntKind.wrap, IntKind.bits, IntKind.signed]; omega
  · obtain rfl : t = xs.length := by omega
    have g1 : decide ((xs.length : Int) < (xs.length : Int)) = false := decF (by omega)
    obtain ⟨b1, o1, c1, e1, hb1, _, l1, l2⟩ := (h4.mono hG).at (i := xs.length) (x := n77) (by simp)
    simp only [Value.slice.injEq, Option.some.injEq, Addr.mk.injEq, and_true, true_and] at e1
    obtain ⟨⟨rfl, rfl⟩, _⟩ := e1
    have l3 := l2 0 (by omega)
    simp only [Nat.zero_add, Nat.add_zero, List.getElem?_cons_zero] at l3
    obtain ⟨cc, ww, hblk⟩ : ∃ cc ww, G.blk.get b = some (.cells cc 6 ww) := by
      rcases hg with ⟨h, _⟩ | ⟨b', w, h, g2, g3, g4, g5, g6, g7⟩
      · cases h
      · simp only [Value.slice.injEq, Option.some.injEq, Addr.mk.injEq, and_true, true_and] at h
        obtain ⟨rfl, _⟩ := h
        exact ⟨_, w, (hG.blk _ g4).trans g5⟩
    have w1 : IntKind.i64.wrap ((xs.length : Int) + 1) = ((xs.length + 1 : Nat) : Int) := by simp [IntKind.wrap, IntKind.bits, IntKind.signed]; omega
    have w2 : ((xs.length : Int) == (xs.length : Int)) = true := by simp
    have w3 : (0 ≤ (xs.length : Int) ∧ (xs.length : Int) < ((xs.length + 1 : Nat) : Int)) := by omega
    have hsl := slice_hi (n := xs.length) (cap := xs.length + 1) (m := xs.length + 1) hblk (Nat.le_refl _)
    repeat (first
      | (with_reducible refine sc_seq ?_)
      | (with_reducible refine sc_region ?_)
      | (with_reducible refine sc_block ?_)
      | (with_reducible refine sc_scope ?_)
      | ((with_reducible refine sc_skip ?_); dsimp only)
      | ((with_reducible refine sc_label ?_); dsimp only)
      | ((with_reducible refine sc_ret ?_); dsimp only)
      | ((with_reducible refine sc_exit ?_); dsimp only [Nat.beq])
      | ((with_reducible refine so_nil ?_); dsimp only)
      | ((with_reducible apply so_skip); (case hw => simp only [aWanted, aYield, pAT, pG, f0, f1, f5, g1, w1, w2, hsl, w3, l3, Option.map_none, if_true, Int.toNat_natCast, true_and, and_self, reduceIte, Nat.reduceEqDiff]; done))
      | ((with_reducible apply so_val); (case hw => simp only [aWanted, aYield, pAT, pG, f0, f1, f5, g1, w1, w2, hsl, w3, l3, Option.map_none, if_true, Int.toNat_natCast, true_and, and_self, reduceIte, Nat.reduceEqDiff]; done); (case ha => simp (maxSteps := 1000000) (disch := (refine id ?_; first | assumption | omega | (simp only [pN, pO, oneCell]; done) | (simp only [pN]; omega))) only [aOp, ev, pAT, f0, f1, f5, g1, w1, w2, hsl, w3, l3, Option.map_none, if_true, Int.toNat_natCast, true_and, and_self, pI, aInt, aStr, aUn, AR.of, AR.ofB, AR.ofH, reduceIte, Nat.reduceEqDiff, aBuiltin, aLen, aField, aFieldAddr, aIndexAddr, aStore, aLoad, cellsL, oneCell, splice, pC, pL, Nat.reduceBEq, Nat.reduceLeDiff, Nat.reduceMul, Nat.reduceSub, Nat.reduceLT, Nat.reduceAdd, wTrOL1] <;> with_reducible rfl))
      | ((with_reducible apply sc_false); (case hc => simp only [ev, pAT, f0, f1, f5, g1, w1, w2, hsl, w3, l3, Option.map_none, if_true, Int.toNat_natCast, true_and, and_self, reduceIte, Nat.reduceEqDiff]; done))
      | ((with_reducible apply sc_true); (case hc => simp only [ev, pAT, f0, f1, f5, g1, w1, w2, hsl, w3, l3, Option.map_none, if_true, Int.toNat_natCast, true_and, and_self, reduceIte, Nat.reduceEqDiff]; done)))
    apply res_fin (rs := [ResultVar.tmp 4]) trivial
    case h => simp (disch := (refine id ?_; first | assumption | omega | (simp only [pN, pO, oneCell]; done) | (simp only [pN]; omega))) only [aResults, aResult, aOp, ev, pAT, pI, aInt, aStr, aUn, AR.of, AR.ofB, AR.ofH, reduceIte, Nat.reduceEqDiff, aBuiltin, aLen, aField, aFieldAddr, aIndexAddr, aStore, aLoad, cellsL, oneCell, splice, pC, pL, Nat.reduceBEq, Nat.reduceLeDiff, Nat.reduceMul, Nat.reduceSub, Nat.reduceLT, Nat.reduceAdd, wTrOL1] <;> with_reducible rfl
    case hq => exact ⟨rfl, hG⟩
end Go.Am
