import Derived.Test.YtldhedlleefkcaaGreatDoorOS
import Derived.Test.YtldhedlleefkcaaGreatDoorOL
import Derived.Test.YtldhedlleefkcaaGreatDoorOE
set_option linter.unusedVariables false
set_option linter.unusedSimpArgs false
namespace Go.Am
open Go.Proofs Go
def IRB (H : AH) (p : Nat → Prop) (v : Value) (its : List (List (List Value) × ByteArray × Int × Int)) : Prop :=
  ∃ xs, RdB H p 4 v xs ∧ xs.length = its.length ∧ ∀ (i : Nat) (it : List (List Value) × ByteArray × Int × Int), its[i]? = some it → ∃ tv, xs[i]? = some (im tv it.2.1 it.2.2.1 it.2.2.2) ∧ RdB H p 6 tv it.1
theorem IRB.mono {H H' : AH} {p : Nat → Prop} (hx : Agr p H H') {v : Value} {its : List (List (List Value) × ByteArray × Int × Int)} (h : IRB H p v its) : IRB H' p v its := by
  obtain ⟨xs, h1, h2, h3⟩ := h
  exact ⟨xs, h1.mono hx, h2, fun i it hi => let ⟨tv, a, b⟩ := h3 i it hi; ⟨tv, a, b.mono hx⟩⟩
theorem IRB.imp {H : AH} {p q : Nat → Prop} (hq : ∀ b, b < H.next → p b → q b) {v : Value} {its : List (List (List Value) × ByteArray × Int × Int)} (h : IRB H p v its) : IRB H q v its := by
  obtain ⟨xs, h1, h2, h3⟩ := h
  exact ⟨xs, h1.imp hq, h2, fun i it hi => let ⟨tv, a, b⟩ := h3 i it hi; ⟨tv, a, b.imp hq⟩⟩
theorem IRB.ir {H : AH} {p : Nat → Prop} {v : Value} {its : List (List (List Value) × ByteArray × Int × Int)} (h : IRB H p v its) : IR H v its := by
  obtain ⟨xs, h1, h2, h3⟩ := h
  exact ⟨xs, h1.rd, h2, fun i it hi => let ⟨tv, a, b⟩ := h3 i it hi; ⟨tv, a, b.rd⟩⟩
theorem IR.irb {H : AH} {v : Value} {its : List (List (List Value) × ByteArray × Int × Int)} (h : IR H v its) : IRB H (fun _ => True) v its := by
  obtain ⟨xs, h1, h2, h3⟩ := h
  exact ⟨xs, h1.rdb, h2, fun i it hi => let ⟨tv, a, b⟩ := h3 i it hi; ⟨tv, a, b.rdb⟩⟩
/-- What is kept: its colour is 0. -/
structure Zero (H : AH) (col : Nat → Nat) (vl own : Value) (xs : List (List Value)) (Q : Qd) (vi vw vg : Value) (bx : Nat) : Prop where
  err : 0 < H.next ∧ col 0 = 0 ∧ H.blk.get 0 = some (.cells YtldhedlleefkcaaGreatDoor.Am.errRow 1 .ext)
  l : RdB H (fun b => col b = 0) 6 vl xs
  own : Lent H (fun b => col b = 0) own xs
  its : IRB H (fun b => col b = 0) vi Q.its
  wh : RdB H (fun b => col b = 0) 6 vw Q.wh
  gr : RdB H (fun b => col b = 0) 2 vg Q.gr
  box : bx < H.next ∧ col bx = 0 ∧ H.blk.get bx = some (.cells (qc Q vi vw vg) 0 .solo)
theorem Zero.mono {H H' : AH} {col : Nat → Nat} (ha : Agr (fun b => col b = 0) H H') {vl own : Value} {xs : List (List Value)} {Q : Qd} {vi vw vg : Value} {bx : Nat} (h : Zero H col vl own xs Q vi vw vg bx) : Zero H' col vl own xs Q vi vw vg bx := by
  obtain ⟨e1, e2, e3⟩ := h.err
  obtain ⟨q1, q2, q3⟩ := h.box
  obtain ⟨b, o1, o2⟩ := h.own
  exact ⟨⟨Nat.lt_of_lt_of_le e1 ha.next, e2, (ha.blk _ e1 e2).trans e3⟩, h.l.mono ha, ⟨b, o1, o2.mono ha⟩, h.its.mono ha, h.wh.mono ha, h.gr.mono ha, ⟨Nat.lt_of_lt_of_le q1 ha.next, q2, (ha.blk _ q1 q2).trans q3⟩⟩
theorem Zero.recol {H : AH} {col col' : Nat → Nat} (hc : ∀ b, b < H.next → col' b = col b) {vl own : Value} {xs : List (List Value)} {Q : Qd} {vi vw vg : Value} {bx : Nat} (h : Zero H col vl own xs Q vi vw vg bx) : Zero H col' vl own xs Q vi vw vg bx := by
  obtain ⟨e1, e2, e3⟩ := h.err
  obtain ⟨q1, q2, q3⟩ := h.box
  obtain ⟨b, o1, o2⟩ := h.own
  have hq : ∀ b, b < H.next → col b = 0 → col' b = 0 := fun b hb e => (hc b hb).trans e
  exact ⟨⟨e1, (hc _ e1).trans e2, e3⟩, h.l.imp hq, ⟨b, o1, o2.imp hq⟩, h.its.imp hq, h.wh.imp hq, h.gr.imp hq, ⟨q1, (hc _ q1).trans q2, q3⟩⟩
theorem Zero.kp {H H' : AH} {col col' : Nat → Nat} (hk : Kp H col H' col') {vl own : Value} {xs : List (List Value)} {Q : Qd} {vi vw vg : Value} {bx : Nat} (h : Zero H col vl own xs Q vi vw vg bx) : Zero H' col' vl own xs Q vi vw vg bx := (h.recol hk.col).mono (hk.agr 0 (.inl rfl))

theorem told_of {H : AH} (h : H.blk.get 0 = some (.cells YtldhedlleefkcaaGreatDoor.Am.errRow 1 .ext)) : YtldhedlleefkcaaGreatDoor.Am.errTold H = true := by
  have hr : H.row 0 = some YtldhedlleefkcaaGreatDoor.Am.errRow := by unfold AH.row; rw [h]; rfl
  unfold YtldhedlleefkcaaGreatDoor.Am.errTold
  rw [hr]
  rfl
theorem zero60 : zeroT Tryz.prog 60 = some (.agg #[.slice none 0 0, .slice none 0 0, .slice none 0 0, .slice none 0 0, .slice none 0 0, .slice none 0 0, .slice none 0 0, .slice none 0 0, .slice none 0 0, .slice none 0 0, .slice none 0 0, .slice none 0 0, .slice none 0 0, .slice none 0 0, .slice none 0 0, .slice none 0 0, .slice none 0 0, .slice none 0 0, .slice none 0 0, .slice none 0 0, .slice none 0 0, .slice none 0 0, .slice none 0 0, .slice none 0 0, .slice none 0 0, .slice none 0 0, .slice none 0 0, .slice none 0 0]) := by kernel_rfl
/-- An empty book. -/
theorem bd_new {H : AH} (hb : H.base ≤ H.next) : Bd (H.new (.cells (bookC fun _ => nil1) 0 .solo)) (fun b => if b = H.next then 5 else 0) H.next 0 0 0 0 := by
  refine ⟨fun _ => [], fun _ => [], ⟨⟨fun _ => nil1, hb, Nat.lt_succ_self _, if_pos rfl, get_new_eq rfl, fun k _ => GrP.nil ..⟩, fun k _ => ⟨rfl, fun i x ys h _ => (by simp at h), fun i ys h => (by simp at h)⟩⟩, rfl, rfl, rfl, rfl, fun k _ ys h => (by simp at h)⟩
theorem wTrOZ1 : type_of% (And.intro @cfg_P <| And.intro @sz3 <| And.intro @agg3 <| And.intro @s29 <| And.intro @g29 <| @zero60) := And.intro @cfg_P <| And.intro @sz3 <| And.intro @agg3 <| And.intro @s29 <| And.intro @g29 <| @zero60
set_option maxRecDepth 10000 in
set_option maxHeartbeats 16000000 in
theorem law_wf (H : AH) (hb : H.base ≤ H.next) (hE : H.blk.get 0 = some (.cells YtldhedlleefkcaaGreatDoor.Am.errRow 1 .ext)) (h00 : 0 < H.next) (vl : Value) (xs : List (List Value)) (hl : Rd H 6 vl xs) (hxs : Nodes xs) (hxl : xs.length ≤ 1048576) (Q : Qd) (hq : Q.Ok) (vi vw vg : Value) (hi : IR H vi Q.its) (hw : Rd H 6 vw Q.wh) (hg : Rd H 2 vg Q.gr) :
    Wf cfg 3 [vl, .agg (qc Q vi vw vg).toArray] H fun v _ => v = .bool true := by
  obtain ⟨n1, n2, rfl⟩ := hi.len
  obtain ⟨n3, n4, rfl, _⟩ := id hw
  obtain ⟨n5, n6, rfl, _⟩ := id hg
  have hql := hq.len
  refine wf_text (fn := Tryz.f3) rfl Tryz.func3 rfl rfl ?_
  repeat (first
    | (with_reducible refine sc_seq ?_)
    | (with_reducible refine sc_region ?_)
    | (with_reducible refine sc_block ?_)
    | (with_reducible refine sc_scope ?_)
    | ((with_reducible refine sc_skip ?_); dsimp only)
    | ((with_reducible refine sc_label ?_); dsimp only)
    | ((with_reducible refine sc_ret ?_); dsimp only)
    | ((with_reducible refine sc_exit ?_); dsimp only [Nat.beq])
    | ((with_reducible refine so_nil ?_); dsimp only)
    | ((with_reducible apply so_skip); (case hw => simp only [aWanted, aYield, pAT, pG, reduceIte, Nat.reduceEqDiff]; done))
    | ((with_reducible apply so_val); (case hw => simp only [aWanted, aYield, pAT, pG, reduceIte, Nat.reduceEqDiff]; done); (case ha => simp (maxSteps := 1000000) (disch := (refine id ?_; first | assumption | omega | (simp only [pN, pO, oneCell]; done) | (simp only [pN]; omega))) only [aOp, ev, pAT, pI, aInt, aStr, aUn, AR.of, AR.ofB, AR.ofH, reduceIte, Nat.reduceEqDiff, aBuiltin, aLen, aField, aFieldAddr, aIndexAddr, aStore, aLoad, cellsL, oneCell, splice, pC, pL, Nat.reduceBEq, Nat.reduceLeDiff, Nat.reduceMul, Nat.reduceSub, Nat.reduceLT, Nat.reduceAdd, wTrOZ1] <;> with_reducible rfl))
    | ((with_reducible apply sc_false); (case hc => simp only [ev, pAT, reduceIte, Nat.reduceEqDiff]; done))
    | ((with_reducible apply sc_true); (case hc => simp only [ev, pAT, reduceIte, Nat.reduceEqDiff]; done)))
  first
    | ((with_reducible apply so_call); (case hw => simp only [aWanted, aYield, pAT, pG, reduceIte, Nat.reduceEqDiff]; done); (case ha => simp (maxSteps := 1000000) (disch := (refine id ?_; first | assumption | omega | (simp only [pN, pO, oneCell]; done) | (simp only [pN]; omega))) only [aOp, ev, pAT, pI, aInt, aStr, aUn, AR.of, AR.ofB, AR.ofH, reduceIte, Nat.reduceEqDiff, aBuiltin, aLen, aField, aFieldAddr, aIndexAddr, aStore, aLoad, cellsL, oneCell, splice, pC, pL, Nat.reduceBEq, Nat.reduceLeDiff, Nat.reduceMul, Nat.reduceSub, Nat.reduceLT, Nat.reduceAdd, wTrOZ1] <;> with_reducible rfl))
    | ((with_reducible apply so_callD); (case hw => simp only [aWanted, aYield, pAT, pG, reduceIte, Nat.reduceEqDiff]; done); (case ha => simp (maxSteps := 1000000) (disch := (first | omega | (simp only [new_next, new_base, upd_next, upd_base, List.length_cons, List.length_nil, List.all_cons, List.all_nil, oneCell, Bool.and_self, Bool.and_true]; done) | (simp only [new_next, new_base, upd_next, upd_base, List.length_cons, List.length_nil]; omega))) only [aOp, ev, pAT, pI, aInt, aStr, aUn, AR.of, AR.ofB, AR.ofH, reduceIte, Nat.reduceEqDiff, aBuiltin, aLen, aField, aFieldAddr, aIndexAddr, aStore, aLoad, cellsL, oneCell, splice, pC, pL, Nat.reduceBEq, Nat.reduceLeDiff, Nat.reduceMul, Nat.reduceSub, Nat.reduceLT, Nat.reduceAdd, wTrOZ1] <;> with_reducible rfl))
  have hT : Ext H (H.new (.cells (qc Q (.slice n1 Q.its.length n2) (.slice n3 Q.wh.length n4) (.slice n5 Q.gr.length n6)) 0 .solo)) := Ext.new H _
  have hbx : (H.new (.cells (qc Q (.slice n1 Q.its.length n2) (.slice n3 Q.wh.length n4) (.slice n5 Q.gr.length n6)) 0 .solo)).blk.get H.next = some (.cells (qc Q (.slice n1 Q.its.length n2) (.slice n3 Q.wh.length n4) (.slice n5 Q.gr.length n6)) 0 .solo) := get_new_eq rfl
  have hbn : H.next < (H.new (.cells (qc Q (.slice n1 Q.its.length n2) (.slice n3 Q.wh.length n4) (.slice n5 Q.gr.length n6)) 0 .solo)).next := Nat.lt_succ_self _
  generalize H.new (.cells (qc Q (.slice n1 Q.its.length n2) (.slice n3 Q.wh.length n4) (.slice n5 Q.gr.length n6)) 0 .solo) = H1 at hT hbx hbn ⊢
  have hb1 : H1.base ≤ H1.next := by rw [hT.base]; exact Nat.le_trans hb hT.next
  refine (lent_wf H1 hb1 vl xs (hl.mono hT) hxs hxl).mono ?_
  rintro own H2 ⟨hown, hx2⟩
  have hb2 : H2.base ≤ H2.next := by rw [hx2.base]; exact Nat.le_trans hb1 hx2.next
  have hT2 := hT.trans hx2
  have hlt2 := hx2.next
  have hT1n := hT.next
  repeat (first
    | (with_reducible refine sc_seq ?_)
    | (with_reducible refine sc_region ?_)
    | (with_reducible refine sc_block ?_)
    | (with_reducible refine sc_scope ?_)
    | ((with_reducible refine sc_skip ?_); dsimp only)
    | ((with_reducible refine sc_label ?_); dsimp only)
    | ((with_reducible refine sc_ret ?_); dsimp only)
    | ((with_reducible refine sc_exit ?_); dsimp only [Nat.beq])
    | ((with_reducible refine so_nil ?_); dsimp only)
    | ((with_reducible apply so_skip); (case hw => simp only [aWanted, aYield, pAT, pG, reduceIte, Nat.reduceEqDiff]; done))
    | ((with_reducible apply so_val); (case hw => simp only [aWanted, aYield, pAT, pG, reduceIte, Nat.reduceEqDiff]; done); (case ha => simp (maxSteps := 1000000) (disch := (refine id ?_; first | assumption | omega | (simp only [pN, pO, oneCell]; done) | (simp only [pN]; omega))) only [aOp, ev, pAT, pI, aInt, aStr, aUn, AR.of, AR.ofB, AR.ofH, reduceIte, Nat.reduceEqDiff, aBuiltin, aLen, aField, aFieldAddr, aIndexAddr, aStore, aLoad, cellsL, oneCell, splice, pC, pL, Nat.reduceBEq, Nat.reduceLeDiff, Nat.reduceMul, Nat.reduceSub, Nat.reduceLT, Nat.reduceAdd, wTrOZ1] <;> with_reducible rfl))
    | ((with_reducible apply sc_false); (case hc => simp only [ev, pAT, reduceIte, Nat.reduceEqDiff]; done))
    | ((with_reducible apply sc_true); (case hc => simp only [ev, pAT, reduceIte, Nat.reduceEqDiff]; done)))
  -- what is kept
  have hx3 : Ext H2 (H2.new (.cells (bookC fun _ => nil1) 0 .solo)) := Ext.new H2 _
  have hB0 := bd_new hb2
  have hT3 := hT2.trans hx3
  have c0 : ∀ b, b < H2.next → (fun b => if b = H2.next then 5 else 0) b = 0 := fun b h => if_neg (by omega)
  have hZ : Zero (H2.new (.cells (bookC fun _ => nil1) 0 .solo)) (fun b => if b = H2.next then 5 else 0) vl own xs Q (.slice n1 Q.its.length n2) (.slice n3 Q.wh.length n4) (.slice n5 Q.gr.length n6) H.next := by
    have hq : ∀ b, b < H2.next → True → (fun b => if b = H2.next then 5 else 0) b = 0 := fun b h _ => c0 b h
    obtain ⟨bo, o1, o2⟩ := hown
    exact ⟨⟨by have := hT3.next; omega, c0 _ (by omega), (hT3.blk _ h00).trans hE⟩, ((hl.mono hT2).rdb.imp hq).mono (hx3.agr _), ⟨bo, o1, (o2.imp fun b h _ => c0 b h).mono (hx3.agr _)⟩,
      ((hi.mono hT2).irb.imp hq).mono (hx3.agr _), ((hw.mono hT2).rdb.imp hq).mono (hx3.agr _), ((hg.mono hT2).rdb.imp hq).mono (hx3.agr _), ⟨by have := hx3.next; omega, c0 _ (by omega), ((hx2.trans hx3).blk _ hbn).trans hbx⟩⟩
  have hb3 : (H2.new (.cells (bookC fun _ => nil1) 0 .solo)).base ≤ (H2.new (.cells (bookC fun _ => nil1) 0 .solo)).next := by simp only [new_base, new_next]; omega
  obtain ⟨b0, rfl, _⟩ := id hown
  refine sc_loop (I := fun m fr G => ∃ (t : Nat) (col : Nat → Nat), t ≤ 2 ∧ m = 2 - t ∧ G.base ≤ G.next ∧ Bd G col H2.next t (t * (Q.its.length + 2)) t t ∧ Zero G col vl (.slice (some ⟨b0, 0, none⟩) xs.length (xs.length + 1)) xs Q (.slice n1 Q.its.length n2) (.slice n3 Q.wh.length n4) (.slice n5 Q.gr.length n6) H.next ∧ Fr.at fr 0 = vl ∧ Fr.at fr 3 = .pointer (some ⟨H.next, 0, none⟩) ∧ Fr.at fr 5 = .slice (some ⟨b0, 0, none⟩) xs.length (xs.length + 1) ∧ Fr.at fr 6 = .pointer (some ⟨H2.next, 0, none⟩) ∧ Fr.at fr 7 = .int .i64 t) ?_ 2 _ _ ?_
  rotate_left
  · refine ⟨0, _, by omega, rfl, hb3, by simpa using hB0, hZ, ?_, ?_, ?_, ?_, ?_⟩ <;> simp only [at_some, at_none, at_args, List.getElem?_cons_zero, List.getElem?_cons_succ, Option.getD_some, ev, reduceIte, Nat.reduceEqDiff] <;> rfl
  generalize H2.next = B at *
  clear hZ hB0 hb3 hx3 hT3 c0 hown hT hT2 hx2 hb1 hb2 hbx hbn hlt2 hT1n hi hw hg hl hE
  rintro m fr G ⟨t, col, ht, rfl, hbG, hbd, hz, f0, f3, f5, f6, f7⟩
  by_cases hlt : t < 2
  · have g1 : decide ((t : Int) < 2) = true := decT (by omega)
    have htt : t * (Q.its.length + 2) ≤ Q.its.length + 2 := by
      have : t = 0 ∨ t = 1 := by omega
      rcases this with rfl | rfl <;> omega
    repeat (first
      | (with_reducible refine sc_seq ?_)
      | (with_reducible refine sc_region ?_)
      | (with_reducible refine sc_block ?_)
      | (with_reducible refine sc_scope ?_)
      | ((with_reducible refine sc_skip ?_); dsimp only)
      | ((with_reducible refine sc_label ?_); dsimp only)
      | ((with_reducible refine sc_ret ?_); dsimp only)
      | ((with_reducible refine sc_exit ?_); dsimp only [Nat.beq])
      | ((with_reducible refine so_nil ?_); dsimp only)
      | ((with_reducible apply so_skip); (case hw => simp only [aWanted, aYield, pAT, pG, f0, f3, f5, f6, f7, g1, reduceIte, Nat.reduceEqDiff]; done))
      | ((with_reducible apply so_val); (case hw => simp only [aWanted, aYield, pAT, pG, f0, f3, f5, f6, f7, g1, reduceIte, Nat.reduceEqDiff]; done); (case ha => simp (maxSteps := 1000000) (disch := (refine id ?_; first | assumption | omega | (simp only [pN, pO, oneCell]; done) | (simp only [pN]; omega))) only [aOp, ev, pAT, f0, f3, f5, f6, f7, g1, pI, aInt, aStr, aUn, AR.of, AR.ofB, AR.ofH, reduceIte, Nat.reduceEqDiff, aBuiltin, aLen, aField, aFieldAddr, aIndexAddr, aStore, aLoad, cellsL, oneCell, splice, pC, pL, Nat.reduceBEq, Nat.reduceLeDiff, Nat.reduceMul, Nat.reduceSub, Nat.reduceLT, Nat.reduceAdd, wTrOZ1] <;> with_reducible rfl))
      | ((with_reducible apply sc_false); (case hc => simp only [ev, pAT, f0, f3, f5, f6, f7, g1, reduceIte, Nat.reduceEqDiff]; done))
      | ((with_reducible apply sc_true); (case hc => simp only [ev, pAT, f0, f3, f5, f6, f7, g1, reduceIte, Nat.reduceEqDiff]; done)))
    first
      | ((with_reducible apply so_call); (case hw => simp only [aWanted, aYield, pAT, pG, f0, f3, f5, f6, f7, g1, reduceIte, Nat.reduceEqDiff]; done); (case ha => simp (maxSteps := 1000000) (disch := (refine id ?_; first | assumption | omega | (simp only [pN, pO, oneCell]; done) | (simp only [pN]; omega))) only [aOp, ev, pAT, f0, f3, f5, f6, f7, g1, pI, aInt, aStr, aUn, AR.of, AR.ofB, AR.ofH, reduceIte, Nat.reduceEqDiff, aBuiltin, aLen, aField, aFieldAddr, aIndexAddr, aStore, aLoad, cellsL, oneCell, splice, pC, pL, Nat.reduceBEq, Nat.reduceLeDiff, Nat.reduceMul, Nat.reduceSub, Nat.reduceLT, Nat.reduceAdd, wTrOZ1] <;> with_reducible rfl))
      | ((with_reducible apply so_callD); (case hw => simp only [aWanted, aYield, pAT, pG, f0, f3, f5, f6, f7, g1, reduceIte, Nat.reduceEqDiff]; done); (case ha => simp (maxSteps := 1000000) (disch := (first | omega | (simp only [new_next, new_base, upd_next, upd_base, List.length_cons, List.length_nil, List.all_cons, List.all_nil, oneCell, Bool.and_self, Bool.and_true]; done) | (simp only [new_next, new_base, upd_next, upd_base, List.length_cons, List.length_nil]; omega))) only [aOp, ev, pAT, f0, f3, f5, f6, f7, g1, pI, aInt, aStr, aUn, AR.of, AR.ofB, AR.ofH, reduceIte, Nat.reduceEqDiff, aBuiltin, aLen, aField, aFieldAddr, aIndexAddr, aStore, aLoad, cellsL, oneCell, splice, pC, pL, Nat.reduceBEq, Nat.reduceLeDiff, Nat.reduceMul, Nat.reduceSub, Nat.reduceLT, Nat.reduceAdd, wTrOZ1] <;> with_reducible rfl))
    refine (kids_wf G hbG _ xs (hz.own.rd hxs) hxs hxl 0).mono ?_
    rintro ks G1 ⟨kk, hgr, hks, hkl, hx1⟩
    have hb1 : G1.base ≤ G1.next := by rw [hx1.base]; exact Nat.le_trans hbG hx1.next
    obtain ⟨col1, hc1, hn1⟩ : ∃ col1 : Nat → Nat, (∀ b, b < G.next → col1 b = col b) ∧ ∀ b, G.next ≤ b → col1 b = 10 + 4 * t + 0 := ⟨fun b => if b < G.next then col b else 10 + 4 * t + 0, fun b h => if_pos h, fun b h => if_neg (by omega)⟩
    have k1 : Kp G col G1 col1 := Kp.ext hx1 hc1
    have z1 := hz.kp k1
    repeat (first
      | (with_reducible refine sc_seq ?_)
      | (with_reducible refine sc_region ?_)
      | (with_reducible refine sc_block ?_)
      | (with_reducible refine sc_scope ?_)
      | ((with_reducible refine sc_skip ?_); dsimp only)
      | ((with_reducible refine sc_label ?_); dsimp only)
      | ((with_reducible refine sc_ret ?_); dsimp only)
      | ((with_reducible refine sc_exit ?_); dsimp only [Nat.beq])
      | ((with_reducible refine so_nil ?_); dsimp only)
      | ((with_reducible apply so_skip); (case hw => simp only [aWanted, aYield, pAT, pG, f0, f3, f5, f6, f7, reduceIte, Nat.reduceEqDiff]; done))
      | ((with_reducible apply so_val); (case hw => simp only [aWanted, aYield, pAT, pG, f0, f3, f5, f6, f7, reduceIte, Nat.reduceEqDiff]; done); (case ha => simp (maxSteps := 1000000) (disch := (refine id ?_; first | assumption | omega | (simp only [pN, pO, oneCell]; done) | (simp only [pN]; omega))) only [aOp, ev, pAT, f0, f3, f5, f6, f7, pI, aInt, aStr, aUn, AR.of, AR.ofB, AR.ofH, reduceIte, Nat.reduceEqDiff, aBuiltin, aLen, aField, aFieldAddr, aIndexAddr, aStore, aLoad, cellsL, oneCell, splice, pC, pL, Nat.reduceBEq, Nat.reduceLeDiff, Nat.reduceMul, Nat.reduceSub, Nat.reduceLT, Nat.reduceAdd, wTrOZ1] <;> with_reducible rfl))
      | ((with_reducible apply sc_false); (case hc => simp only [ev, pAT, f0, f3, f5, f6, f7, reduceIte, Nat.reduceEqDiff]; done))
      | ((with_reducible apply sc_true); (case hc => simp only [ev, pAT, f0, f3, f5, f6, f7, reduceIte, Nat.reduceEqDiff]; done)))
    first
      | ((with_reducible apply so_call); (case hw => simp only [aWanted, aYield, pAT, pG, f0, f3, f5, f6, f7, reduceIte, Nat.reduceEqDiff]; done); (case ha => simp (maxSteps := 1000000) (disch := (refine id ?_; first | assumption | omega | (simp only [pN, pO, oneCell]; done) | (simp only [pN]; omega))) only [aOp, ev, pAT, f0, f3, f5, f6, f7, pI, aInt, aStr, aUn, AR.of, AR.ofB, AR.ofH, reduceIte, Nat.reduceEqDiff, aBuiltin, aLen, aField, aFieldAddr, aIndexAddr, aStore, aLoad, cellsL, oneCell, splice, pC, pL, Nat.reduceBEq, Nat.reduceLeDiff, Nat.reduceMul, Nat.reduceSub, Nat.reduceLT, Nat.reduceAdd, wTrOZ1] <;> with_reducible rfl))
      | ((with_reducible apply so_callD); (case hw => simp only [aWanted, aYield, pAT, pG, f0, f3, f5, f6, f7, reduceIte, Nat.reduceEqDiff]; done); (case ha => simp (maxSteps := 1000000) (disch := (first | omega | (simp only [new_next, new_base, upd_next, upd_base, List.length_cons, List.length_nil, List.all_cons, List.all_nil, oneCell, Bool.and_self, Bool.and_true]; done) | (simp only [new_next, new_base, upd_next, upd_base, List.length_cons, List.length_nil]; omega))) only [aOp, ev, pAT, f0, f3, f5, f6, f7, pI, aInt, aStr, aUn, AR.of, AR.ofB, AR.ofH, reduceIte, Nat.reduceEqDiff, aBuiltin, aLen, aField, aFieldAddr, aIndexAddr, aStore, aLoad, cellsL, oneCell, splice, pC, pL, Nat.reduceBEq, Nat.reduceLeDiff, Nat.reduceMul, Nat.reduceSub, Nat.reduceLT, Nat.reduceAdd, wTrOZ1] <;> with_reducible rfl))
    refine (Ints.take_wf G1 hb1 col1 B _ _ _ _ (hbd.ext hx1 hc1) ks kk ((hgr.grp (by rw [hx1.base]; exact hbG)).imp fun b _ h => hn1 b h) (fun z h => by obtain ⟨n, rfl⟩ := hks z h; rfl) hkl (by omega)).mono ?_
    rintro r2 G2 ⟨col2, d2, k2⟩
    have hb2 : G2.base ≤ G2.next := by rw [k2.base]; exact Nat.le_trans hb1 k2.next
    have z2 := z1.kp k2
    clear hgr k1 hc1 hn1 z1
    repeat (first
      | (with_reducible refine sc_seq ?_)
      | (with_reducible refine sc_region ?_)
      | (with_reducible refine sc_block ?_)
      | (with_reducible refine sc_scope ?_)
      | ((with_reducible refine sc_skip ?_); dsimp only)
      | ((with_reducible refine sc_label ?_); dsimp only)
      | ((with_reducible refine sc_ret ?_); dsimp only)
      | ((with_reducible refine sc_exit ?_); dsimp only [Nat.beq])
      | ((with_reducible refine so_nil ?_); dsimp only)
      | ((with_reducible apply so_skip); (case hw => simp only [aWanted, aYield, pAT, pG, f0, f3, f5, f6, f7, reduceIte, Nat.reduceEqDiff]; done))
      | ((with_reducible apply so_val); (case hw => simp only [aWanted, aYield, pAT, pG, f0, f3, f5, f6, f7, reduceIte, Nat.reduceEqDiff]; done); (case ha => simp (maxSteps := 1000000) (disch := (refine id ?_; first | assumption | omega | (simp only [pN, pO, oneCell]; done) | (simp only [pN]; omega))) only [aOp, ev, pAT, f0, f3, f5, f6, f7, pI, aInt, aStr, aUn, AR.of, AR.ofB, AR.ofH, reduceIte, Nat.reduceEqDiff, aBuiltin, aLen, aField, aFieldAddr, aIndexAddr, aStore, aLoad, cellsL, oneCell, splice, pC, pL, Nat.reduceBEq, Nat.reduceLeDiff, Nat.reduceMul, Nat.reduceSub, Nat.reduceLT, Nat.reduceAdd, wTrOZ1] <;> with_reducible rfl))
      | ((with_reducible apply sc_false); (case hc => simp only [ev, pAT, f0, f3, f5, f6, f7, reduceIte, Nat.reduceEqDiff]; done))
      | ((with_reducible apply sc_true); (case hc => simp only [ev, pAT, f0, f3, f5, f6, f7, reduceIte, Nat.reduceEqDiff]; done)))
    first
      | ((with_reducible apply so_call); (case hw => simp only [aWanted, aYield, pAT, pG, f0, f3, f5, f6, f7, reduceIte, Nat.reduceEqDiff]; done); (case ha => simp (maxSteps := 1000000) (disch := (refine id ?_; first | assumption | omega | (simp only [pN, pO, oneCell]; done) | (simp only [pN]; omega))) only [aOp, ev, pAT, f0, f3, f5, f6, f7, pI, aInt, aStr, aUn, AR.of, AR.ofB, AR.ofH, reduceIte, Nat.reduceEqDiff, aBuiltin, aLen, aField, aFieldAddr, aIndexAddr, aStore, aLoad, cellsL, oneCell, splice, pC, pL, Nat.reduceBEq, Nat.reduceLeDiff, Nat.reduceMul, Nat.reduceSub, Nat.reduceLT, Nat.reduceAdd, wTrOZ1] <;> with_reducible rfl))
      | ((with_reducible apply so_callD); (case hw => simp only [aWanted, aYield, pAT, pG, f0, f3, f5, f6, f7, reduceIte, Nat.reduceEqDiff]; done); (case ha => simp (maxSteps := 1000000) (disch := (first | omega | (simp only [new_next, new_base, upd_next, upd_base, List.length_cons, List.length_nil, List.all_cons, List.all_nil, oneCell, Bool.and_self, Bool.and_true]; done) | (simp only [new_next, new_base, upd_next, upd_base, List.length_cons, List.length_nil]; omega))) only [aOp, ev, pAT, f0, f3, f5, f6, f7, pI, aInt, aStr, aUn, AR.of, AR.ofB, AR.ofH, reduceIte, Nat.reduceEqDiff, aBuiltin, aLen, aField, aFieldAddr, aIndexAddr, aStore, aLoad, cellsL, oneCell, splice, pC, pL, Nat.reduceBEq, Nat.reduceLeDiff, Nat.reduceMul, Nat.reduceSub, Nat.reduceLT, Nat.reduceAdd, wTrOZ1] <;> with_reducible rfl))
    refine (calls_wf G2 hb2 _ xs (z2.own.rd hxs) hxs hxl).mono ?_
    rintro cs G3 ⟨hgr, hx3⟩
    have hb3 : G3.base ≤ G3.next := by rw [hx3.base]; exact Nat.le_trans hb2 hx3.next
    obtain ⟨col3, hc3, hn3⟩ : ∃ col3 : Nat → Nat, (∀ b, b < G2.next → col3 b = col2 b) ∧ ∀ b, G2.next ≤ b → col3 b = 10 + 4 * (t * (Q.its.length + 2)) + 1 := ⟨fun b => if b < G2.next then col2 b else 10 + 4 * (t * (Q.its.length + 2)) + 1, fun b h => if_pos h, fun b h => if_neg (by omega)⟩
    have k3 : Kp G2 col2 G3 col3 := Kp.ext hx3 hc3
    have z3 := z2.kp k3
    repeat (first
      | (with_reducible refine sc_seq ?_)
      | (with_reducible refine sc_region ?_)
      | (with_reducible refine sc_block ?_)
      | (with_reducible refine sc_scope ?_)
      | ((with_reducible refine sc_skip ?_); dsimp only)
      | ((with_reducible refine sc_label ?_); dsimp only)
      | ((with_reducible refine sc_ret ?_); dsimp only)
      | ((with_reducible refine sc_exit ?_); dsimp only [Nat.beq])
      | ((with_reducible refine so_nil ?_); dsimp only)
      | ((with_reducible apply so_skip); (case hw => simp only [aWanted, aYield, pAT, pG, f0, f3, f5, f6, f7, reduceIte, Nat.reduceEqDiff]; done))
      | ((with_reducible apply so_val); (case hw => simp only [aWanted, aYield, pAT, pG, f0, f3, f5, f6, f7, reduceIte, Nat.reduceEqDiff]; done); (case ha => simp (maxSteps := 1000000) (disch := (refine id ?_; first | assumption | omega | (simp only [pN, pO, oneCell]; done) | (simp only [pN]; omega))) only [aOp, ev, pAT, f0, f3, f5, f6, f7, pI, aInt, aStr, aUn, AR.of, AR.ofB, AR.ofH, reduceIte, Nat.reduceEqDiff, aBuiltin, aLen, aField, aFieldAddr, aIndexAddr, aStore, aLoad, cellsL, oneCell, splice, pC, pL, Nat.reduceBEq, Nat.reduceLeDiff, Nat.reduceMul, Nat.reduceSub, Nat.reduceLT, Nat.reduceAdd, wTrOZ1] <;> with_reducible rfl))
      | ((with_reducible apply sc_false); (case hc => simp only [ev, pAT, f0, f3, f5, f6, f7, reduceIte, Nat.reduceEqDiff]; done))
      | ((with_reducible apply sc_true); (case hc => simp only [ev, pAT, f0, f3, f5, f6, f7, reduceIte, Nat.reduceEqDiff]; done)))
    first
      | ((with_reducible apply so_call); (case hw => simp only [aWanted, aYield, pAT, pG, f0, f3, f5, f6, f7, reduceIte, Nat.reduceEqDiff]; done); (case ha => simp (maxSteps := 1000000) (disch := (refine id ?_; first | assumption | omega | (simp only [pN, pO, oneCell]; done) | (simp only [pN]; omega))) only [aOp, ev, pAT, f0, f3, f5, f6, f7, pI, aInt, aStr, aUn, AR.of, AR.ofB, AR.ofH, reduceIte, Nat.reduceEqDiff, aBuiltin, aLen, aField, aFieldAddr, aIndexAddr, aStore, aLoad, cellsL, oneCell, splice, pC, pL, Nat.reduceBEq, Nat.reduceLeDiff, Nat.reduceMul, Nat.reduceSub, Nat.reduceLT, Nat.reduceAdd, wTrOZ1] <;> with_reducible rfl))
      | ((with_reducible apply so_callD); (case hw => simp only [aWanted, aYield, pAT, pG, f0, f3, f5, f6, f7, reduceIte, Nat.reduceEqDiff]; done); (case ha => simp (maxSteps := 1000000) (disch := (first | omega | (simp only [new_next, new_base, upd_next, upd_base, List.length_cons, List.length_nil, List.all_cons, List.all_nil, oneCell, Bool.and_self, Bool.and_true]; done) | (simp only [new_next, new_base, upd_next, upd_base, List.length_cons, List.length_nil]; omega))) only [aOp, ev, pAT, f0, f3, f5, f6, f7, pI, aInt, aStr, aUn, AR.of, AR.ofB, AR.ofH, reduceIte, Nat.reduceEqDiff, aBuiltin, aLen, aField, aFieldAddr, aIndexAddr, aStore, aLoad, cellsL, oneCell, splice, pC, pL, Nat.reduceBEq, Nat.reduceLeDiff, Nat.reduceMul, Nat.reduceSub, Nat.reduceLT, Nat.reduceAdd, wTrOZ1] <;> with_reducible rfl))
    refine (NodesL.take_wf G3 hb3 col3 B _ _ _ _ (d2.ext hx3 hc3) cs (xs.filter opCall) ((hgr.grp (by rw [hx3.base]; exact hb2)).imp fun b _ h => hn3 b h) (fun z h => nodes_len hxs z (List.mem_filter.1 h).1) (Nat.le_trans (List.length_filter_le ..) hxl) (by omega)).mono ?_
    rintro r4 G4 ⟨col4, d4, k4⟩
    have hb4 : G4.base ≤ G4.next := by rw [k4.base]; exact Nat.le_trans hb3 k4.next
    have z4 := z3.kp k4
    clear hgr k3 hc3 hn3 z3 z2 d2
    obtain ⟨qN, _, qB⟩ := z4.box
    obtain ⟨_, _, qC, qL, _⟩ := box_facts qB qN
    repeat (first
      | (with_reducible refine sc_seq ?_)
      | (with_reducible refine sc_region ?_)
      | (with_reducible refine sc_block ?_)
      | (with_reducible refine sc_scope ?_)
      | ((with_reducible refine sc_skip ?_); dsimp only)
      | ((with_reducible refine sc_label ?_); dsimp only)
      | ((with_reducible refine sc_ret ?_); dsimp only)
      | ((with_reducible refine sc_exit ?_); dsimp only [Nat.beq])
      | ((with_reducible refine so_nil ?_); dsimp only)
      | ((with_reducible apply so_skip); (case hw => simp only [aWanted, aYield, pAT, pG, f0, f3, f5, f6, f7, qC, qL, reduceIte, Nat.reduceEqDiff]; done))
      | ((with_reducible apply so_val); (case hw => simp only [aWanted, aYield, pAT, pG, f0, f3, f5, f6, f7, qC, qL, reduceIte, Nat.reduceEqDiff]; done); (case ha => simp (maxSteps := 1000000) (disch := (refine id ?_; first | assumption | omega | (simp only [pN, pO, oneCell]; done) | (simp only [pN]; omega))) only [aOp, ev, pAT, f0, f3, f5, f6, f7, qC, qL, pI, aInt, aStr, aUn, AR.of, AR.ofB, AR.ofH, reduceIte, Nat.reduceEqDiff, aBuiltin, aLen, aField, aFieldAddr, aIndexAddr, aStore, aLoad, cellsL, oneCell, splice, pC, pL, Nat.reduceBEq, Nat.reduceLeDiff, Nat.reduceMul, Nat.reduceSub, Nat.reduceLT, Nat.reduceAdd, wTrOZ1] <;> with_reducible rfl))
      | ((with_reducible apply sc_false); (case hc => simp only [ev, pAT, f0, f3, f5, f6, f7, qC, qL, reduceIte, Nat.reduceEqDiff]; done))
      | ((with_reducible apply sc_true); (case hc => simp only [ev, pAT, f0, f3, f5, f6, f7, qC, qL, reduceIte, Nat.reduceEqDiff]; done)))
    first
      | ((with_reducible apply so_call); (case hw => simp only [aWanted, aYield, pAT, pG, f0, f3, f5, f6, f7, qC, qL, reduceIte, Nat.reduceEqDiff]; done); (case ha => simp (maxSteps := 1000000) (disch := (refine id ?_; first | assumption | omega | (simp only [pN, pO, oneCell]; done) | (simp only [pN]; omega))) only [aOp, ev, pAT, f0, f3, f5, f6, f7, qC, qL, pI, aInt, aStr, aUn, AR.of, AR.ofB, AR.ofH, reduceIte, Nat.reduceEqDiff, aBuiltin, aLen, aField, aFieldAddr, aIndexAddr, aStore, aLoad, cellsL, oneCell, splice, pC, pL, Nat.reduceBEq, Nat.reduceLeDiff, Nat.reduceMul, Nat.reduceSub, Nat.reduceLT, Nat.reduceAdd, wTrOZ1] <;> with_reducible rfl))
      | ((with_reducible apply so_callD); (case hw => simp only [aWanted, aYield, pAT, pG, f0, f3, f5, f6, f7, qC, qL, reduceIte, Nat.reduceEqDiff]; done); (case ha => simp (maxSteps := 1000000) (disch := (first | omega | (simp only [new_next, new_base, upd_next, upd_base, List.length_cons, List.length_nil, List.all_cons, List.all_nil, oneCell, Bool.and_self, Bool.and_true]; done) | (simp only [new_next, new_base, upd_next, upd_base, List.length_cons, List.length_nil]; omega))) only [aOp, ev, pAT, f0, f3, f5, f6, f7, qC, qL, pI, aInt, aStr, aUn, AR.of, AR.ofB, AR.ofH, reduceIte, Nat.reduceEqDiff, aBuiltin, aLen, aField, aFieldAddr, aIndexAddr, aStore, aLoad, cellsL, oneCell, splice, pC, pL, Nat.reduceBEq, Nat.reduceLeDiff, Nat.reduceMul, Nat.reduceSub, Nat.reduceLT, Nat.reduceAdd, wTrOZ1] <;> with_reducible rfl))
    refine (copy_wf G4 hb4 Q hq _ _ _ z4.its.ir z4.wh.rd z4.gr.rd).mono ?_
    rintro _ G5 ⟨vi2, vw2, vg2, rfl, hcw, hx5⟩
    have hb5 : G5.base ≤ G5.next := by rw [hx5.base]; exact Nat.le_trans hb4 hx5.next
    obtain ⟨col5, hc5, hpd⟩ := hcw.pend (by rw [hx5.base]; exact hb4) col4 (t * (Q.its.length + 2) + 1) t t
    have k5 : Kp G4 col4 G5 col5 := Kp.ext hx5 hc5
    have z5 := z4.kp k5
    repeat (first
      | (with_reducible refine sc_seq ?_)
      | (with_reducible refine sc_region ?_)
      | (with_reducible refine sc_block ?_)
      | (with_reducible refine sc_scope ?_)
      | ((with_reducible refine sc_skip ?_); dsimp only)
      | ((with_reducible refine sc_label ?_); dsimp only)
      | ((with_reducible refine sc_ret ?_); dsimp only)
      | ((with_reducible refine sc_exit ?_); dsimp only [Nat.beq])
      | ((with_reducible refine so_nil ?_); dsimp only)
      | ((with_reducible apply so_skip); (case hw => simp only [aWanted, aYield, pAT, pG, f0, f3, f5, f6, f7, reduceIte, Nat.reduceEqDiff]; done))
      | ((with_reducible apply so_val); (case hw => simp only [aWanted, aYield, pAT, pG, f0, f3, f5, f6, f7, reduceIte, Nat.reduceEqDiff]; done); (case ha => simp (maxSteps := 1000000) (disch := (refine id ?_; first | assumption | omega | (simp only [pN, pO, oneCell]; done) | (simp only [pN]; omega))) only [aOp, ev, pAT, f0, f3, f5, f6, f7, pI, aInt, aStr, aUn, AR.of, AR.ofB, AR.ofH, reduceIte, Nat.reduceEqDiff, aBuiltin, aLen, aField, aFieldAddr, aIndexAddr, aStore, aLoad, cellsL, oneCell, splice, pC, pL, Nat.reduceBEq, Nat.reduceLeDiff, Nat.reduceMul, Nat.reduceSub, Nat.reduceLT, Nat.reduceAdd, wTrOZ1] <;> with_reducible rfl))
      | ((with_reducible apply sc_false); (case hc => simp only [ev, pAT, f0, f3, f5, f6, f7, reduceIte, Nat.reduceEqDiff]; done))
      | ((with_reducible apply sc_true); (case hc => simp only [ev, pAT, f0, f3, f5, f6, f7, reduceIte, Nat.reduceEqDiff]; done)))
    first
      | ((with_reducible apply so_call); (case hw => simp only [aWanted, aYield, pAT, pG, f0, f3, f5, f6, f7, reduceIte, Nat.reduceEqDiff]; done); (case ha => simp (maxSteps := 1000000) (disch := (refine id ?_; first | assumption | omega | (simp only [pN, pO, oneCell]; done) | (simp only [pN]; omega))) only [aOp, ev, pAT, f0, f3, f5, f6, f7, pI, aInt, aStr, aUn, AR.of, AR.ofB, AR.ofH, reduceIte, Nat.reduceEqDiff, aBuiltin, aLen, aField, aFieldAddr, aIndexAddr, aStore, aLoad, cellsL, oneCell, splice, pC, pL, Nat.reduceBEq, Nat.reduceLeDiff, Nat.reduceMul, Nat.reduceSub, Nat.reduceLT, Nat.reduceAdd, wTrOZ1] <;> with_reducible rfl))
      | ((with_reducible apply so_callD); (case hw => simp only [aWanted, aYield, pAT, pG, f0, f3, f5, f6, f7, reduceIte, Nat.reduceEqDiff]; done); (case ha => simp (maxSteps := 1000000) (disch := (first | omega | (simp only [new_next, new_base, upd_next, upd_base, List.length_cons, List.length_nil, List.all_cons, List.all_nil, oneCell, Bool.and_self, Bool.and_true]; done) | (simp only [new_next, new_base, upd_next, upd_base, List.length_cons, List.length_nil]; omega))) only [aOp, ev, pAT, f0, f3, f5, f6, f7, pI, aInt, aStr, aUn, AR.of, AR.ofB, AR.ofH, reduceIte, Nat.reduceEqDiff, aBuiltin, aLen, aField, aFieldAddr, aIndexAddr, aStore, aLoad, cellsL, oneCell, splice, pC, pL, Nat.reduceBEq, Nat.reduceLeDiff, Nat.reduceMul, Nat.reduceSub, Nat.reduceLT, Nat.reduceAdd, wTrOZ1] <;> with_reducible rfl))
    refine (takeQuery_wf G5 hb5 col5 B _ _ _ _ (d4.ext hx5 hc5) Q hq _ _ _ hpd (by omega) (by omega) (by omega)).mono ?_
    rintro r6 G6 ⟨col6, d6, k6⟩
    have hb6 : G6.base ≤ G6.next := by rw [k6.base]; exact Nat.le_trans hb5 k6.next
    have z6 := z5.kp k6
    repeat (first
      | (with_reducible refine sc_seq ?_)
      | (with_reducible refine sc_region ?_)
      | (with_reducible refine sc_block ?_)
      | (with_reducible refine sc_scope ?_)
      | ((with_reducible refine sc_skip ?_); dsimp only)
      | ((with_reducible refine sc_label ?_); dsimp only)
      | ((with_reducible refine sc_ret ?_); dsimp only)
      | ((with_reducible refine sc_exit ?_); dsimp only [Nat.beq])
      | ((with_reducible refine so_nil ?_); dsimp only)
      | ((with_reducible apply so_skip); (case hw => simp only [aWanted, aYield, pAT, pG, f0, f3, f5, f6, f7, reduceIte, Nat.reduceEqDiff]; done))
      | ((with_reducible apply so_val); (case hw => simp only [aWanted, aYield, pAT, pG, f0, f3, f5, f6, f7, reduceIte, Nat.reduceEqDiff]; done); (case ha => simp (maxSteps := 1000000) (disch := (refine id ?_; first | assumption | omega | (simp only [pN, pO, oneCell]; done) | (simp only [pN]; omega))) only [aOp, ev, pAT, f0, f3, f5, f6, f7, pI, aInt, aStr, aUn, AR.of, AR.ofB, AR.ofH, reduceIte, Nat.reduceEqDiff, aBuiltin, aLen, aField, aFieldAddr, aIndexAddr, aStore, aLoad, cellsL, oneCell, splice, pC, pL, Nat.reduceBEq, Nat.reduceLeDiff, Nat.reduceMul, Nat.reduceSub, Nat.reduceLT, Nat.reduceAdd, wTrOZ1] <;> with_reducible rfl))
      | ((with_reducible apply sc_false); (case hc => simp only [ev, pAT, f0, f3, f5, f6, f7, reduceIte, Nat.reduceEqDiff]; done))
      | ((with_reducible apply sc_true); (case hc => simp only [ev, pAT, f0, f3, f5, f6, f7, reduceIte, Nat.reduceEqDiff]; done)))
    refine ⟨2 - (t + 1), by omega, t + 1, col6, by omega, rfl, hb6, ?_, z6, ?_, ?_, ?_, ?_, ?_⟩
    · rw [show (t + 1) * (Q.its.length + 2) = t * (Q.its.length + 2) + 1 + Q.its.length + 1 by rw [Nat.add_mul, Nat.one_mul]; omega]
      exact d6
    all_goals simp only [at_some, at_none, f0, f3, f5, f6, f7, reduceIte, Nat.reduceEqDiff]
    rw [wrap_succ (by omega)]
  · obtain rfl : t = 2 := by omega
    have g1 : decide (((2 : Nat) : Int) < 2) = false := decF (by omega)
    have w1 : decide ((2 : Int) < 2) = false := decF (by omega)
    repeat (first
      | (with_reducible refine sc_seq ?_)
      | (with_reducible refine sc_region ?_)
      | (with_reducible refine sc_block ?_)
      | (with_reducible refine sc_scope ?_)
      | ((with_reducible refine sc_skip ?_); dsimp only)
      | ((with_reducible refine sc_label ?_); dsimp only)
      | ((with_reducible refine sc_ret ?_); dsimp only)
      | ((with_reducible refine sc_exit ?_); dsimp only [Nat.beq])
      | ((with_reducible refine so_nil ?_); dsimp only)
      | ((with_reducible apply so_skip); (case hw => simp only [aWanted, aYield, pAT, pG, f0, f3, f5, f6, f7, g1, w1, reduceIte, Nat.reduceEqDiff]; done))
      | ((with_reducible apply so_val); (case hw => simp only [aWanted, aYield, pAT, pG, f0, f3, f5, f6, f7, g1, w1, reduceIte, Nat.reduceEqDiff]; done); (case ha => simp (maxSteps := 1000000) (disch := (refine id ?_; first | assumption | omega | (simp only [pN, pO, oneCell]; done) | (simp only [pN]; omega))) only [aOp, ev, pAT, f0, f3, f5, f6, f7, g1, w1, pI, aInt, aStr, aUn, AR.of, AR.ofB, AR.ofH, reduceIte, Nat.reduceEqDiff, aBuiltin, aLen, aField, aFieldAddr, aIndexAddr, aStore, aLoad, cellsL, oneCell, splice, pC, pL, Nat.reduceBEq, Nat.reduceLeDiff, Nat.reduceMul, Nat.reduceSub, Nat.reduceLT, Nat.reduceAdd, wTrOZ1] <;> with_reducible rfl))
      | ((with_reducible apply sc_false); (case hc => simp only [ev, pAT, f0, f3, f5, f6, f7, g1, w1, reduceIte, Nat.reduceEqDiff]; done))
      | ((with_reducible apply sc_true); (case hc => simp only [ev, pAT, f0, f3, f5, f6, f7, g1, w1, reduceIte, Nat.reduceEqDiff]; done)))
    first
      | ((with_reducible apply so_call); (case hw => simp only [aWanted, aYield, pAT, pG, f0, f3, f5, f6, f7, reduceIte, Nat.reduceEqDiff]; done); (case ha => simp (maxSteps := 1000000) (disch := (refine id ?_; first | assumption | omega | (simp only [pN, pO, oneCell]; done) | (simp only [pN]; omega))) only [aOp, ev, pAT, f0, f3, f5, f6, f7, pI, aInt, aStr, aUn, AR.of, AR.ofB, AR.ofH, reduceIte, Nat.reduceEqDiff, aBuiltin, aLen, aField, aFieldAddr, aIndexAddr, aStore, aLoad, cellsL, oneCell, splice, pC, pL, Nat.reduceBEq, Nat.reduceLeDiff, Nat.reduceMul, Nat.reduceSub, Nat.reduceLT, Nat.reduceAdd, wTrOZ1] <;> with_reducible rfl))
      | ((with_reducible apply so_callD); (case hw => simp only [aWanted, aYield, pAT, pG, f0, f3, f5, f6, f7, reduceIte, Nat.reduceEqDiff]; done); (case ha => simp (maxSteps := 1000000) (disch := (first | omega | (simp only [new_next, new_base, upd_next, upd_base, List.length_cons, List.length_nil, List.all_cons, List.all_nil, oneCell, Bool.and_self, Bool.and_true]; done) | (simp only [new_next, new_base, upd_next, upd_base, List.length_cons, List.length_nil]; omega))) only [aOp, ev, pAT, f0, f3, f5, f6, f7, pI, aInt, aStr, aUn, AR.of, AR.ofB, AR.ofH, reduceIte, Nat.reduceEqDiff, aBuiltin, aLen, aField, aFieldAddr, aIndexAddr, aStore, aLoad, cellsL, oneCell, splice, pC, pL, Nat.reduceBEq, Nat.reduceLeDiff, Nat.reduceMul, Nat.reduceSub, Nat.reduceLT, Nat.reduceAdd, wTrOZ1] <;> with_reducible rfl))
    have htold := told_of hz.err.2.2
    refine Wf_orc (v := .bool true) (H' := G) (by show liveOrc 11 [] G = _; unfold liveOrc; simp only [htold]) ?_
    repeat (first
      | (with_reducible refine sc_seq ?_)
      | (with_reducible refine sc_region ?_)
      | (with_reducible refine sc_block ?_)
      | (with_reducible refine sc_scope ?_)
      | ((with_reducible refine sc_skip ?_); dsimp only)
      | ((with_reducible refine sc_label ?_); dsimp only)
      | ((with_reducible refine sc_ret ?_); dsimp only)
      | ((with_reducible refine sc_exit ?_); dsimp only [Nat.beq])
      | ((with_reducible refine so_nil ?_); dsimp only)
      | ((with_reducible apply so_skip); (case hw => simp only [aWanted, aYield, pAT, pG, f0, f3, f5, f6, f7, reduceIte, Nat.reduceEqDiff]; done))
      | ((with_reducible apply so_val); (case hw => simp only [aWanted, aYield, pAT, pG, f0, f3, f5, f6, f7, reduceIte, Nat.reduceEqDiff]; done); (case ha => simp (maxSteps := 1000000) (disch := (refine id ?_; first | assumption | omega | (simp only [pN, pO, oneCell]; done) | (simp only [pN]; omega))) only [aOp, ev, pAT, f0, f3, f5, f6, f7, pI, aInt, aStr, aUn, AR.of, AR.ofB, AR.ofH, reduceIte, Nat.reduceEqDiff, aBuiltin, aLen, aField, aFieldAddr, aIndexAddr, aStore, aLoad, cellsL, oneCell, splice, pC, pL, Nat.reduceBEq, Nat.reduceLeDiff, Nat.reduceMul, Nat.reduceSub, Nat.reduceLT, Nat.reduceAdd, wTrOZ1] <;> with_reducible rfl))
      | ((with_reducible apply sc_false); (case hc => simp only [ev, pAT, f0, f3, f5, f6, f7, reduceIte, Nat.reduceEqDiff]; done))
      | ((with_reducible apply sc_true); (case hc => simp only [ev, pAT, f0, f3, f5, f6, f7, reduceIte, Nat.reduceEqDiff]; done)))
    first
      | ((with_reducible apply so_call); (case hw => simp only [aWanted, aYield, pAT, pG, f0, f3, f5, f6, f7, reduceIte, Nat.reduceEqDiff]; done); (case ha => simp (maxSteps := 1000000) (disch := (refine id ?_; first | assumption | omega | (simp only [pN, pO, oneCell]; done) | (simp only [pN]; omega))) only [aOp, ev, pAT, f0, f3, f5, f6, f7, pI, aInt, aStr, aUn, AR.of, AR.ofB, AR.ofH, reduceIte, Nat.reduceEqDiff, aBuiltin, aLen, aField, aFieldAddr, aIndexAddr, aStore, aLoad, cellsL, oneCell, splice, pC, pL, Nat.reduceBEq, Nat.reduceLeDiff, Nat.reduceMul, Nat.reduceSub, Nat.reduceLT, Nat.reduceAdd, wTrOZ1] <;> with_reducible rfl))
      | ((with_reducible apply so_callD); (case hw => simp only [aWanted, aYield, pAT, pG, f0, f3, f5, f6, f7, reduceIte, Nat.reduceEqDiff]; done); (case ha => simp (maxSteps := 1000000) (disch := (first | omega | (simp only [new_next, new_base, upd_next, upd_base, List.length_cons, List.length_nil, List.all_cons, List.all_nil, oneCell, Bool.and_self, Bool.and_true]; done) | (simp only [new_next, new_base, upd_next, upd_base, List.length_cons, List.length_nil]; omega))) only [aOp, ev, pAT, f0, f3, f5, f6, f7, pI, aInt, aStr, aUn, AR.of, AR.ofB, AR.ofH, reduceIte, Nat.reduceEqDiff, aBuiltin, aLen, aField, aFieldAddr, aIndexAddr, aStore, aLoad, cellsL, oneCell, splice, pC, pL, Nat.reduceBEq, Nat.reduceLeDiff, Nat.reduceMul, Nat.reduceSub, Nat.reduceLT, Nat.reduceAdd, wTrOZ1] <;> with_reducible rfl))
    refine (allAlone_wf G hbG col B _ _ _ _ hbd (by omega)).mono ?_
    rintro _ G1 ⟨rfl, ha⟩
    have hb1 : G1.base ≤ G1.next := by rw [ha.base]; exact Nat.le_trans hbG ha.next
    have z1 := hz.mono ha
    repeat (first
      | (with_reducible refine sc_seq ?_)
      | (with_reducible refine sc_region ?_)
      | (with_reducible refine sc_block ?_)
      | (with_reducible refine sc_scope ?_)
      | ((with_reducible refine sc_skip ?_); dsimp only)
      | ((with_reducible refine sc_label ?_); dsimp only)
      | ((with_reducible refine sc_ret ?_); dsimp only)
      | ((with_reducible refine sc_exit ?_); dsimp only [Nat.beq])
      | ((with_reducible refine so_nil ?_); dsimp only)
      | ((with_reducible apply so_skip); (case hw => simp only [aWanted, aYield, pAT, pG, f0, f3, f5, f6, f7, reduceIte, Nat.reduceEqDiff]; done))
      | ((with_reducible apply so_val); (case hw => simp only [aWanted, aYield, pAT, pG, f0, f3, f5, f6, f7, reduceIte, Nat.reduceEqDiff]; done); (case ha => simp (maxSteps := 1000000) (disch := (refine id ?_; first | assumption | omega | (simp only [pN, pO, oneCell]; done) | (simp only [pN]; omega))) only [aOp, ev, pAT, f0, f3, f5, f6, f7, pI, aInt, aStr, aUn, AR.of, AR.ofB, AR.ofH, reduceIte, Nat.reduceEqDiff, aBuiltin, aLen, aField, aFieldAddr, aIndexAddr, aStore, aLoad, cellsL, oneCell, splice, pC, pL, Nat.reduceBEq, Nat.reduceLeDiff, Nat.reduceMul, Nat.reduceSub, Nat.reduceLT, Nat.reduceAdd, wTrOZ1] <;> with_reducible rfl))
      | ((with_reducible apply sc_false); (case hc => simp only [ev, pAT, f0, f3, f5, f6, f7, reduceIte, Nat.reduceEqDiff]; done))
      | ((with_reducible apply sc_true); (case hc => simp only [ev, pAT, f0, f3, f5, f6, f7, reduceIte, Nat.reduceEqDiff]; done)))
    first
      | ((with_reducible apply so_call); (case hw => simp only [aWanted, aYield, pAT, pG, f0, f3, f5, f6, f7, reduceIte, Nat.reduceEqDiff]; done); (case ha => simp (maxSteps := 1000000) (disch := (refine id ?_; first | assumption | omega | (simp only [pN, pO, oneCell]; done) | (simp only [pN]; omega))) only [aOp, ev, pAT, f0, f3, f5, f6, f7, pI, aInt, aStr, aUn, AR.of, AR.ofB, AR.ofH, reduceIte, Nat.reduceEqDiff, aBuiltin, aLen, aField, aFieldAddr, aIndexAddr, aStore, aLoad, cellsL, oneCell, splice, pC, pL, Nat.reduceBEq, Nat.reduceLeDiff, Nat.reduceMul, Nat.reduceSub, Nat.reduceLT, Nat.reduceAdd, wTrOZ1] <;> with_reducible rfl))
      | ((with_reducible apply so_callD); (case hw => simp only [aWanted, aYield, pAT, pG, f0, f3, f5, f6, f7, reduceIte, Nat.reduceEqDiff]; done); (case ha => simp (maxSteps := 1000000) (disch := (first | omega | (simp only [new_next, new_base, upd_next, upd_base, List.length_cons, List.length_nil, List.all_cons, List.all_nil, oneCell, Bool.and_self, Bool.and_true]; done) | (simp only [new_next, new_base, upd_next, upd_base, List.length_cons, List.length_nil]; omega))) only [aOp, ev, pAT, f0, f3, f5, f6, f7, pI, aInt, aStr, aUn, AR.of, AR.ofB, AR.ofH, reduceIte, Nat.reduceEqDiff, aBuiltin, aLen, aField, aFieldAddr, aIndexAddr, aStore, aLoad, cellsL, oneCell, splice, pC, pL, Nat.reduceBEq, Nat.reduceLeDiff, Nat.reduceMul, Nat.reduceSub, Nat.reduceLT, Nat.reduceAdd, wTrOZ1] <;> with_reducible rfl))
    refine (kept_wf G1 hb1 _ _ vl xs z1.own z1.l.rd hxs hxl).mono ?_
    rintro _ G2 ⟨rfl, _⟩
    repeat (first
      | (with_reducible refine sc_seq ?_)
      | (with_reducible refine sc_region ?_)
      | (with_reducible refine sc_block ?_)
      | (with_reducible refine sc_scope ?_)
      | ((with_reducible refine sc_skip ?_); dsimp only)
      | ((with_reducible refine sc_label ?_); dsimp only)
      | ((with_reducible refine sc_ret ?_); dsimp only)
      | ((with_reducible refine sc_exit ?_); dsimp only [Nat.beq])
      | ((with_reducible refine so_nil ?_); dsimp only)
      | ((with_reducible apply so_skip); (case hw => simp only [aWanted, aYield, pAT, pG, f0, f3, f5, f6, f7, reduceIte, Nat.reduceEqDiff]; done))
      | ((with_reducible apply so_val); (case hw => simp only [aWanted, aYield, pAT, pG, f0, f3, f5, f6, f7, reduceIte, Nat.reduceEqDiff]; done); (case ha => simp (maxSteps := 1000000) (disch := (refine id ?_; first | assumption | omega | (simp only [pN, pO, oneCell]; done) | (simp only [pN]; omega))) only [aOp, ev, pAT, f0, f3, f5, f6, f7, pI, aInt, aStr, aUn, AR.of, AR.ofB, AR.ofH, reduceIte, Nat.reduceEqDiff, aBuiltin, aLen, aField, aFieldAddr, aIndexAddr, aStore, aLoad, cellsL, oneCell, splice, pC, pL, Nat.reduceBEq, Nat.reduceLeDiff, Nat.reduceMul, Nat.reduceSub, Nat.reduceLT, Nat.reduceAdd, wTrOZ1] <;> with_reducible rfl))
      | ((with_reducible apply sc_false); (case hc => simp only [ev, pAT, f0, f3, f5, f6, f7, reduceIte, Nat.reduceEqDiff]; done))
      | ((with_reducible apply sc_true); (case hc => simp only [ev, pAT, f0, f3, f5, f6, f7, reduceIte, Nat.reduceEqDiff]; done)))
    apply res_fin (rs := [ResultVar.tmp 4]) trivial
    case h => simp (disch := (refine id ?_; first | assumption | omega | (simp only [pN, pO, oneCell]; done) | (simp only [pN]; omega))) only [aResults, aResult, aOp, ev, pAT, pI, aInt, aStr, aUn, AR.of, AR.ofB, AR.ofH, reduceIte, Nat.reduceEqDiff, aBuiltin, aLen, aField, aFieldAddr, aIndexAddr, aStore, aLoad, cellsL, oneCell, splice, pC, pL, Nat.reduceBEq, Nat.reduceLeDiff, Nat.reduceMul, Nat.reduceSub, Nat.reduceLT, Nat.reduceAdd, wTrOZ1] <;> with_reducible rfl
    case hq => rfl
end Go.Am
