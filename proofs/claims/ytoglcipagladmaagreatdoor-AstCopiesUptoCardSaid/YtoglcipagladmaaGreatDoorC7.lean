/- AstCopies, walked on the abstract machine: C7. -/
import Derived.Test.YtoglcipagladmaaGreatDoorAm4
import Derived.Test.YtoglcipagladmaaGreatDoorC6
set_option linter.unusedVariables false
namespace Go.Am
open Go.Proofs Go
set_option linter.unusedSimpArgs false
theorem zero29 : zeroT Tryz.prog 29 = some (.agg #[.slice none 0 0, .string ⟨#[]⟩, .int .i64 0, .string ⟨#[]⟩, .int .i64 0, .slice none 0 0, .int .i64 0, .int .i64 0, .int .i64 0, .slice none 0 0, .int .u8 0, .int .i64 0, .int .i64 0]) := by kernel_rfl
theorem zero33 : zeroT Tryz.prog 33 = some (.agg #[.slice none 0 0, .string ⟨#[]⟩, .int .i64 0, .int .i64 0]) := by kernel_rfl

theorem Gr.val {H : AH} {lo s : Nat} {v : Value} {xs : List (List Value)} (h : Gr H lo s v xs) : ∃ a, v = .slice a xs.length xs.length ∧ (∀ b, blkOf v = some b → ∃ c w, H.blk.get b = some (.cells c s w) ∧ lo ≤ b ∧ b < H.next) := by
  rcases h with ⟨rfl, rfl⟩ | ⟨b, w, rfl, h1, h2, h3, _⟩
  · exact ⟨none, rfl, fun b hb => by simp [blkOf] at hb⟩
  · refine ⟨_, rfl, fun b' hb => ?_⟩
    simp only [blkOf, Option.some.injEq] at hb
    subst hb
    exact ⟨_, _, h3, h1, h2⟩
theorem Gr.upd {H : AH} {lo s b : Nat} {k : Blk} {v : Value} {xs : List (List Value)} (h : Gr H lo s v xs) (hb : b < lo) : Gr (H.upd b k) lo s v xs := by
  rcases h with h | ⟨b', w, h1, h2, h3, h4, h5, h6⟩
  · exact .inl h
  · exact .inr ⟨b', w, h1, h2, h3, (get_upd_ne (by omega)).trans h4, h5, h6⟩
theorem Gr.lower {H : AH} {lo lo' s : Nat} {v : Value} {xs : List (List Value)} (h : Gr H lo s v xs) (hl : lo' ≤ lo) : Gr H lo' s v xs := by
  rcases h with h | ⟨b', w, h1, h2, h3, h4, h5, h6⟩
  · exact .inl h
  · refine .inr ⟨b', w, h1, by omega, h3, h4, h5, ?_⟩
    rcases h6 with h6 | ⟨f, u, l, h6, h7, h8⟩
    · exact .inl h6
    · exact .inr ⟨f, u, l, h6, by omega, h8⟩

/-- A tree of one's own. -/
def Ts (H : AH) (lo s : Nat) (tv : Value) (tr : List (List Value)) : Prop :=
  (tr = [] ∧ tv = .slice none 0 0) ∨ ∃ b, tv = .slice (some ⟨b, 0, none⟩) tr.length tr.length ∧ lo ≤ b ∧ b < H.next ∧ H.blk.get b = some (.cells tr.flatten s .solo) ∧ tr.flatten.length = tr.length * s
theorem Ts.gr {H : AH} {lo s : Nat} {tv : Value} {tr : List (List Value)} (h : Ts H lo s tv tr) : Gr H lo s tv tr := by
  rcases h with ⟨h1, h2⟩ | ⟨b, h1, h2, h3, h4, h5⟩
  · exact .inl ⟨h2, h1⟩
  · exact .inr ⟨b, .solo, h1, h2, h3, h4, h5, .inl rfl⟩
theorem Ts.val {H : AH} {lo s : Nat} {tv : Value} {tr : List (List Value)} (h : Ts H lo s tv tr) : ∃ a, tv = .slice a tr.length tr.length := by
  obtain ⟨a, h1, _⟩ := h.gr.val; exact ⟨a, h1⟩
theorem Ts.frm {H H' : AH} {lo lo' s : Nat} {b0 : Option Nat} {tv : Value} {tr : List (List Value)} (h : Ts H lo s tv tr) (hf : Frm H H' lo' b0) (hb : ∀ b, b0 = some b → ∃ c e w, H.blk.get b = some (.cells c e w) ∧ e ≠ s) : Ts H' lo s tv tr := by
  rcases h with h | ⟨b, h1, h2, h3, h4, h5⟩
  · exact .inl h
  · refine .inr ⟨b, h1, h2, Nat.lt_of_lt_of_le h3 hf.next, (hf.blk b h3 ?_).trans h4, h5⟩
    intro e
    obtain ⟨c, e', w, h6, h7⟩ := hb b e
    rw [h6] at h4
    cases h4
    exact h7 rfl
theorem Ts.mono {H H' : AH} {lo s : Nat} {tv : Value} {tr : List (List Value)} (h : Ts H lo s tv tr) (hx : Ext H H') : Ts H' lo s tv tr := h.frm (hx.frm (Nat.le_refl _) none) (fun b hb => by cases hb)
theorem Ts.upd {H : AH} {lo s b : Nat} {k : Blk} {tv : Value} {tr : List (List Value)} (h : Ts H lo s tv tr) (hb : b < lo) : Ts (H.upd b k) lo s tv tr := by
  rcases h with h | ⟨b', h1, h2, h3, h4, h5⟩
  · exact .inl h
  · exact .inr ⟨b', h1, h2, h3, (get_upd_ne (by omega)).trans h4, h5⟩
theorem Ts.lower {H : AH} {lo lo' s : Nat} {tv : Value} {tr : List (List Value)} (h : Ts H lo s tv tr) (hl : lo' ≤ lo) : Ts H lo' s tv tr := by
  rcases h with h | ⟨b', h1, h2, h3⟩
  · exact .inl h
  · exact .inr ⟨b', h1, by omega, h3⟩
theorem ts_new {H : AH} {lo s : Nat} {tr : List (List Value)} (hl : lo ≤ H.next) (hf : tr.flatten.length = tr.length * s) : Ts (H.new (.cells tr.flatten s .solo)) lo s (.slice (some ⟨H.next, 0, none⟩) tr.length tr.length) tr :=
  .inr ⟨H.next, rfl, hl, Nat.lt_succ_self _, get_new_eq rfl, hf⟩

theorem buildI (H : AH) (x y z w : Value) : aBuildSlice Tryz.prog H 22 1 [(0, .agg #[x, y, z, w])] = some (.slice (some ⟨H.next, 0, none⟩) 1 1, H.new (.cells [x, y, z, w] 4 .solo)) := by
  have e1 : elemT Tryz.prog 22 = some 33 := by kernel_rfl
  have e2 : zerosT Tryz.prog 33 1 = some [.slice none 0 0, .string ⟨#[]⟩, .int .i64 0, .int .i64 0] := by kernel_rfl
  unfold aBuildSlice
  simp only [e1, sz33, e2]
  rfl

theorem Frm.box {H G : AH} {lo : Nat} {b0 : Option Nat} (hf : Frm H G lo b0) {b e : Nat} {c : List Value} (hb : b < lo ∧ b < H.next) (hk : H.blk.get b = some (.cells c e .solo)) :
    G.blk.get b = some (.cells c e .solo) ∧ b < G.next ∧ (∀ o, G.cell b o = c[o]?) ∧ (∀ o n, o + n ≤ c.length → G.loads b o n = some ((c.drop o).take n)) ∧
      ∀ o xs, G.base ≤ b → xs.all oneCell = true → o + xs.length ≤ c.length → G.stores b o xs = some (G.upd b (.cells (splice c o xs) e .solo)) :=
  box_facts ((hf.low b hb.1).trans hk) (Nat.lt_of_lt_of_le hb.2 hf.next)
theorem IR.of {G : AH} {lo : Nat} {out : Value} {its : List (List (List Value) × ByteArray × Int × Int)} {ys : List (List Value)} (hg : Gr G lo 4 out ys) (hl : ys.length = its.length)
    (hd : ∀ (i : Nat) (it : List (List Value) × ByteArray × Int × Int), i < ys.length → its[i]? = some it → ∃ tv, ys[i]? = some (im tv it.2.1 it.2.2.1 it.2.2.2) ∧ Ts G lo 6 tv it.1) (hn : ∀ it ∈ its, Nodes it.1 ∧ it.1.length ≤ 1048576) : IR G out its := by
  refine ⟨ys, hg.rd ?_, hl, fun i it hi => ?_⟩
  · intro y hy
    obtain ⟨i, hi, rfl⟩ := List.getElem_of_mem hy
    obtain ⟨tv, h1, _⟩ := hd i (its[i]'(by omega)) hi (List.getElem?_eq_getElem (by omega))
    rw [List.getElem?_eq_getElem hi] at h1
    rw [Option.some.inj h1]; rfl
  · have hlt : i < its.length := (List.getElem?_eq_some_iff.1 hi).1
    obtain ⟨tv, h1, h2⟩ := hd i it (by omega) hi
    exact ⟨tv, h1, h2.gr.rd (nodes_len (hn it (List.mem_of_getElem? hi)).1)⟩

/-- its items, in a heap, in blocks of a kind -/
def IRB (H : AH) (p : Nat → Prop) (v : Value) (its : List (List (List Value) × ByteArray × Int × Int)) : Prop :=
  ∃ xs, RdB H p 4 v xs ∧ xs.length = its.length ∧ ∀ (i : Nat) (it : List (List Value) × ByteArray × Int × Int), its[i]? = some it → ∃ tv, xs[i]? = some (im tv it.2.1 it.2.2.1 it.2.2.2) ∧ RdB H p 6 tv it.1
theorem IRB.mono {H H' : AH} {p : Nat → Prop} (hx : Agr p H H') {v : Value} {its : List (List (List Value) × ByteArray × Int × Int)} (h : IRB H p v its) : IRB H' p v its := by
  obtain ⟨xs, h1, h2, h3⟩ := h
  exact ⟨xs, h1.mono hx, h2, fun i it hi => let ⟨tv, a, b⟩ := h3 i it hi; ⟨tv, a, b.mono hx⟩⟩
theorem IRB.imp {H : AH} {p q : Nat → Prop} (hq : ∀ b, b < H.next → p b → q b) {v : Value} {its : List (List (List Value) × ByteArray × Int × Int)} (h : IRB H p v its) : IRB H q v its := by
  obtain ⟨xs, h1, h2, h3⟩ := h
  exact ⟨xs, h1.imp hq, h2, fun i it hi => let ⟨tv, a, b⟩ := h3 i it hi; ⟨tv, a, b.imp hq⟩⟩
theorem IRB.ir {H : AH} {p : Nat → Prop} {v : Value} {its : List (List (List Value) × ByteArray × Int × Int)} (h : IRB H p v its) : IR H v its := by
  obtain ⟨xs, h1, h2, h3⟩ := h
  exact ⟨xs, h1.rd, h2, fun i it hi => let ⟨tv, a, b⟩ := h3 i it hi; ⟨tv, a, b.rd⟩⟩
theorem IR.irb {H : AH} {v : Value} {its : List (List (List Value) × ByteArray × Int × Int)} (h : IR H v its) : IRB H (fun _ => True) v its := by
  obtain ⟨xs, h1, h2, h3⟩ := h
  exact ⟨xs, h1.rdb, h2, fun i it hi => let ⟨tv, a, b⟩ := h3 i it hi; ⟨tv, a, b.rdb⟩⟩
theorem IRB.of {G : AH} {lo : Nat} {out : Value} {its : List (List (List Value) × ByteArray × Int × Int)} {ys : List (List Value)} (hg : Gr G lo 4 out ys) (hl : ys.length = its.length)
    (hd : ∀ (i : Nat) (it : List (List Value) × ByteArray × Int × Int), i < ys.length → its[i]? = some it → ∃ tv, ys[i]? = some (im tv it.2.1 it.2.2.1 it.2.2.2) ∧ Ts G lo 6 tv it.1) (hn : ∀ it ∈ its, Nodes it.1 ∧ it.1.length ≤ 1048576) : IRB G (fun b => lo ≤ b) out its := by
  refine ⟨ys, hg.rdb ?_, hl, fun i it hi => ?_⟩
  · intro y hy
    obtain ⟨i, hi, rfl⟩ := List.getElem_of_mem hy
    obtain ⟨tv, h1, _⟩ := hd i (its[i]'(by omega)) hi (List.getElem?_eq_getElem (by omega))
    rw [List.getElem?_eq_getElem hi] at h1
    rw [Option.some.inj h1]; rfl
  · have hlt : i < its.length := (List.getElem?_eq_some_iff.1 hi).1
    obtain ⟨tv, h1, h2⟩ := hd i it (by omega) hi
    exact ⟨tv, h1, h2.gr.rdb (nodes_len (hn it (List.mem_of_getElem? hi)).1)⟩

abbrev z29 : List Value := [.slice none 0 0, .string ⟨#[]⟩, .int .i64 0, .string ⟨#[]⟩, .int .i64 0, .slice none 0 0, .int .i64 0, .int .i64 0, .int .i64 0, .slice none 0 0, .int .u8 0, .int .i64 0, .int .i64 0]
/-- What has been copied of the items. -/
def Done (G : AH) (lo : Nat) (its : List (List (List Value) × ByteArray × Int × Int)) (ys : List (List Value)) : Prop :=
  ∀ (i : Nat) (it : List (List Value) × ByteArray × Int × Int), i < ys.length → its[i]? = some it → ∃ tv, ys[i]? = some (im tv it.2.1 it.2.2.1 it.2.2.2) ∧ Ts G lo 6 tv it.1

set_option maxRecDepth 10000 in
set_option maxHeartbeats 8000000 in
theorem rcopy_wf (H : AH) (hb : H.base ≤ H.next) (Q : Qd) (hq : Q.Ok) (vi vw vg : Value) (hi : IR H vi Q.its) (hw : Rd H 6 vw Q.wh) (hg : Rd H 2 vg Q.gr) :
    Wf cfg 4 [.agg (qc Q vi vw vg).toArray] H fun v H' => ∃ vi' vw' vg', v = .agg (qc Q vi' vw' vg').toArray ∧ IRB H' (fun b => H.next ≤ b) vi' Q.its ∧ RdB H' (fun b => H.next ≤ b) 6 vw' Q.wh ∧ RdB H' (fun b => H.next ≤ b) 2 vg' Q.gr ∧ Ext H H' := by
  obtain ⟨n1, n2, rfl⟩ := hi.len
  obtain ⟨n3, n4, rfl, _⟩ := id hw
  obtain ⟨n5, n6, rfl, _⟩ := id hg
  have hql := hq.len
  refine wf_text (fn := Tryz.f4) rfl Tryz.func4 rfl rfl ?_
  repeat (first
    | (with_reducible refine sc_seq ?_)
    | (with_reducible refine sc_region ?_)
    | (with_reducible refine sc_block ?_)
    | (with_reducible refine sc_scope ?_)
    | ((with_reducible refine sc_skip ?_); dsimp only)
    | ((with_reducible refine sc_label ?_); dsimp only)
    | ((with_reducible refine sc_ret ?_); dsimp only)
    | ((with_reducible refine sc_exit ?_); dsimp only [Nat.beq])
    | ((with_reducible refine so_nil ?_); dsimp only)
    | ((with_reducible apply so_skip); (case hw => simp only [aWanted, aYield, List.getElem?_toArray, at_some, at_none, at_args, Option.getD_some, Option.getD_none, List.getElem?_cons_zero, List.getElem?_cons_succ, List.getElem?_nil, decide_true, decide_false, Bool.not_true, Bool.not_false, reduceIte, Nat.reduceEqDiff, b_tf, b_ft, beq_self_eq_true, Bool.false_eq_true, Bool.true_eq_false]; done))
    | ((with_reducible apply so_val); (case hw => simp only [aWanted, aYield, List.getElem?_toArray, at_some, at_none, at_args, Option.getD_some, Option.getD_none, List.getElem?_cons_zero, List.getElem?_cons_succ, List.getElem?_nil, decide_true, decide_false, Bool.not_true, Bool.not_false, reduceIte, Nat.reduceEqDiff, b_tf, b_ft, beq_self_eq_true, Bool.false_eq_true, Bool.true_eq_false]; done); (case ha => simp (disch := (refine id ?_; first | assumption | omega | (simp only [new_next, new_base, upd_next, upd_base, List.length_cons, List.length_nil, List.all_cons, List.all_nil, oneCell, Bool.and_self, Bool.and_true]; done) | (simp only [new_next, new_base, upd_next, upd_base, List.length_cons, List.length_nil]; omega))) only [aOp, ev, at_some, at_none, at_args, Option.getD_some, Option.getD_none, List.getElem?_cons_zero, List.getElem?_cons_succ, List.getElem?_nil, decide_true, decide_false, Bool.not_true, Bool.not_false, aBin_int, aBin_str, str_refl, int_refl, int_nrefl, aInt, aStr, aUn, AR.of, AR.ofB, AR.ofH, reduceIte, Nat.reduceEqDiff, aBuiltin, aLen, aField, aFieldAddr, aIndexAddr, aStore, aLoad, cellsL, oneCell, splice, new_next, new_base, upd_next, upd_base, cell_new_ne, cell_new_eq, cell_upd_ne, cell_upd_eq, loads_new_ne, loads_new_eq, loads_upd_ne, loads_upd_eq, stores_new_eq, stores_new_ne, stores_upd_ne, Option.map_some, List.toList_toArray, List.length_cons, List.length_nil, List.take_succ_cons, List.take_zero, List.drop_succ_cons, List.drop_zero, List.all_cons, List.all_nil, Bool.and_self, Bool.and_true, List.cons_append, List.nil_append, List.append_nil, List.append_eq, Nat.reduceBEq, Nat.reduceLeDiff, Nat.zero_add, Nat.add_zero, Nat.reduceMul, Nat.reduceSub, Nat.reduceLT, Nat.beq_refl, List.map_cons, List.map_nil, Nat.reduceAdd, cfg_P, sz3, sz38, agg3, agg38, und25, fld38_4, fld38_5, zero38, und26, und22, sz24, sz33, sz9, a9, agg24, fld24_0, fld24_1, f29_0, f29_1, f29_2, f29_3, f29_4, f29_5, f29_6, f29_7, f29_8, f29_9, f29_10, f33_0, f33_1, f33_2, s22, s25, s26, s27, s2, s29, g22, g25, g26, g27, g29, g33, a2, zero29, zero33] <;> with_reducible rfl))
    | ((with_reducible apply sc_false); (case hc => simp only [ev, at_some, at_none, at_args, Option.getD_some, Option.getD_none, List.getElem?_cons_zero, List.getElem?_cons_succ, List.getElem?_nil, decide_true, decide_false, Bool.not_true, Bool.not_false, reduceIte, Nat.reduceEqDiff]; done))
    | ((with_reducible apply sc_true); (case hc => simp only [ev, at_some, at_none, at_args, Option.getD_some, Option.getD_none, List.getElem?_cons_zero, List.getElem?_cons_succ, List.getElem?_nil, decide_true, decide_false, Bool.not_true, Bool.not_false, reduceIte, Nat.reduceEqDiff]; done)))
  refine sc_loop (I := fun n fr G => Ext H G ∧ H.next + 2 < G.next ∧ G.blk.get H.next = some (.cells (qc Q (.slice n1 Q.its.length n2) (.slice n3 Q.wh.length n4) (.slice n5 Q.gr.length n6)) 0 .solo) ∧
    G.blk.get (H.next + 1) = some (.cells z29 0 .solo) ∧
    ∃ (t : Nat) (out : Value) (ys : List (List Value)), t ≤ Q.its.length ∧ n = Q.its.length - t ∧ ys.length = t ∧ Gr G (H.next + 3) 4 out ys ∧ Done G (H.next + 3) Q.its ys ∧
      G.blk.get (H.next + 2) = some (.cells (qc Q out (.slice n3 Q.wh.length n4) (.slice none 0 0)) 0 .solo) ∧
      Fr.at fr 1 = .pointer (some ⟨H.next, 0, none⟩) ∧ Fr.at fr 2 = .pointer (some ⟨H.next + 1, 0, none⟩) ∧ Fr.at fr 3 = .pointer (some ⟨H.next + 2, 0, none⟩) ∧ Fr.at fr 4 = .int .i64 t) ?_ Q.its.length _ _ ?_
  rotate_left
  · refine ⟨((Ext.new H _).step _).step _, by simp only [new_next]; omega, ?_, ?_, 0, .slice none 0 0, [], by omega, rfl, rfl, Gr.nil .., fun i it h => by simp at h, ?_, ?_, ?_, ?_, ?_⟩
    all_goals first
      | (simp (disch := (refine id ?_; first | assumption | omega | (simp only [new_next, new_base, upd_next, upd_base, List.length_cons, List.length_nil, List.all_cons, List.all_nil, oneCell, Bool.and_self, Bool.and_true]; done) | (simp only [new_next, new_base, upd_next, upd_base, List.length_cons, List.length_nil]; omega))) only [get_new_ne, get_new_eq] <;> rfl)
      | (simp only [at_some, at_none, at_args, ev, reduceIte, Nat.reduceEqDiff] <;> rfl)
      | rfl
  rintro n fr G ⟨hG, hnx, xB, zB, t, out, ys, ht, rfl, hys, hgr, hdone, yB, f1, f2, f3, f4⟩
  obtain ⟨oa, rfl, hob⟩ := hgr.val
  obtain ⟨_, xN, xC, xL, _⟩ := box_facts xB (by omega)
  obtain ⟨_, yN, yC, yL, _⟩ := box_facts yB (by omega)
  have hbG : G.base ≤ H.next := by rw [hG.base]; exact hb
  by_cases hlt : t < Q.its.length
  · obtain ⟨it, hit⟩ : ∃ it, Q.its[t]? = some it := ⟨_, List.getElem?_eq_getElem hlt⟩
    obtain ⟨hn, hnl⟩ := hq.its it (List.mem_of_getElem? hit)
    obtain ⟨b1, o1, cp1, tv0, i1, hb1, r1, l1, _⟩ := (hi.mono hG).at hit
    obtain ⟨ta, tc, rfl, _⟩ := id r1
    have g1 : decide ((t : Int) < (Q.its.length : Int)) = true := decT (by omega)
    have g2 : (0 ≤ (t : Int) ∧ (t : Int) < (Q.its.length : Int)) := by omega
    rw [i1] at xC
    repeat (first
      | (with_reducible refine sc_seq ?_)
      | (with_reducible refine sc_region ?_)
      | (with_reducible refine sc_block ?_)
      | (with_reducible refine sc_scope ?_)
      | ((with_reducible refine sc_skip ?_); dsimp only)
      | ((with_reducible refine sc_label ?_); dsimp only)
      | ((with_reducible refine sc_ret ?_); dsimp only)
      | ((with_reducible refine sc_exit ?_); dsimp only [Nat.beq])
      | ((with_reducible refine so_nil ?_); dsimp only)
      | ((with_reducible apply so_skip); (case hw => simp only [aWanted, aYield, List.getElem?_toArray, at_some, at_none, at_args, Option.getD_some, Option.getD_none, List.getElem?_cons_zero, List.getElem?_cons_succ, List.getElem?_nil, decide_true, decide_false, Bool.not_true, Bool.not_false, f1, f3, f4, xC, g1, g2, l1, if_true, Int.toNat_natCast, true_and, and_self, reduceIte, Nat.reduceEqDiff, b_tf, b_ft, beq_self_eq_true, Bool.false_eq_true, Bool.true_eq_false]; done))
      | ((with_reducible apply so_val); (case hw => simp only [aWanted, aYield, List.getElem?_toArray, at_some, at_none, at_args, Option.getD_some, Option.getD_none, List.getElem?_cons_zero, List.getElem?_cons_succ, List.getElem?_nil, decide_true, decide_false, Bool.not_true, Bool.not_false, f1, f3, f4, xC, g1, g2, l1, if_true, Int.toNat_natCast, true_and, and_self, reduceIte, Nat.reduceEqDiff, b_tf, b_ft, beq_self_eq_true, Bool.false_eq_true, Bool.true_eq_false]; done); (case ha => simp (disch := (refine id ?_; first | assumption | omega | (simp only [new_next, new_base, upd_next, upd_base, List.length_cons, List.length_nil, List.all_cons, List.all_nil, oneCell, Bool.and_self, Bool.and_true]; done) | (simp only [new_next, new_base, upd_next, upd_base, List.length_cons, List.length_nil]; omega))) only [aOp, ev, at_some, at_none, at_args, Option.getD_some, Option.getD_none, List.getElem?_cons_zero, List.getElem?_cons_succ, List.getElem?_nil, decide_true, decide_false, Bool.not_true, Bool.not_false, f1, f3, f4, xC, g1, g2, l1, if_true, Int.toNat_natCast, true_and, and_self, aBin_int, aBin_str, str_refl, int_refl, int_nrefl, aInt, aStr, aUn, AR.of, AR.ofB, AR.ofH, reduceIte, Nat.reduceEqDiff, aBuiltin, aLen, aField, aFieldAddr, aIndexAddr, aStore, aLoad, cellsL, oneCell, splice, new_next, new_base, upd_next, upd_base, cell_new_ne, cell_new_eq, cell_upd_ne, cell_upd_eq, loads_new_ne, loads_new_eq, loads_upd_ne, loads_upd_eq, stores_new_eq, stores_new_ne, stores_upd_ne, Option.map_some, List.toList_toArray, List.length_cons, List.length_nil, List.take_succ_cons, List.take_zero, List.drop_succ_cons, List.drop_zero, List.all_cons, List.all_nil, Bool.and_self, Bool.and_true, List.cons_append, List.nil_append, List.append_nil, List.append_eq, Nat.reduceBEq, Nat.reduceLeDiff, Nat.zero_add, Nat.add_zero, Nat.reduceMul, Nat.reduceSub, Nat.reduceLT, Nat.beq_refl, List.map_cons, List.map_nil, Nat.reduceAdd, cfg_P, sz3, sz38, agg3, agg38, und25, fld38_4, fld38_5, zero38, und26, und22, sz24, sz33, sz9, a9, agg24, fld24_0, fld24_1, f29_0, f29_1, f29_2, f29_3, f29_4, f29_5, f29_6, f29_7, f29_8, f29_9, f29_10, f33_0, f33_1, f33_2, s22, s25, s26, s27, s2, s29, g22, g25, g26, g27, g29, g33, a2, zero29, zero33] <;> with_reducible rfl))
      | ((with_reducible apply sc_false); (case hc => simp only [ev, at_some, at_none, at_args, Option.getD_some, Option.getD_none, List.getElem?_cons_zero, List.getElem?_cons_succ, List.getElem?_nil, decide_true, decide_false, Bool.not_true, Bool.not_false, f1, f3, f4, xC, g1, g2, l1, if_true, Int.toNat_natCast, true_and, and_self, reduceIte, Nat.reduceEqDiff]; done))
      | ((with_reducible apply sc_true); (case hc => simp only [ev, at_some, at_none, at_args, Option.getD_some, Option.getD_none, List.getElem?_cons_zero, List.getElem?_cons_succ, List.getElem?_nil, decide_true, decide_false, Bool.not_true, Bool.not_false, f1, f3, f4, xC, g1, g2, l1, if_true, Int.toNat_natCast, true_and, and_self, reduceIte, Nat.reduceEqDiff]; done)))
    first
      | ((with_reducible apply so_call); (case hw => simp only [aWanted, aYield, List.getElem?_toArray, at_some, at_none, at_args, Option.getD_some, Option.getD_none, List.getElem?_cons_zero, List.getElem?_cons_succ, List.getElem?_nil, decide_true, decide_false, Bool.not_true, Bool.not_false, f1, f3, f4, reduceIte, Nat.reduceEqDiff, b_tf, b_ft, beq_self_eq_true, Bool.false_eq_true, Bool.true_eq_false]; done); (case ha => simp (disch := (refine id ?_; first | assumption | omega | (simp only [new_next, new_base, upd_next, upd_base, List.length_cons, List.length_nil, List.all_cons, List.all_nil, oneCell, Bool.and_self, Bool.and_true]; done) | (simp only [new_next, new_base, upd_next, upd_base, List.length_cons, List.length_nil]; omega))) only [aOp, ev, at_some, at_none, at_args, Option.getD_some, Option.getD_none, List.getElem?_cons_zero, List.getElem?_cons_succ, List.getElem?_nil, decide_true, decide_false, Bool.not_true, Bool.not_false, f1, f3, f4, aBin_int, aBin_str, str_refl, int_refl, int_nrefl, aInt, aStr, aUn, AR.of, AR.ofB, AR.ofH, reduceIte, Nat.reduceEqDiff, aBuiltin, aLen, aField, aFieldAddr, aIndexAddr, aStore, aLoad, cellsL, oneCell, splice, new_next, new_base, upd_next, upd_base, cell_new_ne, cell_new_eq, cell_upd_ne, cell_upd_eq, loads_new_ne, loads_new_eq, loads_upd_ne, loads_upd_eq, stores_new_eq, stores_new_ne, stores_upd_ne, Option.map_some, List.toList_toArray, List.length_cons, List.length_nil, List.take_succ_cons, List.take_zero, List.drop_succ_cons, List.drop_zero, List.all_cons, List.all_nil, Bool.and_self, Bool.and_true, List.cons_append, List.nil_append, List.append_nil, List.append_eq, Nat.reduceBEq, Nat.reduceLeDiff, Nat.zero_add, Nat.add_zero, Nat.reduceMul, Nat.reduceSub, Nat.reduceLT, Nat.beq_refl, List.map_cons, List.map_nil, Nat.reduceAdd, cfg_P, sz3, sz38, agg3, agg38, und25, fld38_4, fld38_5, zero38, und26, und22, sz24, sz33, sz9, a9, agg24, fld24_0, fld24_1, f29_0, f29_1, f29_2, f29_3, f29_4, f29_5, f29_6, f29_7, f29_8, f29_9, f29_10, f33_0, f33_1, f33_2, s22, s25, s26, s27, s2, s29, g22, g25, g26, g27, g29, g33, a2, zero29, zero33] <;> with_reducible rfl))
      | ((with_reducible apply so_callD); (case hw => simp only [aWanted, aYield, List.getElem?_toArray, at_some, at_none, at_args, Option.getD_some, Option.getD_none, List.getElem?_cons_zero, List.getElem?_cons_succ, List.getElem?_nil, decide_true, decide_false, Bool.not_true, Bool.not_false, f1, f3, f4, reduceIte, Nat.reduceEqDiff, b_tf, b_ft, beq_self_eq_true, Bool.false_eq_true, Bool.true_eq_false]; done); (case ha => simp (disch := (first | omega | (simp only [new_next, new_base, upd_next, upd_base, List.length_cons, List.length_nil, List.all_cons, List.all_nil, oneCell, Bool.and_self, Bool.and_true]; done) | (simp only [new_next, new_base, upd_next, upd_base, List.length_cons, List.length_nil]; omega))) only [aOp, ev, at_some, at_none, at_args, Option.getD_some, Option.getD_none, List.getElem?_cons_zero, List.getElem?_cons_succ, List.getElem?_nil, decide_true, decide_false, Bool.not_true, Bool.not_false, f1, f3, f4, aBin_int, aBin_str, str_refl, int_refl, int_nrefl, aInt, aStr, aUn, AR.of, AR.ofB, AR.ofH, reduceIte, Nat.reduceEqDiff, aBuiltin, aLen, aField, aFieldAddr, aIndexAddr, aStore, aLoad, cellsL, oneCell, splice, new_next, new_base, upd_next, upd_base, cell_new_ne, cell_new_eq, cell_upd_ne, cell_upd_eq, loads_new_ne, loads_new_eq, loads_upd_ne, loads_upd_eq, stores_new_eq, stores_new_ne, stores_upd_ne, Option.map_some, List.toList_toArray, List.length_cons, List.length_nil, List.take_succ_cons, List.take_zero, List.drop_succ_cons, List.drop_zero, List.all_cons, List.all_nil, Bool.and_self, Bool.and_true, List.cons_append, List.nil_append, List.append_nil, List.append_eq, Nat.reduceBEq, Nat.reduceLeDiff, Nat.zero_add, Nat.add_zero, Nat.reduceMul, Nat.reduceSub, Nat.reduceLT, Nat.beq_refl, List.map_cons, List.map_nil, Nat.reduceAdd, cfg_P, sz3, sz38, agg3, agg38, und25, fld38_4, fld38_5, zero38, und26, und22, sz24, sz33, sz9, a9, agg24, fld24_0, fld24_1, f29_0, f29_1, f29_2, f29_3, f29_4, f29_5, f29_6, f29_7, f29_8, f29_9, f29_10, f33_0, f33_1, f33_2, s22, s25, s26, s27, s2, s29, g22, g25, g26, g27, g29, g33, a2, zero29, zero33] <;> with_reducible rfl))
    refine (cnod_wf _ _ it.1 (r1.mono (Ext.new G _)) hn hnl).mono ?_
    rintro rt T1 hT
    have hx1 : Ext (G.new (.cells (im (.slice ta it.1.length tc) it.2.1 it.2.2.1 it.2.2.2) 0 .solo)) T1 := by
      rcases hT with ⟨_, _, rfl⟩ | ⟨_, _, _, rfl⟩
      · exact Ext.refl _
      · exact Ext.new _ _
    have hts : Ts T1 (G.next + 1) 6 rt it.1 := by
      rcases hT with ⟨h1, rfl, rfl⟩ | ⟨h1, rfl, h3, rfl⟩
      · exact .inl ⟨h1, rfl⟩
      · exact ts_new (by simp only [new_next]; omega) h3
    clear hT
    obtain ⟨ra, rfl⟩ := hts.val
    obtain ⟨uB, uN, uC, uL, uS⟩ := hx1.box (b := G.next) (by first | assumption | omega | (simp only [new_next, upd_next]; omega)) (by first | assumption | (simp (disch := (refine id ?_; first | assumption | omega | (simp only [new_next, new_base, upd_next, upd_base, List.length_cons, List.length_nil, List.all_cons, List.all_nil, oneCell, Bool.and_self, Bool.and_true]; done) | (simp only [new_next, new_base, upd_next, upd_base, List.length_cons, List.length_nil]; omega))) only [get_new_ne, get_new_eq, get_upd_ne, get_upd_eq] <;> first | rfl | assumption))
    obtain ⟨vB, vN, vC, vL, vS⟩ := hx1.box (b := (H.next + 2)) (by first | assumption | omega | (simp only [new_next, upd_next]; omega)) (by first | assumption | (simp (disch := (refine id ?_; first | assumption | omega | (simp only [new_next, new_base, upd_next, upd_base, List.length_cons, List.length_nil, List.all_cons, List.all_nil, oneCell, Bool.and_self, Bool.and_true]; done) | (simp only [new_next, new_base, upd_next, upd_base, List.length_cons, List.length_nil]; omega))) only [get_new_ne, get_new_eq, get_upd_ne, get_upd_eq] <;> first | rfl | assumption))
    have hbT : T1.base ≤ H.next := by rw [hx1.base]; simp only [new_base]; exact hbG
    repeat (first
      | (with_reducible refine sc_seq ?_)
      | (with_reducible refine sc_region ?_)
      | (with_reducible refine sc_block ?_)
      | (with_reducible refine sc_scope ?_)
      | ((with_reducible refine sc_skip ?_); dsimp only)
      | ((with_reducible refine sc_label ?_); dsimp only)
      | ((with_reducible refine sc_ret ?_); dsimp only)
      | ((with_reducible refine sc_exit ?_); dsimp only [Nat.beq])
      | ((with_reducible refine so_nil ?_); dsimp only)
      | ((with_reducible apply so_skip); (case hw => simp only [aWanted, aYield, List.getElem?_toArray, at_some, at_none, at_args, Option.getD_some, Option.getD_none, List.getElem?_cons_zero, List.getElem?_cons_succ, List.getElem?_nil, decide_true, decide_false, Bool.not_true, Bool.not_false, f1, f3, f4, uC, uL, uS, vC, vL, reduceIte, Nat.reduceEqDiff, b_tf, b_ft, beq_self_eq_true, Bool.false_eq_true, Bool.true_eq_false]; done))
      | ((with_reducible apply so_val); (case hw => simp only [aWanted, aYield, List.getElem?_toArray, at_some, at_none, at_args, Option.getD_some, Option.getD_none, List.getElem?_cons_zero, List.getElem?_cons_succ, List.getElem?_nil, decide_true, decide_false, Bool.not_true, Bool.not_false, f1, f3, f4, uC, uL, uS, vC, vL, reduceIte, Nat.reduceEqDiff, b_tf, b_ft, beq_self_eq_true, Bool.false_eq_true, Bool.true_eq_false]; done); (case ha => simp (disch := (refine id ?_; first | assumption | omega | (simp only [new_next, new_base, upd_next, upd_base, List.length_cons, List.length_nil, List.all_cons, List.all_nil, oneCell, Bool.and_self, Bool.and_true]; done) | (simp only [new_next, new_base, upd_next, upd_base, List.length_cons, List.length_nil]; omega))) only [aOp, ev, at_some, at_none, at_args, Option.getD_some, Option.getD_none, List.getElem?_cons_zero, List.getElem?_cons_succ, List.getElem?_nil, decide_true, decide_false, Bool.not_true, Bool.not_false, f1, f3, f4, uC, uL, uS, vC, vL, aBin_int, aBin_str, str_refl, int_refl, int_nrefl, aInt, aStr, aUn, AR.of, AR.ofB, AR.ofH, reduceIte, Nat.reduceEqDiff, aBuiltin, aLen, aField, aFieldAddr, aIndexAddr, aStore, aLoad, cellsL, oneCell, splice, new_next, new_base, upd_next, upd_base, cell_new_ne, cell_new_eq, cell_upd_ne, cell_upd_eq, loads_new_ne, loads_new_eq, loads_upd_ne, loads_upd_eq, stores_new_eq, stores_new_ne, stores_upd_ne, Option.map_some, List.toList_toArray, List.length_cons, List.length_nil, List.take_succ_cons, List.take_zero, List.drop_succ_cons, List.drop_zero, List.all_cons, List.all_nil, Bool.and_self, Bool.and_true, List.cons_append, List.nil_append, List.append_nil, List.append_eq, Nat.reduceBEq, Nat.reduceLeDiff, Nat.zero_add, Nat.add_zero, Nat.reduceMul, Nat.reduceSub, Nat.reduceLT, Nat.beq_refl, List.map_cons, List.map_nil, Nat.reduceAdd, cfg_P, sz3, sz38, agg3, agg38, und25, fld38_4, fld38_5, zero38, und26, und22, sz24, sz33, sz9, a9, agg24, fld24_0, fld24_1, f29_0, f29_1, f29_2, f29_3, f29_4, f29_5, f29_6, f29_7, f29_8, f29_9, f29_10, f33_0, f33_1, f33_2, s22, s25, s26, s27, s2, s29, g22, g25, g26, g27, g29, g33, a2, zero29, zero33] <;> with_reducible rfl))
      | ((with_reducible apply sc_false); (case hc => simp only [ev, at_some, at_none, at_args, Option.getD_some, Option.getD_none, List.getElem?_cons_zero, List.getElem?_cons_succ, List.getElem?_nil, decide_true, decide_false, Bool.not_true, Bool.not_false, f1, f3, f4, uC, uL, uS, vC, vL, reduceIte, Nat.reduceEqDiff]; done))
      | ((with_reducible apply sc_true); (case hc => simp only [ev, at_some, at_none, at_args, Option.getD_some, Option.getD_none, List.getElem?_cons_zero, List.getElem?_cons_succ, List.getElem?_nil, decide_true, decide_false, Bool.not_true, Bool.not_false, f1, f3, f4, uC, uL, uS, vC, vL, reduceIte, Nat.reduceEqDiff]; done)))
    apply so_val
    case hw => rfl
    case ha => simp only [aOp, ev, at_some, List.map_cons, List.map_nil, List.toList_toArray, Nat.reduceEqDiff, reduceIte, cfg_P]; rw [buildI]; rfl
    refine so_append rfl (by simp only [aWanted, aYield, List.getElem?_toArray, at_some, at_none, at_args, Option.getD_some, Option.getD_none, List.getElem?_cons_zero, List.getElem?_cons_succ, List.getElem?_nil, decide_true, decide_false, Bool.not_true, Bool.not_false, f1, f3, f4, reduceIte, Nat.reduceEqDiff, b_tf, b_ft, beq_self_eq_true, Bool.false_eq_true, Bool.true_eq_false]) (by first | (simp only [ev, at_some, at_none, at_args, Option.getD_some, Option.getD_none, List.getElem?_cons_zero, List.getElem?_cons_succ, List.getElem?_nil, decide_true, decide_false, Bool.not_true, Bool.not_false, f1, f3, f4, reduceIte, Nat.reduceEqDiff]; done) | (simp only [ev, at_some, at_none, at_args, Option.getD_some, Option.getD_none, List.getElem?_cons_zero, List.getElem?_cons_succ, List.getElem?_nil, decide_true, decide_false, Bool.not_true, Bool.not_false, f1, f3, f4, reduceIte, Nat.reduceEqDiff]; rfl)) (by first | (simp only [ev, at_some, at_none, at_args, Option.getD_some, Option.getD_none, List.getElem?_cons_zero, List.getElem?_cons_succ, List.getElem?_nil, decide_true, decide_false, Bool.not_true, Bool.not_false, f1, f3, f4, reduceIte, Nat.reduceEqDiff]; done) | (simp only [ev, at_some, at_none, at_args, Option.getD_some, Option.getD_none, List.getElem?_cons_zero, List.getElem?_cons_succ, List.getElem?_nil, decide_true, decide_false, Bool.not_true, Bool.not_false, f1, f3, f4, reduceIte, Nat.reduceEqDiff]; rfl)) ?_
    have hx2 : Ext G ((T1.upd G.next (.cells (im (.slice ra it.1.length it.1.length) it.2.1 it.2.2.1 it.2.2.2) 0 .solo)).new (.cells (im (.slice ra it.1.length it.1.length) it.2.1 it.2.2.1 it.2.2.2) 4 .solo)) :=
      (((Ext.new G _).trans hx1).upd (Nat.le_refl _) _).step _
    have hnn : T1.next ≥ G.next + 1 := hx1.next
    obtain ⟨v', H', h3, h4, h5⟩ := append_gr (P := cfg.P) el22 (lo := H.next + 3) (xs := [im (.slice ra it.1.length it.1.length) it.2.1 it.2.2.1 it.2.2.2]) (hgr.mono hx2) (Rd.one (c := im (.slice ra it.1.length it.1.length) it.2.1 it.2.2.1 it.2.2.2) rfl) rfl (by simp only [List.length_singleton]; omega) (by simp only [new_next, upd_next]; omega) (by simp only [new_base, upd_base]; omega)
    obtain ⟨va, rfl, _⟩ := h4.val
    obtain ⟨xB', xN', _⟩ := h5.box (b := H.next) ⟨by omega, by simp only [new_next, upd_next]; omega⟩ ((hx2.blk _ (by omega)).trans xB)
    obtain ⟨zB', zN', _⟩ := h5.box (b := H.next + 1) ⟨by omega, by simp only [new_next, upd_next]; omega⟩ ((hx2.blk _ (by omega)).trans zB)
    obtain ⟨yB', yN', _, _, yS'⟩ := h5.box (b := H.next + 2) ⟨by omega, by simp only [new_next, upd_next]; omega⟩ ((hx2.blk _ (by omega)).trans yB)
    have hbH' : H'.base ≤ H.next := by rw [h5.base]; simp only [new_base, upd_base]; exact hbT
    refine ⟨_, H', h3, ?_⟩
    repeat (first
      | (with_reducible refine sc_seq ?_)
      | (with_reducible refine sc_region ?_)
      | (with_reducible refine sc_block ?_)
      | (with_reducible refine sc_scope ?_)
      | ((with_reducible refine sc_skip ?_); dsimp only)
      | ((with_reducible refine sc_label ?_); dsimp only)
      | ((with_reducible refine sc_ret ?_); dsimp only)
      | ((with_reducible refine sc_exit ?_); dsimp only [Nat.beq])
      | ((with_reducible refine so_nil ?_); dsimp only)
      | ((with_reducible apply so_skip); (case hw => simp only [aWanted, aYield, List.getElem?_toArray, at_some, at_none, at_args, Option.getD_some, Option.getD_none, List.getElem?_cons_zero, List.getElem?_cons_succ, List.getElem?_nil, decide_true, decide_false, Bool.not_true, Bool.not_false, f1, f3, f4, yS', reduceIte, Nat.reduceEqDiff, b_tf, b_ft, beq_self_eq_true, Bool.false_eq_true, Bool.true_eq_false]; done))
      | ((with_reducible apply so_val); (case hw => simp only [aWanted, aYield, List.getElem?_toArray, at_some, at_none, at_args, Option.getD_some, Option.getD_none, List.getElem?_cons_zero, List.getElem?_cons_succ, List.getElem?_nil, decide_true, decide_false, Bool.not_true, Bool.not_false, f1, f3, f4, yS', reduceIte, Nat.reduceEqDiff, b_tf, b_ft, beq_self_eq_true, Bool.false_eq_true, Bool.true_eq_false]; done); (case ha => simp (disch := (refine id ?_; first | assumption | omega | (simp only [new_next, new_base, upd_next, upd_base, List.length_cons, List.length_nil, List.all_cons, List.all_nil, oneCell, Bool.and_self, Bool.and_true]; done) | (simp only [new_next, new_base, upd_next, upd_base, List.length_cons, List.length_nil]; omega))) only [aOp, ev, at_some, at_none, at_args, Option.getD_some, Option.getD_none, List.getElem?_cons_zero, List.getElem?_cons_succ, List.getElem?_nil, decide_true, decide_false, Bool.not_true, Bool.not_false, f1, f3, f4, yS', aBin_int, aBin_str, str_refl, int_refl, int_nrefl, aInt, aStr, aUn, AR.of, AR.ofB, AR.ofH, reduceIte, Nat.reduceEqDiff, aBuiltin, aLen, aField, aFieldAddr, aIndexAddr, aStore, aLoad, cellsL, oneCell, splice, new_next, new_base, upd_next, upd_base, cell_new_ne, cell_new_eq, cell_upd_ne, cell_upd_eq, loads_new_ne, loads_new_eq, loads_upd_ne, loads_upd_eq, stores_new_eq, stores_new_ne, stores_upd_ne, Option.map_some, List.toList_toArray, List.length_cons, List.length_nil, List.take_succ_cons, List.take_zero, List.drop_succ_cons, List.drop_zero, List.all_cons, List.all_nil, Bool.and_self, Bool.and_true, List.cons_append, List.nil_append, List.append_nil, List.append_eq, Nat.reduceBEq, Nat.reduceLeDiff, Nat.zero_add, Nat.add_zero, Nat.reduceMul, Nat.reduceSub, Nat.reduceLT, Nat.beq_refl, List.map_cons, List.map_nil, Nat.reduceAdd, cfg_P, sz3, sz38, agg3, agg38, und25, fld38_4, fld38_5, zero38, und26, und22, sz24, sz33, sz9, a9, agg24, fld24_0, fld24_1, f29_0, f29_1, f29_2, f29_3, f29_4, f29_5, f29_6, f29_7, f29_8, f29_9, f29_10, f33_0, f33_1, f33_2, s22, s25, s26, s27, s2, s29, g22, g25, g26, g27, g29, g33, a2, zero29, zero33] <;> with_reducible rfl))
      | ((with_reducible apply sc_false); (case hc => simp only [ev, at_some, at_none, at_args, Option.getD_some, Option.getD_none, List.getElem?_cons_zero, List.getElem?_cons_succ, List.getElem?_nil, decide_true, decide_false, Bool.not_true, Bool.not_false, f1, f3, f4, yS', reduceIte, Nat.reduceEqDiff]; done))
      | ((with_reducible apply sc_true); (case hc => simp only [ev, at_some, at_none, at_args, Option.getD_some, Option.getD_none, List.getElem?_cons_zero, List.getElem?_cons_succ, List.getElem?_nil, decide_true, decide_false, Bool.not_true, Bool.not_false, f1, f3, f4, yS', reduceIte, Nat.reduceEqDiff]; done)))
    refine ⟨Q.its.length - (t + 1), by omega, (h5.ext (hG.trans hx2) (by omega)).upd (by omega) _, by simp only [upd_next]; omega, (get_upd_ne (by omega)).trans xB', (get_upd_ne (by omega)).trans zB', t + 1, _, _, by omega, rfl, ?_, h4.upd (by omega), ?_, get_upd_eq rfl, ?_, ?_, ?_, ?_⟩
    · simp [hys]
    · intro i it' hi hit'
      have hcond : ∀ b, blkOf (.slice oa ys.length ys.length) = some b → ∃ c e w, ((T1.upd G.next (.cells (im (.slice ra it.1.length it.1.length) it.2.1 it.2.2.1 it.2.2.2) 0 .solo)).new (.cells (im (.slice ra it.1.length it.1.length) it.2.1 it.2.2.1 it.2.2.2) 4 .solo)).blk.get b = some (.cells c e w) ∧ e ≠ 6 := by
        intro b hb'
        obtain ⟨c, w, k1, _, k2⟩ := hob b hb'
        exact ⟨c, 4, w, (hx2.blk b k2).trans k1, by decide⟩
      by_cases hiy : i < ys.length
      · obtain ⟨tv, k1, k2⟩ := hdone i it' hiy hit'
        exact ⟨tv, by rw [List.getElem?_append_left hiy]; exact k1, ((k2.mono hx2).frm h5 hcond).upd (by omega)⟩
      · have hi2 : i = ys.length := by simp at hi; omega
        subst hi2
        rw [hys, hit] at hit'
        cases hit'
        refine ⟨.slice ra it.1.length it.1.length, by simp, ?_⟩
        exact ((((hts.upd (by omega)).mono (Ext.new _ _)).frm h5 hcond).lower (by omega)).upd (by omega)
    all_goals simp only [at_some, at_none, f1, f2, f3, f4, reduceIte, Nat.reduceEqDiff]
    congr 1
    simp [IntKind.wrap, IntKind.bits, IntKind.signed]; omega
  · obtain rfl : t = Q.its.length := by omega
    have g1 : decide ((Q.its.length : Int) < (Q.its.length : Int)) = false := decF (by omega)
    repeat (first
      | (with_reducible refine sc_seq ?_)
      | (with_reducible refine sc_region ?_)
      | (with_reducible refine sc_block ?_)
      | (with_reducible refine sc_scope ?_)
      | ((with_reducible refine sc_skip ?_); dsimp only)
      | ((with_reducible refine sc_label ?_); dsimp only)
      | ((with_reducible refine sc_ret ?_); dsimp only)
      | ((with_reducible refine sc_exit ?_); dsimp only [Nat.beq])
      | ((with_reducible refine so_nil ?_); dsimp only)
      | ((with_reducible apply so_skip); (case hw => simp only [aWanted, aYield, List.getElem?_toArray, at_some, at_none, at_args, Option.getD_some, Option.getD_none, List.getElem?_cons_zero, List.getElem?_cons_succ, List.getElem?_nil, decide_true, decide_false, Bool.not_true, Bool.not_false, f1, f3, f4, xC, yC, g1, reduceIte, Nat.reduceEqDiff, b_tf, b_ft, beq_self_eq_true, Bool.false_eq_true, Bool.true_eq_false]; done))
      | ((with_reducible apply so_val); (case hw => simp only [aWanted, aYield, List.getElem?_toArray, at_some, at_none, at_args, Option.getD_some, Option.getD_none, List.getElem?_cons_zero, List.getElem?_cons_succ, List.getElem?_nil, decide_true, decide_false, Bool.not_true, Bool.not_false, f1, f3, f4, xC, yC, g1, reduceIte, Nat.reduceEqDiff, b_tf, b_ft, beq_self_eq_true, Bool.false_eq_true, Bool.true_eq_false]; done); (case ha => simp (disch := (refine id ?_; first | assumption | omega | (simp only [new_next, new_base, upd_next, upd_base, List.length_cons, List.length_nil, List.all_cons, List.all_nil, oneCell, Bool.and_self, Bool.and_true]; done) | (simp only [new_next, new_base, upd_next, upd_base, List.length_cons, List.length_nil]; omega))) only [aOp, ev, at_some, at_none, at_args, Option.getD_some, Option.getD_none, List.getElem?_cons_zero, List.getElem?_cons_succ, List.getElem?_nil, decide_true, decide_false, Bool.not_true, Bool.not_false, f1, f3, f4, xC, yC, g1, aBin_int, aBin_str, str_refl, int_refl, int_nrefl, aInt, aStr, aUn, AR.of, AR.ofB, AR.ofH, reduceIte, Nat.reduceEqDiff, aBuiltin, aLen, aField, aFieldAddr, aIndexAddr, aStore, aLoad, cellsL, oneCell, splice, new_next, new_base, upd_next, upd_base, cell_new_ne, cell_new_eq, cell_upd_ne, cell_upd_eq, loads_new_ne, loads_new_eq, loads_upd_ne, loads_upd_eq, stores_new_eq, stores_new_ne, stores_upd_ne, Option.map_some, List.toList_toArray, List.length_cons, List.length_nil, List.take_succ_cons, List.take_zero, List.drop_succ_cons, List.drop_zero, List.all_cons, List.all_nil, Bool.and_self, Bool.and_true, List.cons_append, List.nil_append, List.append_nil, List.append_eq, Nat.reduceBEq, Nat.reduceLeDiff, Nat.zero_add, Nat.add_zero, Nat.reduceMul, Nat.reduceSub, Nat.reduceLT, Nat.beq_refl, List.map_cons, List.map_nil, Nat.reduceAdd, cfg_P, sz3, sz38, agg3, agg38, und25, fld38_4, fld38_5, zero38, und26, und22, sz24, sz33, sz9, a9, agg24, fld24_0, fld24_1, f29_0, f29_1, f29_2, f29_3, f29_4, f29_5, f29_6, f29_7, f29_8, f29_9, f29_10, f33_0, f33_1, f33_2, s22, s25, s26, s27, s2, s29, g22, g25, g26, g27, g29, g33, a2, zero29, zero33] <;> with_reducible rfl))
      | ((with_reducible apply sc_false); (case hc => simp only [ev, at_some, at_none, at_args, Option.getD_some, Option.getD_none, List.getElem?_cons_zero, List.getElem?_cons_succ, List.getElem?_nil, decide_true, decide_false, Bool.not_true, Bool.not_false, f1, f3, f4, xC, yC, g1, reduceIte, Nat.reduceEqDiff]; done))
      | ((with_reducible apply sc_true); (case hc => simp only [ev, at_some, at_none, at_args, Option.getD_some, Option.getD_none, List.getElem?_cons_zero, List.getElem?_cons_succ, List.getElem?_nil, decide_true, decide_false, Bool.not_true, Bool.not_false, f1, f3, f4, xC, yC, g1, reduceIte, Nat.reduceEqDiff]; done)))
    first
      | ((with_reducible apply so_call); (case hw => simp only [aWanted, aYield, List.getElem?_toArray, at_some, at_none, at_args, Option.getD_some, Option.getD_none, List.getElem?_cons_zero, List.getElem?_cons_succ, List.getElem?_nil, decide_true, decide_false, Bool.not_true, Bool.not_false, f1, f3, f4, xC, yC, reduceIte, Nat.reduceEqDiff, b_tf, b_ft, beq_self_eq_true, Bool.false_eq_true, Bool.true_eq_false]; done); (case ha => simp (disch := (refine id ?_; first | assumption | omega | (simp only [new_next, new_base, upd_next, upd_base, List.length_cons, List.length_nil, List.all_cons, List.all_nil, oneCell, Bool.and_self, Bool.and_true]; done) | (simp only [new_next, new_base, upd_next, upd_base, List.length_cons, List.length_nil]; omega))) only [aOp, ev, at_some, at_none, at_args, Option.getD_some, Option.getD_none, List.getElem?_cons_zero, List.getElem?_cons_succ, List.getElem?_nil, decide_true, decide_false, Bool.not_true, Bool.not_false, f1, f3, f4, xC, yC, aBin_int, aBin_str, str_refl, int_refl, int_nrefl, aInt, aStr, aUn, AR.of, AR.ofB, AR.ofH, reduceIte, Nat.reduceEqDiff, aBuiltin, aLen, aField, aFieldAddr, aIndexAddr, aStore, aLoad, cellsL, oneCell, splice, new_next, new_base, upd_next, upd_base, cell_new_ne, cell_new_eq, cell_upd_ne, cell_upd_eq, loads_new_ne, loads_new_eq, loads_upd_ne, loads_upd_eq, stores_new_eq, stores_new_ne, stores_upd_ne, Option.map_some, List.toList_toArray, List.length_cons, List.length_nil, List.take_succ_cons, List.take_zero, List.drop_succ_cons, List.drop_zero, List.all_cons, List.all_nil, Bool.and_self, Bool.and_true, List.cons_append, List.nil_append, List.append_nil, List.append_eq, Nat.reduceBEq, Nat.reduceLeDiff, Nat.zero_add, Nat.add_zero, Nat.reduceMul, Nat.reduceSub, Nat.reduceLT, Nat.beq_refl, List.map_cons, List.map_nil, Nat.reduceAdd, cfg_P, sz3, sz38, agg3, agg38, und25, fld38_4, fld38_5, zero38, und26, und22, sz24, sz33, sz9, a9, agg24, fld24_0, fld24_1, f29_0, f29_1, f29_2, f29_3, f29_4, f29_5, f29_6, f29_7, f29_8, f29_9, f29_10, f33_0, f33_1, f33_2, s22, s25, s26, s27, s2, s29, g22, g25, g26, g27, g29, g33, a2, zero29, zero33] <;> with_reducible rfl))
      | ((with_reducible apply so_callD); (case hw => simp only [aWanted, aYield, List.getElem?_toArray, at_some, at_none, at_args, Option.getD_some, Option.getD_none, List.getElem?_cons_zero, List.getElem?_cons_succ, List.getElem?_nil, decide_true, decide_false, Bool.not_true, Bool.not_false, f1, f3, f4, xC, yC, reduceIte, Nat.reduceEqDiff, b_tf, b_ft, beq_self_eq_true, Bool.false_eq_true, Bool.true_eq_false]; done); (case ha => simp (disch := (first | omega | (simp only [new_next, new_base, upd_next, upd_base, List.length_cons, List.length_nil, List.all_cons, List.all_nil, oneCell, Bool.and_self, Bool.and_true]; done) | (simp only [new_next, new_base, upd_next, upd_base, List.length_cons, List.length_nil]; omega))) only [aOp, ev, at_some, at_none, at_args, Option.getD_some, Option.getD_none, List.getElem?_cons_zero, List.getElem?_cons_succ, List.getElem?_nil, decide_true, decide_false, Bool.not_true, Bool.not_false, f1, f3, f4, xC, yC, aBin_int, aBin_str, str_refl, int_refl, int_nrefl, aInt, aStr, aUn, AR.of, AR.ofB, AR.ofH, reduceIte, Nat.reduceEqDiff, aBuiltin, aLen, aField, aFieldAddr, aIndexAddr, aStore, aLoad, cellsL, oneCell, splice, new_next, new_base, upd_next, upd_base, cell_new_ne, cell_new_eq, cell_upd_ne, cell_upd_eq, loads_new_ne, loads_new_eq, loads_upd_ne, loads_upd_eq, stores_new_eq, stores_new_ne, stores_upd_ne, Option.map_some, List.toList_toArray, List.length_cons, List.length_nil, List.take_succ_cons, List.take_zero, List.drop_succ_cons, List.drop_zero, List.all_cons, List.all_nil, Bool.and_self, Bool.and_true, List.cons_append, List.nil_append, List.append_nil, List.append_eq, Nat.reduceBEq, Nat.reduceLeDiff, Nat.zero_add, Nat.add_zero, Nat.reduceMul, Nat.reduceSub, Nat.reduceLT, Nat.beq_refl, List.map_cons, List.map_nil, Nat.reduceAdd, cfg_P, sz3, sz38, agg3, agg38, und25, fld38_4, fld38_5, zero38, und26, und22, sz24, sz33, sz9, a9, agg24, fld24_0, fld24_1, f29_0, f29_1, f29_2, f29_3, f29_4, f29_5, f29_6, f29_7, f29_8, f29_9, f29_10, f33_0, f33_1, f33_2, s22, s25, s26, s27, s2, s29, g22, g25, g26, g27, g29, g33, a2, zero29, zero33] <;> with_reducible rfl))
    refine (cnod_wf _ _ Q.wh (hw.mono hG) hq.wh hq.whl).mono ?_
    rintro r2 G2 hT
    have hx1 : Ext G G2 := by
      rcases hT with ⟨_, _, rfl⟩ | ⟨_, _, _, rfl⟩
      · exact Ext.refl _
      · exact Ext.new _ _
    have hts : Ts G2 G.next 6 r2 Q.wh := by
      rcases hT with ⟨h1, rfl, rfl⟩ | ⟨h1, rfl, h3, rfl⟩
      · exact .inl ⟨h1, rfl⟩
      · exact ts_new (Nat.le_refl _) h3
    clear hT
    obtain ⟨ra, rfl⟩ := hts.val
    obtain ⟨uB, uN, uC, uL, uS⟩ := hx1.box (b := H.next) (by first | assumption | omega | (simp only [new_next, upd_next]; omega)) (by first | assumption | (simp (disch := (refine id ?_; first | assumption | omega | (simp only [new_next, new_base, upd_next, upd_base, List.length_cons, List.length_nil, List.all_cons, List.all_nil, oneCell, Bool.and_self, Bool.and_true]; done) | (simp only [new_next, new_base, upd_next, upd_base, List.length_cons, List.length_nil]; omega))) only [get_new_ne, get_new_eq, get_upd_ne, get_upd_eq] <;> first | rfl | assumption))
    obtain ⟨vB, vN, vC, vL, vS⟩ := hx1.box (b := (H.next + 2)) (by first | assumption | omega | (simp only [new_next, upd_next]; omega)) (by first | assumption | (simp (disch := (refine id ?_; first | assumption | omega | (simp only [new_next, new_base, upd_next, upd_base, List.length_cons, List.length_nil, List.all_cons, List.all_nil, oneCell, Bool.and_self, Bool.and_true]; done) | (simp only [new_next, new_base, upd_next, upd_base, List.length_cons, List.length_nil]; omega))) only [get_new_ne, get_new_eq, get_upd_ne, get_upd_eq] <;> first | rfl | assumption))
    obtain ⟨wB, wN, wC, wL, wS⟩ := hx1.box (b := (H.next + 1)) (by first | assumption | omega | (simp only [new_next, upd_next]; omega)) (by first | assumption | (simp (disch := (refine id ?_; first | assumption | omega | (simp only [new_next, new_base, upd_next, upd_base, List.length_cons, List.length_nil, List.all_cons, List.all_nil, oneCell, Bool.and_self, Bool.and_true]; done) | (simp only [new_next, new_base, upd_next, upd_base, List.length_cons, List.length_nil]; omega))) only [get_new_ne, get_new_eq, get_upd_ne, get_upd_eq] <;> first | rfl | assumption))
    have hbT : G2.base ≤ H.next := by rw [hx1.base]; exact hbG
    repeat (first
      | (with_reducible refine sc_seq ?_)
      | (with_reducible refine sc_region ?_)
      | (with_reducible refine sc_block ?_)
      | (with_reducible refine sc_scope ?_)
      | ((with_reducible refine sc_skip ?_); dsimp only)
      | ((with_reducible refine sc_label ?_); dsimp only)
      | ((with_reducible refine sc_ret ?_); dsimp only)
      | ((with_reducible refine sc_exit ?_); dsimp only [Nat.beq])
      | ((with_reducible refine so_nil ?_); dsimp only)
      | ((with_reducible apply so_skip); (case hw => simp only [aWanted, aYield, List.getElem?_toArray, at_some, at_none, at_args, Option.getD_some, Option.getD_none, List.getElem?_cons_zero, List.getElem?_cons_succ, List.getElem?_nil, decide_true, decide_false, Bool.not_true, Bool.not_false, f1, f3, f4, uC, vC, vS, reduceIte, Nat.reduceEqDiff, b_tf, b_ft, beq_self_eq_true, Bool.false_eq_true, Bool.true_eq_false]; done))
      | ((with_reducible apply so_val); (case hw => simp only [aWanted, aYield, List.getElem?_toArray, at_some, at_none, at_args, Option.getD_some, Option.getD_none, List.getElem?_cons_zero, List.getElem?_cons_succ, List.getElem?_nil, decide_true, decide_false, Bool.not_true, Bool.not_false, f1, f3, f4, uC, vC, vS, reduceIte, Nat.reduceEqDiff, b_tf, b_ft, beq_self_eq_true, Bool.false_eq_true, Bool.true_eq_false]; done); (case ha => simp (disch := (refine id ?_; first | assumption | omega | (simp only [new_next, new_base, upd_next, upd_base, List.length_cons, List.length_nil, List.all_cons, List.all_nil, oneCell, Bool.and_self, Bool.and_true]; done) | (simp only [new_next, new_base, upd_next, upd_base, List.length_cons, List.length_nil]; omega))) only [aOp, ev, at_some, at_none, at_args, Option.getD_some, Option.getD_none, List.getElem?_cons_zero, List.getElem?_cons_succ, List.getElem?_nil, decide_true, decide_false, Bool.not_true, Bool.not_false, f1, f3, f4, uC, vC, vS, aBin_int, aBin_str, str_refl, int_refl, int_nrefl, aInt, aStr, aUn, AR.of, AR.ofB, AR.ofH, reduceIte, Nat.reduceEqDiff, aBuiltin, aLen, aField, aFieldAddr, aIndexAddr, aStore, aLoad, cellsL, oneCell, splice, new_next, new_base, upd_next, upd_base, cell_new_ne, cell_new_eq, cell_upd_ne, cell_upd_eq, loads_new_ne, loads_new_eq, loads_upd_ne, loads_upd_eq, stores_new_eq, stores_new_ne, stores_upd_ne, Option.map_some, List.toList_toArray, List.length_cons, List.length_nil, List.take_succ_cons, List.take_zero, List.drop_succ_cons, List.drop_zero, List.all_cons, List.all_nil, Bool.and_self, Bool.and_true, List.cons_append, List.nil_append, List.append_nil, List.append_eq, Nat.reduceBEq, Nat.reduceLeDiff, Nat.zero_add, Nat.add_zero, Nat.reduceMul, Nat.reduceSub, Nat.reduceLT, Nat.beq_refl, List.map_cons, List.map_nil, Nat.reduceAdd, cfg_P, sz3, sz38, agg3, agg38, und25, fld38_4, fld38_5, zero38, und26, und22, sz24, sz33, sz9, a9, agg24, fld24_0, fld24_1, f29_0, f29_1, f29_2, f29_3, f29_4, f29_5, f29_6, f29_7, f29_8, f29_9, f29_10, f33_0, f33_1, f33_2, s22, s25, s26, s27, s2, s29, g22, g25, g26, g27, g29, g33, a2, zero29, zero33] <;> with_reducible rfl))
      | ((with_reducible apply sc_false); (case hc => simp only [ev, at_some, at_none, at_args, Option.getD_some, Option.getD_none, List.getElem?_cons_zero, List.getElem?_cons_succ, List.getElem?_nil, decide_true, decide_false, Bool.not_true, Bool.not_false, f1, f3, f4, uC, vC, vS, reduceIte, Nat.reduceEqDiff]; done))
      | ((with_reducible apply sc_true); (case hc => simp only [ev, at_some, at_none, at_args, Option.getD_some, Option.getD_none, List.getElem?_cons_zero, List.getElem?_cons_succ, List.getElem?_nil, decide_true, decide_false, Bool.not_true, Bool.not_false, f1, f3, f4, uC, vC, vS, reduceIte, Nat.reduceEqDiff]; done)))
    refine so_append rfl (by simp only [aWanted, aYield, List.getElem?_toArray, at_some, at_none, at_args, Option.getD_some, Option.getD_none, List.getElem?_cons_zero, List.getElem?_cons_succ, List.getElem?_nil, decide_true, decide_false, Bool.not_true, Bool.not_false, f1, f3, f4, reduceIte, Nat.reduceEqDiff, b_tf, b_ft, beq_self_eq_true, Bool.false_eq_true, Bool.true_eq_false]) (by first | (simp only [ev, at_some, at_none, at_args, Option.getD_some, Option.getD_none, List.getElem?_cons_zero, List.getElem?_cons_succ, List.getElem?_nil, decide_true, decide_false, Bool.not_true, Bool.not_false, f1, f3, f4, reduceIte, Nat.reduceEqDiff]; done) | (simp only [ev, at_some, at_none, at_args, Option.getD_some, Option.getD_none, List.getElem?_cons_zero, List.getElem?_cons_succ, List.getElem?_nil, decide_true, decide_false, Bool.not_true, Bool.not_false, f1, f3, f4, reduceIte, Nat.reduceEqDiff]; rfl)) (by first | (simp only [ev, at_some, at_none, at_args, Option.getD_some, Option.getD_none, List.getElem?_cons_zero, List.getElem?_cons_succ, List.getElem?_nil, decide_true, decide_false, Bool.not_true, Bool.not_false, f1, f3, f4, reduceIte, Nat.reduceEqDiff]; done) | (simp only [ev, at_some, at_none, at_args, Option.getD_some, Option.getD_none, List.getElem?_cons_zero, List.getElem?_cons_succ, List.getElem?_nil, decide_true, decide_false, Bool.not_true, Bool.not_false, f1, f3, f4, reduceIte, Nat.reduceEqDiff]; rfl)) ?_
    have hx2 : Ext H (G2.upd (H.next + 2) (.cells (qc Q (.slice oa ys.length ys.length) (.slice ra Q.wh.length Q.wh.length) (.slice none 0 0)) 0 .solo)) := (hG.trans hx1).upd (by omega) _
    obtain ⟨v3, h3, h4⟩ := append_nil (P := cfg.P) el26 (hg.mono hx2) (labels_one hq.gr) (by have := hq.grl; omega)
    refine ⟨v3, _, h3, ?_⟩
    have hx3 : Ext (G2.upd (H.next + 2) (.cells (qc Q (.slice oa ys.length ys.length) (.slice ra Q.wh.length Q.wh.length) (.slice none 0 0)) 0 .solo)) (if Q.gr = [] then (G2.upd (H.next + 2) (.cells (qc Q (.slice oa ys.length ys.length) (.slice ra Q.wh.length Q.wh.length) (.slice none 0 0)) 0 .solo)) else (G2.upd (H.next + 2) (.cells (qc Q (.slice oa ys.length ys.length) (.slice ra Q.wh.length Q.wh.length) (.slice none 0 0)) 0 .solo)).new (.cells Q.gr.flatten 2 .solo)) := by
      split
      · exact Ext.refl _
      · exact Ext.new _ _
    have hts3 : Ts (if Q.gr = [] then (G2.upd (H.next + 2) (.cells (qc Q (.slice oa ys.length ys.length) (.slice ra Q.wh.length Q.wh.length) (.slice none 0 0)) 0 .solo)) else (G2.upd (H.next + 2) (.cells (qc Q (.slice oa ys.length ys.length) (.slice ra Q.wh.length Q.wh.length) (.slice none 0 0)) 0 .solo)).new (.cells Q.gr.flatten 2 .solo)) G2.next 2 v3 Q.gr := by
      rcases h4 with ⟨k1, rfl⟩ | ⟨k1, rfl, k2⟩
      · exact .inl ⟨k1, rfl⟩
      · rw [if_neg k1]; exact ts_new (Nat.le_refl _) k2
    generalize (if Q.gr = [] then (G2.upd (H.next + 2) (.cells (qc Q (.slice oa ys.length ys.length) (.slice ra Q.wh.length Q.wh.length) (.slice none 0 0)) 0 .solo)) else (G2.upd (H.next + 2) (.cells (qc Q (.slice oa ys.length ys.length) (.slice ra Q.wh.length Q.wh.length) (.slice none 0 0)) 0 .solo)).new (.cells Q.gr.flatten 2 .solo)) = G4 at hx3 hts3 ⊢
    obtain ⟨ga, rfl⟩ := hts3.val
    obtain ⟨xB', xN', _⟩ := hx3.box (b := H.next) (by simp only [upd_next]; omega) ((get_upd_ne (by omega)).trans uB)
    obtain ⟨zB', zN', _, _, zS'⟩ := hx3.box (b := H.next + 1) (by simp only [upd_next]; omega) ((get_upd_ne (by omega)).trans wB)
    obtain ⟨yB', yN', _, _, yS'⟩ := hx3.box (b := H.next + 2) (by simp only [upd_next]; omega) (get_upd_eq rfl)
    have hbH' : G4.base ≤ H.next := by rw [hx3.base]; exact hbT
    repeat (first
      | (with_reducible refine sc_seq ?_)
      | (with_reducible refine sc_region ?_)
      | (with_reducible refine sc_block ?_)
      | (with_reducible refine sc_scope ?_)
      | ((with_reducible refine sc_skip ?_); dsimp only)
      | ((with_reducible refine sc_label ?_); dsimp only)
      | ((with_reducible refine sc_ret ?_); dsimp only)
      | ((with_reducible refine sc_exit ?_); dsimp only [Nat.beq])
      | ((with_reducible refine so_nil ?_); dsimp only)
      | ((with_reducible apply so_skip); (case hw => simp only [aWanted, aYield, List.getElem?_toArray, at_some, at_none, at_args, Option.getD_some, Option.getD_none, List.getElem?_cons_zero, List.getElem?_cons_succ, List.getElem?_nil, decide_true, decide_false, Bool.not_true, Bool.not_false, f1, f2, f3, f4, yS', zS', reduceIte, Nat.reduceEqDiff, b_tf, b_ft, beq_self_eq_true, Bool.false_eq_true, Bool.true_eq_false]; done))
      | ((with_reducible apply so_val); (case hw => simp only [aWanted, aYield, List.getElem?_toArray, at_some, at_none, at_args, Option.getD_some, Option.getD_none, List.getElem?_cons_zero, List.getElem?_cons_succ, List.getElem?_nil, decide_true, decide_false, Bool.not_true, Bool.not_false, f1, f2, f3, f4, yS', zS', reduceIte, Nat.reduceEqDiff, b_tf, b_ft, beq_self_eq_true, Bool.false_eq_true, Bool.true_eq_false]; done); (case ha => simp (disch := (refine id ?_; first | assumption | omega | (simp only [new_next, new_base, upd_next, upd_base, List.length_cons, List.length_nil, List.all_cons, List.all_nil, oneCell, Bool.and_self, Bool.and_true]; done) | (simp only [new_next, new_base, upd_next, upd_base, List.length_cons, List.length_nil]; omega))) only [aOp, ev, at_some, at_none, at_args, Option.getD_some, Option.getD_none, List.getElem?_cons_zero, List.getElem?_cons_succ, List.getElem?_nil, decide_true, decide_false, Bool.not_true, Bool.not_false, f1, f2, f3, f4, yS', zS', aBin_int, aBin_str, str_refl, int_refl, int_nrefl, aInt, aStr, aUn, AR.of, AR.ofB, AR.ofH, reduceIte, Nat.reduceEqDiff, aBuiltin, aLen, aField, aFieldAddr, aIndexAddr, aStore, aLoad, cellsL, oneCell, splice, new_next, new_base, upd_next, upd_base, cell_new_ne, cell_new_eq, cell_upd_ne, cell_upd_eq, loads_new_ne, loads_new_eq, loads_upd_ne, loads_upd_eq, stores_new_eq, stores_new_ne, stores_upd_ne, Option.map_some, List.toList_toArray, List.length_cons, List.length_nil, List.take_succ_cons, List.take_zero, List.drop_succ_cons, List.drop_zero, List.all_cons, List.all_nil, Bool.and_self, Bool.and_true, List.cons_append, List.nil_append, List.append_nil, List.append_eq, Nat.reduceBEq, Nat.reduceLeDiff, Nat.zero_add, Nat.add_zero, Nat.reduceMul, Nat.reduceSub, Nat.reduceLT, Nat.beq_refl, List.map_cons, List.map_nil, Nat.reduceAdd, cfg_P, sz3, sz38, agg3, agg38, und25, fld38_4, fld38_5, zero38, und26, und22, sz24, sz33, sz9, a9, agg24, fld24_0, fld24_1, f29_0, f29_1, f29_2, f29_3, f29_4, f29_5, f29_6, f29_7, f29_8, f29_9, f29_10, f33_0, f33_1, f33_2, s22, s25, s26, s27, s2, s29, g22, g25, g26, g27, g29, g33, a2, zero29, zero33] <;> with_reducible rfl))
      | ((with_reducible apply sc_false); (case hc => simp only [ev, at_some, at_none, at_args, Option.getD_some, Option.getD_none, List.getElem?_cons_zero, List.getElem?_cons_succ, List.getElem?_nil, decide_true, decide_false, Bool.not_true, Bool.not_false, f1, f2, f3, f4, yS', zS', reduceIte, Nat.reduceEqDiff]; done))
      | ((with_reducible apply sc_true); (case hc => simp only [ev, at_some, at_none, at_args, Option.getD_some, Option.getD_none, List.getElem?_cons_zero, List.getElem?_cons_succ, List.getElem?_nil, decide_true, decide_false, Bool.not_true, Bool.not_false, f1, f2, f3, f4, yS', zS', reduceIte, Nat.reduceEqDiff]; done)))
    apply res_fin (rs := [ResultVar.cell 2 29]) trivial
    case h => simp (disch := (refine id ?_; first | assumption | omega | (simp only [new_next, new_base, upd_next, upd_base, List.length_cons, List.length_nil, List.all_cons, List.all_nil, oneCell, Bool.and_self, Bool.and_true]; done) | (simp only [new_next, new_base, upd_next, upd_base, List.length_cons, List.length_nil]; omega))) only [aResults, aResult, aOp, ev, at_some, at_none, at_args, Option.getD_some, Option.getD_none, List.getElem?_cons_zero, List.getElem?_cons_succ, List.getElem?_nil, decide_true, decide_false, Bool.not_true, Bool.not_false, f2, aBin_int, aBin_str, str_refl, int_refl, int_nrefl, aInt, aStr, aUn, AR.of, AR.ofB, AR.ofH, reduceIte, Nat.reduceEqDiff, aBuiltin, aLen, aField, aFieldAddr, aIndexAddr, aStore, aLoad, cellsL, oneCell, splice, new_next, new_base, upd_next, upd_base, cell_new_ne, cell_new_eq, cell_upd_ne, cell_upd_eq, loads_new_ne, loads_new_eq, loads_upd_ne, loads_upd_eq, stores_new_eq, stores_new_ne, stores_upd_ne, Option.map_some, List.toList_toArray, List.length_cons, List.length_nil, List.take_succ_cons, List.take_zero, List.drop_succ_cons, List.drop_zero, List.all_cons, List.all_nil, Bool.and_self, Bool.and_true, List.cons_append, List.nil_append, List.append_nil, List.append_eq, Nat.reduceBEq, Nat.reduceLeDiff, Nat.zero_add, Nat.add_zero, Nat.reduceMul, Nat.reduceSub, Nat.reduceLT, Nat.beq_refl, List.map_cons, List.map_nil, Nat.reduceAdd, cfg_P, sz3, sz38, agg3, agg38, und25, fld38_4, fld38_5, zero38, und26, und22, sz24, sz33, sz9, a9, agg24, fld24_0, fld24_1, f29_0, f29_1, f29_2, f29_3, f29_4, f29_5, f29_6, f29_7, f29_8, f29_9, f29_10, f33_0, f33_1, f33_2, s22, s25, s26, s27, s2, s29, g22, g25, g26, g27, g29, g33, a2, zero29, zero33] <;> with_reducible rfl
    case hq =>
      have hxx := hx3.next
      have hn2 := hx1.next
      simp only [upd_next] at hxx
      refine ⟨.slice oa ys.length ys.length, .slice ra Q.wh.length Q.wh.length, .slice ga Q.gr.length Q.gr.length, rfl, ?_, ?_, ?_, ?_⟩
      · exact IRB.imp (fun b _ h => by omega) <| IRB.of (lo := H.next + 3) ((((((hgr.mono hx1).upd (by omega)).mono hx3).upd (by omega)).upd (by omega))) hys (fun i it hi2 hit => by
          obtain ⟨tv, k1, k2⟩ := hdone i it hi2 hit
          exact ⟨tv, k1, (((((k2.mono hx1).upd (by omega)).mono hx3).upd (by omega)).upd (by omega))⟩) hq.its
      · exact RdB.imp (fun b _ h => by omega) <| (((((hts.upd (by omega)).mono hx3).upd (by omega)).upd (by omega)).gr).rdb (nodes_len hq.wh)
      · exact RdB.imp (fun b _ h => by omega) <| (((hts3.upd (by omega)).upd (by omega)).gr).rdb (labels_len hq.gr)
      · exact ((hx2.trans hx3).upd (by omega) _).upd (by omega) _
end Go.Am
