/- AstTrees: the law's own walk, from what it calls. -/
import Derived.Test.YtlbjfomcgbiagaaGreatDoorLent
import Derived.Test.YtlbjfomcgbiagaaGreatDoorConds
set_option linter.unusedVariables false
set_option linter.unusedSimpArgs false
namespace Go.Proofs.YtlbjfomcgbiagaaGreatDoor.TreesLaw
open Go Go.RowKit Go.Proofs.YtlbjfomcgbiagaaGreatDoorW.PrintWords Go.Proofs.YtlbjfomcgbiagaaGreatDoorW.PrintLast Go.Proofs Go.Proofs.YtlbjfomcgbiagaaGreatDoor Go.Proofs.YtlbjfomcgbiagaaGreatDoor.Base Go.Proofs.YtlbjfomcgbiagaaGreatDoorW.PrintMore Go.Proofs.YtlbjfomcgbiagaaGreatDoor.Print Go.Proofs.YtlbjfomcgbiagaaGreatDoor.CondT Go.Proofs.YtlbjfomcgbiagaaGreatDoor.SameT Go.Proofs.YtlbjfomcgbiagaaGreatDoor.Conds Go.Proofs.YtlbjfomcgbiagaaGreatDoor.Walks
attribute [local go_sem] max2_int min2_int max_two min_two max_three min_three max_four min_four

/-- What the functions tell of a list: rs, rc: what is wrong with it as a sum, as a condition; s, c: its texts. -/
structure Tells (l : List ND) (rs rc : Option Int) (s c : ByteArray) : Prop where
  sum : ∀ (A : Option Addr) (k : Nat) (W : World), Kd.C k56 W A l.length l → l.length ≤ k → Globs W → Calls Tryz.prog 14 #[.slice A l.length k] W fun e w' => e = .returned (errW rs) ∧ Below W.heap.size W w'
  psum : ∀ (A : Option Addr) (k : Nat) (W : World), Kd.C k56 W A l.length l → l.length ≤ k → Globs W → Calls Tryz.prog 8 #[.slice A l.length k] W fun e w' => e = .returned (.tuple #[.string (textOf rs s), errW rs]) ∧ Below W.heap.size W w'
  rsum : ∀ (A : Option Addr) (k : Nat) (W : World), Kd.C k56 W A l.length l → l.length ≤ k → Globs W → Calls Tryz.prog 15 #[.slice A l.length k] W fun e w' => e = .returned (badV (codeOf rs)) ∧ Below W.heap.size W w'
  rpsum : ∀ (A : Option Addr) (k : Nat) (W : World), Kd.C k56 W A l.length l → l.length ≤ k → Globs W → Calls Tryz.prog 9 #[.slice A l.length k] W fun e w' => e = .returned (.tuple #[.string (textOf rs s), badV (codeOf rs)]) ∧ Below W.heap.size W w'
  cond : ∀ (A : Option Addr) (k : Nat) (W : World), Kd.C k56 W A l.length l → l.length ≤ k → Globs W → Calls Tryz.prog 16 #[.slice A l.length k] W fun e w' => e = .returned (errW rc) ∧ Below W.heap.size W w'
  pcond : ∀ (A : Option Addr) (k : Nat) (W : World), Kd.C k56 W A l.length l → l.length ≤ k → Globs W → Calls Tryz.prog 10 #[.slice A l.length k] W fun e w' => e = .returned (.tuple #[.string (textOf rc c), errW rc]) ∧ Below W.heap.size W w'
  rcond : ∀ (A : Option Addr) (k : Nat) (W : World), Kd.C k56 W A l.length l → l.length ≤ k → Globs W → Calls Tryz.prog 17 #[.slice A l.length k] W fun e w' => e = .returned (badV (codeOf rc)) ∧ Below W.heap.size W w'
  rpcond : ∀ (A : Option Addr) (k : Nat) (W : World), Kd.C k56 W A l.length l → l.length ≤ k → Globs W → Calls Tryz.prog 11 #[.slice A l.length k] W fun e w' => e = .returned (.tuple #[.string (textOf rc c), badV (codeOf rc)]) ∧ Below W.heap.size W w'
  same1 : ∀ W : World, Globs W → Calls Tryz.prog 13 #[errW rs, badV (codeOf rs)] W fun e w' => e = .returned (.bool true) ∧ Below W.heap.size W w'
  same2 : ∀ W : World, Globs W → Calls Tryz.prog 13 #[errW rc, badV (codeOf rc)] W fun e w' => e = .returned (.bool true) ∧ Below W.heap.size W w'
/-- What lies in memory: the document's two errors. -/
structure Inv (w1 W : World) (b d : Nat) (x y : Int) : Prop where
  bel : Below w1.heap.size w1 W
  h7 : W.heap[b]? = some (.cells #[.int .i64 x, .int .i64 0, .int .i64 0, .bool false, .bool false] 30)
  h11 : W.heap[d]? = some (.cells #[.int .i64 y, .int .i64 0, .int .i64 0, .bool false, .bool false] 30)
theorem Inv.more {w1 W W' : World} {b d : Nat} {x y : Int} (h : Inv w1 W b d x y) (hb : Below W.heap.size W W') : Inv w1 W' b d x y :=
  ⟨below_then h.bel h.bel.size hb, (hb.block _ (Array.getElem?_eq_some_iff.1 h.h7).1).trans h.h7, (hb.block _ (Array.getElem?_eq_some_iff.1 h.h11).1).trans h.h11⟩
theorem Inv.cells {w1 W : World} {b d : Nat} {x y : Int} (h : Inv w1 W b d x y) : W.cell? ⟨b, 0, none⟩ = some (.int .i64 x) ∧ W.cell? ⟨b, 1, none⟩ = some (.int .i64 0) ∧ W.cell? ⟨b, 2, none⟩ = some (.int .i64 0) ∧ W.cell? ⟨b, 3, none⟩ = some (.bool false) ∧ W.cell? ⟨b, 4, none⟩ = some (.bool false) ∧
    W.cell? ⟨d, 0, none⟩ = some (.int .i64 y) ∧ W.cell? ⟨d, 1, none⟩ = some (.int .i64 0) ∧ W.cell? ⟨d, 2, none⟩ = some (.int .i64 0) ∧ W.cell? ⟨d, 3, none⟩ = some (.bool false) ∧ W.cell? ⟨d, 4, none⟩ = some (.bool false) :=
  ⟨cell_of h.h7 0, cell_of h.h7 1, cell_of h.h7 2, cell_of h.h7 3, cell_of h.h7 4, cell_of h.h11 0, cell_of h.h11 1, cell_of h.h11 2, cell_of h.h11 3, cell_of h.h11 4⟩
set_option maxHeartbeats 8000000 in
set_option maxRecDepth 100000 in
theorem trees_calls (A0 : Option Addr) (c0 : Nat) (l : List ND) (rs rc : Option Int) (s c : ByteArray) (w : World) (hr0 : Kd.C k56 w A0 l.length l) (hc0 : l.length ≤ c0) (hlt : l.length < 2932031007400) (hG : Globs w) (T : Tells l rs rc s c)
    (hLive : ∀ W : World, Globs W → Calls Tryz.prog 12 #[] W fun e w' => e = .returned (.bool true) ∧ Below W.heap.size W w') :
    Calls Tryz.prog 3 #[.slice A0 l.length c0] w fun e w' => e = .returned (.bool true) ∧ Below w.heap.size w w' := by
  have HL := Aside0.mk (lent_calls A0 c0 l w hr0 hc0 hlt)
  obtain ⟨es, hes⟩ : ∃ v, errW rs = v := ⟨_, rfl⟩
  obtain ⟨ec, hec⟩ : ∃ v, errW rc = v := ⟨_, rfl⟩
  obtain ⟨x, hx⟩ : ∃ v, codeOf rs = v := ⟨_, rfl⟩
  obtain ⟨y, hy⟩ : ∃ v, codeOf rc = v := ⟨_, rfl⟩
  obtain ⟨ts, hts⟩ : ∃ v, textOf rs s = v := ⟨_, rfl⟩
  obtain ⟨tc, htc⟩ : ∃ v, textOf rc c = v := ⟨_, rfl⟩
  have T1 := T.sum
  have T2 := T.psum
  have T3 := T.rsum
  have T4 := T.rpsum
  have T5 := T.cond
  have T6 := T.pcond
  have T7 := T.rcond
  have T8 := T.rpcond
  have T9 := T.same1
  have T10 := T.same2
  rw [hes] at T1 T2 T9
  rw [hec] at T5 T6 T10
  rw [hx] at T3 T4 T9
  rw [hy] at T7 T8 T10
  rw [hts] at T2 T4
  rw [htc] at T6 T8
  unfold badV at T3 T4 T7 T8 T9 T10
  have H1 := Aside0.mk T1
  have H2 := Aside0.mk T2
  have H3 := Aside0.mk T3
  have H4 := Aside0.mk T4
  have H5 := Aside0.mk T5
  have H6 := Aside0.mk T6
  have H7 := Aside0.mk T7
  have H8 := Aside0.mk T8
  have H9 := Aside0.mk T9
  have H10 := Aside0.mk T10
  have HLv := Aside0.mk hLive
  have HR0 := Aside0.mk hr0
  have HC0 := Aside0.mk hc0
  have HG := Aside0.mk hG
  clear T1 T2 T3 T4 T5 T6 T7 T8 T9 T10 T hes hec hx hy hts htc hLive hr0 hc0 hG
  go_enter Tryz.func3, Tryz.ntmps3
  go_wp2_with (go_at_call 7; refine HL.out.mono ?_; rintro e w1 ⟨A, k, rfl, hk, ho, hb1⟩; have HO := Aside0.mk ho; have HC := Aside0.mk hk; have HB0 := Aside0.mk hb1; have HOw := Aside0.mk (fun (W : World) (hW : Below w1.heap.size w1 W) => Kd.C_below (C_init HO.out) hW); have HOw2 := Aside0.mk (fun (W : World) (hW : Below w1.heap.size w1 W) => Kd.C_below HO.out hW); have HAr := Aside0.mk (fun (W : World) (hW : Below w1.heap.size w1 W) => Kd.C_below (Kd.C_below HR0.out HB0.out) hW); have HGl := Aside0.mk (fun (W : World) (hW : Below w1.heap.size w1 W) => Globs.below (Globs.below HG.out HB0.out) hW); clear ho hk hb1)
  have HB := Aside0.mk (Below.refl w1.heap.size w1)
  go_wp2_with (first
    | (go_at_call 8; refine (H2.out A k _ (HOw.out _ HB.out) (Nat.le_of_succ_le HC.out) (HGl.out _ HB.out)).mono ?_; rintro e w2 ⟨rfl, hb⟩; have HB := Aside0.mk (below_then HB.out HB.out.size hb); clear hb)
    | (go_at_call 9; refine (H4.out A0 c0 _ (HAr.out _ HB.out) HC0.out (HGl.out _ HB.out)).mono ?_; rintro e w3 ⟨rfl, hb⟩; have HB := Aside0.mk (below_alloc (below_then HB.out HB.out.size hb) (.cells #[.int .i64 x, .int .i64 0, .int .i64 0, .bool false, .bool false] 30)); have HX := Aside0.mk (Rep.alloc_new w3 (.cells #[.int .i64 x, .int .i64 0, .int .i64 0, .bool false, .bool false] 30)); clear hb)
    | (go_at_call 10; refine (H6.out A k _ (HOw.out _ HB.out) (Nat.le_of_succ_le HC.out) (HGl.out _ HB.out)).mono ?_; rintro e w4 ⟨rfl, hb⟩; have HB := Aside0.mk (below_then HB.out HB.out.size hb); have HX := Aside0.mk ((hb.block _ (by simp)).trans HX.out); clear hb)
    | (go_at_call 11; refine (H8.out A0 c0 _ (HAr.out _ HB.out) HC0.out (HGl.out _ HB.out)).mono ?_; rintro e w5 ⟨rfl, hb⟩; have hb2 := below_alloc hb (.cells #[.int .i64 y, .int .i64 0, .int .i64 0, .bool false, .bool false] 30); have HI := Aside0.mk (show Inv w1 (w5.alloc (.cells #[.int .i64 y, .int .i64 0, .int .i64 0, .bool false, .bool false] 30)) w3.heap.size w5.heap.size x y from ⟨below_then HB.out HB.out.size hb2, (hb2.block _ (Array.getElem?_eq_some_iff.1 HX.out).1).trans HX.out, Rep.alloc_new _ _⟩); clear hb hb2)
    | (go_at_call 12; refine (HLv.out _ (HGl.out _ HI.out.bel)).mono ?_; rintro e w6 ⟨rfl, hb⟩; have HI := Aside0.mk (Inv.more HI.out hb); obtain ⟨u0, u1, u2, u3, u4, v0, v1, v2, v3, v4⟩ := Inv.cells HI.out; clear hb)
    | (go_at_call 14; refine (H1.out A k _ (HOw.out _ HI.out.bel) (Nat.le_of_succ_le HC.out) (HGl.out _ HI.out.bel)).mono ?_; rintro e w6 ⟨rfl, hb⟩; have HI := Aside0.mk (Inv.more HI.out hb); obtain ⟨u0, u1, u2, u3, u4, v0, v1, v2, v3, v4⟩ := Inv.cells HI.out; clear hb)
    | (go_at_call 15; refine (H3.out A0 c0 _ (HAr.out _ HI.out.bel) HC0.out (HGl.out _ HI.out.bel)).mono ?_; rintro e w6 ⟨rfl, hb⟩; have HI := Aside0.mk (Inv.more HI.out hb); obtain ⟨u0, u1, u2, u3, u4, v0, v1, v2, v3, v4⟩ := Inv.cells HI.out; clear hb)
    | (go_at_call 16; refine (H5.out A k _ (HOw.out _ HI.out.bel) (Nat.le_of_succ_le HC.out) (HGl.out _ HI.out.bel)).mono ?_; rintro e w6 ⟨rfl, hb⟩; have HI := Aside0.mk (Inv.more HI.out hb); obtain ⟨u0, u1, u2, u3, u4, v0, v1, v2, v3, v4⟩ := Inv.cells HI.out; clear hb)
    | (go_at_call 17; refine (H7.out A0 c0 _ (HAr.out _ HI.out.bel) HC0.out (HGl.out _ HI.out.bel)).mono ?_; rintro e w6 ⟨rfl, hb⟩; have HI := Aside0.mk (Inv.more HI.out hb); obtain ⟨u0, u1, u2, u3, u4, v0, v1, v2, v3, v4⟩ := Inv.cells HI.out; clear hb)
    | (go_at_call 13; (first | (with_reducible refine (H9.out _ (HGl.out _ HI.out.bel)).mono ?_) | (with_reducible refine (H10.out _ (HGl.out _ HI.out.bel)).mono ?_)); rintro e w6 ⟨rfl, hb⟩; have HI := Aside0.mk (Inv.more HI.out hb); obtain ⟨u0, u1, u2, u3, u4, v0, v1, v2, v3, v4⟩ := Inv.cells HI.out; clear hb)
    | (go_at_call 18; refine (kept_calls A k l A0 c0 _ (HOw2.out _ HI.out.bel) HC.out (HAr.out _ HI.out.bel)).mono ?_; rintro e w6 ⟨rfl, hb⟩; have HI := Aside0.mk (Inv.more HI.out hb); obtain ⟨u0, u1, u2, u3, u4, v0, v1, v2, v3, v4⟩ := Inv.cells HI.out; clear hb))
  go_ret
  exact ⟨rfl, below_then HB0.out HB0.out.size HI.out.bel⟩
end Go.Proofs.YtlbjfomcgbiagaaGreatDoor.TreesLaw
