/- ast.Cond, PrintSum, PrintCond, and the document's: each from what it calls. -/
import Derived.Test.YtlbjfomcgbiagaaGreatDoorSumT
import Derived.Test.YtlbjfomcgbiagaaGreatDoorFits
import Derived.Test.YtlbjfomcgbiagaaGreatDoorCondW
import Derived.Test.YtlbjfomcgbiagaaGreatDoorSameT
import Derived.Test.YtlbjfomcgbiagaaGreatDoorPrint3
import Derived.Test.YtlbjfomcgbiagaaGreatDoorPrint11
set_option linter.unusedVariables false
set_option linter.unusedSimpArgs false
namespace Go.Proofs.YtlbjfomcgbiagaaGreatDoor.Conds
open Go Go.RowKit Go.Proofs.YtlbjfomcgbiagaaGreatDoorW.PrintWords Go.Proofs.YtlbjfomcgbiagaaGreatDoorW.PrintLast Go.Proofs Go.Proofs.YtlbjfomcgbiagaaGreatDoor Go.Proofs.YtlbjfomcgbiagaaGreatDoor.Base Go.Proofs.YtlbjfomcgbiagaaGreatDoorW.PrintMore Go.Proofs.YtlbjfomcgbiagaaGreatDoor.Print Go.Proofs.YtlbjfomcgbiagaaGreatDoor.CondT Go.Proofs.YtlbjfomcgbiagaaGreatDoor.SameT
attribute [local go_sem] max2_int min2_int max_two min_two max_three min_three max_four min_four

/-- The document's number of an error. -/
def codeOf (r : Option Int) : Int := r.getD 0
def textOf (r : Option Int) (s : ByteArray) : ByteArray := if r.isNone then s else ⟨#[]⟩
def BadBox (w : World) (b : Nat) : Prop := w.heap[b]? = some (.cells #[.int .i64 0, .int .i64 0, .int .i64 0, .bool false, .bool false] 30 (0, 0))
theorem BadBox.below {w w' : World} {b : Nat} (h : BadBox w b) (hb : Below w.heap.size w w') : BadBox w' b := (hb.block b (Array.getElem?_eq_some_iff.1 h).1).trans h
theorem BadBox.new (w : World) : BadBox (w.alloc (.cells #[.int .i64 0, .int .i64 0, .int .i64 0, .bool false, .bool false] 30)) w.heap.size := Rep.alloc_new _ _
theorem BadBox.facts {w : World} {b : Nat} (h : BadBox w b) :
    w.cell? ⟨b, 0, none⟩ = some (.int .i64 0) ∧ w.cell? ⟨b, 1, none⟩ = some (.int .i64 0) ∧ w.cell? ⟨b, 2, none⟩ = some (.int .i64 0) ∧ w.cell? ⟨b, 3, none⟩ = some (.bool false) ∧ w.cell? ⟨b, 4, none⟩ = some (.bool false) ∧
    w.frozen? ⟨b, 0, none⟩ = false ∧ w.frozen? ⟨b, 1, none⟩ = false ∧ w.frozen? ⟨b, 2, none⟩ = false ∧ w.frozen? ⟨b, 3, none⟩ = false ∧ w.frozen? ⟨b, 4, none⟩ = false :=
  ⟨cell_of h 0, cell_of h 1, cell_of h 2, cell_of h 3, cell_of h 4, Lib.frozen_of_heap h 0, Lib.frozen_of_heap h 1, Lib.frozen_of_heap h 2, Lib.frozen_of_heap h 3, Lib.frozen_of_heap h 4⟩
theorem five {w0 w : World} {b : Nat} (h : Below w0.heap.size w0 w) (hb : w0.heap.size ≤ b) (u0 u1 u2 u3 u4 : Value) :
    Below w0.heap.size w0 (((((w.setCell ⟨b, 0, none⟩ u0).setCell ⟨b, 1, none⟩ u1).setCell ⟨b, 2, none⟩ u2).setCell ⟨b, 3, none⟩ u3).setCell ⟨b, 4, none⟩ u4) :=
  ((((h.setCell (p := ⟨b, 0, none⟩) hb _).setCell (p := ⟨b, 1, none⟩) hb _).setCell (p := ⟨b, 2, none⟩) hb _).setCell (p := ⟨b, 3, none⟩) hb _).setCell (p := ⟨b, 4, none⟩) hb _

set_option maxHeartbeats 1000000 in
set_option maxRecDepth 100000 in
theorem print_sum (A : Option Addr) (c : Nat) (l : List ND) (r : Option Int) (s : ByteArray) (w : World) (hE : Calls Tryz.prog 14 #[.slice A l.length c] w fun e w' => e = .returned (errW r) ∧ Below w.heap.size w w')
    (hT : r = none → ∀ W : World, Below w.heap.size w W → Calls Tryz.prog 26 #[.slice A l.length c, .int .i64 0] W fun e w' => e = .returned (.string s) ∧ Below W.heap.size W w') :
    Calls Tryz.prog 8 #[.slice A l.length c] w fun e w' => e = .returned (.tuple #[.string (textOf r s), errW r]) ∧ Below w.heap.size w w' := by
  have HE := Aside0.mk hE
  cases r with
  | none =>
    have HT := Aside0.mk (hT rfl)
    rw [errW_none] at HE ⊢
    clear hE hT
    go_enter Tryz.func8, Tryz.ntmps8
    go_wp2_with (first | (go_at_call 14; refine HE.out.mono ?_; rintro e w1 ⟨rfl, hb⟩; have HB := Aside0.mk hb; clear hb) | (go_at_call 26; refine (HT.out _ HB.out).mono ?_; rintro e w2 ⟨rfl, hb⟩; have HB2 := Aside0.mk (below_then HB.out HB.out.size hb); clear hb))
    go_ret2
    exact ⟨rfl, HB2.out⟩
  | some x =>
    rw [errW_some] at HE ⊢
    clear hE hT
    go_enter Tryz.func8, Tryz.ntmps8
    go_wp2_with (first | (go_at_call 14; refine HE.out.mono ?_; rintro e w1 ⟨rfl, hb⟩; have HB := Aside0.mk hb; clear hb))
    go_ret2
    exact ⟨rfl, HB.out⟩

set_option maxHeartbeats 1000000 in
set_option maxRecDepth 100000 in
theorem print_cond (A : Option Addr) (c : Nat) (l : List ND) (r : Option Int) (s : ByteArray) (w : World) (hE : Calls Tryz.prog 16 #[.slice A l.length c] w fun e w' => e = .returned (errW r) ∧ Below w.heap.size w w')
    (hT : r = none → ∀ W : World, Below w.heap.size w W → Calls Tryz.prog 28 #[.slice A l.length c, .int .i64 0] W fun e w' => e = .returned (.string s) ∧ Below W.heap.size W w') :
    Calls Tryz.prog 10 #[.slice A l.length c] w fun e w' => e = .returned (.tuple #[.string (textOf r s), errW r]) ∧ Below w.heap.size w w' := by
  have HE := Aside0.mk hE
  cases r with
  | none =>
    have HT := Aside0.mk (hT rfl)
    rw [errW_none] at HE ⊢
    clear hE hT
    go_enter Tryz.func10, Tryz.ntmps10
    go_wp2_with (first | (go_at_call 16; refine HE.out.mono ?_; rintro e w1 ⟨rfl, hb⟩; have HB := Aside0.mk hb; clear hb) | (go_at_call 28; refine (HT.out _ HB.out).mono ?_; rintro e w2 ⟨rfl, hb⟩; have HB2 := Aside0.mk (below_then HB.out HB.out.size hb); clear hb))
    go_ret2
    exact ⟨rfl, HB2.out⟩
  | some x =>
    rw [errW_some] at HE ⊢
    clear hE hT
    go_enter Tryz.func10, Tryz.ntmps10
    go_wp2_with (first | (go_at_call 16; refine HE.out.mono ?_; rintro e w1 ⟨rfl, hb⟩; have HB := Aside0.mk hb; clear hb))
    go_ret2
    exact ⟨rfl, HB.out⟩

set_option maxHeartbeats 2000000 in
set_option maxRecDepth 100000 in
theorem ref_sum (A : Option Addr) (c : Nat) (l : List ND) (r : Option Int) (hr : ∀ x, r = some x → (x == 0) = false) (s : ByteArray) (w : World) (hE : ∀ W : World, Below w.heap.size w W → Calls Tryz.prog 15 #[.slice A l.length c] W fun e w' => e = .returned (badV (codeOf r)) ∧ Below W.heap.size W w')
    (hT : r = none → ∀ W : World, Below w.heap.size w W → Calls Tryz.prog 27 #[.slice A l.length c, .int .i64 0] W fun e w' => e = .returned (.string s) ∧ Below W.heap.size W w') :
    Calls Tryz.prog 9 #[.slice A l.length c] w fun e w' => e = .returned (.tuple #[.string (textOf r s), badV (codeOf r)]) ∧ Below w.heap.size w w' := by
  have HE := Aside0.mk hE
  have HB := Aside0.mk ((Below.refl _ w).alloc (Nat.le_refl _) (.cells #[.int .i64 0, .int .i64 0, .int .i64 0, .bool false, .bool false] 30))
  have hbb := Aside0.mk (BadBox.new w)
  unfold badV at HE ⊢
  cases r with
  | none =>
    have HT := Aside0.mk (hT rfl)
    clear hE hT hr
    simp only [codeOf, Option.getD_none] at HE ⊢
    go_enter Tryz.func9, Tryz.ntmps9
    go_wp2_with (first | (go_at_call 15; refine (HE.out _ HB.out).mono ?_; rintro e w1 ⟨rfl, hb⟩; have HB1 := Aside0.mk (below_alloc (below_then HB.out HB.out.size hb) (.cells #[.int .i64 0, .int .i64 0, .int .i64 0, .bool false, .bool false] 30)); have hb1 := Aside0.mk ((hbb.out.below hb).below (below_alloc (Below.refl _ w1) (.cells #[.int .i64 0, .int .i64 0, .int .i64 0, .bool false, .bool false] 30))); clear hb) | (go_at_call 27; refine (HT.out _ HB1.out).mono ?_; rintro e w2 ⟨rfl, hb⟩; obtain ⟨s0, s1, s2, s3, s4, q0, q1, q2, q3, q4⟩ := (hb1.out.below hb).facts; have HB2 := Aside0.mk (below_then HB1.out HB1.out.size hb); clear hb))
    refine bodyPost_ret (v := .tuple #[.string s, .agg #[.int .i64 0, .int .i64 0, .int .i64 0, .bool false, .bool false]]) (by simp [results, Tryz.results9, go_sem, s0, s1, s2, s3, s4]) rfl ?_
    exact ⟨rfl, five HB2.out (Nat.le_refl _) _ _ _ _ _⟩
  | some x =>
    have hx := hr x rfl
    have hx2 : (x != 0) = true := by rw [bne, hx]; rfl
    clear hE hT hr
    simp only [codeOf, Option.getD_some] at HE ⊢
    go_enter Tryz.func9, Tryz.ntmps9
    go_wp2_with (first | (go_at_call 15; refine (HE.out _ HB.out).mono ?_; rintro e w1 ⟨rfl, hb⟩; have HB1 := Aside0.mk (below_alloc (below_then HB.out HB.out.size hb) (.cells #[.int .i64 x, .int .i64 0, .int .i64 0, .bool false, .bool false] 30)); have hb1 := Aside0.mk ((hbb.out.below hb).below (below_alloc (Below.refl _ w1) (.cells #[.int .i64 x, .int .i64 0, .int .i64 0, .bool false, .bool false] 30))); clear hb))
    obtain ⟨s0, s1, s2, s3, s4, q0, q1, q2, q3, q4⟩ := hb1.out.facts
    go_region
    all_goals go_wp2
    all_goals refine bodyPost_ret (v := .tuple #[.string ⟨#[]⟩, .agg #[.int .i64 x, .int .i64 0, .int .i64 0, .bool false, .bool false]]) (by simp [results, Tryz.results9, go_sem, s0, s1, s2, s3, s4]) rfl ?_
    all_goals first | exact ⟨rfl, five HB1.out (Nat.le_refl _) _ _ _ _ _⟩ | exact ⟨rfl, five (below_drew1 HB1.out) (Nat.le_refl _) _ _ _ _ _⟩

set_option maxHeartbeats 2000000 in
set_option maxRecDepth 100000 in
theorem ref_cond (A : Option Addr) (c : Nat) (l : List ND) (r : Option Int) (hr : ∀ x, r = some x → (x == 0) = false) (s : ByteArray) (w : World) (hE : ∀ W : World, Below w.heap.size w W → Calls Tryz.prog 17 #[.slice A l.length c] W fun e w' => e = .returned (badV (codeOf r)) ∧ Below W.heap.size W w')
    (hT : r = none → ∀ W : World, Below w.heap.size w W → Calls Tryz.prog 29 #[.slice A l.length c, .int .i64 0] W fun e w' => e = .returned (.string s) ∧ Below W.heap.size W w') :
    Calls Tryz.prog 11 #[.slice A l.length c] w fun e w' => e = .returned (.tuple #[.string (textOf r s), badV (codeOf r)]) ∧ Below w.heap.size w w' := by
  have HE := Aside0.mk hE
  have HB := Aside0.mk ((Below.refl _ w).alloc (Nat.le_refl _) (.cells #[.int .i64 0, .int .i64 0, .int .i64 0, .bool false, .bool false] 30))
  have hbb := Aside0.mk (BadBox.new w)
  unfold badV at HE ⊢
  cases r with
  | none =>
    have HT := Aside0.mk (hT rfl)
    clear hE hT hr
    simp only [codeOf, Option.getD_none] at HE ⊢
    go_enter Tryz.func11, Tryz.ntmps11
    go_wp2_with (first | (go_at_call 17; refine (HE.out _ HB.out).mono ?_; rintro e w1 ⟨rfl, hb⟩; have HB1 := Aside0.mk (below_alloc (below_then HB.out HB.out.size hb) (.cells #[.int .i64 0, .int .i64 0, .int .i64 0, .bool false, .bool false] 30)); have hb1 := Aside0.mk ((hbb.out.below hb).below (below_alloc (Below.refl _ w1) (.cells #[.int .i64 0, .int .i64 0, .int .i64 0, .bool false, .bool false] 30))); clear hb) | (go_at_call 29; refine (HT.out _ HB1.out).mono ?_; rintro e w2 ⟨rfl, hb⟩; obtain ⟨s0, s1, s2, s3, s4, q0, q1, q2, q3, q4⟩ := (hb1.out.below hb).facts; have HB2 := Aside0.mk (below_then HB1.out HB1.out.size hb); clear hb))
    refine bodyPost_ret (v := .tuple #[.string s, .agg #[.int .i64 0, .int .i64 0, .int .i64 0, .bool false, .bool false]]) (by simp [results, Tryz.results11, go_sem, s0, s1, s2, s3, s4]) rfl ?_
    exact ⟨rfl, five HB2.out (Nat.le_refl _) _ _ _ _ _⟩
  | some x =>
    have hx := hr x rfl
    have hx2 : (x != 0) = true := by rw [bne, hx]; rfl
    clear hE hT hr
    simp only [codeOf, Option.getD_some] at HE ⊢
    go_enter Tryz.func11, Tryz.ntmps11
    go_wp2_with (first | (go_at_call 17; refine (HE.out _ HB.out).mono ?_; rintro e w1 ⟨rfl, hb⟩; have HB1 := Aside0.mk (below_alloc (below_then HB.out HB.out.size hb) (.cells #[.int .i64 x, .int .i64 0, .int .i64 0, .bool false, .bool false] 30)); have hb1 := Aside0.mk ((hbb.out.below hb).below (below_alloc (Below.refl _ w1) (.cells #[.int .i64 x, .int .i64 0, .int .i64 0, .bool false, .bool false] 30))); clear hb))
    obtain ⟨s0, s1, s2, s3, s4, q0, q1, q2, q3, q4⟩ := hb1.out.facts
    go_region
    all_goals go_wp2
    all_goals refine bodyPost_ret (v := .tuple #[.string ⟨#[]⟩, .agg #[.int .i64 x, .int .i64 0, .int .i64 0, .bool false, .bool false]]) (by simp [results, Tryz.results11, go_sem, s0, s1, s2, s3, s4]) rfl ?_
    all_goals first | exact ⟨rfl, five HB1.out (Nat.le_refl _) _ _ _ _ _⟩ | exact ⟨rfl, five (below_drew1 HB1.out) (Nat.le_refl _) _ _ _ _ _⟩

set_option maxHeartbeats 1000000 in
set_option maxRecDepth 100000 in
theorem tree_cond (A : Option Addr) (c : Nat) (l : List ND) (b1 b2 : Bool) (w : World) (hI : Calls Tryz.prog 85 #[.slice A l.length c] w fun e w' => e = .returned (.bool b1) ∧ Below w.heap.size w w')
    (hC : b1 = true → ∀ W : World, Below w.heap.size w W → Calls Tryz.prog 93 #[.slice A l.length c, .int .i64 0] W fun e w' => e = .returned (.bool b2) ∧ Below W.heap.size W w') :
    Calls Tryz.prog 43 #[.slice A l.length c] w fun e w' => e = .returned (.bool (b1 && b2)) ∧ Below w.heap.size w w' := by
  have HI := Aside0.mk hI
  cases b1 with
  | false =>
    clear hI hC
    go_enter Tryz.func43, Tryz.ntmps43
    go_wp2_with (first | (go_at_call 85; refine HI.out.mono ?_; rintro e w1 ⟨rfl, hb⟩; have HB := Aside0.mk hb; clear hb))
    go_ret
    exact ⟨rfl, HB.out⟩
  | true =>
    have HC := Aside0.mk (hC rfl)
    clear hI hC
    go_enter Tryz.func43, Tryz.ntmps43
    go_wp2_with (first | (go_at_call 85; refine HI.out.mono ?_; rintro e w1 ⟨rfl, hb⟩; have HB := Aside0.mk hb; clear hb) | (go_at_call 93; refine (HC.out _ HB.out).mono ?_; rintro e w2 ⟨rfl, hb⟩; have HB2 := Aside0.mk (below_then HB.out HB.out.size hb); clear hb))
    go_ret
    exact ⟨rfl, HB2.out⟩
set_option maxHeartbeats 2000000 in
set_option maxRecDepth 100000 in
theorem ref_condE (A : Option Addr) (c : Nat) (l : List ND) (b : Bool) (d : Int) (w : World) (hI : ∀ W : World, Below w.heap.size w W → Calls Tryz.prog 43 #[.slice A l.length c] W fun e w' => e = .returned (.bool b) ∧ Below W.heap.size W w')
    (hD : ∀ W : World, Below w.heap.size w W → Calls Tryz.prog 40 #[.slice A l.length c] W fun e w' => e = .returned (.int .i64 d) ∧ Below W.heap.size W w') :
    Calls Tryz.prog 17 #[.slice A l.length c] w fun e w' => e = .returned (badV (if b then (if decide (d > 64) then 141 else 0) else 130)) ∧ Below w.heap.size w w' := by
  have HI := Aside0.mk hI
  have HD := Aside0.mk hD
  have HB := Aside0.mk ((Below.refl _ w).alloc (Nat.le_refl _) (.cells #[.int .i64 0, .int .i64 0, .int .i64 0, .bool false, .bool false] 30))
  have hbb := Aside0.mk (BadBox.new w)
  have HN := Aside0.mk (fun (x : Int) (W : World) => weirref01_New.calls x x 0 0 false false W rfl)
  clear hI hD
  unfold badV
  cases b with
  | false =>
    go_enter Tryz.func17, Tryz.ntmps17
    go_wp2_with (first | (go_at_call 43; refine (HI.out _ HB.out).mono ?_; rintro e w1 ⟨rfl, hb⟩; have HB1 := Aside0.mk (below_then HB.out HB.out.size hb); have hb1 := Aside0.mk (hbb.out.below hb); clear hb) | (go_at_call 39; refine (HN.out _ _).mono ?_; rintro e w2 ⟨rfl, hb⟩; obtain ⟨s0, s1, s2, s3, s4, q0, q1, q2, q3, q4⟩ := (hb1.out.below hb).facts; have HB2 := Aside0.mk (below_then HB1.out HB1.out.size hb); clear hb))
    refine bodyPost_ret (v := .agg #[.int .i64 130, .int .i64 0, .int .i64 0, .bool false, .bool false]) (by simp [results, Tryz.results17, go_sem, s0, s1, s2, s3, s4]) rfl ?_
    exact ⟨rfl, five HB2.out (Nat.le_refl _) _ _ _ _ _⟩
  | true =>
    cases hq : decide (d > 64) with
    | true =>
      go_enter Tryz.func17, Tryz.ntmps17
      go_wp2_with (first | (go_at_call 43; refine (HI.out _ HB.out).mono ?_; rintro e w1 ⟨rfl, hb⟩; have HB1 := Aside0.mk (below_then HB.out HB.out.size hb); have hb1 := Aside0.mk (hbb.out.below hb); clear hb) | (go_at_call 40; refine (HD.out _ HB1.out).mono ?_; rintro e w3 ⟨rfl, hb⟩; have HB3 := Aside0.mk (below_then HB1.out HB1.out.size hb); have hb3 := Aside0.mk (hb1.out.below hb); clear hb) | (go_at_call 39; refine (HN.out _ _).mono ?_; rintro e w2 ⟨rfl, hb⟩; obtain ⟨s0, s1, s2, s3, s4, q0, q1, q2, q3, q4⟩ := (hb3.out.below hb).facts; have HB2 := Aside0.mk (below_then HB3.out HB3.out.size hb); clear hb))
      refine bodyPost_ret (v := .agg #[.int .i64 141, .int .i64 0, .int .i64 0, .bool false, .bool false]) (by simp [results, Tryz.results17, go_sem, s0, s1, s2, s3, s4]) rfl ?_
      exact ⟨rfl, five HB2.out (Nat.le_refl _) _ _ _ _ _⟩
    | false =>
      go_enter Tryz.func17, Tryz.ntmps17
      go_wp2_with (first | (go_at_call 43; refine (HI.out _ HB.out).mono ?_; rintro e w1 ⟨rfl, hb⟩; have HB1 := Aside0.mk (below_then HB.out HB.out.size hb); have hb1 := Aside0.mk (hbb.out.below hb); clear hb) | (go_at_call 40; refine (HD.out _ HB1.out).mono ?_; rintro e w3 ⟨rfl, hb⟩; have HB3 := Aside0.mk (below_then HB1.out HB1.out.size hb); obtain ⟨s0, s1, s2, s3, s4, q0, q1, q2, q3, q4⟩ := (hb1.out.below hb).facts; clear hb))
      refine bodyPost_ret (v := .agg #[.int .i64 0, .int .i64 0, .int .i64 0, .bool false, .bool false]) (by simp [results, Tryz.results17, go_sem, s0, s1, s2, s3, s4]) rfl ?_
      exact ⟨rfl, five HB3.out (Nat.le_refl _) _ _ _ _ _⟩
/-- Which is the first node that is none, or has other kids than it must? -/
def badAt (so : Int → Int) (ft : Int → Bool) : Nat → Nat → Bool
  | 0, _ => false
  | n + 1, i => (so i == 0 || !ft i) || badAt so ft n (i + 1)
/-- What is wrong with a condition. -/
def condE (wh : Bool) (so : Int → Int) (ft : Int → Bool) (n : Nat) (dp : Option Int) : Option Int :=
  if wh && so 0 == 1 then (if badAt so ft n 0 then some 130 else dp) else some 130
set_option maxHeartbeats 4000000 in
set_option maxRecDepth 100000 in
theorem ast_condE (A : Option Addr) (c : Nat) (l : List ND) (hc : l.length ≤ c) (wh : Bool) (so : Int → Int) (ft : Int → Bool) (dp : Option Int) (w : World) (hr : Kd.C k56 w A l.length l) (hwl : wh = true → 0 < l.length)
    (hW : Calls Tryz.prog 34 #[.slice A l.length c] w fun e w' => e = .returned (.bool wh) ∧ Below w.heap.size w w')
    (hS : ∀ p : Int, 0 ≤ p → p < l.length → ∀ W : World, Below w.heap.size w W → Calls Tryz.prog 41 #[.agg #[.int .u8 (rd_T56 l p).f0, .int .u8 (rd_T56 l p).f1, .string (rd_T56 l p).f2, .int .i64 (rd_T56 l p).f3, .int .i64 (rd_T56 l p).f4, .int .i64 (rd_T56 l p).f5]] W fun e w' => e = .returned (.int .i64 (so p)) ∧ Below W.heap.size W w')
    (hF : ∀ p : Int, 0 ≤ p → p < l.length → ∀ W : World, Below w.heap.size w W → Calls Tryz.prog 42 #[.slice A l.length c, .int .i64 p] W fun e w' => e = .returned (.bool (ft p)) ∧ Below W.heap.size W w')
    (hD : ∀ W : World, Below w.heap.size w W → Calls Tryz.prog 37 #[.slice A l.length c] W fun e w' => e = .returned (errW dp) ∧ Below W.heap.size W w') :
    Calls Tryz.prog 16 #[.slice A l.length c] w fun e w' => e = .returned (errW (condE wh so ft l.length dp)) ∧ Below w.heap.size w w' := by
  have HWh := Aside0.mk hW
  have HS := Aside0.mk hS
  have HF := Aside0.mk hF
  have HD := Aside0.mk hD
  have hN := fun W => fault_New.calls 130 (some 130) W rfl
  simp only [errW_some] at hN
  have HN := Aside0.mk hN
  have HR := Aside0.mk hr
  clear hW hS hF hD hN hr
  cases wh with
  | false =>
    have e1 : condE false so ft l.length dp = some 130 := rfl
    rw [e1, errW_some]
    clear e1 hwl
    go_enter Tryz.func16, Tryz.ntmps16
    go_wp2_with (first | (go_at_call 34; refine HWh.out.mono ?_; rintro e w1 ⟨rfl, hb⟩; have HB := Aside0.mk hb; clear hb) | (go_at_call 36; refine (HN.out _).mono ?_; rintro e w2 ⟨rfl, hd⟩; have HB2 := Aside0.mk (below_then HB.out HB.out.size hd.below); clear hd))
    go_ret
    exact ⟨rfl, HB2.out⟩
  | true =>
    have hl0 := hwl rfl
    obtain ⟨n, hn⟩ : ∃ n, rd_T56 l 0 = n := ⟨_, rfl⟩
    obtain ⟨ad, hA, hx0, hx1, hx2, hx3, hx4, hx5⟩ := at_T56 HR.out 0 (by omega) (by omega)
    subst hA
    rw [hn] at hx0 hx1 hx2 hx3 hx4 hx5
    have hS0 := HS.out 0 (by omega) (by omega)
    rw [hn] at hS0
    have HS0 := Aside0.mk hS0
    have hm0 : (0 : Int) < (l.length : Int) := by omega
    have e0 : ad.add ((0 : Int).toNat * 6) = ad := CondT.add_zero ad
    rw [e0] at hx0 hx1 hx2 hx3 hx4 hx5
    have mv : ∀ {W : World} {a : Addr} {x : Value}, Below w.heap.size w W → w.cell? a = some x → W.cell? a = some x := fun hb hx => (hb.cell (Rep.lt_of_cell? hx)).trans hx
    have HM := Aside0.mk (fun (W : World) (hb : Below w.heap.size w W) => And.intro (mv hb hx0) (And.intro (mv hb hx1) (And.intro (mv hb hx2) (And.intro (mv hb hx3) (And.intro (mv hb hx4) (mv hb hx5))))))
    clear mv hS0 hn e0 hwl hx0 hx1 hx2 hx3 hx4 hx5
    cases q1 : (so 0 == 1) with
    | false =>
      have qn : (so 0 != 1) = true := by rw [bne, q1]; rfl
      have e1 : condE true so ft l.length dp = some 130 := by unfold condE; rw [q1]; rfl
      rw [e1, errW_some]
      clear e1
      go_enter Tryz.func16, Tryz.ntmps16
      go_wp2_with (first | (go_at_call 34; refine HWh.out.mono ?_; rintro e w1 ⟨rfl, hb⟩; have HB := Aside0.mk hb; obtain ⟨k0, k1, k2, k3, k4, k5⟩ := HM.out _ hb; clear hb) | (go_at_call 41; refine (HS0.out _ HB.out).mono ?_; rintro e w3 ⟨rfl, hb⟩; have HB3 := Aside0.mk (below_then HB.out HB.out.size hb); clear hb) | (go_at_call 36; refine (HN.out _).mono ?_; rintro e w2 ⟨rfl, hd⟩; have HB2 := Aside0.mk (below_then HB3.out HB3.out.size hd.below); clear hd))
      go_ret
      exact ⟨rfl, HB2.out⟩
    | true =>
      have qn : (so 0 != 1) = false := by rw [bne, q1]; rfl
      have e1 : condE true so ft l.length dp = if badAt so ft l.length 0 then some 130 else dp := by unfold condE; rw [q1]; rfl
      obtain ⟨R, hR⟩ : ∃ R, (if badAt so ft l.length 0 then some 130 else dp) = R := ⟨_, rfl⟩
      rw [e1, hR]
      have HRt := Aside0.mk (fun h : badAt so ft l.length 0 = true => show R = some 130 by rw [← hR, if_pos h])
      have HRf := Aside0.mk (fun h : badAt so ft l.length 0 = false => show R = dp by rw [← hR, h]; rfl)
      have HL0 := Aside0.mk hl0
      clear hR
      clear e1 q1 hl0
      go_enter Tryz.func16, Tryz.ntmps16
      go_wp2_with (first | (go_at_call 34; refine HWh.out.mono ?_; rintro e w1 ⟨rfl, hb⟩; have HB := Aside0.mk hb; obtain ⟨k0, k1, k2, k3, k4, k5⟩ := HM.out _ hb; clear hb) | (go_at_call 41; refine (HS0.out _ HB.out).mono ?_; rintro e w3 ⟨rfl, hb⟩; have HB3 := Aside0.mk (below_then HB.out HB.out.size hb); clear k0 k1 k2 k3 k4 k5 hb))
      go_loopw [2, 3, 4, 18] (fun _ _ _ i W => ∃ k : Nat, k ≤ l.length ∧ i = .int .i64 k ∧ Aside0 (badAt so ft (l.length - k) k = badAt so ft l.length 0) ∧ Aside0 (Below w.heap.size w W)) (fun _ _ _ i _ => l.length - (intOf i).toNat)
      case atStart => exact ⟨0, Nat.zero_le _, rfl, ⟨rfl⟩, HB3⟩
      case round =>
        clear HB HB3
        obtain ⟨k, hk, rfl, HA, HB⟩ := hrel
        have hmax := Kd.C_max HR.out
        by_cases hlt : k < l.length
        · obtain ⟨m, hm⟩ : ∃ m, rd_T56 l (k : Int) = m := ⟨_, rfl⟩
          obtain ⟨ad2, hA2, hx0, hx1, hx2, hx3, hx4, hx5⟩ := at_T56 (Kd.C_below HR.out HB.out) (k : Int) (by omega) (by omega)
          obtain rfl := Option.some.inj hA2
          rw [hm, Int.toNat_natCast] at hx0 hx1 hx2 hx3 hx4 hx5
          have hS0 := HS.out (k : Int) (by omega) (by omega)
          rw [hm] at hS0
          have HSk := Aside0.mk hS0
          have HFk := Aside0.mk (HF.out (k : Int) (by omega) (by omega))
          obtain ⟨d, hd⟩ : ∃ d, l.length - k = d + 1 := ⟨l.length - k - 1, by omega⟩
          have ha := HA.out
          rw [hd, badAt] at ha
          have hk0 : (0 : Int) ≤ (k : Int) := by omega
          have hk1 : (k : Int) < (l.length : Int) := by omega
          obtain ⟨sk, hsk⟩ : ∃ sk, so (k : Int) = sk := ⟨_, rfl⟩
          obtain ⟨fk, hfk⟩ : ∃ fk, ft (k : Int) = fk := ⟨_, rfl⟩
          rw [hsk] at ha HSk
          rw [hfk] at ha HFk
          have HD0 := Aside0.mk hd
          clear hA2 hm hS0 hsk hfk hd HA
          cases q0 : (sk == 0) with
          | true =>
            rw [q0, Bool.true_or, Bool.true_or] at ha
            have HAf := Aside0.mk ha
            clear ha
            go_wp2_with (first | (go_at_call 41; refine (HSk.out _ (by have h1 := HB.out; repeat (first | exact h1 | apply below_alloc | (refine Below.setCell ?_ h1.size _)))).mono ?_; rintro e w5 ⟨rfl, hb⟩; have HB5 : Aside0 (Below w.heap.size w w5) := ⟨below_then (by have h1 := HB.out; repeat (first | exact h1 | apply below_alloc | (refine Below.setCell ?_ h1.size _))) (Below.size (by have h1 := HB.out; repeat (first | exact h1 | apply below_alloc | (refine Below.setCell ?_ h1.size _)))) hb⟩; clear hb) | (go_at_call 36; refine (HN.out _).mono ?_; rintro e w2 ⟨rfl, hd⟩; have HB2 := Aside0.mk (below_then HB5.out HB5.out.size hd.below); clear hd))
            go_ret
            exact ⟨by rw [HRt.out HAf.out.symm, errW_some]; rfl, HB2.out⟩
          | false =>
            rw [q0, Bool.false_or] at ha
            cases fk with
            | false =>
              rw [Bool.not_false, Bool.true_or] at ha
              have HAf := Aside0.mk ha
              clear ha
              go_wp2_with (first | (go_at_call 41; refine (HSk.out _ (by have h1 := HB.out; repeat (first | exact h1 | apply below_alloc | (refine Below.setCell ?_ h1.size _)))).mono ?_; rintro e w5 ⟨rfl, hb⟩; have HB5 : Aside0 (Below w.heap.size w w5) := ⟨below_then (by have h1 := HB.out; repeat (first | exact h1 | apply below_alloc | (refine Below.setCell ?_ h1.size _))) (Below.size (by have h1 := HB.out; repeat (first | exact h1 | apply below_alloc | (refine Below.setCell ?_ h1.size _)))) hb⟩; clear hb) | (go_at_call 42; refine (HFk.out _ HB5.out).mono ?_; rintro e w6 ⟨rfl, hb⟩; have HB6 := Aside0.mk (below_then HB5.out HB5.out.size hb); clear hb) | (go_at_call 36; refine (HN.out _).mono ?_; rintro e w2 ⟨rfl, hd⟩; have HB2 := Aside0.mk (below_then HB6.out HB6.out.size hd.below); clear hd))
              go_ret
              exact ⟨by rw [HRt.out HAf.out.symm, errW_some]; rfl, HB2.out⟩
            | true =>
              rw [Bool.not_true, Bool.false_or] at ha
              have HAf := Aside0.mk ha
              clear ha
              go_wp2_with (first | (go_at_call 41; refine (HSk.out _ (by have h1 := HB.out; repeat (first | exact h1 | apply below_alloc | (refine Below.setCell ?_ h1.size _)))).mono ?_; rintro e w5 ⟨rfl, hb⟩; have HB5 : Aside0 (Below w.heap.size w w5) := ⟨below_then (by have h1 := HB.out; repeat (first | exact h1 | apply below_alloc | (refine Below.setCell ?_ h1.size _))) (Below.size (by have h1 := HB.out; repeat (first | exact h1 | apply below_alloc | (refine Below.setCell ?_ h1.size _)))) hb⟩; clear hb) | (go_at_call 42; refine (HFk.out _ HB5.out).mono ?_; rintro e w6 ⟨rfl, hb⟩; have HB6 := Aside0.mk (below_then HB5.out HB5.out.size hb); clear hb))
              go_roundw
              case rel => exact ⟨k + 1, by omega, by go_num, ⟨by rw [← HAf.out, show l.length - (k + 1) = d by have := HD0.out; omega]⟩, HB6⟩
              case measure => simp [intOf]; omega
        · obtain rfl : k = l.length := by omega
          have ha := HA.out
          rw [Nat.sub_self] at ha
          have HAf := Aside0.mk (show badAt so ft l.length 0 = false from ha.symm)
          clear ha HA
          go_wp2_with (first | (go_at_call 37; refine (HD.out _ HB.out).mono ?_; rintro e w5 ⟨rfl, hb⟩))
          go_ret
          exact ⟨by rw [HRf.out HAf.out]; rfl, below_then HB.out HB.out.size hb⟩
end Go.Proofs.YtlbjfomcgbiagaaGreatDoor.Conds
