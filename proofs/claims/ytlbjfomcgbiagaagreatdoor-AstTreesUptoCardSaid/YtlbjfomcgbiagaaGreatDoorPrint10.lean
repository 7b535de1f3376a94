-- Made by wip/mkprint.sh of this repo over the kit's print.
import Derived.Test.YtlbjfomcgbiagaaGreatDoorPrint0
import Derived.Test.YtlbjfomcgbiagaaGreatDoorPrint1
import Derived.Test.YtlbjfomcgbiagaaGreatDoorPrint7
import Derived.Test.YtlbjfomcgbiagaaGreatDoorPrint9
namespace Go.Proofs.YtlbjfomcgbiagaaGreatDoor.Print
open Go.RowKit Go.Proofs.YtlbjfomcgbiagaaGreatDoorW.PrintWords Go.Proofs.YtlbjfomcgbiagaaGreatDoorW.PrintLast Go.Proofs Go.Proofs.YtlbjfomcgbiagaaGreatDoor Go.Proofs.YtlbjfomcgbiagaaGreatDoor.Base Go.Proofs.YtlbjfomcgbiagaaGreatDoorW.PrintMore
attribute [local go_sem] gtr_text max2_int min2_int max_two min_two max_three min_three max_four min_four   -- for this text's walks alone
set_option linter.unusedVariables false
set_option linter.unusedSimpArgs false

/-! ### weirtree_sum: function 84 (its contract typed by hand) -/
section
attribute [local go_sem high] eqA56
def weirtree_sum.r3.T : Bool × List (List Nat × List Nat) := (true, [([], []), ([0], [0]), ([1], [1]), ([2], [2]), ([3], [3]), ([4, 3], [3, 4]), ([5, 3], [3, 5]), ([3, 6], [3, 6]), ([7, 3], [7]), ([8], [8]), ([9, 8, 8], [8, 9]), ([8], [8]), ([11, 8], [8, 11]), ([12, 8], [8, 12]), ([10, 13, 8], [8, 10, 13]), ([8, 14], [8, 14]), ([15, 10, 0, 1, 2, 3, 4, 5, 6, 7, 8, 9, 10, 11, 12, 13, 14, 15], [15])])
def weirtree_sum.r3.B : List Nat := [0, 1, 3, 7, 15, 31, 63, 127, 255, 511, 1023, 511, 2559, 6655, 16383, 32767, 65535]
theorem weirtree_sum.r3.tab : rtab .any (opsOf Tryz.f84 3) = weirtree_sum.r3.T := by kernel_rfl
theorem weirtree_sum.r3.bits : waitsOk weirtree_sum.r3.T.2 weirtree_sum.r3.B = true := by kernel_rfl
def weirtree_sum.r5.T : Bool × List (List Nat × List Nat) := (true, [([], []), ([0], [0]), ([1], [1]), ([2], [2]), ([3], [3]), ([4, 3], [3, 4]), ([5, 3], [3, 5]), ([3, 6], [3, 6]), ([7, 3], [7]), ([8], [8]), ([9, 8], [8, 9]), ([10, 8], [8, 10]), ([8, 11], [8, 11]), ([12, 8], [12]), ([13], [13]), ([14, 13], [13, 14]), ([15, 13, 13], [13, 15]), ([13, 16], [13, 16]), ([17, 16], [17]), ([18], [18]), ([19, 18, 18], [18, 19]), ([18], [18]), ([21, 18], [18, 21]), ([18], [18]), ([23, 18], [18, 23]), ([22, 24, 18], [18, 22, 24]), ([20, 25, 18], [18, 20, 25]), ([18, 26], [18, 26]), ([27, 20, 0, 1, 2, 3, 4, 5, 6, 7, 8, 9, 10, 11, 12, 13, 14, 15, 16, 17, 18, 19, 20, 21, 22, 23, 24, 25, 26, 27], [27])])
def weirtree_sum.r5.B : List Nat := [0, 1, 3, 7, 15, 31, 63, 127, 255, 511, 1023, 2047, 4095, 8191, 16383, 32767, 65535, 131071, 262143, 524287, 1048575, 524287, 2621439, 524287, 8912895, 31981567, 67108863, 134217727, 268435455]
theorem weirtree_sum.r5.tab : rtab .any (opsOf Tryz.f84 5) = weirtree_sum.r5.T := by kernel_rfl
theorem weirtree_sum.r5.bits : waitsOk weirtree_sum.r5.T.2 weirtree_sum.r5.B = true := by kernel_rfl
def weirtree_sum.r7.T : Bool × List (List Nat × List Nat) := (true, [([], []), ([0], [0]), ([1], [1]), ([2], [2]), ([3], [3]), ([4, 3, 3], [3, 4]), ([3], [3]), ([6, 3], [3, 6]), ([7, 3], [3, 7]), ([5, 8, 3], [3, 5, 8]), ([3, 9], [3, 9]), ([10, 5, 0, 1, 2, 3, 4, 5, 6, 7, 8, 9, 10], [10])])
def weirtree_sum.r7.B : List Nat := [0, 1, 3, 7, 15, 31, 15, 79, 207, 511, 1023, 2047]
theorem weirtree_sum.r7.tab : rtab .any (opsOf Tryz.f84 7) = weirtree_sum.r7.T := by kernel_rfl
theorem weirtree_sum.r7.bits : waitsOk weirtree_sum.r7.T.2 weirtree_sum.r7.B = true := by kernel_rfl
def weirtree_sum.r13.T : Bool × List (List Nat × List Nat) := (true, [([], []), ([0], [0]), ([1], [1]), ([2], [2]), ([3], [3]), ([4, 3, 3], [3, 4]), ([3], [3]), ([6, 3], [3, 6]), ([7, 3], [3, 7]), ([5, 8, 3], [3, 5, 8]), ([3, 9], [3, 9]), ([10, 5, 0, 1, 2, 3, 4, 5, 6, 7, 8, 9, 10], [10])])
def weirtree_sum.r13.B : List Nat := [0, 1, 3, 7, 15, 31, 15, 79, 207, 511, 1023, 2047]
theorem weirtree_sum.r13.tab : rtab .any (opsOf Tryz.f84 13) = weirtree_sum.r13.T := by kernel_rfl
theorem weirtree_sum.r13.bits : waitsOk weirtree_sum.r13.T.2 weirtree_sum.r13.B = true := by kernel_rfl
set_option maxRecDepth 100000 in
set_option maxHeartbeats 8000000 in
theorem weirtree_sum.at1 (a1 : Int) (a2 : ByteArray) (a3 a4 a5 b0 b1 : Int) (b2 : ByteArray) (b3 b4 b5 : Int) (c1 c2 c3 : Bool) (w : World) (HB : ∀ W : World, Calls Tryz.prog 116 #[.agg #[.int .u8 1, .int .u8 a1, .string a2, .int .i64 a3, .int .i64 a4, .int .i64 a5]] W fun e w' => e = .returned (.agg #[.int .u8 b0, .int .u8 b1, .string b2, .int .i64 b3, .int .i64 b4, .int .i64 b5]) ∧ Below W.heap.size W w') (h1 : (b0 == 1 && (b1 == 0 && (b2.toList.isEmpty && (b3 == a3 && (b4 == 0 && b5 == 0))))) = c1) (h1b : (b0 == 1 && (b1 == 0 && (b2.toList == ([] : List UInt8) && (b3 == a3 && (b4 == 0 && b5 == 0))))) = c1) (h2 : (a4 == 0) = c2) (h3 : decide (a3 ≥ (-9223372036854775807)) = c3) (h3b : decide ((-9223372036854775807) ≤ a3) = c3) :
    Calls Tryz.prog 84 #[.agg #[.int .u8 1, .int .u8 a1, .string a2, .int .i64 a3, .int .i64 a4, .int .i64 a5]] w fun e w' => e = .returned (.bool (c2 && c3 && c1)) ∧ Below w.heap.size w w' := by
  have hu := Tryz.underlying56
  have hu2 := Tryz.underlying25
  replace HB := Aside0.mk HB
  go_enter Tryz.func84, Tryz.ntmps84
  go_wp2_with (first | ((with_reducible refine gate_dst (N := 1) rfl ?_); refine box_event ?hg (N := 1) ?hd (cs := #[.int .u8 1, .int .u8 a1, .string a2, .int .i64 a3, .int .i64 a4, .int .i64 a5]) (t := 56) ?hr ?_; (case hd => rfl); (case hg => rfl); (case hr => first | (go_simp; done) | (go_simp; rfl)); intro gb hg w6 hbox hb; (clear hg); have HX := Aside0.mk (box7 hb hbox); obtain ⟨_, z0, z1, z2, z3, z4, z5⟩ := box6 hb hbox; have HZ := Aside0.mk hb; (clear hb hbox)))
  refine start_ (n := 17) (S := fun W => Below w.heap.size w W ∧ W.cell? ⟨gb, 0, none⟩ = some (.int .u8 1) ∧ W.cell? ⟨gb, 1, none⟩ = some (.int .u8 a1) ∧ W.cell? ⟨gb, 2, none⟩ = some (.string a2) ∧ W.cell? ⟨gb, 3, none⟩ = some (.int .i64 a3) ∧ W.cell? ⟨gb, 4, none⟩ = some (.int .i64 a4) ∧ W.cell? ⟨gb, 5, none⟩ = some (.int .i64 a5)) (ds := []) #[false, false, false, false, false, false, false, false, false, false, false, false, false, false, false, false, false] (by kernel_rfl) rfl rfl HX.out (fun hHeld => ?_)
  refine with_tabW weirtree_sum.r3.tab weirtree_sum.r3.bits (fun HT_ HW_ => ?_)
  refine pP 0 7 ?_
  refine pT 1 8 ?_
  refine pP 2 9 ?_
  refine pP 3 10 ?_
  cases c2
  · refine pU 4 11 ?_
    refine pU 5 12 ?_
    refine pU 6 13 ?_
    refine pP 7 14 ?_
    refine pP 8 15 ?_
    refine pU 9 16 ?_
    refine pU 10 17 ?_
    refine pU 11 18 ?_
    refine pU 12 19 ?_
    refine pU 13 20 ?_
    refine pU 14 21 ?_
    refine pP 15 22 ?_
    refine pP 16 2 ?_
    refine done_ (done_of HT_.out (by kernel_rfl)) ?_
    go_wp2
    go_ret
    exact ⟨by first | rfl | (simp; done), hHeld.1⟩
  · refine pP 4 11 ?_
    refine pT 5 12 ?_
    refine pP 6 13 ?_
    refine pP 7 14 ?_
    refine pP 8 15 ?_
    cases c3
    · refine pU 9 16 ?_
      refine pU 10 17 ?_
      refine pU 11 18 ?_
      refine pU 12 19 ?_
      refine pU 13 20 ?_
      refine pU 14 21 ?_
      refine pP 15 22 ?_
      refine pP 16 2 ?_
      refine done_ (done_of HT_.out (by kernel_rfl)) ?_
      go_wp2
      go_ret
      exact ⟨by first | rfl | (simp; done), hHeld.1⟩
    · refine pT 9 16 ?_
      refine pP 11 18 ?_
      refine pT 12 19 ?_
      refine pP 13 20 ?_
      refine pO 10 17 (fun K hK => ?_)
      refine goes_ Tryz.func116 (by kernel_rfl) rfl #[.agg #[.int .u8 1, .int .u8 a1, .string a2, .int .i64 a3, .int .i64 a4, .int .i64 a5]] (by rfl) rfl rfl (by first | rfl | (simp only [q4, q5, q6]; rfl)) ?_
      refine (HB.out _).mono ?_
      rintro e w5 ⟨rfl, hb⟩
      refine ⟨_, rfl, ?_⟩
      refine hK.out _ _ (keep7 hHeld hb) (fun hHeld => ?_)
      clear hK K
      refine norm_ (a' := ?_) ?_ ?_
      rotate_left
      · show Act.put _ (some 17) _ = _
        simp only [Act.put, q1, q2, q3, i64_w, i32_w]
        rfl
      refine pP 14 21 ?_
      refine pP 15 22 ?_
      refine pP 16 2 ?_
      refine done_ (done_of HT_.out (by kernel_rfl)) ?_
      go_wp2
      go_ret
      exact ⟨by first | rfl | (simp; done), hHeld.1⟩
set_option maxRecDepth 100000 in
set_option maxHeartbeats 8000000 in
theorem weirtree_sum.at2 (a1 : Int) (a2 : ByteArray) (a3 a4 a5 b0 b1 : Int) (b2 : ByteArray) (b3 b4 b5 : Int) (c1 c2 c3 c4 c9 : Bool) (w : World) (HB : ∀ W : World, Calls Tryz.prog 116 #[.agg #[.int .u8 2, .int .u8 a1, .string a2, .int .i64 a3, .int .i64 a4, .int .i64 a5]] W fun e w' => e = .returned (.agg #[.int .u8 b0, .int .u8 b1, .string b2, .int .i64 b3, .int .i64 b4, .int .i64 b5]) ∧ Below W.heap.size W w') (HW : ∀ W : World, Below w.heap.size w W → Calls Tryz.prog 54 #[.string a2] W fun e w' => e = .returned (.bool c9) ∧ Below W.heap.size W w') (h1 : (b0 == 2 && (b1 == a1 && (b2.toList == a2.toList && (b3 == 0 && (b4 == 0 && b5 == 0))))) = c1)  (h2 : (a4 == 0) = c2) (h3 : decide (a1 ≥ 1) = c3) (h3b : decide (1 ≤ a1) = c3) (h4 : decide (a1 ≤ 8) = c4) :
    Calls Tryz.prog 84 #[.agg #[.int .u8 2, .int .u8 a1, .string a2, .int .i64 a3, .int .i64 a4, .int .i64 a5]] w fun e w' => e = .returned (.bool (c2 && c3 && c4 && c9 && c1)) ∧ Below w.heap.size w w' := by
  have hu := Tryz.underlying56
  have hu2 := Tryz.underlying25
  replace HB := Aside0.mk HB
  replace HW := Aside0.mk HW
  go_enter Tryz.func84, Tryz.ntmps84
  go_wp2_with (first | ((with_reducible refine gate_dst (N := 1) rfl ?_); refine box_event ?hg (N := 1) ?hd (cs := #[.int .u8 2, .int .u8 a1, .string a2, .int .i64 a3, .int .i64 a4, .int .i64 a5]) (t := 56) ?hr ?_; (case hd => rfl); (case hg => rfl); (case hr => first | (go_simp; done) | (go_simp; rfl)); intro gb hg w6 hbox hb; (clear hg); have HX := Aside0.mk (box7 hb hbox); obtain ⟨_, z0, z1, z2, z3, z4, z5⟩ := box6 hb hbox; have HZ := Aside0.mk hb; (clear hb hbox)))
  refine start_ (n := 29) (S := fun W => Below w.heap.size w W ∧ W.cell? ⟨gb, 0, none⟩ = some (.int .u8 2) ∧ W.cell? ⟨gb, 1, none⟩ = some (.int .u8 a1) ∧ W.cell? ⟨gb, 2, none⟩ = some (.string a2) ∧ W.cell? ⟨gb, 3, none⟩ = some (.int .i64 a3) ∧ W.cell? ⟨gb, 4, none⟩ = some (.int .i64 a4) ∧ W.cell? ⟨gb, 5, none⟩ = some (.int .i64 a5)) (ds := []) #[false, false, false, false, false, false, false, false, false, false, false, false, false, false, false, false, false, false, false, false, false, false, false, false, false, false, false, false, false] (by kernel_rfl) rfl rfl HX.out (fun hHeld => ?_)
  refine with_tabW weirtree_sum.r5.tab weirtree_sum.r5.bits (fun HT_ HW_ => ?_)
  refine pP 0 25 ?_
  refine pT 1 26 ?_
  refine pP 2 27 ?_
  refine pP 3 28 ?_
  cases c2
  · refine pU 4 29 ?_
    refine pU 5 30 ?_
    refine pU 6 31 ?_
    refine pP 7 32 ?_
    refine pP 8 33 ?_
    refine pU 9 34 ?_
    refine pU 10 35 ?_
    refine pU 11 36 ?_
    refine pP 12 37 ?_
    refine pP 13 38 ?_
    refine pU 14 39 ?_
    refine pU 15 40 ?_
    refine pU 16 41 ?_
    refine pP 17 42 ?_
    refine pP 18 43 ?_
    refine pU 19 44 ?_
    refine pU 20 45 ?_
    refine pU 21 46 ?_
    refine pU 22 47 ?_
    refine pU 23 48 ?_
    refine pU 24 49 ?_
    refine pU 25 50 ?_
    refine pU 26 51 ?_
    refine pP 27 52 ?_
    refine pP 28 2 ?_
    refine done_ (done_of HT_.out (by kernel_rfl)) ?_
    go_wp2
    go_ret
    exact ⟨by first | rfl | (simp; done), hHeld.1⟩
  · refine pP 4 29 ?_
    refine pT 5 30 ?_
    refine pP 6 31 ?_
    refine pP 7 32 ?_
    refine pP 8 33 ?_
    cases c3
    · refine pU 9 34 ?_
      refine pU 10 35 ?_
      refine pU 11 36 ?_
      refine pP 12 37 ?_
      refine pP 13 38 ?_
      refine pU 14 39 ?_
      refine pU 15 40 ?_
      refine pU 16 41 ?_
      refine pP 17 42 ?_
      refine pP 18 43 ?_
      refine pU 19 44 ?_
      refine pU 20 45 ?_
      refine pU 21 46 ?_
      refine pU 22 47 ?_
      refine pU 23 48 ?_
      refine pU 24 49 ?_
      refine pU 25 50 ?_
      refine pU 26 51 ?_
      refine pP 27 52 ?_
      refine pP 28 2 ?_
      refine done_ (done_of HT_.out (by kernel_rfl)) ?_
      go_wp2
      go_ret
      exact ⟨by first | rfl | (simp; done), hHeld.1⟩
    · refine pP 9 34 ?_
      refine pT 10 35 ?_
      refine pP 11 36 ?_
      refine pP 12 37 ?_
      refine pP 13 38 ?_
      cases c4
      · refine pU 14 39 ?_
        refine pU 15 40 ?_
        refine pU 16 41 ?_
        refine pP 17 42 ?_
        refine pP 18 43 ?_
        refine pU 19 44 ?_
        refine pU 20 45 ?_
        refine pU 21 46 ?_
        refine pU 22 47 ?_
        refine pU 23 48 ?_
        refine pU 24 49 ?_
        refine pU 25 50 ?_
        refine pU 26 51 ?_
        refine pP 27 52 ?_
        refine pP 28 2 ?_
        refine done_ (done_of HT_.out (by kernel_rfl)) ?_
        go_wp2
        go_ret
        exact ⟨by first | rfl | (simp; done), hHeld.1⟩
      · refine pP 14 39 ?_
        refine pT 15 40 ?_
        refine pO 16 41 (fun K hK => ?_)
        refine goes_ Tryz.func54 (by kernel_rfl) rfl #[.string a2] (by rfl) rfl rfl (by first | rfl | (simp only [q4, q5, q6]; rfl)) ?_
        refine (HW.out _ hHeld.1).mono ?_
        rintro e w6 ⟨rfl, hb⟩
        refine ⟨_, rfl, ?_⟩
        refine hK.out _ _ (keep7 hHeld hb) (fun hHeld => ?_)
        clear hK K
        refine norm_ (a' := ?_) ?_ ?_
        rotate_left
        · show Act.put _ (some 41) _ = _
          simp only [Act.put, q1, q2, q3, i64_w, i32_w]
          rfl
        refine pP 17 42 ?_
        refine pP 18 43 ?_
        cases c9
        · refine pU 19 44 ?_
          refine pU 20 45 ?_
          refine pU 21 46 ?_
          refine pU 22 47 ?_
          refine pU 23 48 ?_
          refine pU 24 49 ?_
          refine pU 25 50 ?_
          refine pU 26 51 ?_
          refine pP 27 52 ?_
          refine pP 28 2 ?_
          refine done_ (done_of HT_.out (by kernel_rfl)) ?_
          go_wp2
          go_ret
          exact ⟨by first | rfl | (simp; done), hHeld.1⟩
        · refine pT 19 44 ?_
          refine pP 21 46 ?_
          refine pT 22 47 ?_
          refine pP 23 48 ?_
          refine pT 24 49 ?_
          refine pP 25 50 ?_
          refine pO 20 45 (fun K hK => ?_)
          refine goes_ Tryz.func116 (by kernel_rfl) rfl #[.agg #[.int .u8 2, .int .u8 a1, .string a2, .int .i64 a3, .int .i64 a4, .int .i64 a5]] (by rfl) rfl rfl (by first | rfl | (simp only [q4, q5, q6]; rfl)) ?_
          refine (HB.out _).mono ?_
          rintro e w5 ⟨rfl, hb⟩
          refine ⟨_, rfl, ?_⟩
          refine hK.out _ _ (keep7 hHeld hb) (fun hHeld => ?_)
          clear hK K
          refine norm_ (a' := ?_) ?_ ?_
          rotate_left
          · show Act.put _ (some 45) _ = _
            simp only [Act.put, q1, q2, q3, i64_w, i32_w]
            rfl
          refine pP 26 51 ?_
          refine pP 27 52 ?_
          refine pP 28 2 ?_
          refine done_ (done_of HT_.out (by kernel_rfl)) ?_
          go_wp2
          go_ret
          exact ⟨by first | rfl | (simp; done), hHeld.1⟩
set_option maxRecDepth 100000 in
set_option maxHeartbeats 8000000 in
theorem weirtree_sum.at3 (a1 : Int) (a2 : ByteArray) (a3 a4 a5 b0 b1 : Int) (b2 : ByteArray) (b3 b4 b5 : Int) (c1 c2 : Bool) (w : World) (HB : ∀ W : World, Calls Tryz.prog 116 #[.agg #[.int .u8 3, .int .u8 a1, .string a2, .int .i64 a3, .int .i64 a4, .int .i64 a5]] W fun e w' => e = .returned (.agg #[.int .u8 b0, .int .u8 b1, .string b2, .int .i64 b3, .int .i64 b4, .int .i64 b5]) ∧ Below W.heap.size W w') (h1 : (b0 == 3 && (b1 == 0 && (b2.toList.isEmpty && (b3 == 0 && (b4 == 0 && b5 == 0))))) = c1) (h1b : (b0 == 3 && (b1 == 0 && (b2.toList == ([] : List UInt8) && (b3 == 0 && (b4 == 0 && b5 == 0))))) = c1) (h2 : (a4 == 1) = c2) :
    Calls Tryz.prog 84 #[.agg #[.int .u8 3, .int .u8 a1, .string a2, .int .i64 a3, .int .i64 a4, .int .i64 a5]] w fun e w' => e = .returned (.bool (c2 && c1)) ∧ Below w.heap.size w w' := by
  have hu := Tryz.underlying56
  have hu2 := Tryz.underlying25
  replace HB := Aside0.mk HB
  go_enter Tryz.func84, Tryz.ntmps84
  go_wp2_with (first | ((with_reducible refine gate_dst (N := 1) rfl ?_); refine box_event ?hg (N := 1) ?hd (cs := #[.int .u8 3, .int .u8 a1, .string a2, .int .i64 a3, .int .i64 a4, .int .i64 a5]) (t := 56) ?hr ?_; (case hd => rfl); (case hg => rfl); (case hr => first | (go_simp; done) | (go_simp; rfl)); intro gb hg w6 hbox hb; (clear hg); have HX := Aside0.mk (box7 hb hbox); obtain ⟨_, z0, z1, z2, z3, z4, z5⟩ := box6 hb hbox; have HZ := Aside0.mk hb; (clear hb hbox)))
  refine start_ (n := 12) (S := fun W => Below w.heap.size w W ∧ W.cell? ⟨gb, 0, none⟩ = some (.int .u8 3) ∧ W.cell? ⟨gb, 1, none⟩ = some (.int .u8 a1) ∧ W.cell? ⟨gb, 2, none⟩ = some (.string a2) ∧ W.cell? ⟨gb, 3, none⟩ = some (.int .i64 a3) ∧ W.cell? ⟨gb, 4, none⟩ = some (.int .i64 a4) ∧ W.cell? ⟨gb, 5, none⟩ = some (.int .i64 a5)) (ds := []) #[false, false, false, false, false, false, false, false, false, false, false, false] (by kernel_rfl) rfl rfl HX.out (fun hHeld => ?_)
  refine with_tabW weirtree_sum.r7.tab weirtree_sum.r7.bits (fun HT_ HW_ => ?_)
  refine pP 0 55 ?_
  refine pT 1 56 ?_
  refine pP 2 57 ?_
  refine pP 3 58 ?_
  cases c2
  · refine pU 4 59 ?_
    refine pU 5 60 ?_
    refine pU 6 61 ?_
    refine pU 7 62 ?_
    refine pU 8 63 ?_
    refine pU 9 64 ?_
    refine pP 10 65 ?_
    refine pP 11 2 ?_
    refine done_ (done_of HT_.out (by kernel_rfl)) ?_
    go_wp2
    go_ret
    exact ⟨by first | rfl | (simp; done), hHeld.1⟩
  · refine pT 4 59 ?_
    refine pP 6 61 ?_
    refine pT 7 62 ?_
    refine pP 8 63 ?_
    refine pO 5 60 (fun K hK => ?_)
    refine goes_ Tryz.func116 (by kernel_rfl) rfl #[.agg #[.int .u8 3, .int .u8 a1, .string a2, .int .i64 a3, .int .i64 a4, .int .i64 a5]] (by rfl) rfl rfl (by first | rfl | (simp only [q4, q5, q6]; rfl)) ?_
    refine (HB.out _).mono ?_
    rintro e w5 ⟨rfl, hb⟩
    refine ⟨_, rfl, ?_⟩
    refine hK.out _ _ (keep7 hHeld hb) (fun hHeld => ?_)
    clear hK K
    refine norm_ (a' := ?_) ?_ ?_
    rotate_left
    · show Act.put _ (some 60) _ = _
      simp only [Act.put, q1, q2, q3, i64_w, i32_w]
      rfl
    refine pP 9 64 ?_
    refine pP 10 65 ?_
    refine pP 11 2 ?_
    refine done_ (done_of HT_.out (by kernel_rfl)) ?_
    go_wp2
    go_ret
    exact ⟨by first | rfl | (simp; done), hHeld.1⟩
set_option maxRecDepth 100000 in
set_option maxHeartbeats 8000000 in
theorem weirtree_sum.at4 (a0 : Int) (a1 : Int) (a2 : ByteArray) (a3 a4 a5 b0 b1 : Int) (b2 : ByteArray) (b3 b4 b5 : Int) (c1 c2 : Bool) (w : World) (h0 : a0 = 4 ∨ a0 = 5 ∨ a0 = 6 ∨ a0 = 7 ∨ a0 = 8) (HB : ∀ W : World, Calls Tryz.prog 116 #[.agg #[.int .u8 a0, .int .u8 a1, .string a2, .int .i64 a3, .int .i64 a4, .int .i64 a5]] W fun e w' => e = .returned (.agg #[.int .u8 b0, .int .u8 b1, .string b2, .int .i64 b3, .int .i64 b4, .int .i64 b5]) ∧ Below W.heap.size W w') (h1 : (b0 == a0 && (b1 == 0 && (b2.toList.isEmpty && (b3 == 0 && (b4 == 0 && b5 == 0))))) = c1) (h1b : (b0 == a0 && (b1 == 0 && (b2.toList == ([] : List UInt8) && (b3 == 0 && (b4 == 0 && b5 == 0))))) = c1) (h2 : (a4 == 2) = c2) :
    Calls Tryz.prog 84 #[.agg #[.int .u8 a0, .int .u8 a1, .string a2, .int .i64 a3, .int .i64 a4, .int .i64 a5]] w fun e w' => e = .returned (.bool (c2 && c1)) ∧ Below w.heap.size w w' := by
  have hu := Tryz.underlying56
  have hu2 := Tryz.underlying25
  replace HB := Aside0.mk HB
  rcases h0 with h | h | h | h | h
  all_goals
    first | have m1 : (a0 == 1) = true := by rw [h]; rfl | have m1 : (a0 == 1) = false := by rw [h]; rfl
    first | have m2 : (a0 == 2) = true := by rw [h]; rfl | have m2 : (a0 == 2) = false := by rw [h]; rfl
    first | have m3 : (a0 == 3) = true := by rw [h]; rfl | have m3 : (a0 == 3) = false := by rw [h]; rfl
    first | have m4 : (a0 == 4) = true := by rw [h]; rfl | have m4 : (a0 == 4) = false := by rw [h]; rfl
    first | have m5 : (a0 == 5) = true := by rw [h]; rfl | have m5 : (a0 == 5) = false := by rw [h]; rfl
    first | have m6 : (a0 == 6) = true := by rw [h]; rfl | have m6 : (a0 == 6) = false := by rw [h]; rfl
    first | have m7 : (a0 == 7) = true := by rw [h]; rfl | have m7 : (a0 == 7) = false := by rw [h]; rfl
    first | have m8 : (a0 == 8) = true := by rw [h]; rfl | have m8 : (a0 == 8) = false := by rw [h]; rfl
    clear h
    go_enter Tryz.func84, Tryz.ntmps84
    go_wp2_with (first | ((with_reducible refine gate_dst (N := 1) rfl ?_); refine box_event ?hg (N := 1) ?hd (cs := #[.int .u8 a0, .int .u8 a1, .string a2, .int .i64 a3, .int .i64 a4, .int .i64 a5]) (t := 56) ?hr ?_; (case hd => rfl); (case hg => rfl); (case hr => first | (go_simp; done) | (go_simp; rfl)); intro gb hg w6 hbox hb; (clear hg); have HX := Aside0.mk (box7 hb hbox); obtain ⟨_, z0, z1, z2, z3, z4, z5⟩ := box6 hb hbox; have HZ := Aside0.mk hb; (clear hb hbox)))
    refine start_ (n := 12) (S := fun W => Below w.heap.size w W ∧ W.cell? ⟨gb, 0, none⟩ = some (.int .u8 a0) ∧ W.cell? ⟨gb, 1, none⟩ = some (.int .u8 a1) ∧ W.cell? ⟨gb, 2, none⟩ = some (.string a2) ∧ W.cell? ⟨gb, 3, none⟩ = some (.int .i64 a3) ∧ W.cell? ⟨gb, 4, none⟩ = some (.int .i64 a4) ∧ W.cell? ⟨gb, 5, none⟩ = some (.int .i64 a5)) (ds := []) #[false, false, false, false, false, false, false, false, false, false, false, false] (by kernel_rfl) rfl rfl HX.out (fun hHeld => ?_)
    refine with_tabW weirtree_sum.r13.tab weirtree_sum.r13.bits (fun HT_ HW_ => ?_)
    refine pP 0 72 ?_
    refine pT 1 73 ?_
    refine pP 2 74 ?_
    refine pP 3 75 ?_
    cases c2
    · refine pU 4 76 ?_
      refine pU 5 77 ?_
      refine pU 6 78 ?_
      refine pU 7 79 ?_
      refine pU 8 80 ?_
      refine pU 9 81 ?_
      refine pP 10 82 ?_
      refine pP 11 2 ?_
      refine done_ (done_of HT_.out (by kernel_rfl)) ?_
      go_wp2
      go_ret
      exact ⟨by first | rfl | (simp; done), hHeld.1⟩
    · refine pT 4 76 ?_
      refine pP 6 78 ?_
      refine pT 7 79 ?_
      refine pP 8 80 ?_
      refine pO 5 77 (fun K hK => ?_)
      refine goes_ Tryz.func116 (by kernel_rfl) rfl #[.agg #[.int .u8 a0, .int .u8 a1, .string a2, .int .i64 a3, .int .i64 a4, .int .i64 a5]] (by rfl) rfl rfl (by first | rfl | (simp only [q4, q5, q6]; rfl)) ?_
      refine (HB.out _).mono ?_
      rintro e w5 ⟨rfl, hb⟩
      refine ⟨_, rfl, ?_⟩
      refine hK.out _ _ (keep7 hHeld hb) (fun hHeld => ?_)
      clear hK K
      refine norm_ (a' := ?_) ?_ ?_
      rotate_left
      · show Act.put _ (some 77) _ = _
        simp only [Act.put, q1, q2, q3, i64_w, i32_w]
        rfl
      refine pP 9 81 ?_
      refine pP 10 82 ?_
      refine pP 11 2 ?_
      refine done_ (done_of HT_.out (by kernel_rfl)) ?_
      go_wp2
      go_ret
      exact ⟨by first | rfl | (simp; done), hHeld.1⟩
set_option maxRecDepth 100000 in
set_option maxHeartbeats 8000000 in
theorem weirtree_sum.at0 (a0 a1 : Int) (a2 : ByteArray) (a3 a4 a5 : Int) (w : World) (n1 : (a0 == 1) = false) (n2 : (a0 == 2) = false) (n3 : (a0 == 3) = false) (n4 : (a0 == 4) = false) (n5 : (a0 == 5) = false) (n6 : (a0 == 6) = false) (n7 : (a0 == 7) = false) (n8 : (a0 == 8) = false) :
    Calls Tryz.prog 84 #[.agg #[.int .u8 a0, .int .u8 a1, .string a2, .int .i64 a3, .int .i64 a4, .int .i64 a5]] w fun e w' => e = .returned (.bool false) ∧ Below w.heap.size w w' := by
  have hu := Tryz.underlying56
  go_enter Tryz.func84, Tryz.ntmps84
  go_wp2_with (first | ((with_reducible refine gate_dst (N := 1) rfl ?_); refine box_event ?hg (N := 1) ?hd (cs := #[.int .u8 a0, .int .u8 a1, .string a2, .int .i64 a3, .int .i64 a4, .int .i64 a5]) (t := 56) ?hr ?_; (case hd => rfl); (case hg => rfl); (case hr => first | (go_simp; done) | (go_simp; rfl)); intro gb hg w6 hbox hb; (clear hg); have HX := Aside0.mk (box7 hb hbox); obtain ⟨_, z0, z1, z2, z3, z4, z5⟩ := box6 hb hbox; have HZ := Aside0.mk hb; (clear hb hbox)))
  go_wp2
  go_ret
  exact ⟨rfl, HZ.out⟩
end
def weirtree_sum.f (k : Nat) (a0 a1 : Int) (a2 : ByteArray) (a3 a4 a5 : Int) : Option Bool := (weirref05_IsWord.f k a2).bind fun c9 => some (sumB a0 a1 a2 a3 a4 c9)
theorem weirtree_sum.mono : ∀ a0 a1 a2 a3 a4 a5 k, LeO (weirtree_sum.f k a0 a1 a2 a3 a4 a5) (weirtree_sum.f (k + 1) a0 a1 a2 a3 a4 a5) := by
  intro a0 a1 a2 a3 a4 a5 k
  unfold weirtree_sum.f
  exact LeO.bind (weirref05_IsWord.mono _ _) (fun _ => LeO.refl _)
theorem weirtree_sum.calls (k : Nat) (a0 a1 : Int) (a2 : ByteArray) (a3 a4 a5 : Int) (r : Bool) (w : World) (h : weirtree_sum.f k a0 a1 a2 a3 a4 a5 = some r) :
    Calls Tryz.prog 84 #[.agg #[.int .u8 a0, .int .u8 a1, .string a2, .int .i64 a3, .int .i64 a4, .int .i64 a5]] w fun e w' => e = .returned (.bool r) ∧ Below w.heap.size w w' := by
  unfold weirtree_sum.f at h
  obtain ⟨c9, hw, h⟩ := Option.bind_eq_some_iff.mp h
  obtain rfl := Option.some.inj h
  have HW := fun (W : World) (hb : Below w.heap.size w W) => (weirref05_IsWord.calls k a2 c9 W hw).mono (fun e w' h => (⟨h.1, by first | exact h.2.below | exact h.2⟩ : e = .returned (.bool c9) ∧ Below W.heap.size W w'))
  have HB := fun (W : World) => weirtree_bare.calls a0 a1 a2 a3 a4 a5 _ _ _ _ _ _ W rfl
  unfold sumB
  by_cases o1 : a0 = 1
  · subst o1
    have h := weirtree_sum.at1 a1 a2 a3 a4 a5 1 a1 a2 a3 0 0 _ _ _ w HB rfl (by simp [isE]) rfl rfl rfl
    rw [show ∀ x y z : Bool, (x && y && z) = (z && x && y) by decide] at h
    simpa using h
  · by_cases o2 : a0 = 2
    · subst o2
      have h := weirtree_sum.at2 a1 a2 a3 a4 a5 2 a1 a2 a3 0 0 _ _ _ _ c9 w HB HW rfl rfl rfl rfl rfl
      rw [show ∀ x y z u v : Bool, (x && y && z && u && v) = (v && x && y && z && u) by decide] at h
      simpa using h
    · by_cases o3 : a0 = 3
      · subst o3
        have h := weirtree_sum.at3 a1 a2 a3 a4 a5 3 a1 a2 a3 0 0 _ _ w HB rfl (by simp [isE]) rfl
        rw [show ∀ x y : Bool, (x && y) = (y && x) by decide] at h
        simpa [Bool.and_assoc] using h
      · by_cases o4 : 4 ≤ a0 ∧ a0 ≤ 8
        · have h := weirtree_sum.at4 a0 a1 a2 a3 a4 a5 a0 a1 a2 a3 0 0 _ _ w (by omega) HB rfl (by simp [isE]) rfl
          rw [show ∀ x y : Bool, (x && y) = (y && x) by decide] at h
          simpa [o1, o2, o3, o4, Bool.and_assoc] using h
        · rw [if_neg o1, if_neg o2, if_neg o3, if_neg o4]
          exact weirtree_sum.at0 a0 a1 a2 a3 a4 a5 w (by simpa using o1) (by simpa using o2) (by simpa using o3) (by simp; omega) (by simp; omega) (by simp; omega) (by simp; omega) (by simp; omega)

/-! ### weirtree_Sum: function 38 -/
def weirtree_Sum.l0 : Nat → List (S56) → Int → Option (Bool)
  | 0, _, _ => none
  | k + 1, x0, x3 => if x3 < (x0.length : Int) then (if 0 ≤ x3 then ((weirtree_sum.f k ((rd_T56 x0 x3).f0) ((rd_T56 x0 x3).f1) ((rd_T56 x0 x3).f2) ((rd_T56 x0 x3).f3) ((rd_T56 x0 x3).f4) ((rd_T56 x0 x3).f5)).bind fun t163 => (if t163 = true then (weirtree_Sum.l0 k x0 (wrap64 (x3 + 1))) else (some false))) else (none)) else ((weirtree_IsTree.f k x0).bind fun t164 => (some t164))
def weirtree_Sum.f (k : Nat) (l0 : List (S56)) : Option (Bool) := weirtree_Sum.l0 k l0 0
theorem weirtree_Sum.mono_l : ∀ k, (∀ y0 y1, LeO (weirtree_Sum.l0 k y0 y1) (weirtree_Sum.l0 (k + 1) y0 y1))
  | 0 => fun _ _ r h => by simp [weirtree_Sum.l0] at h
  | k + 1 => by
    have ih0 := weirtree_Sum.mono_l k
    · intro y0 y1
      unfold weirtree_Sum.l0
      repeat' first
      | (with_reducible exact ih0 _ _)
      | (with_reducible exact weirtree_IsTree.mono _ _)
      | (with_reducible exact weirtree_sum.mono _ _ _ _ _ _ _)
      | (with_reducible exact LeO.refl _)
      | (with_reducible exact LeO.none _)
      | (with_reducible refine LeO.ite ?_ ?_)
      | (with_reducible refine LeO.bind ?_ (fun _ => ?_))
      | exact ih0 _ _
      | exact weirtree_IsTree.mono _ _
      | exact weirtree_sum.mono _ _ _ _ _ _ _
      | exact LeO.none _
      | refine LeO.ite ?_ ?_
      | refine LeO.bind ?_ (fun _ => ?_)
theorem weirtree_Sum.mono : ∀ a0 k, LeO (weirtree_Sum.f k a0) (weirtree_Sum.f (k + 1) a0) := by
  intro a0 k
  have ih0 := weirtree_Sum.mono_l k
  unfold weirtree_Sum.f
  repeat' first
      | (with_reducible exact ih0 _ _)
      | (with_reducible exact weirtree_IsTree.mono _ _)
      | (with_reducible exact weirtree_sum.mono _ _ _ _ _ _ _)
      | (with_reducible exact LeO.refl _)
      | (with_reducible exact LeO.none _)
      | (with_reducible refine LeO.ite ?_ ?_)
      | (with_reducible refine LeO.bind ?_ (fun _ => ?_))
      | exact ih0 _ _
      | exact weirtree_IsTree.mono _ _
      | exact weirtree_sum.mono _ _ _ _ _ _ _
      | exact LeO.none _
      | refine LeO.ite ?_ ?_
      | refine LeO.bind ?_ (fun _ => ?_)
set_option maxHeartbeats 8000000 in
set_option maxRecDepth 100000 in
theorem weirtree_Sum.calls (k : Nat) (A0 : Option Addr) (c0 : Nat) (l0 : List (S56)) (r : Bool) (w : World) (hr0 : Kd.C k56 w A0 l0.length l0) (hc0 : l0.length ≤ c0) (h : weirtree_Sum.f k l0 = some r) :
    Calls Tryz.prog 38 #[.slice A0 l0.length c0] w fun e w' => e = .returned (.bool r) ∧ Below w.heap.size w w' := by
  have hu56 := Tryz.underlying56
  have HR0 := Aside0.mk hr0
  have HC0 := Aside0.mk hc0
  clear hr0 hc0
  have HB := Aside0.mk (Below.refl w.heap.size w)
  have H : (weirtree_Sum.l0 k l0 0) = some r := h
  clear h
  have H' := Aside0.mk H
  clear H
  go_enter Tryz.func38, Tryz.ntmps38
  go_wp2
  go_loopg [3] k (fun kq v3 w' => ∃ (x3_1 : Int), v3 = .int .i64 x3_1 ∧ Aside0 (weirtree_Sum.l0 kq l0 x3_1 = some r) ∧ Aside0 (kq ≤ k) ∧ Aside0 (Below w.heap.size w w'))
  case atStart => exact ⟨(0), (by first | rfl | (simp; done) | (simp [*]; done)), H', ⟨Nat.le_refl _⟩, ⟨by repeat (first | (with_reducible first | exact HB.out | apply below_alloc | apply pw_below_drewN | apply below_drew1) | exact HB.out)⟩⟩
  case round =>
    clear H'
    obtain ⟨x3_1, rfl, HA, HK1, HB⟩ := hrel
    cases gk with
    | zero => exact absurd HA.out (by simp [weirtree_Sum.l0])
    | succ k1 =>
      have H := HA.out
      clear HA
      simp only [weirtree_Sum.l0] at H
      by_cases c2 : x3_1 < (l0.length : Int)
      · rw [if_pos c2] at H
        have c2b0 : decide (x3_1 < (l0.length : Int)) = true := decide_eq_true c2
        clear c2
        by_cases c3 : 0 ≤ x3_1
        · rw [if_pos c3] at H
          have c3b0 : decide (0 ≤ x3_1) = true := decide_eq_true c3
          clear c3
          replace H := Option.bind_eq_some_iff.mp H
          obtain ⟨t163, A40, H⟩ := H
          replace H : (if t163 = true then (weirtree_Sum.l0 k1 l0 (wrap64 (x3_1 + 1))) else (some false)) = some r := H
          have A4 := Aside0.mk A40
          clear A40
          by_cases c5 : t163 = true
          · subst c5
            have H1 : (weirtree_Sum.l0 k1 l0 (wrap64 (x3_1 + 1))) = some r := by rw [if_pos rfl] at H; exact H
            clear H
            have H := H1
            clear H1
            have H' := Aside0.mk H
            clear H
            have p162 : 0 ≤ (x3_1 : Int) := of_decide_eq_true (by first | (with_reducible assumption) | assumption)
            have q162 : x3_1 < (l0.length : Int) := of_decide_eq_true (by first | (with_reducible assumption) | assumption)
            obtain ⟨ad162, e162, hx162_0, hx162_1, hx162_2, hx162_3, hx162_4, hx162_5⟩ := at_T56 HR0.out x3_1 p162 q162
            cases e162
            replace hx162_0 := (HB.out.cell (World.block_lt_of_cell? w _ hx162_0)).trans hx162_0
            replace hx162_1 := (HB.out.cell (World.block_lt_of_cell? w _ hx162_1)).trans hx162_1
            replace hx162_2 := (HB.out.cell (World.block_lt_of_cell? w _ hx162_2)).trans hx162_2
            replace hx162_3 := (HB.out.cell (World.block_lt_of_cell? w _ hx162_3)).trans hx162_3
            replace hx162_4 := (HB.out.cell (World.block_lt_of_cell? w _ hx162_4)).trans hx162_4
            replace hx162_5 := (HB.out.cell (World.block_lt_of_cell? w _ hx162_5)).trans hx162_5
            replace p162 := eq_true p162
            replace q162 := eq_true q162
            go_wp2_with (first | ((with_reducible refine gate_callee (f := 84) rfl ?_); refine goesL_ (some 14) rfl rfl Tryz.func84 (by kernel_rfl) rfl #[.agg #[.int .u8 ((rd_T56 l0 x3_1).f0), .int .u8 ((rd_T56 l0 x3_1).f1), .string ((rd_T56 l0 x3_1).f2), .int .i64 ((rd_T56 l0 x3_1).f3), .int .i64 ((rd_T56 l0 x3_1).f4), .int .i64 ((rd_T56 l0 x3_1).f5)]] rfl (by (try simp only [List.map_toArray, List.map_cons, List.map_nil]); first | done | rfl | (simp only [List.length_drop, List.length_take]; rfl)) ?_; (with_reducible refine (weirtree_sum.calls k1 ((rd_T56 l0 x3_1).f0) ((rd_T56 l0 x3_1).f1) ((rd_T56 l0 x3_1).f2) ((rd_T56 l0 x3_1).f3) ((rd_T56 l0 x3_1).f4) ((rd_T56 l0 x3_1).f5) true _ A4.out).mono ?_); rintro e w6 ⟨rfl, hb⟩; refine ⟨_, rfl, ?_⟩; have n0_ := Aside0.mk (below_step (by repeat (first | (with_reducible first | exact HB.out | apply below_alloc | apply pw_below_drewN | apply below_drew1) | exact HB.out)) hb); clear HB; have HB := n0_; clear n0_; (try clear hb); (try clear hb2); (try clear hk); (try clear hi)))
            go_roundg k1
            case measure => have := HK1.out; omega
            case rel => exact ⟨(wrap64 (x3_1 + 1)), (by first | rfl | (simp; done) | (simp [*]; done)), H', ⟨by have := HK1.out; omega⟩, ⟨by repeat (first | (with_reducible first | exact HB.out | apply below_alloc | apply pw_below_drewN | apply below_drew1) | exact HB.out)⟩⟩
          · replace c5 := Bool.eq_false_iff.mpr c5
            subst c5
            have H1 : (some false) = some r := by rw [if_neg (show ¬ (false = true) by decide)] at H; exact H
            clear H
            have H := H1
            clear H1
            obtain rfl := Option.some.inj H
            have p162 : 0 ≤ (x3_1 : Int) := of_decide_eq_true (by first | (with_reducible assumption) | assumption)
            have q162 : x3_1 < (l0.length : Int) := of_decide_eq_true (by first | (with_reducible assumption) | assumption)
            obtain ⟨ad162, e162, hx162_0, hx162_1, hx162_2, hx162_3, hx162_4, hx162_5⟩ := at_T56 HR0.out x3_1 p162 q162
            cases e162
            replace hx162_0 := (HB.out.cell (World.block_lt_of_cell? w _ hx162_0)).trans hx162_0
            replace hx162_1 := (HB.out.cell (World.block_lt_of_cell? w _ hx162_1)).trans hx162_1
            replace hx162_2 := (HB.out.cell (World.block_lt_of_cell? w _ hx162_2)).trans hx162_2
            replace hx162_3 := (HB.out.cell (World.block_lt_of_cell? w _ hx162_3)).trans hx162_3
            replace hx162_4 := (HB.out.cell (World.block_lt_of_cell? w _ hx162_4)).trans hx162_4
            replace hx162_5 := (HB.out.cell (World.block_lt_of_cell? w _ hx162_5)).trans hx162_5
            replace p162 := eq_true p162
            replace q162 := eq_true q162
            go_wp2_with (first | ((with_reducible refine gate_callee (f := 84) rfl ?_); refine goesL_ (some 14) rfl rfl Tryz.func84 (by kernel_rfl) rfl #[.agg #[.int .u8 ((rd_T56 l0 x3_1).f0), .int .u8 ((rd_T56 l0 x3_1).f1), .string ((rd_T56 l0 x3_1).f2), .int .i64 ((rd_T56 l0 x3_1).f3), .int .i64 ((rd_T56 l0 x3_1).f4), .int .i64 ((rd_T56 l0 x3_1).f5)]] rfl (by (try simp only [List.map_toArray, List.map_cons, List.map_nil]); first | done | rfl | (simp only [List.length_drop, List.length_take]; rfl)) ?_; (with_reducible refine (weirtree_sum.calls k1 ((rd_T56 l0 x3_1).f0) ((rd_T56 l0 x3_1).f1) ((rd_T56 l0 x3_1).f2) ((rd_T56 l0 x3_1).f3) ((rd_T56 l0 x3_1).f4) ((rd_T56 l0 x3_1).f5) false _ A4.out).mono ?_); rintro e w7 ⟨rfl, hb⟩; refine ⟨_, rfl, ?_⟩; have n0_ := Aside0.mk (below_step (by repeat (first | (with_reducible first | exact HB.out | apply below_alloc | apply pw_below_drewN | apply below_drew1) | exact HB.out)) hb); clear HB; have HB := n0_; clear n0_; (try clear hb); (try clear hb2); (try clear hk); (try clear hi)))
            go_ret
            exact ⟨by first | rfl | (simp [errW_none, errW_some] <;> rfl) | (simp [*, errW_none, errW_some] <;> rfl), by repeat (first | (with_reducible first | exact HB.out | apply below_alloc | apply pw_below_drewN | apply below_drew1) | exact HB.out)⟩
        · rw [if_neg c3] at H
          exact absurd H (by simp)
      · rw [if_neg c2] at H
        have c2b0 : decide (x3_1 < (l0.length : Int)) = false := decide_eq_false c2
        clear c2
        replace H := Option.bind_eq_some_iff.mp H
        obtain ⟨t164, A80, H⟩ := H
        replace H : (some t164) = some r := H
        have A8 := Aside0.mk A80
        clear A80
        obtain rfl := Option.some.inj H
        go_wp2_with (first | ((with_reducible refine gate_callee (f := 85) rfl ?_); refine goesL_ (some 17) rfl rfl Tryz.func85 (by kernel_rfl) rfl #[.slice A0 l0.length c0] rfl (by (try simp only [List.map_toArray, List.map_cons, List.map_nil]); first | done | rfl | (simp only [List.length_drop, List.length_take]; rfl)) ?_; (with_reducible refine (weirtree_IsTree.calls k1 _ _ l0 t164 _ ?side1 ?side2 A8.out).mono ?_); (case side1 => repeat (first | exact (Kd.C_below HR0.out HB.out) | (with_reducible refine Kd.C_alloc ?_ _) | (with_reducible refine Kd.C_drewN ?_ _) | (with_reducible refine Kd.C_drew ?_))); (case side2 => exact HC0.out); rintro e w' ⟨rfl, ⟨nd, rfl⟩⟩; refine ⟨_, rfl, ?_⟩))
        go_ret
        exact ⟨by first | rfl | (simp [errW_none, errW_some] <;> rfl) | (simp [*, errW_none, errW_some] <;> rfl), by repeat (first | (with_reducible first | exact HB.out | apply below_alloc | apply pw_below_drewN | apply below_drew1) | exact HB.out)⟩

/-! ### weirref05_IsText: function 138 -/
def weirref05_IsText.f (k : Nat) (a0 : ByteArray) : Option (Bool) := (weirref05_right.f k a0 256).bind fun t165 => (some t165)
theorem weirref05_IsText.mono : ∀ a0 k, LeO (weirref05_IsText.f k a0) (weirref05_IsText.f (k + 1) a0) := by
  intro a0 k
  unfold weirref05_IsText.f
  repeat' first
      | (with_reducible exact weirref05_right.mono _ _ _)
      | (with_reducible exact LeO.refl _)
      | (with_reducible exact LeO.none _)
      | (with_reducible refine LeO.ite ?_ ?_)
      | (with_reducible refine LeO.bind ?_ (fun _ => ?_))
      | exact weirref05_right.mono _ _ _
      | exact LeO.none _
      | refine LeO.ite ?_ ?_
      | refine LeO.bind ?_ (fun _ => ?_)
set_option maxHeartbeats 8000000 in
set_option maxRecDepth 100000 in
theorem weirref05_IsText.calls (k : Nat) (a0 : ByteArray) (r : Bool) (w : World) (h : weirref05_IsText.f k a0 = some r) :
    Calls Tryz.prog 138 #[.string a0] w fun e w' => e = .returned (.bool r) ∧ Drawn0 w w' := by
  have H : ((weirref05_right.f k a0 256).bind fun t165 => (some t165)) = some r := h
  clear h
  replace H := Option.bind_eq_some_iff.mp H
  obtain ⟨t165, A20, H⟩ := H
  replace H : (some t165) = some r := H
  have A2 := Aside0.mk A20
  clear A20
  obtain rfl := Option.some.inj H
  go_enter Tryz.func138, Tryz.ntmps138
  go_wp2_with (first | ((with_reducible refine gate_callee (f := 99) rfl ?_); refine goesL_ (some 4) rfl rfl Tryz.func99 (by kernel_rfl) rfl #[.string a0, .int .i64 256] rfl (by (try simp only [List.map_toArray, List.map_cons, List.map_nil]); first | done | rfl | (simp only [List.length_drop, List.length_take]; rfl)) ?_; (with_reducible refine (weirref05_right.calls k a0 256 t165 _ A2.out).mono ?_); rintro e w' ⟨rfl, ⟨nd, rfl⟩⟩; refine ⟨_, rfl, ?_⟩))
  go_ret
  exact ⟨by first | rfl | (simp; done) | (simp [*]; done), by repeat (first | exact Drawn0.refl _ | apply Drawn0.step)⟩

end Go.Proofs.YtlbjfomcgbiagaaGreatDoor.Print
