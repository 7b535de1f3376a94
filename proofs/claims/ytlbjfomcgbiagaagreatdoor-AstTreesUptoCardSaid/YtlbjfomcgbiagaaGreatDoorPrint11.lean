-- Made by wip/mkprint.sh of this repo over the kit's print.
import Derived.Test.YtlbjfomcgbiagaaGreatDoorPrint0
import Derived.Test.YtlbjfomcgbiagaaGreatDoorPrint4
import Derived.Test.YtlbjfomcgbiagaaGreatDoorPrint7
import Derived.Test.YtlbjfomcgbiagaaGreatDoorPrint9
import Derived.Test.YtlbjfomcgbiagaaGreatDoorPrint10
namespace Go.Proofs.YtlbjfomcgbiagaaGreatDoor.Print
open Go.RowKit Go.Proofs.YtlbjfomcgbiagaaGreatDoorW.PrintWords Go.Proofs.YtlbjfomcgbiagaaGreatDoorW.PrintLast Go.Proofs Go.Proofs.YtlbjfomcgbiagaaGreatDoor Go.Proofs.YtlbjfomcgbiagaaGreatDoor.Base Go.Proofs.YtlbjfomcgbiagaaGreatDoorW.PrintMore
attribute [local go_sem] gtr_text max2_int min2_int max_two min_two max_three min_three max_four min_four   -- for this text's walks alone
set_option linter.unusedVariables false
set_option linter.unusedSimpArgs false

/-! ### weirtree_worded: function 119 (its contract typed by hand) -/
section
attribute [local go_sem high] eqA56
def weirtree_worded.r2.T : Bool × List (List Nat × List Nat) := (true, [([], []), ([0], [0]), ([1], [1]), ([2], [2]), ([3], [3]), ([4, 3], [3, 4]), ([5, 3, 3], [3, 5]), ([3, 6], [3, 6]), ([7, 6], [7]), ([8], [8]), ([9, 8, 8], [8, 9]), ([8], [8]), ([11, 8], [8, 11]), ([12, 8], [8, 12]), ([10, 13, 8], [8, 10, 13]), ([8, 14], [8, 14]), ([15, 10, 0, 1, 2, 3, 4, 5, 6, 7, 8, 9, 10, 11, 12, 13, 14, 15], [15])])
def weirtree_worded.r2.B : List Nat := [0, 1, 3, 7, 15, 31, 63, 127, 255, 511, 1023, 511, 2559, 6655, 16383, 32767, 65535]
theorem weirtree_worded.r2.tab : rtab .any (opsOf Tryz.f119 2) = weirtree_worded.r2.T := by kernel_rfl
theorem weirtree_worded.r2.bits : waitsOk weirtree_worded.r2.T.2 weirtree_worded.r2.B = true := by kernel_rfl
def weirtree_worded.r3.T : Bool × List (List Nat × List Nat) := (true, [([], []), ([0], [0]), ([1], [1]), ([2], [2]), ([3], [3]), ([4, 3], [3, 4]), ([5, 3], [3, 5]), ([3, 6], [3, 6]), ([7, 3], [7]), ([8], [8]), ([9, 8], [8, 9]), ([10, 8], [8, 10]), ([11, 8, 8], [8, 11]), ([12], [12]), ([13, 12], [12, 13]), ([14, 12, 12], [12, 14]), ([12, 15, 8], [8, 12, 15]), ([8, 16], [8, 16]), ([17, 15], [17]), ([18], [18]), ([19, 18, 18], [18, 19]), ([18], [18]), ([21, 18], [18, 21]), ([22, 18], [18, 22]), ([20, 23, 18], [18, 20, 23]), ([18, 24], [18, 24]), ([25, 20, 0, 1, 2, 3, 4, 5, 6, 7, 8, 9, 10, 11, 12, 13, 14, 15, 16, 17, 18, 19, 20, 21, 22, 23, 24, 25], [25])])
def weirtree_worded.r3.B : List Nat := [0, 1, 3, 7, 15, 31, 63, 127, 255, 511, 1023, 2047, 4095, 8191, 16383, 32767, 65535, 131071, 262143, 524287, 1048575, 524287, 2621439, 6815743, 16777215, 33554431, 67108863]
theorem weirtree_worded.r3.tab : rtab .any (opsOf Tryz.f119 3) = weirtree_worded.r3.T := by kernel_rfl
theorem weirtree_worded.r3.bits : waitsOk weirtree_worded.r3.T.2 weirtree_worded.r3.B = true := by kernel_rfl
set_option maxRecDepth 100000 in
set_option maxHeartbeats 8000000 in
theorem weirtree_worded.at23 (a1 : Int) (a2 : ByteArray) (a3 a4 a5 b0 b1 : Int) (b2 : ByteArray) (b3 b4 b5 : Int) (c1 c2 c9 : Bool) (w : World) (HB : ∀ W : World, Calls Tryz.prog 116 #[.agg #[.int .u8 23, .int .u8 a1, .string a2, .int .i64 a3, .int .i64 a4, .int .i64 a5]] W fun e w' => e = .returned (.agg #[.int .u8 b0, .int .u8 b1, .string b2, .int .i64 b3, .int .i64 b4, .int .i64 b5]) ∧ Below W.heap.size W w') (HW : ∀ W : World, Below w.heap.size w W → Calls Tryz.prog 54 #[.string a2] W fun e w' => e = .returned (.bool c9) ∧ Below W.heap.size W w') (h1 : (a4 == 0) = c1) (h2 : (b0 == 23 && (b1 == 0 && (b2.toList == a2.toList && (b3 == 0 && (b4 == 0 && b5 == 0))))) = c2)  :
  Calls Tryz.prog 119 #[.agg #[.int .u8 23, .int .u8 a1, .string a2, .int .i64 a3, .int .i64 a4, .int .i64 a5]] w fun e w' => e = .returned (.bool (c1 && c9 && c2)) ∧ Below w.heap.size w w' := by
 have hu := Tryz.underlying56
 have hu2 := Tryz.underlying25
 replace HB := Aside0.mk HB
 replace HW := Aside0.mk HW
 go_enter Tryz.func119, Tryz.ntmps119
 go_wp2_with (first | ((with_reducible refine gate_dst (N := 1) rfl ?_); refine box_event ?hg (N := 1) ?hd (cs := #[.int .u8 23, .int .u8 a1, .string a2, .int .i64 a3, .int .i64 a4, .int .i64 a5]) (t := 56) ?hr ?_; (case hd => rfl); (case hg => rfl); (case hr => first | (go_simp; done) | (go_simp; rfl)); intro gb hg w6 hbox hb; (clear hg); have HX := Aside0.mk (box7 hb hbox); obtain ⟨_, z0, z1, z2, z3, z4, z5⟩ := box6 hb hbox; have HZ := Aside0.mk hb; (clear hb hbox)))
 refine start_ (n := 17) (S := fun W => Below w.heap.size w W ∧ W.cell? ⟨gb, 0, none⟩ = some (.int .u8 23) ∧ W.cell? ⟨gb, 1, none⟩ = some (.int .u8 a1) ∧ W.cell? ⟨gb, 2, none⟩ = some (.string a2) ∧ W.cell? ⟨gb, 3, none⟩ = some (.int .i64 a3) ∧ W.cell? ⟨gb, 4, none⟩ = some (.int .i64 a4) ∧ W.cell? ⟨gb, 5, none⟩ = some (.int .i64 a5)) (ds := []) #[false, false, false, false, false, false, false, false, false, false, false, false, false, false, false, false, false] (by kernel_rfl) rfl rfl HX.out (fun hHeld => ?_)
 refine with_tabW weirtree_worded.r2.tab weirtree_worded.r2.bits (fun HT_ HW_ => ?_)
 refine pP 0 6 ?_
 refine pT 1 7 ?_
 refine pP 2 8 ?_
 refine pP 3 9 ?_
 cases c1
 ·
  refine pU 4 10 ?_
  refine pU 5 11 ?_
  refine pU 6 12 ?_
  refine pP 7 13 ?_
  refine pP 8 14 ?_
  refine pU 9 15 ?_
  refine pU 10 16 ?_
  refine pU 11 17 ?_
  refine pU 12 18 ?_
  refine pU 13 19 ?_
  refine pU 14 20 ?_
  refine pP 15 21 ?_
  refine pP 16 2 ?_
  refine done_ (done_of HT_.out (by kernel_rfl)) ?_
  go_wp2
  go_ret
  exact ⟨by first | rfl | (simp; done), hHeld.1⟩
 ·
  refine pP 4 10 ?_
  refine pT 5 11 ?_
  refine pO 6 12 (fun K hK => ?_)
  refine goes_ Tryz.func54 (by kernel_rfl) rfl #[.string a2] (by rfl) rfl rfl (by first | rfl | (simp only [q4, q5, q6]; rfl)) ?_
  refine (HW.out _ hHeld.1).mono ?_
  rintro e w6 ⟨rfl, hb⟩
  refine ⟨_, rfl, ?_⟩
  refine hK.out _ _ (keep7 hHeld hb) (fun hHeld => ?_)
  clear hK K
  refine norm_ (a' := ?_) ?_ ?_
  rotate_left
  ·
   show Act.put _ (some 12) _ = _
   simp only [Act.put, q1, q2, q3, i64_w, i32_w]
   rfl
  refine pP 7 13 ?_
  refine pP 8 14 ?_
  cases c9
  ·
   refine pU 9 15 ?_
   refine pU 10 16 ?_
   refine pU 11 17 ?_
   refine pU 12 18 ?_
   refine pU 13 19 ?_
   refine pU 14 20 ?_
   refine pP 15 21 ?_
   refine pP 16 2 ?_
   refine done_ (done_of HT_.out (by kernel_rfl)) ?_
   go_wp2
   go_ret
   exact ⟨by first | rfl | (simp; done), hHeld.1⟩
  ·
   refine pT 9 15 ?_
   refine pP 11 17 ?_
   refine pT 12 18 ?_
   refine pP 13 19 ?_
   refine pO 10 16 (fun K hK => ?_)
   refine goes_ Tryz.func116 (by kernel_rfl) rfl #[.agg #[.int .u8 23, .int .u8 a1, .string a2, .int .i64 a3, .int .i64 a4, .int .i64 a5]] (by rfl) rfl rfl (by first | rfl | (simp only [q4, q5, q6]; rfl)) ?_
   refine (HB.out _).mono ?_
   rintro e w5 ⟨rfl, hb⟩
   refine ⟨_, rfl, ?_⟩
   refine hK.out _ _ (keep7 hHeld hb) (fun hHeld => ?_)
   clear hK K
   refine norm_ (a' := ?_) ?_ ?_
   rotate_left
   ·
    show Act.put _ (some 16) _ = _
    simp only [Act.put, q1, q2, q3, i64_w, i32_w]
    rfl
   refine pP 14 20 ?_
   refine pP 15 21 ?_
   refine pP 16 2 ?_
   refine done_ (done_of HT_.out (by kernel_rfl)) ?_
   go_wp2
   go_ret
   exact ⟨by first | rfl | (simp; done), hHeld.1⟩
set_option maxRecDepth 100000 in
set_option maxHeartbeats 8000000 in
theorem weirtree_worded.at24 (a1 : Int) (a2 : ByteArray) (a3 a4 a5 b0 b1 : Int) (b2 : ByteArray) (b3 b4 b5 : Int) (c1 c2 c3 c9 : Bool) (w : World) (HB : ∀ W : World, Calls Tryz.prog 116 #[.agg #[.int .u8 24, .int .u8 a1, .string a2, .int .i64 a3, .int .i64 a4, .int .i64 a5]] W fun e w' => e = .returned (.agg #[.int .u8 b0, .int .u8 b1, .string b2, .int .i64 b3, .int .i64 b4, .int .i64 b5]) ∧ Below W.heap.size W w') (HW : ∀ W : World, Below w.heap.size w W → Calls Tryz.prog 138 #[.string a2] W fun e w' => e = .returned (.bool c9) ∧ Below W.heap.size W w') (h1 : (a4 == 0) = c1) (h2 : (b0 == 24 && (b1 == 0 && (b2.toList == a2.toList && (b3 == 0 && (b4 == 0 && b5 == 0))))) = c2)  (h5 : a2.toList.isEmpty = c3) (h5b : (a2.toList == ([] : List UInt8)) = c3) :
  Calls Tryz.prog 119 #[.agg #[.int .u8 24, .int .u8 a1, .string a2, .int .i64 a3, .int .i64 a4, .int .i64 a5]] w fun e w' => e = .returned (.bool (c1 && (c3 || c9) && c2)) ∧ Below w.heap.size w w' := by
 have hu := Tryz.underlying56
 have hu2 := Tryz.underlying25
 replace HB := Aside0.mk HB
 replace HW := Aside0.mk HW
 go_enter Tryz.func119, Tryz.ntmps119
 go_wp2_with (first | ((with_reducible refine gate_dst (N := 1) rfl ?_); refine box_event ?hg (N := 1) ?hd (cs := #[.int .u8 24, .int .u8 a1, .string a2, .int .i64 a3, .int .i64 a4, .int .i64 a5]) (t := 56) ?hr ?_; (case hd => rfl); (case hg => rfl); (case hr => first | (go_simp; done) | (go_simp; rfl)); intro gb hg w6 hbox hb; (clear hg); have HX := Aside0.mk (box7 hb hbox); obtain ⟨_, z0, z1, z2, z3, z4, z5⟩ := box6 hb hbox; have HZ := Aside0.mk hb; (clear hb hbox)))
 refine start_ (n := 27) (S := fun W => Below w.heap.size w W ∧ W.cell? ⟨gb, 0, none⟩ = some (.int .u8 24) ∧ W.cell? ⟨gb, 1, none⟩ = some (.int .u8 a1) ∧ W.cell? ⟨gb, 2, none⟩ = some (.string a2) ∧ W.cell? ⟨gb, 3, none⟩ = some (.int .i64 a3) ∧ W.cell? ⟨gb, 4, none⟩ = some (.int .i64 a4) ∧ W.cell? ⟨gb, 5, none⟩ = some (.int .i64 a5)) (ds := []) #[false, false, false, false, false, false, false, false, false, false, false, false, false, false, false, false, false, false, false, false, false, false, false, false, false, false, false] (by kernel_rfl) rfl rfl HX.out (fun hHeld => ?_)
 refine with_tabW weirtree_worded.r3.tab weirtree_worded.r3.bits (fun HT_ HW_ => ?_)
 refine pP 0 22 ?_
 refine pT 1 23 ?_
 refine pP 2 24 ?_
 refine pP 3 25 ?_
 refine pP 4 26 ?_
 refine pT 5 27 ?_
 refine pP 6 28 ?_
 refine pP 7 29 ?_
 refine pP 8 30 ?_
 cases c1
 ·
  refine pU 9 31 ?_
  refine pU 10 32 ?_
  refine pU 11 33 ?_
  refine pU 12 34 ?_
  refine pU 13 35 ?_
  refine pU 14 36 ?_
  refine pU 15 37 ?_
  refine pU 16 38 ?_
  refine pP 17 39 ?_
  refine pP 18 40 ?_
  refine pU 19 41 ?_
  refine pU 20 42 ?_
  refine pU 21 43 ?_
  refine pU 22 44 ?_
  refine pU 23 45 ?_
  refine pU 24 46 ?_
  refine pP 25 47 ?_
  refine pP 26 2 ?_
  refine done_ (done_of HT_.out (by kernel_rfl)) ?_
  go_wp2
  go_ret
  exact ⟨by first | rfl | (simp; done), hHeld.1⟩
 ·
  refine pP 9 31 ?_
  refine pT 10 32 ?_
  refine pP 11 33 ?_
  refine pP 12 34 ?_
  cases c3
  ·
   refine pP 13 35 ?_
   refine pT 14 36 ?_
   refine pO 15 37 (fun K hK => ?_)
   refine goes_ Tryz.func138 (by kernel_rfl) rfl #[.string a2] (by rfl) rfl rfl (by first | rfl | (simp only [q4, q5, q6]; rfl)) ?_
   refine (HW.out _ hHeld.1).mono ?_
   rintro e w6 ⟨rfl, hb⟩
   refine ⟨_, rfl, ?_⟩
   refine hK.out _ _ (keep7 hHeld hb) (fun hHeld => ?_)
   clear hK K
   refine norm_ (a' := ?_) ?_ ?_
   rotate_left
   ·
    show Act.put _ (some 37) _ = _
    simp only [Act.put, q1, q2, q3, i64_w, i32_w]
    rfl
   refine pP 16 38 ?_
   refine pP 17 39 ?_
   refine pP 18 40 ?_
   cases c9
   ·
    refine pU 19 41 ?_
    refine pU 20 42 ?_
    refine pU 21 43 ?_
    refine pU 22 44 ?_
    refine pU 23 45 ?_
    refine pU 24 46 ?_
    refine pP 25 47 ?_
    refine pP 26 2 ?_
    refine done_ (done_of HT_.out (by kernel_rfl)) ?_
    go_wp2
    go_ret
    exact ⟨by first | rfl | (simp; done), hHeld.1⟩
   ·
    refine pT 19 41 ?_
    refine pP 21 43 ?_
    refine pT 22 44 ?_
    refine pP 23 45 ?_
    refine pO 20 42 (fun K hK => ?_)
    refine goes_ Tryz.func116 (by kernel_rfl) rfl #[.agg #[.int .u8 24, .int .u8 a1, .string a2, .int .i64 a3, .int .i64 a4, .int .i64 a5]] (by rfl) rfl rfl (by first | rfl | (simp only [q4, q5, q6]; rfl)) ?_
    refine (HB.out _).mono ?_
    rintro e w5 ⟨rfl, hb⟩
    refine ⟨_, rfl, ?_⟩
    refine hK.out _ _ (keep7 hHeld hb) (fun hHeld => ?_)
    clear hK K
    refine norm_ (a' := ?_) ?_ ?_
    rotate_left
    ·
     show Act.put _ (some 42) _ = _
     simp only [Act.put, q1, q2, q3, i64_w, i32_w]
     rfl
    refine pP 24 46 ?_
    refine pP 25 47 ?_
    refine pP 26 2 ?_
    refine done_ (done_of HT_.out (by kernel_rfl)) ?_
    go_wp2
    go_ret
    exact ⟨by first | rfl | (simp; done), hHeld.1⟩
  ·
   refine pU 13 35 ?_
   refine pU 14 36 ?_
   refine pU 15 37 ?_
   refine pP 16 38 ?_
   refine pP 17 39 ?_
   refine pP 18 40 ?_
   refine pT 19 41 ?_
   refine pP 21 43 ?_
   refine pT 22 44 ?_
   refine pP 23 45 ?_
   refine pO 20 42 (fun K hK => ?_)
   refine goes_ Tryz.func116 (by kernel_rfl) rfl #[.agg #[.int .u8 24, .int .u8 a1, .string a2, .int .i64 a3, .int .i64 a4, .int .i64 a5]] (by rfl) rfl rfl (by first | rfl | (simp only [q4, q5, q6]; rfl)) ?_
   refine (HB.out _).mono ?_
   rintro e w5 ⟨rfl, hb⟩
   refine ⟨_, rfl, ?_⟩
   refine hK.out _ _ (keep7 hHeld hb) (fun hHeld => ?_)
   clear hK K
   refine norm_ (a' := ?_) ?_ ?_
   rotate_left
   ·
    show Act.put _ (some 42) _ = _
    simp only [Act.put, q1, q2, q3, i64_w, i32_w]
    rfl
   refine pP 24 46 ?_
   refine pP 25 47 ?_
   refine pP 26 2 ?_
   refine done_ (done_of HT_.out (by kernel_rfl)) ?_
   go_wp2
   go_ret
   exact ⟨by first | rfl | (simp; done), hHeld.1⟩
set_option maxRecDepth 100000 in
set_option maxHeartbeats 8000000 in
theorem weirtree_worded.at0 (a0 : Int) (a1 : Int) (a2 : ByteArray) (a3 a4 a5 b0 b1 : Int) (b2 : ByteArray) (b3 b4 b5 : Int)  (w : World) (n23 : (a0 == 23) = false) (n24 : (a0 == 24) = false) :
  Calls Tryz.prog 119 #[.agg #[.int .u8 a0, .int .u8 a1, .string a2, .int .i64 a3, .int .i64 a4, .int .i64 a5]] w fun e w' => e = .returned (.bool false) ∧ Below w.heap.size w w' := by
 have hu := Tryz.underlying56
 have hu2 := Tryz.underlying25
 go_enter Tryz.func119, Tryz.ntmps119
 go_wp2_with (first | ((with_reducible refine gate_dst (N := 1) rfl ?_); refine box_event ?hg (N := 1) ?hd (cs := #[.int .u8 a0, .int .u8 a1, .string a2, .int .i64 a3, .int .i64 a4, .int .i64 a5]) (t := 56) ?hr ?_; (case hd => rfl); (case hg => rfl); (case hr => first | (go_simp; done) | (go_simp; rfl)); intro gb hg w6 hbox hb; (clear hg); have HX := Aside0.mk (box7 hb hbox); obtain ⟨_, z0, z1, z2, z3, z4, z5⟩ := box6 hb hbox; have HZ := Aside0.mk hb; (clear hb hbox)))
 refine start_ (n := 27) (S := fun W => Below w.heap.size w W ∧ W.cell? ⟨gb, 0, none⟩ = some (.int .u8 a0) ∧ W.cell? ⟨gb, 1, none⟩ = some (.int .u8 a1) ∧ W.cell? ⟨gb, 2, none⟩ = some (.string a2) ∧ W.cell? ⟨gb, 3, none⟩ = some (.int .i64 a3) ∧ W.cell? ⟨gb, 4, none⟩ = some (.int .i64 a4) ∧ W.cell? ⟨gb, 5, none⟩ = some (.int .i64 a5)) (ds := []) #[false, false, false, false, false, false, false, false, false, false, false, false, false, false, false, false, false, false, false, false, false, false, false, false, false, false, false] (by kernel_rfl) rfl rfl HX.out (fun hHeld => ?_)
 refine with_tabW weirtree_worded.r3.tab weirtree_worded.r3.bits (fun HT_ HW_ => ?_)
 refine pP 0 22 ?_
 refine pT 1 23 ?_
 refine pP 2 24 ?_
 refine pP 3 25 ?_
 refine pU 4 26 ?_
 refine pU 5 27 ?_
 refine pU 6 28 ?_
 refine pP 7 29 ?_
 refine pP 8 30 ?_
 refine pU 9 31 ?_
 refine pU 10 32 ?_
 refine pU 11 33 ?_
 refine pU 12 34 ?_
 refine pU 13 35 ?_
 refine pU 14 36 ?_
 refine pU 15 37 ?_
 refine pU 16 38 ?_
 refine pP 17 39 ?_
 refine pP 18 40 ?_
 refine pU 19 41 ?_
 refine pU 20 42 ?_
 refine pU 21 43 ?_
 refine pU 22 44 ?_
 refine pU 23 45 ?_
 refine pU 24 46 ?_
 refine pP 25 47 ?_
 refine pP 26 2 ?_
 refine done_ (done_of HT_.out (by kernel_rfl)) ?_
 go_wp2
 go_ret
 exact ⟨by first | rfl | (simp; done), hHeld.1⟩
end
def weirtree_worded.f (k : Nat) (a0 a1 : Int) (a2 : ByteArray) (a3 a4 a5 : Int) : Option Bool := (weirref05_IsWord.f k a2).bind fun c9 => (weirref05_IsText.f k a2).bind fun d9 => some (sortI a0 a1 a2 a3 a4 c9 d9 == 2)
theorem weirtree_worded.mono : ∀ a0 a1 a2 a3 a4 a5 k, LeO (weirtree_worded.f k a0 a1 a2 a3 a4 a5) (weirtree_worded.f (k + 1) a0 a1 a2 a3 a4 a5) := by
 intro a0 a1 a2 a3 a4 a5 k
 unfold weirtree_worded.f
 exact LeO.bind (weirref05_IsWord.mono _ _) (fun _ => LeO.bind (weirref05_IsText.mono _ _) (fun _ => LeO.refl _))
theorem weirtree_worded.calls (k : Nat) (a0 a1 : Int) (a2 : ByteArray) (a3 a4 a5 : Int) (r : Bool) (w : World) (h : weirtree_worded.f k a0 a1 a2 a3 a4 a5 = some r) :
  Calls Tryz.prog 119 #[.agg #[.int .u8 a0, .int .u8 a1, .string a2, .int .i64 a3, .int .i64 a4, .int .i64 a5]] w fun e w' => e = .returned (.bool r) ∧ Below w.heap.size w w' := by
 unfold weirtree_worded.f at h
 obtain ⟨c9, hw, h⟩ := Option.bind_eq_some_iff.mp h
 obtain ⟨d9, he, h⟩ := Option.bind_eq_some_iff.mp h
 obtain rfl := Option.some.inj h
 have HW := fun (W : World) (hb : Below w.heap.size w W) => (weirref05_IsWord.calls k a2 c9 W hw).mono (fun e w' h => (⟨h.1, by first | exact h.2.below | exact h.2⟩ : e = .returned (.bool c9) ∧ Below W.heap.size W w'))
 have HE := fun (W : World) (hb : Below w.heap.size w W) => (weirref05_IsText.calls k a2 d9 W he).mono (fun e w' h => (⟨h.1, by first | exact h.2.below | exact h.2⟩ : e = .returned (.bool d9) ∧ Below W.heap.size W w'))
 have HB := fun (W : World) => weirtree_bare.calls a0 a1 a2 a3 a4 a5 _ _ _ _ _ _ W rfl
 unfold sortI
 by_cases o1 : a0 = 23
 ·
  subst o1
  have h := weirtree_worded.at23 a1 a2 a3 a4 a5 23 a1 a2 a3 0 0 _ _ c9 w HB HW rfl rfl
  rw [show ∀ x y z : Bool, (x && y && z) = ((if x && z && y then (2 : Int) else 0) == 2) by decide] at h
  simpa using h
 ·
  by_cases o2 : a0 = 24
  ·
   subst o2
   have h := weirtree_worded.at24 a1 a2 a3 a4 a5 24 a1 a2 a3 0 0 _ _ _ d9 w HB HE rfl rfl rfl (by simp [isE])
   rw [show ∀ x y z u : Bool, (x && (y || z) && u) = ((if x && u && (y || z) then (2 : Int) else 0) == 2) by decide] at h
   simpa using h
  ·
   have h := weirtree_worded.at0 a0 a1 a2 a3 a4 a5 a0 a1 a2 a3 0 0 w (by simpa using o1) (by simpa using o2)
   rw [if_neg o1, if_neg o2, show ((if a0 = 25 then (if a4 == 0 && (a1 == 0 && a2.toList.isEmpty) && a3 == 0 then (3 : Int) else 0) else if a0 = 26 then (if a4 == 0 && (a1 == 0 && a2.toList.isEmpty) && decide ((-9223372036854775807) ≤ a3) then 3 else 0) else if 11 ≤ a0 ∧ a0 ≤ 22 then (if a1 == 0 && a2.toList.isEmpty && a3 == 0 then 1 else 0) else 0) == 2) = false by repeat' (first | rfl | split)]
   exact h

/-! ### weirtree_timed: function 120 (its contract typed by hand) -/
section
attribute [local go_sem high] eqA56
def weirtree_timed.r3.T : Bool × List (List Nat × List Nat) := (true, [([], []), ([0], [0]), ([1], [1]), ([2], [2]), ([3], [3]), ([4, 3], [3, 4]), ([5, 3], [3, 5]), ([3, 6], [3, 6]), ([7, 3], [7]), ([8], [8]), ([9, 8], [8, 9]), ([10, 8], [8, 10]), ([8, 11], [8, 11]), ([12, 8], [12]), ([13], [13]), ([14, 13, 13], [13, 14]), ([13], [13]), ([16, 13], [13, 16]), ([17, 13], [13, 17]), ([15, 18, 13], [13, 15, 18]), ([13, 19], [13, 19]), ([20, 15, 0, 1, 2, 3, 4, 5, 6, 7, 8, 9, 10, 11, 12, 13, 14, 15, 16, 17, 18, 19, 20], [20])])
def weirtree_timed.r3.B : List Nat := [0, 1, 3, 7, 15, 31, 63, 127, 255, 511, 1023, 2047, 4095, 8191, 16383, 32767, 16383, 81919, 212991, 524287, 1048575, 2097151]
theorem weirtree_timed.r3.tab : rtab .any (opsOf Tryz.f120 3) = weirtree_timed.r3.T := by kernel_rfl
theorem weirtree_timed.r3.bits : waitsOk weirtree_timed.r3.T.2 weirtree_timed.r3.B = true := by kernel_rfl
set_option maxRecDepth 100000 in
set_option maxHeartbeats 8000000 in
theorem weirtree_timed.at25 (a1 : Int) (a2 : ByteArray) (a3 a4 a5 b0 b1 : Int) (b2 : ByteArray) (b3 b4 b5 : Int) (c1 c2 : Bool) (w : World) (HB : ∀ W : World, Calls Tryz.prog 116 #[.agg #[.int .u8 25, .int .u8 a1, .string a2, .int .i64 a3, .int .i64 a4, .int .i64 a5]] W fun e w' => e = .returned (.agg #[.int .u8 b0, .int .u8 b1, .string b2, .int .i64 b3, .int .i64 b4, .int .i64 b5]) ∧ Below W.heap.size W w') (h1 : (a4 == 0) = c1) (h2 : (b0 == 25 && (b1 == 0 && (b2.toList.isEmpty && (b3 == 0 && (b4 == 0 && b5 == 0))))) = c2) (h2b : (b0 == 25 && (b1 == 0 && (b2.toList == ([] : List UInt8) && (b3 == 0 && (b4 == 0 && b5 == 0))))) = c2) :
  Calls Tryz.prog 120 #[.agg #[.int .u8 25, .int .u8 a1, .string a2, .int .i64 a3, .int .i64 a4, .int .i64 a5]] w fun e w' => e = .returned (.bool (c1 && c2)) ∧ Below w.heap.size w w' := by
 have hu := Tryz.underlying56
 replace HB := Aside0.mk HB
 cases c1
 all_goals
  go_enter Tryz.func120, Tryz.ntmps120
  go_wp2_with (first | ((with_reducible refine gate_dst (N := 1) rfl ?_); refine box_event ?hg (N := 1) ?hd (cs := #[.int .u8 25, .int .u8 a1, .string a2, .int .i64 a3, .int .i64 a4, .int .i64 a5]) (t := 56) ?hr ?_; (case hd => rfl); (case hg => rfl); (case hr => first | (go_simp; done) | (go_simp; rfl)); intro gb hg w6 hbox hb; (clear hg); have HX := Aside0.mk (box7 hb hbox); obtain ⟨_, z0, z1, z2, z3, z4, z5⟩ := box6 hb hbox; have HZ := Aside0.mk hb; (clear hb hbox)))
  go_wp2_with (go_at_call 116; refine (HB.out _).mono ?_; rintro e w5 ⟨rfl, hb⟩; have HX5 := Aside0.mk (keep7 (w := w) (box6i HZ.out z0 z1 z2 z3 z4 z5) hb); clear hb)
  go_ret
  first | exact ⟨by simp, HX5.out.1⟩ | exact ⟨by simp, HZ.out⟩ | exact ⟨by simp, HX.out.1⟩
set_option maxRecDepth 100000 in
set_option maxHeartbeats 8000000 in
theorem weirtree_timed.at26 (a1 : Int) (a2 : ByteArray) (a3 a4 a5 b0 b1 : Int) (b2 : ByteArray) (b3 b4 b5 : Int) (c1 c2 c3 : Bool) (w : World) (HB : ∀ W : World, Calls Tryz.prog 116 #[.agg #[.int .u8 26, .int .u8 a1, .string a2, .int .i64 a3, .int .i64 a4, .int .i64 a5]] W fun e w' => e = .returned (.agg #[.int .u8 b0, .int .u8 b1, .string b2, .int .i64 b3, .int .i64 b4, .int .i64 b5]) ∧ Below W.heap.size W w') (h1 : (a4 == 0) = c1) (h2 : (b0 == 26 && (b1 == 0 && (b2.toList.isEmpty && (b3 == a3 && (b4 == 0 && b5 == 0))))) = c2) (h2b : (b0 == 26 && (b1 == 0 && (b2.toList == ([] : List UInt8) && (b3 == a3 && (b4 == 0 && b5 == 0))))) = c2) (h3 : decide (a3 ≥ (-9223372036854775807)) = c3) (h3b : decide ((-9223372036854775807) ≤ a3) = c3) :
  Calls Tryz.prog 120 #[.agg #[.int .u8 26, .int .u8 a1, .string a2, .int .i64 a3, .int .i64 a4, .int .i64 a5]] w fun e w' => e = .returned (.bool (c1 && c3 && c2)) ∧ Below w.heap.size w w' := by
 have hu := Tryz.underlying56
 have hu2 := Tryz.underlying25
 replace HB := Aside0.mk HB
 go_enter Tryz.func120, Tryz.ntmps120
 go_wp2_with (first | ((with_reducible refine gate_dst (N := 1) rfl ?_); refine box_event ?hg (N := 1) ?hd (cs := #[.int .u8 26, .int .u8 a1, .string a2, .int .i64 a3, .int .i64 a4, .int .i64 a5]) (t := 56) ?hr ?_; (case hd => rfl); (case hg => rfl); (case hr => first | (go_simp; done) | (go_simp; rfl)); intro gb hg w6 hbox hb; (clear hg); have HX := Aside0.mk (box7 hb hbox); obtain ⟨_, z0, z1, z2, z3, z4, z5⟩ := box6 hb hbox; have HZ := Aside0.mk hb; (clear hb hbox)))
 refine start_ (n := 22) (S := fun W => Below w.heap.size w W ∧ W.cell? ⟨gb, 0, none⟩ = some (.int .u8 26) ∧ W.cell? ⟨gb, 1, none⟩ = some (.int .u8 a1) ∧ W.cell? ⟨gb, 2, none⟩ = some (.string a2) ∧ W.cell? ⟨gb, 3, none⟩ = some (.int .i64 a3) ∧ W.cell? ⟨gb, 4, none⟩ = some (.int .i64 a4) ∧ W.cell? ⟨gb, 5, none⟩ = some (.int .i64 a5)) (ds := []) #[false, false, false, false, false, false, false, false, false, false, false, false, false, false, false, false, false, false, false, false, false, false] (by kernel_rfl) rfl rfl HX.out (fun hHeld => ?_)
 refine with_tabW weirtree_timed.r3.tab weirtree_timed.r3.bits (fun HT_ HW_ => ?_)
 refine pP 0 15 ?_
 refine pT 1 16 ?_
 refine pP 2 17 ?_
 refine pP 3 18 ?_
 refine pP 4 19 ?_
 refine pT 5 20 ?_
 refine pP 6 21 ?_
 refine pP 7 22 ?_
 refine pP 8 23 ?_
 cases c1
 ·
  refine pU 9 24 ?_
  refine pU 10 25 ?_
  refine pU 11 26 ?_
  refine pP 12 27 ?_
  refine pP 13 28 ?_
  refine pU 14 29 ?_
  refine pU 15 30 ?_
  refine pU 16 31 ?_
  refine pU 17 32 ?_
  refine pU 18 33 ?_
  refine pU 19 34 ?_
  refine pP 20 35 ?_
  refine pP 21 2 ?_
  refine done_ (done_of HT_.out (by kernel_rfl)) ?_
  go_wp2
  go_ret
  exact ⟨by first | rfl | (simp; done), hHeld.1⟩
 ·
  refine pP 9 24 ?_
  refine pT 10 25 ?_
  refine pP 11 26 ?_
  refine pP 12 27 ?_
  refine pP 13 28 ?_
  cases c3
  ·
   refine pU 14 29 ?_
   refine pU 15 30 ?_
   refine pU 16 31 ?_
   refine pU 17 32 ?_
   refine pU 18 33 ?_
   refine pU 19 34 ?_
   refine pP 20 35 ?_
   refine pP 21 2 ?_
   refine done_ (done_of HT_.out (by kernel_rfl)) ?_
   go_wp2
   go_ret
   exact ⟨by first | rfl | (simp; done), hHeld.1⟩
  ·
   refine pT 14 29 ?_
   refine pP 16 31 ?_
   refine pT 17 32 ?_
   refine pP 18 33 ?_
   refine pO 15 30 (fun K hK => ?_)
   refine goes_ Tryz.func116 (by kernel_rfl) rfl #[.agg #[.int .u8 26, .int .u8 a1, .string a2, .int .i64 a3, .int .i64 a4, .int .i64 a5]] (by rfl) rfl rfl (by first | rfl | (simp only [q4, q5, q6]; rfl)) ?_
   refine (HB.out _).mono ?_
   rintro e w5 ⟨rfl, hb⟩
   refine ⟨_, rfl, ?_⟩
   refine hK.out _ _ (keep7 hHeld hb) (fun hHeld => ?_)
   clear hK K
   refine norm_ (a' := ?_) ?_ ?_
   rotate_left
   ·
    show Act.put _ (some 30) _ = _
    simp only [Act.put, q1, q2, q3, i64_w, i32_w]
    rfl
   refine pP 19 34 ?_
   refine pP 20 35 ?_
   refine pP 21 2 ?_
   refine done_ (done_of HT_.out (by kernel_rfl)) ?_
   go_wp2
   go_ret
   exact ⟨by first | rfl | (simp; done), hHeld.1⟩
set_option maxRecDepth 100000 in
set_option maxHeartbeats 8000000 in
theorem weirtree_timed.at0 (a0 : Int) (a1 : Int) (a2 : ByteArray) (a3 a4 a5 b0 b1 : Int) (b2 : ByteArray) (b3 b4 b5 : Int)  (w : World) (n25 : (a0 == 25) = false) (n26 : (a0 == 26) = false) :
  Calls Tryz.prog 120 #[.agg #[.int .u8 a0, .int .u8 a1, .string a2, .int .i64 a3, .int .i64 a4, .int .i64 a5]] w fun e w' => e = .returned (.bool false) ∧ Below w.heap.size w w' := by
 have hu := Tryz.underlying56
 have hu2 := Tryz.underlying25
 go_enter Tryz.func120, Tryz.ntmps120
 go_wp2_with (first | ((with_reducible refine gate_dst (N := 1) rfl ?_); refine box_event ?hg (N := 1) ?hd (cs := #[.int .u8 a0, .int .u8 a1, .string a2, .int .i64 a3, .int .i64 a4, .int .i64 a5]) (t := 56) ?hr ?_; (case hd => rfl); (case hg => rfl); (case hr => first | (go_simp; done) | (go_simp; rfl)); intro gb hg w6 hbox hb; (clear hg); have HX := Aside0.mk (box7 hb hbox); obtain ⟨_, z0, z1, z2, z3, z4, z5⟩ := box6 hb hbox; have HZ := Aside0.mk hb; (clear hb hbox)))
 refine start_ (n := 22) (S := fun W => Below w.heap.size w W ∧ W.cell? ⟨gb, 0, none⟩ = some (.int .u8 a0) ∧ W.cell? ⟨gb, 1, none⟩ = some (.int .u8 a1) ∧ W.cell? ⟨gb, 2, none⟩ = some (.string a2) ∧ W.cell? ⟨gb, 3, none⟩ = some (.int .i64 a3) ∧ W.cell? ⟨gb, 4, none⟩ = some (.int .i64 a4) ∧ W.cell? ⟨gb, 5, none⟩ = some (.int .i64 a5)) (ds := []) #[false, false, false, false, false, false, false, false, false, false, false, false, false, false, false, false, false, false, false, false, false, false] (by kernel_rfl) rfl rfl HX.out (fun hHeld => ?_)
 refine with_tabW weirtree_timed.r3.tab weirtree_timed.r3.bits (fun HT_ HW_ => ?_)
 refine pP 0 15 ?_
 refine pT 1 16 ?_
 refine pP 2 17 ?_
 refine pP 3 18 ?_
 refine pU 4 19 ?_
 refine pU 5 20 ?_
 refine pU 6 21 ?_
 refine pP 7 22 ?_
 refine pP 8 23 ?_
 refine pU 9 24 ?_
 refine pU 10 25 ?_
 refine pU 11 26 ?_
 refine pP 12 27 ?_
 refine pP 13 28 ?_
 refine pU 14 29 ?_
 refine pU 15 30 ?_
 refine pU 16 31 ?_
 refine pU 17 32 ?_
 refine pU 18 33 ?_
 refine pU 19 34 ?_
 refine pP 20 35 ?_
 refine pP 21 2 ?_
 refine done_ (done_of HT_.out (by kernel_rfl)) ?_
 go_wp2
 go_ret
 exact ⟨by first | rfl | (simp; done), hHeld.1⟩
end
def weirtree_timed.f (a0 a1 : Int) (a2 : ByteArray) (a3 a4 a5 : Int) : Option Bool := some (sortI a0 a1 a2 a3 a4 false false == 3)
theorem weirtree_timed.calls (a0 a1 : Int) (a2 : ByteArray) (a3 a4 a5 : Int) (r : Bool) (w : World) (h : weirtree_timed.f a0 a1 a2 a3 a4 a5 = some r) :
  Calls Tryz.prog 120 #[.agg #[.int .u8 a0, .int .u8 a1, .string a2, .int .i64 a3, .int .i64 a4, .int .i64 a5]] w fun e w' => e = .returned (.bool r) ∧ Below w.heap.size w w' := by
 unfold weirtree_timed.f at h
 obtain rfl := Option.some.inj h
 have HB := fun (W : World) => weirtree_bare.calls a0 a1 a2 a3 a4 a5 _ _ _ _ _ _ W rfl
 unfold sortI
 by_cases o3 : a0 = 25
 ·
  subst o3
  have h := weirtree_timed.at25 a1 a2 a3 a4 a5 25 a1 a2 a3 0 0 _ _ w HB rfl rfl (by simp [isE])
  rw [show ∀ x y : Bool, (x && y) = ((if x && y then (3 : Int) else 0) == 3) by decide] at h
  simpa [Bool.and_assoc] using h
 ·
  by_cases o4 : a0 = 26
  ·
   subst o4
   have h := weirtree_timed.at26 a1 a2 a3 a4 a5 26 a1 a2 a3 0 0 _ _ _ w HB rfl rfl (by simp [isE]) rfl rfl
   rw [show ∀ x y z : Bool, (x && y && z) = ((if x && z && y then (3 : Int) else 0) == 3) by decide] at h
   simpa using h
  ·
   have h := weirtree_timed.at0 a0 a1 a2 a3 a4 a5 a0 a1 a2 a3 0 0 w (by simpa using o3) (by simpa using o4)
   rw [if_neg o3, if_neg o4, show ((if a0 = 23 then (if a4 == 0 && (a1 == 0 && a3 == 0) && false then (2 : Int) else 0) else if a0 = 24 then (if a4 == 0 && (a1 == 0 && a3 == 0) && (a2.toList.isEmpty || false) then 2 else 0) else if 11 ≤ a0 ∧ a0 ≤ 22 then (if a1 == 0 && a2.toList.isEmpty && a3 == 0 then 1 else 0) else 0) == 3) = false by repeat' (first | rfl | split)]
   exact h

/-! ### weirref01_New: function 39 -/
def weirref01_New.f (a0 : Int) : Option (Int × Int × Int × Bool × Bool) := some (a0, 0, 0, false, false)
set_option maxHeartbeats 8000000 in
set_option maxRecDepth 100000 in
theorem weirref01_New.calls (a0 : Int) (r1 : Int) (r2 : Int) (r3 : Int) (r4 : Bool) (r5 : Bool) (w : World) (h : weirref01_New.f a0 = some (r1, r2, r3, r4, r5)) :
  Calls Tryz.prog 39 #[.int .i64 a0] w fun e w' => e = .returned (.agg #[.int .i64 r1, .int .i64 r2, .int .i64 r3, .bool r4, .bool r5]) ∧ Below w.heap.size w w' := by
 have hu30 := Tryz.underlying30
 have HB := Aside0.mk (Below.refl w.heap.size w)
 have H : (some (a0, 0, 0, false, false)) = some (r1, r2, r3, r4, r5) := h
 clear h
 simp only [Option.some.injEq, Prod.mk.injEq] at H
 obtain ⟨rfl, rfl, rfl, rfl, rfl⟩ := H
 go_enter Tryz.func39, Tryz.ntmps39
 go_wp2_with (first | ((with_reducible refine gate_dst (N := 2) rfl ?_); refine box_event ?hg (N := 2) ?hd (cs := #[.int .i64 0, .int .i64 0, .int .i64 0, .bool false, .bool false]) (t := 30) ?hr ?_; (case hd => rfl); (case hg => rfl); (case hr => first | (go_simp; done) | (go_simp; rfl)); intro gb166 hg w2 hbox hb; have n0_ := Aside0.mk (below_step (by repeat (first | (with_reducible first | exact HB.out | apply below_alloc | apply pw_below_drewN | apply below_drew1) | exact HB.out)) hb); have n1_ := Aside0.mk (hbox); have n2_ := Aside0.mk ((by rw [hg]; exact (below_size (by repeat (first | (with_reducible first | exact HB.out | apply below_alloc | apply pw_below_drewN | apply below_drew1) | exact HB.out))) : w.heap.size ≤ gb166)); have n3_ := Aside0.mk ((by rw [hg]; exact (below_size (by repeat (first | (with_reducible first | exact HB.out | apply below_alloc | apply pw_below_drewN | apply below_drew1) | exact HB.out))) : w.heap.size ≤ gb166)); clear HB; have HB := n0_; have BK166 := n1_; have GW166 := n2_; have GE166 := n3_; clear n0_ n1_ n2_ n3_; clear hb hbox hg; have hcz3_0 : w2.cell? ⟨gb166, 0, none⟩ = some (.int .i64 0) := (blk_cell BK166.out 0).trans rfl; have hcz3_1 : w2.cell? ⟨gb166, 1, none⟩ = some (.int .i64 0) := (blk_cell BK166.out 1).trans rfl; have hcz3_2 : w2.cell? ⟨gb166, 2, none⟩ = some (.int .i64 0) := (blk_cell BK166.out 2).trans rfl; have hcz3_3 : w2.cell? ⟨gb166, 3, none⟩ = some (.bool false) := (blk_cell BK166.out 3).trans rfl; have hcz3_4 : w2.cell? ⟨gb166, 4, none⟩ = some (.bool false) := (blk_cell BK166.out 4).trans rfl; have hfz3_0 := blk_frozen BK166.out 0; have hfz3_1 := blk_frozen BK166.out 1; have hfz3_2 := blk_frozen BK166.out 2; have hfz3_3 := blk_frozen BK166.out 3; have hfz3_4 := blk_frozen BK166.out 4))
 refine bodyPost_ret (results_cell_row rfl _ _ gb166 30 #[.int .i64 a0, .int .i64 0, .int .i64 0, .bool false, .bool false] (0, 0) _ rfl (by (with_reducible repeat (first | refine blk_drewN ?_ _ | refine blk_drew ?_ | refine blk_alloc ?_ _)); refine blk_put (cs := #[.int .i64 a0, .int .i64 0, .int .i64 0, .bool false, .bool false]) ?_ 4 _ rfl; (with_reducible repeat (first | refine blk_drewN ?_ _ | refine blk_drew ?_ | refine blk_alloc ?_ _)); refine blk_put (cs := #[.int .i64 a0, .int .i64 0, .int .i64 0, .bool false, .bool false]) ?_ 3 _ rfl; (with_reducible repeat (first | refine blk_drewN ?_ _ | refine blk_drew ?_ | refine blk_alloc ?_ _)); refine blk_put (cs := #[.int .i64 a0, .int .i64 0, .int .i64 0, .bool false, .bool false]) ?_ 2 _ rfl; (with_reducible repeat (first | refine blk_drewN ?_ _ | refine blk_drew ?_ | refine blk_alloc ?_ _)); refine blk_put (cs := #[.int .i64 a0, .int .i64 0, .int .i64 0, .bool false, .bool false]) ?_ 1 _ rfl; (with_reducible repeat (first | refine blk_drewN ?_ _ | refine blk_drew ?_ | refine blk_alloc ?_ _)); refine blk_put (cs := #[.int .i64 0, .int .i64 0, .int .i64 0, .bool false, .bool false]) ?_ 0 _ rfl; (with_reducible repeat (first | refine blk_drewN ?_ _ | refine blk_drew ?_ | refine blk_alloc ?_ _)); exact BK166.out) Tryz.underlying30 rfl (by kernel_rfl)) rfl ?_
 exact ⟨by first | rfl | (simp [errW_none, errW_some] <;> rfl) | (simp [*, errW_none, errW_some] <;> rfl), by repeat (first | (with_reducible first | exact HB.out | apply below_alloc | apply pw_below_drewN | apply below_drew1 | refine below_set ?_ GE166.out) | exact HB.out)⟩

/-! ### weirref13_Sum: function 15 -/
def weirref13_Sum.f (k : Nat) (l0 : List (S56)) : Option (Int × Int × Int × Bool × Bool) := (weirtree_Sum.f k l0).bind fun t168 => (if t168 = true then ((weirtree_Depth.f k l0).bind fun t174 => (if t174 > 64 then ((weirref01_New.f 141).bind fun bt175 => (some (bt175.1, bt175.2.1, bt175.2.2.1, bt175.2.2.2.1, bt175.2.2.2.2))) else (some (0, 0, 0, false, false)))) else ((weirref01_New.f 130).bind fun bt169 => (some (bt169.1, bt169.2.1, bt169.2.2.1, bt169.2.2.2.1, bt169.2.2.2.2))))
theorem weirref13_Sum.mono : ∀ a0 k, LeO (weirref13_Sum.f k a0) (weirref13_Sum.f (k + 1) a0) := by
 intro a0 k
 unfold weirref13_Sum.f
 repeat' first
   | (with_reducible exact weirtree_Depth.mono _ _)
   | (with_reducible exact weirtree_Sum.mono _ _)
   | (with_reducible exact LeO.refl _)
   | (with_reducible exact LeO.none _)
   | (with_reducible refine LeO.ite ?_ ?_)
   | (with_reducible refine LeO.bind ?_ (fun _ => ?_))
   | exact weirtree_Depth.mono _ _
   | exact weirtree_Sum.mono _ _
   | exact LeO.none _
   | refine LeO.ite ?_ ?_
   | refine LeO.bind ?_ (fun _ => ?_)
set_option maxHeartbeats 8000000 in
set_option maxRecDepth 100000 in
theorem weirref13_Sum.calls (k : Nat) (A0 : Option Addr) (c0 : Nat) (l0 : List (S56)) (r1 : Int) (r2 : Int) (r3 : Int) (r4 : Bool) (r5 : Bool) (w : World) (hr0 : Kd.C k56 w A0 l0.length l0) (hc0 : l0.length ≤ c0) (h : weirref13_Sum.f k l0 = some (r1, r2, r3, r4, r5)) :
  Calls Tryz.prog 15 #[.slice A0 l0.length c0] w fun e w' => e = .returned (.agg #[.int .i64 r1, .int .i64 r2, .int .i64 r3, .bool r4, .bool r5]) ∧ Below w.heap.size w w' := by
 have hu30 := Tryz.underlying30
 have HR0 := Aside0.mk hr0
 have HC0 := Aside0.mk hc0
 clear hr0 hc0
 have HB := Aside0.mk (Below.refl w.heap.size w)
 have H : ((weirtree_Sum.f k l0).bind fun t168 => (if t168 = true then ((weirtree_Depth.f k l0).bind fun t174 => (if t174 > 64 then ((weirref01_New.f 141).bind fun bt175 => (some (bt175.1, bt175.2.1, bt175.2.2.1, bt175.2.2.2.1, bt175.2.2.2.2))) else (some (0, 0, 0, false, false)))) else ((weirref01_New.f 130).bind fun bt169 => (some (bt169.1, bt169.2.1, bt169.2.2.1, bt169.2.2.2.1, bt169.2.2.2.2))))) = some (r1, r2, r3, r4, r5) := h
 clear h
 replace H := Option.bind_eq_some_iff.mp H
 obtain ⟨t168, A20, H⟩ := H
 replace H : (if t168 = true then ((weirtree_Depth.f k l0).bind fun t174 => (if t174 > 64 then ((weirref01_New.f 141).bind fun bt175 => (some (bt175.1, bt175.2.1, bt175.2.2.1, bt175.2.2.2.1, bt175.2.2.2.2))) else (some (0, 0, 0, false, false)))) else ((weirref01_New.f 130).bind fun bt169 => (some (bt169.1, bt169.2.1, bt169.2.2.1, bt169.2.2.2.1, bt169.2.2.2.2)))) = some (r1, r2, r3, r4, r5) := H
 have A2 := Aside0.mk A20
 clear A20
 by_cases c3 : t168 = true
 ·
  subst c3
  have H1 : ((weirtree_Depth.f k l0).bind fun t174 => (if t174 > 64 then ((weirref01_New.f 141).bind fun bt175 => (some (bt175.1, bt175.2.1, bt175.2.2.1, bt175.2.2.2.1, bt175.2.2.2.2))) else (some (0, 0, 0, false, false)))) = some (r1, r2, r3, r4, r5) := by rw [if_pos rfl] at H; exact H
  clear H
  have H := H1
  clear H1
  replace H := Option.bind_eq_some_iff.mp H
  obtain ⟨t174, A40, H⟩ := H
  replace H : (if t174 > 64 then ((weirref01_New.f 141).bind fun bt175 => (some (bt175.1, bt175.2.1, bt175.2.2.1, bt175.2.2.2.1, bt175.2.2.2.2))) else (some (0, 0, 0, false, false))) = some (r1, r2, r3, r4, r5) := H
  have A4 := Aside0.mk A40
  clear A40
  by_cases c5 : t174 > 64
  ·
   rw [if_pos c5] at H
   have c5b0 : decide (64 < t174) = true := decide_eq_true c5
   clear c5
   replace H := Option.bind_eq_some_iff.mp H
   obtain ⟨⟨t175, t176, t177, t178, t179⟩, A60, H⟩ := H
   replace H : (some (t175, t176, t177, t178, t179)) = some (r1, r2, r3, r4, r5) := H
   have A6 := Aside0.mk A60
   clear A60
   simp only [Option.some.injEq, Prod.mk.injEq] at H
   obtain ⟨rfl, rfl, rfl, rfl, rfl⟩ := H
   go_enter Tryz.func15, Tryz.ntmps15
   go_wp2_with (first | ((with_reducible refine gate_dst (N := 2) rfl ?_); refine box_event ?hg (N := 2) ?hd (cs := #[.int .i64 0, .int .i64 0, .int .i64 0, .bool false, .bool false]) (t := 30) ?hr ?_; (case hd => rfl); (case hg => rfl); (case hr => first | (go_simp; done) | (go_simp; rfl)); intro gb167 hg w7 hbox hb; have n0_ := Aside0.mk (below_step (by repeat (first | (with_reducible first | exact HB.out | apply below_alloc | apply pw_below_drewN | apply below_drew1) | exact HB.out)) hb); have n1_ := Aside0.mk (hbox); have n2_ := Aside0.mk ((by rw [hg]; exact (below_size (by repeat (first | (with_reducible first | exact HB.out | apply below_alloc | apply pw_below_drewN | apply below_drew1) | exact HB.out))) : w.heap.size ≤ gb167)); have n3_ := Aside0.mk ((by rw [hg]; exact (below_size (by repeat (first | (with_reducible first | exact HB.out | apply below_alloc | apply pw_below_drewN | apply below_drew1) | exact HB.out))) : w.heap.size ≤ gb167)); clear HB; have HB := n0_; have BK167 := n1_; have GW167 := n2_; have GE167 := n3_; clear n0_ n1_ n2_ n3_; clear hb hbox hg) | ((with_reducible refine gate_callee (f := 38) rfl ?_); refine goesL_ (some 4) rfl rfl Tryz.func38 (by kernel_rfl) rfl #[.slice A0 l0.length c0] rfl (by (try simp only [q4, q5, q6]); first | done | rfl | (simp only [List.length_drop, List.length_take]; rfl)) ?_; (with_reducible refine (weirtree_Sum.calls k _ _ l0 true _ ?side1 ?side2 A2.out).mono ?_); (case side1 => repeat (first | exact (Kd.C_below HR0.out HB.out) | (with_reducible refine Kd.C_alloc ?_ _) | (with_reducible refine Kd.C_drewN ?_ _) | (with_reducible refine Kd.C_drew ?_))); (case side2 => exact HC0.out); rintro e w8 ⟨rfl, hb⟩; refine ⟨_, rfl, ?_⟩; have n0_ := Aside0.mk (blk_below (g := gb167) (o := .cells #[.int .i64 0, .int .i64 0, .int .i64 0, .bool false, .bool false] 30 (0, 0)) (by (with_reducible repeat (first | refine blk_drewN ?_ _ | refine blk_drew ?_ | refine blk_alloc ?_ _)); exact BK167.out) hb); have n1_ := Aside0.mk (below_step (by repeat (first | (with_reducible first | exact HB.out | apply below_alloc | apply pw_below_drewN | apply below_drew1 | refine below_set ?_ GE167.out) | exact HB.out)) hb); clear BK167; clear HB; have BK167 := n0_; have HB := n1_; clear n0_ n1_; (try clear hb); (try clear hb2); (try clear hk); (try clear hi)) | ((with_reducible refine gate_callee (f := 40) rfl ?_); refine goesL_ (some 8) rfl rfl Tryz.func40 (by kernel_rfl) rfl #[.slice A0 l0.length c0] rfl (by (try simp only [q4, q5, q6]); first | done | rfl | (simp only [List.length_drop, List.length_take]; rfl)) ?_; (with_reducible refine (weirtree_Depth.calls k _ _ l0 t174 _ ?side1 ?side2 A4.out).mono ?_); (case side1 => repeat (first | exact (Kd.C_below HR0.out HB.out) | (with_reducible refine Kd.C_alloc ?_ _) | (with_reducible refine Kd.C_drewN ?_ _) | (with_reducible refine Kd.C_drew ?_))); (case side2 => exact HC0.out); rintro e w9 ⟨rfl, hb⟩; refine ⟨_, rfl, ?_⟩; have n0_ := Aside0.mk (blk_below (g := gb167) (o := .cells #[.int .i64 0, .int .i64 0, .int .i64 0, .bool false, .bool false] 30 (0, 0)) (by (with_reducible repeat (first | refine blk_drewN ?_ _ | refine blk_drew ?_ | refine blk_alloc ?_ _)); exact BK167.out) hb); have n1_ := Aside0.mk (below_step (by repeat (first | (with_reducible first | exact HB.out | apply below_alloc | apply pw_below_drewN | apply below_drew1 | refine below_set ?_ GE167.out) | exact HB.out)) hb); clear BK167; clear HB; have BK167 := n0_; have HB := n1_; clear n0_ n1_; (try clear hb); (try clear hb2); (try clear hk); (try clear hi)) | ((with_reducible refine gate_callee (f := 39) rfl ?_); refine goesL_ (some 10) rfl rfl Tryz.func39 (by kernel_rfl) rfl #[.int .i64 141] rfl (by (try simp only [q4, q5, q6]); first | done | rfl | (simp only [List.length_drop, List.length_take]; rfl)) ?_; (with_reducible refine (weirref01_New.calls 141 t175 t176 t177 t178 t179 _ A6.out).mono ?_); rintro e w10 ⟨rfl, hb⟩; refine ⟨_, rfl, ?_⟩; have n0_ := Aside0.mk (blk_below (g := gb167) (o := .cells #[.int .i64 0, .int .i64 0, .int .i64 0, .bool false, .bool false] 30 (0, 0)) (by (with_reducible repeat (first | refine blk_drewN ?_ _ | refine blk_drew ?_ | refine blk_alloc ?_ _)); exact BK167.out) hb); have n1_ := Aside0.mk (below_step (by repeat (first | (with_reducible first | exact HB.out | apply below_alloc | apply pw_below_drewN | apply below_drew1 | refine below_set ?_ GE167.out) | exact HB.out)) hb); clear BK167; clear HB; have BK167 := n0_; have HB := n1_; clear n0_ n1_; (try clear hb); (try clear hb2); (try clear hk); (try clear hi); have hcz11_0 : w10.cell? ⟨gb167, 0, none⟩ = some (.int .i64 0) := (blk_cell BK167.out 0).trans rfl; have hcz11_1 : w10.cell? ⟨gb167, 1, none⟩ = some (.int .i64 0) := (blk_cell BK167.out 1).trans rfl; have hcz11_2 : w10.cell? ⟨gb167, 2, none⟩ = some (.int .i64 0) := (blk_cell BK167.out 2).trans rfl; have hcz11_3 : w10.cell? ⟨gb167, 3, none⟩ = some (.bool false) := (blk_cell BK167.out 3).trans rfl; have hcz11_4 : w10.cell? ⟨gb167, 4, none⟩ = some (.bool false) := (blk_cell BK167.out 4).trans rfl; have hfz11_0 := blk_frozen BK167.out 0; have hfz11_1 := blk_frozen BK167.out 1; have hfz11_2 := blk_frozen BK167.out 2; have hfz11_3 := blk_frozen BK167.out 3; have hfz11_4 := blk_frozen BK167.out 4))
   refine bodyPost_ret (results_cell_row rfl _ _ gb167 30 #[.int .i64 t175, .int .i64 t176, .int .i64 t177, .bool t178, .bool t179] (0, 0) _ rfl (by (with_reducible repeat (first | refine blk_drewN ?_ _ | refine blk_drew ?_ | refine blk_alloc ?_ _)); refine blk_put (cs := #[.int .i64 t175, .int .i64 t176, .int .i64 t177, .bool t178, .bool false]) ?_ 4 _ rfl; (with_reducible repeat (first | refine blk_drewN ?_ _ | refine blk_drew ?_ | refine blk_alloc ?_ _)); refine blk_put (cs := #[.int .i64 t175, .int .i64 t176, .int .i64 t177, .bool false, .bool false]) ?_ 3 _ rfl; (with_reducible repeat (first | refine blk_drewN ?_ _ | refine blk_drew ?_ | refine blk_alloc ?_ _)); refine blk_put (cs := #[.int .i64 t175, .int .i64 t176, .int .i64 0, .bool false, .bool false]) ?_ 2 _ rfl; (with_reducible repeat (first | refine blk_drewN ?_ _ | refine blk_drew ?_ | refine blk_alloc ?_ _)); refine blk_put (cs := #[.int .i64 t175, .int .i64 0, .int .i64 0, .bool false, .bool false]) ?_ 1 _ rfl; (with_reducible repeat (first | refine blk_drewN ?_ _ | refine blk_drew ?_ | refine blk_alloc ?_ _)); refine blk_put (cs := #[.int .i64 0, .int .i64 0, .int .i64 0, .bool false, .bool false]) ?_ 0 _ rfl; (with_reducible repeat (first | refine blk_drewN ?_ _ | refine blk_drew ?_ | refine blk_alloc ?_ _)); exact BK167.out) Tryz.underlying30 rfl (by kernel_rfl)) rfl ?_
   exact ⟨by first | rfl | (simp [errW_none, errW_some] <;> rfl) | (simp [*, errW_none, errW_some] <;> rfl), by repeat (first | (with_reducible first | exact HB.out | apply below_alloc | apply pw_below_drewN | apply below_drew1 | refine below_set ?_ GE167.out) | exact HB.out)⟩
  ·
   rw [if_neg c5] at H
   have c5b0 : decide (64 < t174) = false := decide_eq_false c5
   clear c5
   simp only [Option.some.injEq, Prod.mk.injEq] at H
   obtain ⟨rfl, rfl, rfl, rfl, rfl⟩ := H
   go_enter Tryz.func15, Tryz.ntmps15
   go_wp2_with (first | ((with_reducible refine gate_dst (N := 2) rfl ?_); refine box_event ?hg (N := 2) ?hd (cs := #[.int .i64 0, .int .i64 0, .int .i64 0, .bool false, .bool false]) (t := 30) ?hr ?_; (case hd => rfl); (case hg => rfl); (case hr => first | (go_simp; done) | (go_simp; rfl)); intro gb167 hg w12 hbox hb; have n0_ := Aside0.mk (below_step (by repeat (first | (with_reducible first | exact HB.out | apply below_alloc | apply pw_below_drewN | apply below_drew1) | exact HB.out)) hb); have n1_ := Aside0.mk (hbox); have n2_ := Aside0.mk ((by rw [hg]; exact (below_size (by repeat (first | (with_reducible first | exact HB.out | apply below_alloc | apply pw_below_drewN | apply below_drew1) | exact HB.out))) : w.heap.size ≤ gb167)); have n3_ := Aside0.mk ((by rw [hg]; exact (below_size (by repeat (first | (with_reducible first | exact HB.out | apply below_alloc | apply pw_below_drewN | apply below_drew1) | exact HB.out))) : w.heap.size ≤ gb167)); clear HB; have HB := n0_; have BK167 := n1_; have GW167 := n2_; have GE167 := n3_; clear n0_ n1_ n2_ n3_; clear hb hbox hg) | ((with_reducible refine gate_callee (f := 38) rfl ?_); refine goesL_ (some 4) rfl rfl Tryz.func38 (by kernel_rfl) rfl #[.slice A0 l0.length c0] rfl (by (try simp only [q4, q5, q6]); first | done | rfl | (simp only [List.length_drop, List.length_take]; rfl)) ?_; (with_reducible refine (weirtree_Sum.calls k _ _ l0 true _ ?side1 ?side2 A2.out).mono ?_); (case side1 => repeat (first | exact (Kd.C_below HR0.out HB.out) | (with_reducible refine Kd.C_alloc ?_ _) | (with_reducible refine Kd.C_drewN ?_ _) | (with_reducible refine Kd.C_drew ?_))); (case side2 => exact HC0.out); rintro e w13 ⟨rfl, hb⟩; refine ⟨_, rfl, ?_⟩; have n0_ := Aside0.mk (blk_below (g := gb167) (o := .cells #[.int .i64 0, .int .i64 0, .int .i64 0, .bool false, .bool false] 30 (0, 0)) (by (with_reducible repeat (first | refine blk_drewN ?_ _ | refine blk_drew ?_ | refine blk_alloc ?_ _)); exact BK167.out) hb); have n1_ := Aside0.mk (below_step (by repeat (first | (with_reducible first | exact HB.out | apply below_alloc | apply pw_below_drewN | apply below_drew1 | refine below_set ?_ GE167.out) | exact HB.out)) hb); clear BK167; clear HB; have BK167 := n0_; have HB := n1_; clear n0_ n1_; (try clear hb); (try clear hb2); (try clear hk); (try clear hi)) | ((with_reducible refine gate_callee (f := 40) rfl ?_); refine goesL_ (some 8) rfl rfl Tryz.func40 (by kernel_rfl) rfl #[.slice A0 l0.length c0] rfl (by (try simp only [q4, q5, q6]); first | done | rfl | (simp only [List.length_drop, List.length_take]; rfl)) ?_; (with_reducible refine (weirtree_Depth.calls k _ _ l0 t174 _ ?side1 ?side2 A4.out).mono ?_); (case side1 => repeat (first | exact (Kd.C_below HR0.out HB.out) | (with_reducible refine Kd.C_alloc ?_ _) | (with_reducible refine Kd.C_drewN ?_ _) | (with_reducible refine Kd.C_drew ?_))); (case side2 => exact HC0.out); rintro e w14 ⟨rfl, hb⟩; refine ⟨_, rfl, ?_⟩; have n0_ := Aside0.mk (blk_below (g := gb167) (o := .cells #[.int .i64 0, .int .i64 0, .int .i64 0, .bool false, .bool false] 30 (0, 0)) (by (with_reducible repeat (first | refine blk_drewN ?_ _ | refine blk_drew ?_ | refine blk_alloc ?_ _)); exact BK167.out) hb); have n1_ := Aside0.mk (below_step (by repeat (first | (with_reducible first | exact HB.out | apply below_alloc | apply pw_below_drewN | apply below_drew1 | refine below_set ?_ GE167.out) | exact HB.out)) hb); clear BK167; clear HB; have BK167 := n0_; have HB := n1_; clear n0_ n1_; (try clear hb); (try clear hb2); (try clear hk); (try clear hi); have hcz15_0 : w14.cell? ⟨gb167, 0, none⟩ = some (.int .i64 0) := (blk_cell BK167.out 0).trans rfl; have hcz15_1 : w14.cell? ⟨gb167, 1, none⟩ = some (.int .i64 0) := (blk_cell BK167.out 1).trans rfl; have hcz15_2 : w14.cell? ⟨gb167, 2, none⟩ = some (.int .i64 0) := (blk_cell BK167.out 2).trans rfl; have hcz15_3 : w14.cell? ⟨gb167, 3, none⟩ = some (.bool false) := (blk_cell BK167.out 3).trans rfl; have hcz15_4 : w14.cell? ⟨gb167, 4, none⟩ = some (.bool false) := (blk_cell BK167.out 4).trans rfl; have hfz15_0 := blk_frozen BK167.out 0; have hfz15_1 := blk_frozen BK167.out 1; have hfz15_2 := blk_frozen BK167.out 2; have hfz15_3 := blk_frozen BK167.out 3; have hfz15_4 := blk_frozen BK167.out 4))
   refine bodyPost_ret (results_cell_row rfl _ _ gb167 30 #[.int .i64 0, .int .i64 0, .int .i64 0, .bool false, .bool false] (0, 0) _ rfl (by (with_reducible repeat (first | refine blk_drewN ?_ _ | refine blk_drew ?_ | refine blk_alloc ?_ _)); refine blk_put (cs := #[.int .i64 0, .int .i64 0, .int .i64 0, .bool false, .bool false]) ?_ 4 _ rfl; (with_reducible repeat (first | refine blk_drewN ?_ _ | refine blk_drew ?_ | refine blk_alloc ?_ _)); refine blk_put (cs := #[.int .i64 0, .int .i64 0, .int .i64 0, .bool false, .bool false]) ?_ 3 _ rfl; (with_reducible repeat (first | refine blk_drewN ?_ _ | refine blk_drew ?_ | refine blk_alloc ?_ _)); refine blk_put (cs := #[.int .i64 0, .int .i64 0, .int .i64 0, .bool false, .bool false]) ?_ 2 _ rfl; (with_reducible repeat (first | refine blk_drewN ?_ _ | refine blk_drew ?_ | refine blk_alloc ?_ _)); refine blk_put (cs := #[.int .i64 0, .int .i64 0, .int .i64 0, .bool false, .bool false]) ?_ 1 _ rfl; (with_reducible repeat (first | refine blk_drewN ?_ _ | refine blk_drew ?_ | refine blk_alloc ?_ _)); refine blk_put (cs := #[.int .i64 0, .int .i64 0, .int .i64 0, .bool false, .bool false]) ?_ 0 _ rfl; (with_reducible repeat (first | refine blk_drewN ?_ _ | refine blk_drew ?_ | refine blk_alloc ?_ _)); exact BK167.out) Tryz.underlying30 rfl (by kernel_rfl)) rfl ?_
   exact ⟨by first | rfl | (simp [errW_none, errW_some] <;> rfl) | (simp [*, errW_none, errW_some] <;> rfl), by repeat (first | (with_reducible first | exact HB.out | apply below_alloc | apply pw_below_drewN | apply below_drew1 | refine below_set ?_ GE167.out) | exact HB.out)⟩
 ·
  replace c3 := Bool.eq_false_iff.mpr c3
  subst c3
  have H1 : ((weirref01_New.f 130).bind fun bt169 => (some (bt169.1, bt169.2.1, bt169.2.2.1, bt169.2.2.2.1, bt169.2.2.2.2))) = some (r1, r2, r3, r4, r5) := by rw [if_neg (show ¬ (false = true) by decide)] at H; exact H
  clear H
  have H := H1
  clear H1
  replace H := Option.bind_eq_some_iff.mp H
  obtain ⟨⟨t169, t170, t171, t172, t173⟩, A160, H⟩ := H
  replace H : (some (t169, t170, t171, t172, t173)) = some (r1, r2, r3, r4, r5) := H
  have A16 := Aside0.mk A160
  clear A160
  simp only [Option.some.injEq, Prod.mk.injEq] at H
  obtain ⟨rfl, rfl, rfl, rfl, rfl⟩ := H
  go_enter Tryz.func15, Tryz.ntmps15
  go_wp2_with (first | ((with_reducible refine gate_dst (N := 2) rfl ?_); refine box_event ?hg (N := 2) ?hd (cs := #[.int .i64 0, .int .i64 0, .int .i64 0, .bool false, .bool false]) (t := 30) ?hr ?_; (case hd => rfl); (case hg => rfl); (case hr => first | (go_simp; done) | (go_simp; rfl)); intro gb167 hg w17 hbox hb; have n0_ := Aside0.mk (below_step (by repeat (first | (with_reducible first | exact HB.out | apply below_alloc | apply pw_below_drewN | apply below_drew1) | exact HB.out)) hb); have n1_ := Aside0.mk (hbox); have n2_ := Aside0.mk ((by rw [hg]; exact (below_size (by repeat (first | (with_reducible first | exact HB.out | apply below_alloc | apply pw_below_drewN | apply below_drew1) | exact HB.out))) : w.heap.size ≤ gb167)); have n3_ := Aside0.mk ((by rw [hg]; exact (below_size (by repeat (first | (with_reducible first | exact HB.out | apply below_alloc | apply pw_below_drewN | apply below_drew1) | exact HB.out))) : w.heap.size ≤ gb167)); clear HB; have HB := n0_; have BK167 := n1_; have GW167 := n2_; have GE167 := n3_; clear n0_ n1_ n2_ n3_; clear hb hbox hg) | ((with_reducible refine gate_callee (f := 38) rfl ?_); refine goesL_ (some 4) rfl rfl Tryz.func38 (by kernel_rfl) rfl #[.slice A0 l0.length c0] rfl (by (try simp only [q4, q5, q6]); first | done | rfl | (simp only [List.length_drop, List.length_take]; rfl)) ?_; (with_reducible refine (weirtree_Sum.calls k _ _ l0 false _ ?side1 ?side2 A2.out).mono ?_); (case side1 => repeat (first | exact (Kd.C_below HR0.out HB.out) | (with_reducible refine Kd.C_alloc ?_ _) | (with_reducible refine Kd.C_drewN ?_ _) | (with_reducible refine Kd.C_drew ?_))); (case side2 => exact HC0.out); rintro e w18 ⟨rfl, hb⟩; refine ⟨_, rfl, ?_⟩; have n0_ := Aside0.mk (blk_below (g := gb167) (o := .cells #[.int .i64 0, .int .i64 0, .int .i64 0, .bool false, .bool false] 30 (0, 0)) (by (with_reducible repeat (first | refine blk_drewN ?_ _ | refine blk_drew ?_ | refine blk_alloc ?_ _)); exact BK167.out) hb); have n1_ := Aside0.mk (below_step (by repeat (first | (with_reducible first | exact HB.out | apply below_alloc | apply pw_below_drewN | apply below_drew1 | refine below_set ?_ GE167.out) | exact HB.out)) hb); clear BK167; clear HB; have BK167 := n0_; have HB := n1_; clear n0_ n1_; (try clear hb); (try clear hb2); (try clear hk); (try clear hi)) | ((with_reducible refine gate_callee (f := 39) rfl ?_); refine goesL_ (some 6) rfl rfl Tryz.func39 (by kernel_rfl) rfl #[.int .i64 130] rfl (by (try simp only [q4, q5, q6]); first | done | rfl | (simp only [List.length_drop, List.length_take]; rfl)) ?_; (with_reducible refine (weirref01_New.calls 130 t169 t170 t171 t172 t173 _ A16.out).mono ?_); rintro e w19 ⟨rfl, hb⟩; refine ⟨_, rfl, ?_⟩; have n0_ := Aside0.mk (blk_below (g := gb167) (o := .cells #[.int .i64 0, .int .i64 0, .int .i64 0, .bool false, .bool false] 30 (0, 0)) (by (with_reducible repeat (first | refine blk_drewN ?_ _ | refine blk_drew ?_ | refine blk_alloc ?_ _)); exact BK167.out) hb); have n1_ := Aside0.mk (below_step (by repeat (first | (with_reducible first | exact HB.out | apply below_alloc | apply pw_below_drewN | apply below_drew1 | refine below_set ?_ GE167.out) | exact HB.out)) hb); clear BK167; clear HB; have BK167 := n0_; have HB := n1_; clear n0_ n1_; (try clear hb); (try clear hb2); (try clear hk); (try clear hi); have hcz20_0 : w19.cell? ⟨gb167, 0, none⟩ = some (.int .i64 0) := (blk_cell BK167.out 0).trans rfl; have hcz20_1 : w19.cell? ⟨gb167, 1, none⟩ = some (.int .i64 0) := (blk_cell BK167.out 1).trans rfl; have hcz20_2 : w19.cell? ⟨gb167, 2, none⟩ = some (.int .i64 0) := (blk_cell BK167.out 2).trans rfl; have hcz20_3 : w19.cell? ⟨gb167, 3, none⟩ = some (.bool false) := (blk_cell BK167.out 3).trans rfl; have hcz20_4 : w19.cell? ⟨gb167, 4, none⟩ = some (.bool false) := (blk_cell BK167.out 4).trans rfl; have hfz20_0 := blk_frozen BK167.out 0; have hfz20_1 := blk_frozen BK167.out 1; have hfz20_2 := blk_frozen BK167.out 2; have hfz20_3 := blk_frozen BK167.out 3; have hfz20_4 := blk_frozen BK167.out 4))
  refine bodyPost_ret (results_cell_row rfl _ _ gb167 30 #[.int .i64 t169, .int .i64 t170, .int .i64 t171, .bool t172, .bool t173] (0, 0) _ rfl (by (with_reducible repeat (first | refine blk_drewN ?_ _ | refine blk_drew ?_ | refine blk_alloc ?_ _)); refine blk_put (cs := #[.int .i64 t169, .int .i64 t170, .int .i64 t171, .bool t172, .bool false]) ?_ 4 _ rfl; (with_reducible repeat (first | refine blk_drewN ?_ _ | refine blk_drew ?_ | refine blk_alloc ?_ _)); refine blk_put (cs := #[.int .i64 t169, .int .i64 t170, .int .i64 t171, .bool false, .bool false]) ?_ 3 _ rfl; (with_reducible repeat (first | refine blk_drewN ?_ _ | refine blk_drew ?_ | refine blk_alloc ?_ _)); refine blk_put (cs := #[.int .i64 t169, .int .i64 t170, .int .i64 0, .bool false, .bool false]) ?_ 2 _ rfl; (with_reducible repeat (first | refine blk_drewN ?_ _ | refine blk_drew ?_ | refine blk_alloc ?_ _)); refine blk_put (cs := #[.int .i64 t169, .int .i64 0, .int .i64 0, .bool false, .bool false]) ?_ 1 _ rfl; (with_reducible repeat (first | refine blk_drewN ?_ _ | refine blk_drew ?_ | refine blk_alloc ?_ _)); refine blk_put (cs := #[.int .i64 0, .int .i64 0, .int .i64 0, .bool false, .bool false]) ?_ 0 _ rfl; (with_reducible repeat (first | refine blk_drewN ?_ _ | refine blk_drew ?_ | refine blk_alloc ?_ _)); exact BK167.out) Tryz.underlying30 rfl (by kernel_rfl)) rfl ?_
  exact ⟨by first | rfl | (simp [errW_none, errW_some] <;> rfl) | (simp [*, errW_none, errW_some] <;> rfl), by repeat (first | (with_reducible first | exact HB.out | apply below_alloc | apply pw_below_drewN | apply below_drew1 | refine below_set ?_ GE167.out) | exact HB.out)⟩

/-! ### weirref13_FuncName: function 67 (its contract typed by hand) -/
def weirref13_FuncName.f (a0 : Int) : Option ByteArray := Tabs.ast_name.f a0
theorem weirref13_FuncName.calls (a0 : Int) (r : ByteArray) (w : World) (h : weirref13_FuncName.f a0 = some r) :
  Calls Tryz.prog 67 #[.int .u8 a0] w fun e w' => e = .returned (.string r) ∧ Below w.heap.size w w' := Tabs.ref_name.any a0 r w h

/-! ### weirref12_letter: function 106 -/
def weirref12_letter.f (a0 : Int) : Option (Bool) := if a0 ≥ 97 then (if a0 ≤ 122 then (some true) else (if a0 ≥ 65 then (if a0 ≤ 90 then (some true) else (some (a0 == 95))) else (some (a0 == 95)))) else (if a0 ≥ 65 then (if a0 ≤ 90 then (some true) else (some (a0 == 95))) else (some (a0 == 95)))
set_option maxHeartbeats 8000000 in
set_option maxRecDepth 100000 in
theorem weirref12_letter.calls (a0 : Int) (r : Bool) (w : World) (h : weirref12_letter.f a0 = some r) :
  Calls Tryz.prog 106 #[.int .u8 a0] w fun e w' => e = .returned (.bool r) ∧ Drawn0 w w' := by
 have H : (if a0 ≥ 97 then (if a0 ≤ 122 then (some true) else (if a0 ≥ 65 then (if a0 ≤ 90 then (some true) else (some (a0 == 95))) else (some (a0 == 95)))) else (if a0 ≥ 65 then (if a0 ≤ 90 then (some true) else (some (a0 == 95))) else (some (a0 == 95)))) = some r := h
 clear h
 by_cases c2 : a0 ≥ 97
 ·
  rw [if_pos c2] at H
  have c2b0 : decide (97 ≤ a0) = true := decide_eq_true c2
  clear c2
  by_cases c3 : a0 ≤ 122
  ·
   rw [if_pos c3] at H
   have c3b0 : decide (a0 ≤ 122) = true := decide_eq_true c3
   clear c3
   obtain rfl := Option.some.inj H
   go_enter Tryz.func106, Tryz.ntmps106
   go_wp2
   go_ret
   exact ⟨by first | rfl | (simp; done) | (simp [*]; done), by repeat (first | exact Drawn0.refl _ | apply Drawn0.step)⟩
  ·
   rw [if_neg c3] at H
   have c3b0 : decide (a0 ≤ 122) = false := decide_eq_false c3
   clear c3
   by_cases c4 : a0 ≥ 65
   ·
    rw [if_pos c4] at H
    have c4b0 : decide (65 ≤ a0) = true := decide_eq_true c4
    clear c4
    by_cases c5 : a0 ≤ 90
    ·
     rw [if_pos c5] at H
     have c5b0 : decide (a0 ≤ 90) = true := decide_eq_true c5
     clear c5
     obtain rfl := Option.some.inj H
     go_enter Tryz.func106, Tryz.ntmps106
     go_wp2
     go_ret
     exact ⟨by first | rfl | (simp; done) | (simp [*]; done), by repeat (first | exact Drawn0.refl _ | apply Drawn0.step)⟩
    ·
     rw [if_neg c5] at H
     have c5b0 : decide (a0 ≤ 90) = false := decide_eq_false c5
     clear c5
     obtain rfl := Option.some.inj H
     go_enter Tryz.func106, Tryz.ntmps106
     go_wp2
     go_ret
     exact ⟨by first | rfl | (simp; done) | (simp [*]; done), by repeat (first | exact Drawn0.refl _ | apply Drawn0.step)⟩
   ·
    rw [if_neg c4] at H
    have c4b0 : decide (65 ≤ a0) = false := decide_eq_false c4
    clear c4
    obtain rfl := Option.some.inj H
    go_enter Tryz.func106, Tryz.ntmps106
    go_wp2
    go_ret
    exact ⟨by first | rfl | (simp; done) | (simp [*]; done), by repeat (first | exact Drawn0.refl _ | apply Drawn0.step)⟩
 ·
  rw [if_neg c2] at H
  have c2b0 : decide (97 ≤ a0) = false := decide_eq_false c2
  clear c2
  by_cases c6 : a0 ≥ 65
  ·
   rw [if_pos c6] at H
   have c6b0 : decide (65 ≤ a0) = true := decide_eq_true c6
   clear c6
   by_cases c7 : a0 ≤ 90
   ·
    rw [if_pos c7] at H
    have c7b0 : decide (a0 ≤ 90) = true := decide_eq_true c7
    clear c7
    obtain rfl := Option.some.inj H
    go_enter Tryz.func106, Tryz.ntmps106
    go_wp2
    go_ret
    exact ⟨by first | rfl | (simp; done) | (simp [*]; done), by repeat (first | exact Drawn0.refl _ | apply Drawn0.step)⟩
   ·
    rw [if_neg c7] at H
    have c7b0 : decide (a0 ≤ 90) = false := decide_eq_false c7
    clear c7
    obtain rfl := Option.some.inj H
    go_enter Tryz.func106, Tryz.ntmps106
    go_wp2
    go_ret
    exact ⟨by first | rfl | (simp; done) | (simp [*]; done), by repeat (first | exact Drawn0.refl _ | apply Drawn0.step)⟩
  ·
   rw [if_neg c6] at H
   have c6b0 : decide (65 ≤ a0) = false := decide_eq_false c6
   clear c6
   obtain rfl := Option.some.inj H
   go_enter Tryz.func106, Tryz.ntmps106
   go_wp2
   go_ret
   exact ⟨by first | rfl | (simp; done) | (simp [*]; done), by repeat (first | exact Drawn0.refl _ | apply Drawn0.step)⟩

/-! ### weirref12_digit: function 134 -/
def weirref12_digit.f (a0 : Int) : Option (Bool) := if a0 ≥ 48 then (some (decide (a0 ≤ 57))) else (some false)
set_option maxHeartbeats 8000000 in
set_option maxRecDepth 100000 in
theorem weirref12_digit.calls (a0 : Int) (r : Bool) (w : World) (h : weirref12_digit.f a0 = some r) :
  Calls Tryz.prog 134 #[.int .u8 a0] w fun e w' => e = .returned (.bool r) ∧ Drawn0 w w' := by
 have H : (if a0 ≥ 48 then (some (decide (a0 ≤ 57))) else (some false)) = some r := h
 clear h
 by_cases c2 : a0 ≥ 48
 ·
  rw [if_pos c2] at H
  have c2b0 : decide (48 ≤ a0) = true := decide_eq_true c2
  clear c2
  obtain rfl := Option.some.inj H
  go_enter Tryz.func134, Tryz.ntmps134
  go_wp2
  go_ret
  exact ⟨by first | rfl | (simp; done) | (simp [*]; done), by repeat (first | exact Drawn0.refl _ | apply Drawn0.step)⟩
 ·
  rw [if_neg c2] at H
  have c2b0 : decide (48 ≤ a0) = false := decide_eq_false c2
  clear c2
  obtain rfl := Option.some.inj H
  go_enter Tryz.func134, Tryz.ntmps134
  go_wp2
  go_ret
  exact ⟨by first | rfl | (simp; done) | (simp [*]; done), by repeat (first | exact Drawn0.refl _ | apply Drawn0.step)⟩

end Go.Proofs.YtlbjfomcgbiagaaGreatDoor.Print
