-- Made by wip/mkprint.sh of this repo over the kit's print.
import Derived.Test.YtlbjfomcgbiagaaGreatDoorPrint0
import Derived.Test.YtlbjfomcgbiagaaGreatDoorPrint1
import Derived.Test.YtlbjfomcgbiagaaGreatDoorPrint3
namespace Go.Proofs.YtlbjfomcgbiagaaGreatDoor.Print
open Go.RowKit Go.Proofs.YtlbjfomcgbiagaaGreatDoorW.PrintWords Go.Proofs.YtlbjfomcgbiagaaGreatDoorW.PrintLast Go.Proofs Go.Proofs.YtlbjfomcgbiagaaGreatDoor Go.Proofs.YtlbjfomcgbiagaaGreatDoor.Base Go.Proofs.YtlbjfomcgbiagaaGreatDoorW.PrintMore
attribute [local go_sem] gtr_text max2_int min2_int max_two min_two max_three min_three max_four min_four   -- for this text's walks alone
set_option linter.unusedVariables false
set_option linter.unusedSimpArgs false

/-! ### ast_sortOf: function 41 (its contract typed by hand) -/
/-- What a condition's node is, by itself (0: none, 1: a condition, 2: a text, 3: a time); c9: is its text a word? d9: is it one? -/
def sortI (a0 a1 : Int) (a2 : ByteArray) (a3 a4 : Int) (c9 d9 : Bool) : Int :=
  if a0 = 23 then (if a4 == 0 && (a1 == 0 && a3 == 0) && c9 then 2 else 0)
  else if a0 = 24 then (if a4 == 0 && (a1 == 0 && a3 == 0) && (a2.toList.isEmpty || d9) then 2 else 0)
  else if a0 = 25 then (if a4 == 0 && (a1 == 0 && a2.toList.isEmpty) && a3 == 0 then 3 else 0)
  else if a0 = 26 then (if a4 == 0 && (a1 == 0 && a2.toList.isEmpty) && decide ((-9223372036854775807) ≤ a3) then 3 else 0)
  else if 11 ≤ a0 ∧ a0 ≤ 22 then (if a1 == 0 && a2.toList.isEmpty && a3 == 0 then 1 else 0)
  else 0
section
attribute [local go_sem high] eqA56
def ast_sortOf.r6.T : Bool × List (List Nat × List Nat) := (true, [([], []), ([0], [0]), ([1], [1]), ([2], [2]), ([3], [3]), ([4, 3, 3], [3, 4]), ([3], [3]), ([6, 3], [3, 6]), ([3], [3]), ([8, 3], [3, 8]), ([7, 9, 3], [3, 7, 9]), ([5, 10, 3], [3, 5, 10]), ([3, 11], [3, 11]), ([12, 5], [12]), ([13], [13]), ([14, 13], [13, 14]), ([15, 13], [13, 15]), ([16, 13, 13], [13, 16]), ([17], [17]), ([18, 17], [17, 18]), ([19, 17, 17], [17, 19]), ([17, 20, 13], [13, 17, 20]), ([21, 20, 13], [13, 21]), ([22], [22]), ([23, 22], [22, 23]), ([24, 22], [22, 24]), ([25, 22, 22], [22, 25]), ([26], [26]), ([27, 26], [26, 27]), ([28, 26], [26, 28]), ([29, 26, 26], [26, 29]), ([30], [30]), ([31, 30], [30, 31]), ([32, 30, 30], [30, 32]), ([33, 30], [30, 33]), ([30, 34, 26], [26, 30, 34]), ([26, 35, 22], [22, 26, 35]), ([22, 36, 13], [13, 22, 36]), ([13, 37], [13, 37])])
def ast_sortOf.r6.B : List Nat := [0, 1, 3, 7, 15, 31, 15, 79, 15, 271, 975, 2047, 4095, 8191, 16383, 32767, 65535, 131071, 262143, 524287, 1048575, 2097151, 4194303, 8388607, 16777215, 33554431, 67108863, 134217727, 268435455, 536870911, 1073741823, 2147483647, 4294967295, 8589934591, 17179869183, 34359738367, 68719476735, 137438953471, 274877906943]
theorem ast_sortOf.r6.tab : rtab .any (opsOf Tryz.f41 6) = ast_sortOf.r6.T := by kernel_rfl
theorem ast_sortOf.r6.bits : waitsOk ast_sortOf.r6.T.2 ast_sortOf.r6.B = true := by kernel_rfl
def ast_sortOf.r10.T : Bool × List (List Nat × List Nat) := (true, [([], []), ([0], [0]), ([1], [1]), ([2], [2]), ([3], [3]), ([4, 3, 3], [3, 4]), ([3], [3]), ([6, 3], [3, 6]), ([3], [3]), ([8, 3], [3, 8]), ([7, 9, 3], [3, 7, 9]), ([5, 10, 3], [3, 5, 10]), ([3, 11], [3, 11]), ([12, 5], [12]), ([13], [13]), ([14, 13], [13, 14]), ([15, 13], [13, 15]), ([16, 13, 13], [13, 16]), ([17], [17]), ([18, 17], [17, 18]), ([19, 17], [17, 19]), ([17, 20, 13], [13, 17, 20]), ([21, 17, 13], [13, 21]), ([22], [22]), ([23, 22], [22, 23]), ([24, 22], [22, 24]), ([22, 25, 13], [13, 22, 25]), ([13, 26], [13, 26])])
def ast_sortOf.r10.B : List Nat := [0, 1, 3, 7, 15, 31, 15, 79, 15, 271, 975, 2047, 4095, 8191, 16383, 32767, 65535, 131071, 262143, 524287, 1048575, 2097151, 4194303, 8388607, 16777215, 33554431, 67108863, 134217727]
theorem ast_sortOf.r10.tab : rtab .any (opsOf Tryz.f41 10) = ast_sortOf.r10.T := by kernel_rfl
theorem ast_sortOf.r10.bits : waitsOk ast_sortOf.r10.T.2 ast_sortOf.r10.B = true := by kernel_rfl
def ast_sortOf.r2.T : Bool × List (List Nat × List Nat) := (true, [([], []), ([0], [0]), ([1], [1]), ([2], [2]), ([3], [3]), ([4, 3], [3, 4]), ([5, 3], [3, 5]), ([3, 6], [3, 6]), ([7, 3], [7]), ([8], [8]), ([9, 8, 8], [8, 9]), ([8], [8]), ([11, 8], [8, 11]), ([12, 8], [8, 12]), ([10, 13, 8], [8, 10, 13]), ([8, 14], [8, 14])])
def ast_sortOf.r2.B : List Nat := [0, 1, 3, 7, 15, 31, 63, 127, 255, 511, 1023, 511, 2559, 6655, 16383, 32767]
theorem ast_sortOf.r2.tab : rtab .any (opsOf Tryz.f41 2) = ast_sortOf.r2.T := by kernel_rfl
theorem ast_sortOf.r2.bits : waitsOk ast_sortOf.r2.T.2 ast_sortOf.r2.B = true := by kernel_rfl
set_option maxRecDepth 100000 in
set_option maxHeartbeats 8000000 in
theorem ast_sortOf.at23 (a1 : Int) (a2 : ByteArray) (a3 a4 a5 b0 b1 : Int) (b2 : ByteArray) (b3 b4 b5 : Int) (c1 c2 c9 : Bool) (w : World) (HB : ∀ W : World, Calls Tryz.prog 80 #[.agg #[.int .u8 23, .int .u8 a1, .string a2, .int .i64 a3, .int .i64 a4, .int .i64 a5]] W fun e w' => e = .returned (.agg #[.int .u8 b0, .int .u8 b1, .string b2, .int .i64 b3, .int .i64 b4, .int .i64 b5]) ∧ Below W.heap.size W w') (HW : ∀ W : World, Below w.heap.size w W → Calls Tryz.prog 48 #[.string a2] W fun e w' => e = .returned (.bool c9) ∧ Below W.heap.size W w') (h1 : (a4 == 0) = c1) (h2 : (b0 == 23 && (b1 == 0 && (b2.toList == a2.toList && (b3 == 0 && (b4 == 0 && b5 == 0))))) = c2)  :
    Calls Tryz.prog 41 #[.agg #[.int .u8 23, .int .u8 a1, .string a2, .int .i64 a3, .int .i64 a4, .int .i64 a5]] w fun e w' => e = .returned (.int .i64 (if c1 && c2 && c9 then 2 else 0)) ∧ Below w.heap.size w w' := by
  have hu := Tryz.underlying56
  have hu2 := Tryz.underlying25
  replace HB := Aside0.mk HB
  replace HW := Aside0.mk HW
  go_enter Tryz.func41, Tryz.ntmps41
  go_wp2_with (first | ((with_reducible refine gate_dst (N := 1) rfl ?_); refine box_event ?hg (N := 1) ?hd (cs := #[.int .u8 23, .int .u8 a1, .string a2, .int .i64 a3, .int .i64 a4, .int .i64 a5]) (t := 56) ?hr ?_; (case hd => rfl); (case hg => rfl); (case hr => first | (go_simp; done) | (go_simp; rfl)); intro gb hg w6 hbox hb; (clear hg); have HX := Aside0.mk (box7 hb hbox); obtain ⟨_, z0, z1, z2, z3, z4, z5⟩ := box6 hb hbox; have HZ := Aside0.mk hb; (clear hb hbox)))
  refine start_ (n := 39) (S := fun W => Below w.heap.size w W ∧ W.cell? ⟨gb, 0, none⟩ = some (.int .u8 23) ∧ W.cell? ⟨gb, 1, none⟩ = some (.int .u8 a1) ∧ W.cell? ⟨gb, 2, none⟩ = some (.string a2) ∧ W.cell? ⟨gb, 3, none⟩ = some (.int .i64 a3) ∧ W.cell? ⟨gb, 4, none⟩ = some (.int .i64 a4) ∧ W.cell? ⟨gb, 5, none⟩ = some (.int .i64 a5)) (ds := []) #[false, false, false, false, false, false, false, false, false, false, false, false, false, false, false, false, false, false, false, false, false, false, false, false, false, false, false, false, false, false, false, false, false, false, false, false, false, false, false] (by kernel_rfl) rfl rfl HX.out (fun hHeld => ?_)
  refine with_tabW ast_sortOf.r6.tab ast_sortOf.r6.bits (fun HT_ HW_ => ?_)
  refine pP 0 24 ?_
  refine pT 1 25 ?_
  refine pP 2 26 ?_
  refine pP 3 27 ?_
  cases c1
  · refine pU 4 28 ?_
    refine pU 5 29 ?_
    refine pU 6 30 ?_
    refine pU 7 31 ?_
    refine pU 8 32 ?_
    refine pU 9 33 ?_
    refine pU 10 34 ?_
    refine pU 11 35 ?_
    refine pP 12 36 ?_
    refine pP 13 37 ?_
    refine pU 14 38 ?_
    refine pU 15 39 ?_
    refine pU 16 40 ?_
    refine pU 17 41 ?_
    refine pU 18 42 ?_
    refine pU 19 43 ?_
    refine pU 20 44 ?_
    refine pU 21 45 ?_
    refine pU 22 46 ?_
    refine pU 23 47 ?_
    refine pU 24 48 ?_
    refine pU 25 49 ?_
    refine pU 26 50 ?_
    refine pU 27 51 ?_
    refine pU 28 52 ?_
    refine pU 29 53 ?_
    refine pU 30 54 ?_
    refine pU 31 55 ?_
    refine pU 32 56 ?_
    refine pU 33 57 ?_
    refine pU 34 58 ?_
    refine pU 35 59 ?_
    refine pU 36 60 ?_
    refine pU 37 61 ?_
    refine pP 38 62 ?_
    refine done_ (done_of HT_.out (by kernel_rfl)) ?_
    go_wp2
    go_ret
    exact ⟨by first | rfl | (simp; done), hHeld.1⟩
  · refine pT 4 28 ?_
    refine pP 6 30 ?_
    refine pT 7 31 ?_
    refine pP 8 32 ?_
    refine pT 9 33 ?_
    refine pP 10 34 ?_
    refine pO 5 29 (fun K hK => ?_)
    refine goes_ Tryz.func80 (by kernel_rfl) rfl #[.agg #[.int .u8 23, .int .u8 a1, .string a2, .int .i64 a3, .int .i64 a4, .int .i64 a5]] (by rfl) rfl rfl (by first | rfl | (simp only [q4, q5, q6]; rfl)) ?_
    refine (HB.out _).mono ?_
    rintro e w5 ⟨rfl, hb⟩
    refine ⟨_, rfl, ?_⟩
    refine hK.out _ _ (keep7 hHeld hb) (fun hHeld => ?_)
    clear hK K
    refine norm_ (a' := ?_) ?_ ?_
    rotate_left
    · show Act.put _ (some 29) _ = _
      simp only [Act.put, q1, q2, q3, i64_w, i32_w]
      rfl
    refine pP 11 35 ?_
    refine pP 12 36 ?_
    refine pP 13 37 ?_
    cases c2
    · refine pU 14 38 ?_
      refine pU 15 39 ?_
      refine pU 16 40 ?_
      refine pU 17 41 ?_
      refine pU 18 42 ?_
      refine pU 19 43 ?_
      refine pU 20 44 ?_
      refine pU 21 45 ?_
      refine pU 22 46 ?_
      refine pU 23 47 ?_
      refine pU 24 48 ?_
      refine pU 25 49 ?_
      refine pU 26 50 ?_
      refine pU 27 51 ?_
      refine pU 28 52 ?_
      refine pU 29 53 ?_
      refine pU 30 54 ?_
      refine pU 31 55 ?_
      refine pU 32 56 ?_
      refine pU 33 57 ?_
      refine pU 34 58 ?_
      refine pU 35 59 ?_
      refine pU 36 60 ?_
      refine pU 37 61 ?_
      refine pP 38 62 ?_
      refine done_ (done_of HT_.out (by kernel_rfl)) ?_
      go_wp2
      go_ret
      exact ⟨by first | rfl | (simp; done), hHeld.1⟩
    · refine pP 14 38 ?_
      refine pT 15 39 ?_
      refine pP 16 40 ?_
      refine pP 17 41 ?_
      refine pP 18 42 ?_
      refine pT 19 43 ?_
      refine pO 20 44 (fun K hK => ?_)
      refine goes_ Tryz.func48 (by kernel_rfl) rfl #[.string a2] (by rfl) rfl rfl (by first | rfl | (simp only [q4, q5, q6]; rfl)) ?_
      refine (HW.out _ hHeld.1).mono ?_
      rintro e w6 ⟨rfl, hb⟩
      refine ⟨_, rfl, ?_⟩
      refine hK.out _ _ (keep7 hHeld hb) (fun hHeld => ?_)
      clear hK K
      refine norm_ (a' := ?_) ?_ ?_
      rotate_left
      · show Act.put _ (some 44) _ = _
        simp only [Act.put, q1, q2, q3, i64_w, i32_w]
        rfl
      refine pP 21 45 ?_
      refine pP 22 46 ?_
      cases c9
      · refine pP 23 47 ?_
        refine pT 24 48 ?_
        refine pP 25 49 ?_
        refine pP 26 50 ?_
        refine pU 27 51 ?_
        refine pU 28 52 ?_
        refine pU 29 53 ?_
        refine pU 30 54 ?_
        refine pU 31 55 ?_
        refine pU 32 56 ?_
        refine pU 33 57 ?_
        refine pU 34 58 ?_
        refine pU 35 59 ?_
        refine pP 36 60 ?_
        refine pP 37 61 ?_
        refine pP 38 62 ?_
        refine done_ (done_of HT_.out (by kernel_rfl)) ?_
        go_wp2
        go_ret
        exact ⟨by first | rfl | (simp; done), hHeld.1⟩
      · refine pU 23 47 ?_
        refine pU 24 48 ?_
        refine pU 25 49 ?_
        refine pU 26 50 ?_
        refine pU 27 51 ?_
        refine pU 28 52 ?_
        refine pU 29 53 ?_
        refine pU 30 54 ?_
        refine pU 31 55 ?_
        refine pU 32 56 ?_
        refine pU 33 57 ?_
        refine pU 34 58 ?_
        refine pU 35 59 ?_
        refine pU 36 60 ?_
        refine pP 37 61 ?_
        refine pP 38 62 ?_
        refine done_ (done_of HT_.out (by kernel_rfl)) ?_
        go_wp2
        go_ret
        exact ⟨by first | rfl | (simp; done), hHeld.1⟩
set_option maxRecDepth 100000 in
set_option maxHeartbeats 8000000 in
theorem ast_sortOf.at24n (a1 : Int) (a2 : ByteArray) (a3 a4 a5 b0 b1 : Int) (b2 : ByteArray) (b3 b4 b5 : Int) (c1 c2 c3 : Bool) (w : World) (HB : ∀ W : World, Calls Tryz.prog 80 #[.agg #[.int .u8 24, .int .u8 a1, .string a2, .int .i64 a3, .int .i64 a4, .int .i64 a5]] W fun e w' => e = .returned (.agg #[.int .u8 b0, .int .u8 b1, .string b2, .int .i64 b3, .int .i64 b4, .int .i64 b5]) ∧ Below W.heap.size W w') (HW : ∀ W : World, Below w.heap.size w W → Calls Tryz.prog 87 #[.string a2] W fun e w' => e = .returned (errW none) ∧ Below W.heap.size W w') (h1 : (a4 == 0) = c1) (h2 : (b0 == 24 && (b1 == 0 && (b2.toList == a2.toList && (b3 == 0 && (b4 == 0 && b5 == 0))))) = c2)  (h5 : a2.toList.isEmpty = c3) (h5b : (a2.toList == ([] : List UInt8)) = c3) :
    Calls Tryz.prog 41 #[.agg #[.int .u8 24, .int .u8 a1, .string a2, .int .i64 a3, .int .i64 a4, .int .i64 a5]] w fun e w' => e = .returned (.int .i64 (if c1 && c2 && (c3 || true) then 2 else 0)) ∧ Below w.heap.size w w' := by
  have hu := Tryz.underlying56
  have hu2 := Tryz.underlying25
  simp only [errW_none, errW_some] at HW
  replace HB := Aside0.mk HB
  replace HW := Aside0.mk HW
  go_enter Tryz.func41, Tryz.ntmps41
  go_wp2_with (first | ((with_reducible refine gate_dst (N := 1) rfl ?_); refine box_event ?hg (N := 1) ?hd (cs := #[.int .u8 24, .int .u8 a1, .string a2, .int .i64 a3, .int .i64 a4, .int .i64 a5]) (t := 56) ?hr ?_; (case hd => rfl); (case hg => rfl); (case hr => first | (go_simp; done) | (go_simp; rfl)); intro gb hg w6 hbox hb; (clear hg); have HX := Aside0.mk (box7 hb hbox); obtain ⟨_, z0, z1, z2, z3, z4, z5⟩ := box6 hb hbox; have HZ := Aside0.mk hb; (clear hb hbox)))
  refine start_ (n := 39) (S := fun W => Below w.heap.size w W ∧ W.cell? ⟨gb, 0, none⟩ = some (.int .u8 24) ∧ W.cell? ⟨gb, 1, none⟩ = some (.int .u8 a1) ∧ W.cell? ⟨gb, 2, none⟩ = some (.string a2) ∧ W.cell? ⟨gb, 3, none⟩ = some (.int .i64 a3) ∧ W.cell? ⟨gb, 4, none⟩ = some (.int .i64 a4) ∧ W.cell? ⟨gb, 5, none⟩ = some (.int .i64 a5)) (ds := []) #[false, false, false, false, false, false, false, false, false, false, false, false, false, false, false, false, false, false, false, false, false, false, false, false, false, false, false, false, false, false, false, false, false, false, false, false, false, false, false] (by kernel_rfl) rfl rfl HX.out (fun hHeld => ?_)
  refine with_tabW ast_sortOf.r6.tab ast_sortOf.r6.bits (fun HT_ HW_ => ?_)
  refine pP 0 24 ?_
  refine pT 1 25 ?_
  refine pP 2 26 ?_
  refine pP 3 27 ?_
  cases c1
  · refine pU 4 28 ?_
    refine pU 5 29 ?_
    refine pU 6 30 ?_
    refine pU 7 31 ?_
    refine pU 8 32 ?_
    refine pU 9 33 ?_
    refine pU 10 34 ?_
    refine pU 11 35 ?_
    refine pP 12 36 ?_
    refine pP 13 37 ?_
    refine pU 14 38 ?_
    refine pU 15 39 ?_
    refine pU 16 40 ?_
    refine pU 17 41 ?_
    refine pU 18 42 ?_
    refine pU 19 43 ?_
    refine pU 20 44 ?_
    refine pU 21 45 ?_
    refine pU 22 46 ?_
    refine pU 23 47 ?_
    refine pU 24 48 ?_
    refine pU 25 49 ?_
    refine pU 26 50 ?_
    refine pU 27 51 ?_
    refine pU 28 52 ?_
    refine pU 29 53 ?_
    refine pU 30 54 ?_
    refine pU 31 55 ?_
    refine pU 32 56 ?_
    refine pU 33 57 ?_
    refine pU 34 58 ?_
    refine pU 35 59 ?_
    refine pU 36 60 ?_
    refine pU 37 61 ?_
    refine pP 38 62 ?_
    refine done_ (done_of HT_.out (by kernel_rfl)) ?_
    go_wp2
    go_ret
    exact ⟨by first | rfl | (simp; done), hHeld.1⟩
  · refine pT 4 28 ?_
    refine pP 6 30 ?_
    refine pT 7 31 ?_
    refine pP 8 32 ?_
    refine pT 9 33 ?_
    refine pP 10 34 ?_
    refine pO 5 29 (fun K hK => ?_)
    refine goes_ Tryz.func80 (by kernel_rfl) rfl #[.agg #[.int .u8 24, .int .u8 a1, .string a2, .int .i64 a3, .int .i64 a4, .int .i64 a5]] (by rfl) rfl rfl (by first | rfl | (simp only [q4, q5, q6]; rfl)) ?_
    refine (HB.out _).mono ?_
    rintro e w5 ⟨rfl, hb⟩
    refine ⟨_, rfl, ?_⟩
    refine hK.out _ _ (keep7 hHeld hb) (fun hHeld => ?_)
    clear hK K
    refine norm_ (a' := ?_) ?_ ?_
    rotate_left
    · show Act.put _ (some 29) _ = _
      simp only [Act.put, q1, q2, q3, i64_w, i32_w]
      rfl
    refine pP 11 35 ?_
    refine pP 12 36 ?_
    refine pP 13 37 ?_
    cases c2
    · refine pU 14 38 ?_
      refine pU 15 39 ?_
      refine pU 16 40 ?_
      refine pU 17 41 ?_
      refine pU 18 42 ?_
      refine pU 19 43 ?_
      refine pU 20 44 ?_
      refine pU 21 45 ?_
      refine pU 22 46 ?_
      refine pU 23 47 ?_
      refine pU 24 48 ?_
      refine pU 25 49 ?_
      refine pU 26 50 ?_
      refine pU 27 51 ?_
      refine pU 28 52 ?_
      refine pU 29 53 ?_
      refine pU 30 54 ?_
      refine pU 31 55 ?_
      refine pU 32 56 ?_
      refine pU 33 57 ?_
      refine pU 34 58 ?_
      refine pU 35 59 ?_
      refine pU 36 60 ?_
      refine pU 37 61 ?_
      refine pP 38 62 ?_
      refine done_ (done_of HT_.out (by kernel_rfl)) ?_
      go_wp2
      go_ret
      exact ⟨by first | rfl | (simp; done), hHeld.1⟩
    · refine pP 14 38 ?_
      refine pT 15 39 ?_
      refine pP 16 40 ?_
      refine pP 17 41 ?_
      refine pU 18 42 ?_
      refine pU 19 43 ?_
      refine pU 20 44 ?_
      refine pP 21 45 ?_
      refine pP 22 46 ?_
      refine pP 23 47 ?_
      refine pT 24 48 ?_
      refine pP 25 49 ?_
      refine pP 26 50 ?_
      refine pP 27 51 ?_
      refine pT 28 52 ?_
      refine pP 29 53 ?_
      refine pP 30 54 ?_
      cases c3
      · refine pP 31 55 ?_
        refine pT 32 56 ?_
        refine pO 33 57 (fun K hK => ?_)
        refine goes_ Tryz.func87 (by kernel_rfl) rfl #[.string a2] (by rfl) rfl rfl (by first | rfl | (simp only [q4, q5, q6]; rfl)) ?_
        refine (HW.out _ hHeld.1).mono ?_
        rintro e w6 ⟨rfl, hb⟩
        refine ⟨_, rfl, ?_⟩
        refine hK.out _ _ (keep7 hHeld hb) (fun hHeld => ?_)
        clear hK K
        refine norm_ (a' := ?_) ?_ ?_
        rotate_left
        · show Act.put _ (some 57) _ = _
          simp only [Act.put, q1, q2, q3, i64_w, i32_w]
          rfl
        refine pP 34 58 ?_
        refine pP 35 59 ?_
        refine pP 36 60 ?_
        refine pP 37 61 ?_
        refine pP 38 62 ?_
        refine done_ (done_of HT_.out (by kernel_rfl)) ?_
        go_wp2
        go_ret
        exact ⟨by first | rfl | (simp; done), hHeld.1⟩
      · refine pU 31 55 ?_
        refine pU 32 56 ?_
        refine pU 33 57 ?_
        refine pU 34 58 ?_
        refine pP 35 59 ?_
        refine pP 36 60 ?_
        refine pP 37 61 ?_
        refine pP 38 62 ?_
        refine done_ (done_of HT_.out (by kernel_rfl)) ?_
        go_wp2
        go_ret
        exact ⟨by first | rfl | (simp; done), hHeld.1⟩
set_option maxRecDepth 100000 in
set_option maxHeartbeats 8000000 in
theorem ast_sortOf.at24s (a1 : Int) (a2 : ByteArray) (a3 a4 a5 b0 b1 : Int) (b2 : ByteArray) (b3 b4 b5 : Int) (c1 c2 c3 : Bool) (x9 : Int) (w : World) (HB : ∀ W : World, Calls Tryz.prog 80 #[.agg #[.int .u8 24, .int .u8 a1, .string a2, .int .i64 a3, .int .i64 a4, .int .i64 a5]] W fun e w' => e = .returned (.agg #[.int .u8 b0, .int .u8 b1, .string b2, .int .i64 b3, .int .i64 b4, .int .i64 b5]) ∧ Below W.heap.size W w') (HW : ∀ W : World, Below w.heap.size w W → Calls Tryz.prog 87 #[.string a2] W fun e w' => e = .returned (errW (some x9)) ∧ Below W.heap.size W w') (h1 : (a4 == 0) = c1) (h2 : (b0 == 24 && (b1 == 0 && (b2.toList == a2.toList && (b3 == 0 && (b4 == 0 && b5 == 0))))) = c2)  (h5 : a2.toList.isEmpty = c3) (h5b : (a2.toList == ([] : List UInt8)) = c3) :
    Calls Tryz.prog 41 #[.agg #[.int .u8 24, .int .u8 a1, .string a2, .int .i64 a3, .int .i64 a4, .int .i64 a5]] w fun e w' => e = .returned (.int .i64 (if c1 && c2 && (c3 || false) then 2 else 0)) ∧ Below w.heap.size w w' := by
  have hu := Tryz.underlying56
  have hu2 := Tryz.underlying25
  simp only [errW_none, errW_some] at HW
  replace HB := Aside0.mk HB
  replace HW := Aside0.mk HW
  go_enter Tryz.func41, Tryz.ntmps41
  go_wp2_with (first | ((with_reducible refine gate_dst (N := 1) rfl ?_); refine box_event ?hg (N := 1) ?hd (cs := #[.int .u8 24, .int .u8 a1, .string a2, .int .i64 a3, .int .i64 a4, .int .i64 a5]) (t := 56) ?hr ?_; (case hd => rfl); (case hg => rfl); (case hr => first | (go_simp; done) | (go_simp; rfl)); intro gb hg w6 hbox hb; (clear hg); have HX := Aside0.mk (box7 hb hbox); obtain ⟨_, z0, z1, z2, z3, z4, z5⟩ := box6 hb hbox; have HZ := Aside0.mk hb; (clear hb hbox)))
  refine start_ (n := 39) (S := fun W => Below w.heap.size w W ∧ W.cell? ⟨gb, 0, none⟩ = some (.int .u8 24) ∧ W.cell? ⟨gb, 1, none⟩ = some (.int .u8 a1) ∧ W.cell? ⟨gb, 2, none⟩ = some (.string a2) ∧ W.cell? ⟨gb, 3, none⟩ = some (.int .i64 a3) ∧ W.cell? ⟨gb, 4, none⟩ = some (.int .i64 a4) ∧ W.cell? ⟨gb, 5, none⟩ = some (.int .i64 a5)) (ds := []) #[false, false, false, false, false, false, false, false, false, false, false, false, false, false, false, false, false, false, false, false, false, false, false, false, false, false, false, false, false, false, false, false, false, false, false, false, false, false, false] (by kernel_rfl) rfl rfl HX.out (fun hHeld => ?_)
  refine with_tabW ast_sortOf.r6.tab ast_sortOf.r6.bits (fun HT_ HW_ => ?_)
  refine pP 0 24 ?_
  refine pT 1 25 ?_
  refine pP 2 26 ?_
  refine pP 3 27 ?_
  cases c1
  · refine pU 4 28 ?_
    refine pU 5 29 ?_
    refine pU 6 30 ?_
    refine pU 7 31 ?_
    refine pU 8 32 ?_
    refine pU 9 33 ?_
    refine pU 10 34 ?_
    refine pU 11 35 ?_
    refine pP 12 36 ?_
    refine pP 13 37 ?_
    refine pU 14 38 ?_
    refine pU 15 39 ?_
    refine pU 16 40 ?_
    refine pU 17 41 ?_
    refine pU 18 42 ?_
    refine pU 19 43 ?_
    refine pU 20 44 ?_
    refine pU 21 45 ?_
    refine pU 22 46 ?_
    refine pU 23 47 ?_
    refine pU 24 48 ?_
    refine pU 25 49 ?_
    refine pU 26 50 ?_
    refine pU 27 51 ?_
    refine pU 28 52 ?_
    refine pU 29 53 ?_
    refine pU 30 54 ?_
    refine pU 31 55 ?_
    refine pU 32 56 ?_
    refine pU 33 57 ?_
    refine pU 34 58 ?_
    refine pU 35 59 ?_
    refine pU 36 60 ?_
    refine pU 37 61 ?_
    refine pP 38 62 ?_
    refine done_ (done_of HT_.out (by kernel_rfl)) ?_
    go_wp2
    go_ret
    exact ⟨by first | rfl | (simp; done), hHeld.1⟩
  · refine pT 4 28 ?_
    refine pP 6 30 ?_
    refine pT 7 31 ?_
    refine pP 8 32 ?_
    refine pT 9 33 ?_
    refine pP 10 34 ?_
    refine pO 5 29 (fun K hK => ?_)
    refine goes_ Tryz.func80 (by kernel_rfl) rfl #[.agg #[.int .u8 24, .int .u8 a1, .string a2, .int .i64 a3, .int .i64 a4, .int .i64 a5]] (by rfl) rfl rfl (by first | rfl | (simp only [q4, q5, q6]; rfl)) ?_
    refine (HB.out _).mono ?_
    rintro e w5 ⟨rfl, hb⟩
    refine ⟨_, rfl, ?_⟩
    refine hK.out _ _ (keep7 hHeld hb) (fun hHeld => ?_)
    clear hK K
    refine norm_ (a' := ?_) ?_ ?_
    rotate_left
    · show Act.put _ (some 29) _ = _
      simp only [Act.put, q1, q2, q3, i64_w, i32_w]
      rfl
    refine pP 11 35 ?_
    refine pP 12 36 ?_
    refine pP 13 37 ?_
    cases c2
    · refine pU 14 38 ?_
      refine pU 15 39 ?_
      refine pU 16 40 ?_
      refine pU 17 41 ?_
      refine pU 18 42 ?_
      refine pU 19 43 ?_
      refine pU 20 44 ?_
      refine pU 21 45 ?_
      refine pU 22 46 ?_
      refine pU 23 47 ?_
      refine pU 24 48 ?_
      refine pU 25 49 ?_
      refine pU 26 50 ?_
      refine pU 27 51 ?_
      refine pU 28 52 ?_
      refine pU 29 53 ?_
      refine pU 30 54 ?_
      refine pU 31 55 ?_
      refine pU 32 56 ?_
      refine pU 33 57 ?_
      refine pU 34 58 ?_
      refine pU 35 59 ?_
      refine pU 36 60 ?_
      refine pU 37 61 ?_
      refine pP 38 62 ?_
      refine done_ (done_of HT_.out (by kernel_rfl)) ?_
      go_wp2
      go_ret
      exact ⟨by first | rfl | (simp; done), hHeld.1⟩
    · refine pP 14 38 ?_
      refine pT 15 39 ?_
      refine pP 16 40 ?_
      refine pP 17 41 ?_
      refine pU 18 42 ?_
      refine pU 19 43 ?_
      refine pU 20 44 ?_
      refine pP 21 45 ?_
      refine pP 22 46 ?_
      refine pP 23 47 ?_
      refine pT 24 48 ?_
      refine pP 25 49 ?_
      refine pP 26 50 ?_
      refine pP 27 51 ?_
      refine pT 28 52 ?_
      refine pP 29 53 ?_
      refine pP 30 54 ?_
      cases c3
      · refine pP 31 55 ?_
        refine pT 32 56 ?_
        refine pO 33 57 (fun K hK => ?_)
        refine goes_ Tryz.func87 (by kernel_rfl) rfl #[.string a2] (by rfl) rfl rfl (by first | rfl | (simp only [q4, q5, q6]; rfl)) ?_
        refine (HW.out _ hHeld.1).mono ?_
        rintro e w6 ⟨rfl, hb⟩
        refine ⟨_, rfl, ?_⟩
        refine hK.out _ _ (keep7 hHeld hb) (fun hHeld => ?_)
        clear hK K
        refine norm_ (a' := ?_) ?_ ?_
        rotate_left
        · show Act.put _ (some 57) _ = _
          simp only [Act.put, q1, q2, q3, i64_w, i32_w]
          rfl
        refine pP 34 58 ?_
        refine pP 35 59 ?_
        refine pP 36 60 ?_
        refine pP 37 61 ?_
        refine pP 38 62 ?_
        refine done_ (done_of HT_.out (by kernel_rfl)) ?_
        go_wp2
        go_ret
        exact ⟨by first | rfl | (simp; done), hHeld.1⟩
      · refine pU 31 55 ?_
        refine pU 32 56 ?_
        refine pU 33 57 ?_
        refine pU 34 58 ?_
        refine pP 35 59 ?_
        refine pP 36 60 ?_
        refine pP 37 61 ?_
        refine pP 38 62 ?_
        refine done_ (done_of HT_.out (by kernel_rfl)) ?_
        go_wp2
        go_ret
        exact ⟨by first | rfl | (simp; done), hHeld.1⟩
set_option maxRecDepth 100000 in
set_option maxHeartbeats 8000000 in
theorem ast_sortOf.at25 (a1 : Int) (a2 : ByteArray) (a3 a4 a5 b0 b1 : Int) (b2 : ByteArray) (b3 b4 b5 : Int) (c1 c2 c3 c4 : Bool) (w : World) (HB : ∀ W : World, Calls Tryz.prog 80 #[.agg #[.int .u8 25, .int .u8 a1, .string a2, .int .i64 a3, .int .i64 a4, .int .i64 a5]] W fun e w' => e = .returned (.agg #[.int .u8 b0, .int .u8 b1, .string b2, .int .i64 b3, .int .i64 b4, .int .i64 b5]) ∧ Below W.heap.size W w') (h1 : (a4 == 0) = c1) (h2 : (b0 == 25 && (b1 == 0 && (b2.toList.isEmpty && (b3 == a3 && (b4 == 0 && b5 == 0))))) = c2) (h2b : (b0 == 25 && (b1 == 0 && (b2.toList == ([] : List UInt8) && (b3 == a3 && (b4 == 0 && b5 == 0))))) = c2) (h3 : decide (a3 ≥ (-9223372036854775807)) = c3) (h3b : decide ((-9223372036854775807) ≤ a3) = c3) (h4 : (a3 == 0) = c4) :
    Calls Tryz.prog 41 #[.agg #[.int .u8 25, .int .u8 a1, .string a2, .int .i64 a3, .int .i64 a4, .int .i64 a5]] w fun e w' => e = .returned (.int .i64 (if c1 && c2 && c4 then 3 else 0)) ∧ Below w.heap.size w w' := by
  have hu := Tryz.underlying56
  have hu2 := Tryz.underlying25
  replace HB := Aside0.mk HB
  go_enter Tryz.func41, Tryz.ntmps41
  go_wp2_with (first | ((with_reducible refine gate_dst (N := 1) rfl ?_); refine box_event ?hg (N := 1) ?hd (cs := #[.int .u8 25, .int .u8 a1, .string a2, .int .i64 a3, .int .i64 a4, .int .i64 a5]) (t := 56) ?hr ?_; (case hd => rfl); (case hg => rfl); (case hr => first | (go_simp; done) | (go_simp; rfl)); intro gb hg w6 hbox hb; (clear hg); have HX := Aside0.mk (box7 hb hbox); obtain ⟨_, z0, z1, z2, z3, z4, z5⟩ := box6 hb hbox; have HZ := Aside0.mk hb; (clear hb hbox)))
  refine start_ (n := 28) (S := fun W => Below w.heap.size w W ∧ W.cell? ⟨gb, 0, none⟩ = some (.int .u8 25) ∧ W.cell? ⟨gb, 1, none⟩ = some (.int .u8 a1) ∧ W.cell? ⟨gb, 2, none⟩ = some (.string a2) ∧ W.cell? ⟨gb, 3, none⟩ = some (.int .i64 a3) ∧ W.cell? ⟨gb, 4, none⟩ = some (.int .i64 a4) ∧ W.cell? ⟨gb, 5, none⟩ = some (.int .i64 a5)) (ds := []) #[false, false, false, false, false, false, false, false, false, false, false, false, false, false, false, false, false, false, false, false, false, false, false, false, false, false, false, false] (by kernel_rfl) rfl rfl HX.out (fun hHeld => ?_)
  refine with_tabW ast_sortOf.r10.tab ast_sortOf.r10.bits (fun HT_ HW_ => ?_)
  refine pP 0 66 ?_
  refine pT 1 67 ?_
  refine pP 2 68 ?_
  refine pP 3 69 ?_
  cases c1
  · refine pU 4 70 ?_
    refine pU 5 71 ?_
    refine pU 6 72 ?_
    refine pU 7 73 ?_
    refine pU 8 74 ?_
    refine pU 9 75 ?_
    refine pU 10 76 ?_
    refine pU 11 77 ?_
    refine pP 12 78 ?_
    refine pP 13 79 ?_
    refine pU 14 80 ?_
    refine pU 15 81 ?_
    refine pU 16 82 ?_
    refine pU 17 83 ?_
    refine pU 18 84 ?_
    refine pU 19 85 ?_
    refine pU 20 86 ?_
    refine pU 21 87 ?_
    refine pU 22 88 ?_
    refine pU 23 89 ?_
    refine pU 24 90 ?_
    refine pU 25 91 ?_
    refine pU 26 92 ?_
    refine pP 27 93 ?_
    refine done_ (done_of HT_.out (by kernel_rfl)) ?_
    go_wp2
    go_ret
    exact ⟨by first | rfl | (simp; done), hHeld.1⟩
  · refine pT 4 70 ?_
    refine pP 6 72 ?_
    refine pT 7 73 ?_
    refine pP 8 74 ?_
    refine pT 9 75 ?_
    refine pP 10 76 ?_
    refine pO 5 71 (fun K hK => ?_)
    refine goes_ Tryz.func80 (by kernel_rfl) rfl #[.agg #[.int .u8 25, .int .u8 a1, .string a2, .int .i64 a3, .int .i64 a4, .int .i64 a5]] (by rfl) rfl rfl (by first | rfl | (simp only [q4, q5, q6]; rfl)) ?_
    refine (HB.out _).mono ?_
    rintro e w5 ⟨rfl, hb⟩
    refine ⟨_, rfl, ?_⟩
    refine hK.out _ _ (keep7 hHeld hb) (fun hHeld => ?_)
    clear hK K
    refine norm_ (a' := ?_) ?_ ?_
    rotate_left
    · show Act.put _ (some 71) _ = _
      simp only [Act.put, q1, q2, q3, i64_w, i32_w]
      rfl
    refine pP 11 77 ?_
    refine pP 12 78 ?_
    refine pP 13 79 ?_
    cases c2
    · refine pU 14 80 ?_
      refine pU 15 81 ?_
      refine pU 16 82 ?_
      refine pU 17 83 ?_
      refine pU 18 84 ?_
      refine pU 19 85 ?_
      refine pU 20 86 ?_
      refine pU 21 87 ?_
      refine pU 22 88 ?_
      refine pU 23 89 ?_
      refine pU 24 90 ?_
      refine pU 25 91 ?_
      refine pU 26 92 ?_
      refine pP 27 93 ?_
      refine done_ (done_of HT_.out (by kernel_rfl)) ?_
      go_wp2
      go_ret
      exact ⟨by first | rfl | (simp; done), hHeld.1⟩
    · refine pP 14 80 ?_
      refine pT 15 81 ?_
      refine pP 16 82 ?_
      refine pP 17 83 ?_
      refine pU 18 84 ?_
      refine pU 19 85 ?_
      refine pU 20 86 ?_
      refine pP 21 87 ?_
      refine pP 22 88 ?_
      refine pP 23 89 ?_
      refine pT 24 90 ?_
      refine pP 25 91 ?_
      refine pP 26 92 ?_
      refine pP 27 93 ?_
      refine done_ (done_of HT_.out (by kernel_rfl)) ?_
      cases c4
      all_goals go_wp2
      all_goals go_ret
      all_goals exact ⟨by first | rfl | (simp; done), hHeld.1⟩
set_option maxRecDepth 100000 in
set_option maxHeartbeats 8000000 in
theorem ast_sortOf.at26 (a1 : Int) (a2 : ByteArray) (a3 a4 a5 b0 b1 : Int) (b2 : ByteArray) (b3 b4 b5 : Int) (c1 c2 c3 c4 : Bool) (w : World) (HB : ∀ W : World, Calls Tryz.prog 80 #[.agg #[.int .u8 26, .int .u8 a1, .string a2, .int .i64 a3, .int .i64 a4, .int .i64 a5]] W fun e w' => e = .returned (.agg #[.int .u8 b0, .int .u8 b1, .string b2, .int .i64 b3, .int .i64 b4, .int .i64 b5]) ∧ Below W.heap.size W w') (h1 : (a4 == 0) = c1) (h2 : (b0 == 26 && (b1 == 0 && (b2.toList.isEmpty && (b3 == a3 && (b4 == 0 && b5 == 0))))) = c2) (h2b : (b0 == 26 && (b1 == 0 && (b2.toList == ([] : List UInt8) && (b3 == a3 && (b4 == 0 && b5 == 0))))) = c2) (h3 : decide (a3 ≥ (-9223372036854775807)) = c3) (h3b : decide ((-9223372036854775807) ≤ a3) = c3) (h4 : (a3 == 0) = c4) :
    Calls Tryz.prog 41 #[.agg #[.int .u8 26, .int .u8 a1, .string a2, .int .i64 a3, .int .i64 a4, .int .i64 a5]] w fun e w' => e = .returned (.int .i64 (if c1 && c2 && (c3 || c4) then 3 else 0)) ∧ Below w.heap.size w w' := by
  have hu := Tryz.underlying56
  have hu2 := Tryz.underlying25
  replace HB := Aside0.mk HB
  go_enter Tryz.func41, Tryz.ntmps41
  go_wp2_with (first | ((with_reducible refine gate_dst (N := 1) rfl ?_); refine box_event ?hg (N := 1) ?hd (cs := #[.int .u8 26, .int .u8 a1, .string a2, .int .i64 a3, .int .i64 a4, .int .i64 a5]) (t := 56) ?hr ?_; (case hd => rfl); (case hg => rfl); (case hr => first | (go_simp; done) | (go_simp; rfl)); intro gb hg w6 hbox hb; (clear hg); have HX := Aside0.mk (box7 hb hbox); obtain ⟨_, z0, z1, z2, z3, z4, z5⟩ := box6 hb hbox; have HZ := Aside0.mk hb; (clear hb hbox)))
  refine start_ (n := 28) (S := fun W => Below w.heap.size w W ∧ W.cell? ⟨gb, 0, none⟩ = some (.int .u8 26) ∧ W.cell? ⟨gb, 1, none⟩ = some (.int .u8 a1) ∧ W.cell? ⟨gb, 2, none⟩ = some (.string a2) ∧ W.cell? ⟨gb, 3, none⟩ = some (.int .i64 a3) ∧ W.cell? ⟨gb, 4, none⟩ = some (.int .i64 a4) ∧ W.cell? ⟨gb, 5, none⟩ = some (.int .i64 a5)) (ds := []) #[false, false, false, false, false, false, false, false, false, false, false, false, false, false, false, false, false, false, false, false, false, false, false, false, false, false, false, false] (by kernel_rfl) rfl rfl HX.out (fun hHeld => ?_)
  refine with_tabW ast_sortOf.r10.tab ast_sortOf.r10.bits (fun HT_ HW_ => ?_)
  refine pP 0 66 ?_
  refine pT 1 67 ?_
  refine pP 2 68 ?_
  refine pP 3 69 ?_
  cases c1
  · refine pU 4 70 ?_
    refine pU 5 71 ?_
    refine pU 6 72 ?_
    refine pU 7 73 ?_
    refine pU 8 74 ?_
    refine pU 9 75 ?_
    refine pU 10 76 ?_
    refine pU 11 77 ?_
    refine pP 12 78 ?_
    refine pP 13 79 ?_
    refine pU 14 80 ?_
    refine pU 15 81 ?_
    refine pU 16 82 ?_
    refine pU 17 83 ?_
    refine pU 18 84 ?_
    refine pU 19 85 ?_
    refine pU 20 86 ?_
    refine pU 21 87 ?_
    refine pU 22 88 ?_
    refine pU 23 89 ?_
    refine pU 24 90 ?_
    refine pU 25 91 ?_
    refine pU 26 92 ?_
    refine pP 27 93 ?_
    refine done_ (done_of HT_.out (by kernel_rfl)) ?_
    go_wp2
    go_ret
    exact ⟨by first | rfl | (simp; done), hHeld.1⟩
  · refine pT 4 70 ?_
    refine pP 6 72 ?_
    refine pT 7 73 ?_
    refine pP 8 74 ?_
    refine pT 9 75 ?_
    refine pP 10 76 ?_
    refine pO 5 71 (fun K hK => ?_)
    refine goes_ Tryz.func80 (by kernel_rfl) rfl #[.agg #[.int .u8 26, .int .u8 a1, .string a2, .int .i64 a3, .int .i64 a4, .int .i64 a5]] (by rfl) rfl rfl (by first | rfl | (simp only [q4, q5, q6]; rfl)) ?_
    refine (HB.out _).mono ?_
    rintro e w5 ⟨rfl, hb⟩
    refine ⟨_, rfl, ?_⟩
    refine hK.out _ _ (keep7 hHeld hb) (fun hHeld => ?_)
    clear hK K
    refine norm_ (a' := ?_) ?_ ?_
    rotate_left
    · show Act.put _ (some 71) _ = _
      simp only [Act.put, q1, q2, q3, i64_w, i32_w]
      rfl
    refine pP 11 77 ?_
    refine pP 12 78 ?_
    refine pP 13 79 ?_
    cases c2
    · refine pU 14 80 ?_
      refine pU 15 81 ?_
      refine pU 16 82 ?_
      refine pU 17 83 ?_
      refine pU 18 84 ?_
      refine pU 19 85 ?_
      refine pU 20 86 ?_
      refine pU 21 87 ?_
      refine pU 22 88 ?_
      refine pU 23 89 ?_
      refine pU 24 90 ?_
      refine pU 25 91 ?_
      refine pU 26 92 ?_
      refine pP 27 93 ?_
      refine done_ (done_of HT_.out (by kernel_rfl)) ?_
      go_wp2
      go_ret
      exact ⟨by first | rfl | (simp; done), hHeld.1⟩
    · refine pP 14 80 ?_
      refine pT 15 81 ?_
      refine pP 16 82 ?_
      refine pP 17 83 ?_
      refine pP 18 84 ?_
      refine pT 19 85 ?_
      refine pP 20 86 ?_
      refine pP 21 87 ?_
      refine pP 22 88 ?_
      cases c3
      · refine pP 23 89 ?_
        refine pT 24 90 ?_
        refine pP 25 91 ?_
        refine pP 26 92 ?_
        refine pP 27 93 ?_
        refine done_ (done_of HT_.out (by kernel_rfl)) ?_
        cases c4
        all_goals go_wp2
        all_goals go_ret
        all_goals exact ⟨by first | rfl | (simp; done), hHeld.1⟩
      · refine pU 23 89 ?_
        refine pU 24 90 ?_
        refine pU 25 91 ?_
        refine pP 26 92 ?_
        refine pP 27 93 ?_
        refine done_ (done_of HT_.out (by kernel_rfl)) ?_
        go_wp2
        go_ret
        exact ⟨by first | rfl | (simp; done), hHeld.1⟩
set_option maxRecDepth 100000 in
set_option maxHeartbeats 8000000 in
theorem ast_sortOf.at1 (a0 : Int) (a1 : Int) (a2 : ByteArray) (a3 a4 a5 b0 b1 : Int) (b2 : ByteArray) (b3 b4 b5 : Int) (c1 c2 c3 : Bool) (w : World) (n23 : (a0 == 23) = false) (n24 : (a0 == 24) = false) (n25 : (a0 == 25) = false) (n26 : (a0 == 26) = false) (HB : ∀ W : World, Calls Tryz.prog 80 #[.agg #[.int .u8 a0, .int .u8 a1, .string a2, .int .i64 a3, .int .i64 a4, .int .i64 a5]] W fun e w' => e = .returned (.agg #[.int .u8 b0, .int .u8 b1, .string b2, .int .i64 b3, .int .i64 b4, .int .i64 b5]) ∧ Below W.heap.size W w') (h1 : decide (a0 ≥ 11) = c1) (h1c : decide (11 ≤ a0) = c1) (h2 : decide (a0 ≤ 22) = c2) (h3 : (b0 == a0 && (b1 == 0 && (b2.toList.isEmpty && (b3 == 0 && (b4 == 0 && b5 == 0))))) = c3) (h3b : (b0 == a0 && (b1 == 0 && (b2.toList == ([] : List UInt8) && (b3 == 0 && (b4 == 0 && b5 == 0))))) = c3) :
    Calls Tryz.prog 41 #[.agg #[.int .u8 a0, .int .u8 a1, .string a2, .int .i64 a3, .int .i64 a4, .int .i64 a5]] w fun e w' => e = .returned (.int .i64 (if c1 && c2 && c3 then 1 else 0)) ∧ Below w.heap.size w w' := by
  have hu := Tryz.underlying56
  have hu2 := Tryz.underlying25
  replace HB := Aside0.mk HB
  go_enter Tryz.func41, Tryz.ntmps41
  go_wp2_with (first | ((with_reducible refine gate_dst (N := 1) rfl ?_); refine box_event ?hg (N := 1) ?hd (cs := #[.int .u8 a0, .int .u8 a1, .string a2, .int .i64 a3, .int .i64 a4, .int .i64 a5]) (t := 56) ?hr ?_; (case hd => rfl); (case hg => rfl); (case hr => first | (go_simp; done) | (go_simp; rfl)); intro gb hg w6 hbox hb; (clear hg); have HX := Aside0.mk (box7 hb hbox); obtain ⟨_, z0, z1, z2, z3, z4, z5⟩ := box6 hb hbox; have HZ := Aside0.mk hb; (clear hb hbox)))
  refine start_ (n := 16) (S := fun W => Below w.heap.size w W ∧ W.cell? ⟨gb, 0, none⟩ = some (.int .u8 a0) ∧ W.cell? ⟨gb, 1, none⟩ = some (.int .u8 a1) ∧ W.cell? ⟨gb, 2, none⟩ = some (.string a2) ∧ W.cell? ⟨gb, 3, none⟩ = some (.int .i64 a3) ∧ W.cell? ⟨gb, 4, none⟩ = some (.int .i64 a4) ∧ W.cell? ⟨gb, 5, none⟩ = some (.int .i64 a5)) (ds := []) #[false, false, false, false, false, false, false, false, false, false, false, false, false, false, false, false] (by kernel_rfl) rfl rfl HX.out (fun hHeld => ?_)
  refine with_tabW ast_sortOf.r2.tab ast_sortOf.r2.bits (fun HT_ HW_ => ?_)
  refine pP 0 5 ?_
  refine pT 1 6 ?_
  refine pP 2 7 ?_
  refine pP 3 8 ?_
  cases c1
  · refine pU 4 9 ?_
    refine pU 5 10 ?_
    refine pU 6 11 ?_
    refine pP 7 12 ?_
    refine pP 8 13 ?_
    refine pU 9 14 ?_
    refine pU 10 15 ?_
    refine pU 11 16 ?_
    refine pU 12 17 ?_
    refine pU 13 18 ?_
    refine pU 14 19 ?_
    refine pP 15 20 ?_
    refine done_ (done_of HT_.out (by kernel_rfl)) ?_
    go_wp2
    go_ret
    exact ⟨by first | rfl | (simp; done), hHeld.1⟩
  · refine pP 4 9 ?_
    refine pT 5 10 ?_
    refine pP 6 11 ?_
    refine pP 7 12 ?_
    refine pP 8 13 ?_
    cases c2
    · refine pU 9 14 ?_
      refine pU 10 15 ?_
      refine pU 11 16 ?_
      refine pU 12 17 ?_
      refine pU 13 18 ?_
      refine pU 14 19 ?_
      refine pP 15 20 ?_
      refine done_ (done_of HT_.out (by kernel_rfl)) ?_
      go_wp2
      go_ret
      exact ⟨by first | rfl | (simp; done), hHeld.1⟩
    · refine pT 9 14 ?_
      refine pP 11 16 ?_
      refine pT 12 17 ?_
      refine pP 13 18 ?_
      refine pO 10 15 (fun K hK => ?_)
      refine goes_ Tryz.func80 (by kernel_rfl) rfl #[.agg #[.int .u8 a0, .int .u8 a1, .string a2, .int .i64 a3, .int .i64 a4, .int .i64 a5]] (by rfl) rfl rfl (by first | rfl | (simp only [q4, q5, q6]; rfl)) ?_
      refine (HB.out _).mono ?_
      rintro e w5 ⟨rfl, hb⟩
      refine ⟨_, rfl, ?_⟩
      refine hK.out _ _ (keep7 hHeld hb) (fun hHeld => ?_)
      clear hK K
      refine norm_ (a' := ?_) ?_ ?_
      rotate_left
      · show Act.put _ (some 15) _ = _
        simp only [Act.put, q1, q2, q3, i64_w, i32_w]
        rfl
      refine pP 14 19 ?_
      refine pP 15 20 ?_
      refine done_ (done_of HT_.out (by kernel_rfl)) ?_
      cases c3
      all_goals go_wp2
      all_goals go_ret
      all_goals exact ⟨by first | rfl | (simp; done), hHeld.1⟩
end
def ast_sortOf.f (a0 a1 : Int) (a2 : ByteArray) (a3 a4 a5 : Int) : Option Int := (ast_word.f a2).bind fun c9 => (key_Text.f a2).bind fun e9 => some (sortI a0 a1 a2 a3 a4 c9 e9.isNone)
theorem ast_sortOf.calls (a0 a1 : Int) (a2 : ByteArray) (a3 a4 a5 : Int) (r : Int) (w : World) (hG : Globs w) (h : ast_sortOf.f a0 a1 a2 a3 a4 a5 = some r) :
    Calls Tryz.prog 41 #[.agg #[.int .u8 a0, .int .u8 a1, .string a2, .int .i64 a3, .int .i64 a4, .int .i64 a5]] w fun e w' => e = .returned (.int .i64 r) ∧ Below w.heap.size w w' := by
  unfold ast_sortOf.f at h
  obtain ⟨c9, hw, h⟩ := Option.bind_eq_some_iff.mp h
  obtain ⟨e9, he, h⟩ := Option.bind_eq_some_iff.mp h
  obtain rfl := Option.some.inj h
  have HW := fun (W : World) (hb : Below w.heap.size w W) => ast_word.calls a2 c9 W (hG.below hb) hw
  have HE := fun (W : World) (hb : Below w.heap.size w W) => key_Text.calls a2 e9 W (hG.below hb) he
  have HB := fun (W : World) => ast_bare.calls a0 a1 a2 a3 a4 a5 _ _ _ _ _ _ W rfl
  unfold sortI
  by_cases o1 : a0 = 23
  · subst o1
    simpa using ast_sortOf.at23 a1 a2 a3 a4 a5 23 a1 a2 a3 0 0 _ _ c9 w HB HW rfl rfl
  · by_cases o2 : a0 = 24
    · subst o2
      cases e9 with
      | none => simpa using ast_sortOf.at24n a1 a2 a3 a4 a5 24 a1 a2 a3 0 0 _ _ _ w HB HE rfl rfl rfl (by simp [isE])
      | some x => simpa using ast_sortOf.at24s a1 a2 a3 a4 a5 24 a1 a2 a3 0 0 _ _ _ x w HB HE rfl rfl rfl (by simp [isE])
    · by_cases o3 : a0 = 25
      · subst o3
        simpa using ast_sortOf.at25 a1 a2 a3 a4 a5 25 a1 a2 a3 0 0 _ _ _ _ w HB rfl rfl (by simp [isE]) rfl rfl rfl
      · by_cases o4 : a0 = 26
        · subst o4
          have h := ast_sortOf.at26 a1 a2 a3 a4 a5 26 a1 a2 a3 0 0 _ _ _ _ w HB rfl rfl (by simp [isE]) rfl rfl rfl
          rw [show (decide (a3 ≥ -9223372036854775807) || a3 == 0) = decide ((-9223372036854775807) ≤ a3) by rw [Bool.eq_iff_iff]; simp; omega] at h
          simpa using h
        · have h := ast_sortOf.at1 a0 a1 a2 a3 a4 a5 a0 a1 a2 a3 0 0 _ _ _ w (by simpa using o1) (by simpa using o2) (by simpa using o3) (by simpa using o4) HB rfl rfl rfl rfl (by simp [isE])
          by_cases o5 : 11 ≤ a0 ∧ a0 ≤ 22
          · simpa [o1, o2, o3, o4, o5, Bool.and_assoc] using h
          · rw [if_neg o1, if_neg o2, if_neg o3, if_neg o4, if_neg o5]
            rw [if_neg (by simp; omega)] at h
            exact h

end Go.Proofs.YtlbjfomcgbiagaaGreatDoor.Print
