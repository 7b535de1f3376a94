-- Made by wip/mkprint.sh of this repo over the kit's print.
import Derived.Test.YtabhhfpfdndidaaGreatDoorPrint0
import Derived.Test.YtabhhfpfdndidaaGreatDoorPrint9
import Derived.Test.YtabhhfpfdndidaaGreatDoorPrint10
namespace Go.Proofs.YtabhhfpfdndidaaGreatDoor.Print
open Go.RowKit Go.Proofs.YtabhhfpfdndidaaGreatDoorW.PrintWords Go.Proofs.YtabhhfpfdndidaaGreatDoorW.PrintLast Go.Proofs Go.Proofs.YtabhhfpfdndidaaGreatDoor Go.Proofs.YtabhhfpfdndidaaGreatDoor.Base Go.Proofs.YtabhhfpfdndidaaGreatDoorW.PrintMore
attribute [local go_sem] max2_int min2_int max_two min_two max_three min_three max_four min_four   -- for this text's walks alone
set_option linter.unusedVariables false
set_option linter.unusedSimpArgs false

/-! ### weirref13_Alike: function 26 -/
mutual
def weirref13_Alike.j0 : Nat → Bool → List (S81) → ByteArray → Int → ByteArray → Int → List (S35) → Int → Int → Int → List (S39) → Int → Int → Int → List (S81) → ByteArray → Int → ByteArray → Int → List (S35) → Int → Int → Int → List (S39) → Int → Int → Int → Option (Bool)
 | 0, _, _, _, _, _, _, _, _, _, _, _, _, _, _, _, _, _, _, _, _, _, _, _, _, _, _, _ => none
 | k + 1, x52, x263000, x263001, x263002, x263003, x263004, x263005, x263006, x263007, x263008, x263009, x263010, x263011, x263012, x264000, x264001, x264002, x264003, x264004, x264005, x264006, x264007, x264008, x264009, x264010, x264011, x264012 => if x52 = true then (some false) else (weirref13_Alike.l0 k 0 x263000 x263001 x263002 x263003 x263004 x263005 x263006 x263007 x263008 x263009 x263010 x263011 x263012 x264000 x264001 x264002 x264003 x264004 x264005 x264006 x264007 x264008 x264009 x264010 x264011 x264012)
def weirref13_Alike.l0 : Nat → Int → List (S81) → ByteArray → Int → ByteArray → Int → List (S35) → Int → Int → Int → List (S39) → Int → Int → Int → List (S81) → ByteArray → Int → ByteArray → Int → List (S35) → Int → Int → Int → List (S39) → Int → Int → Int → Option (Bool)
 | 0, _, _, _, _, _, _, _, _, _, _, _, _, _, _, _, _, _, _, _, _, _, _, _, _, _, _, _ => none
 | k + 1, x5, x263000, x263001, x263002, x263003, x263004, x263005, x263006, x263007, x263008, x263009, x263010, x263011, x263012, x264000, x264001, x264002, x264003, x264004, x264005, x264006, x264007, x264008, x264009, x264010, x264011, x264012 => if x5 < (x263000.length : Int) then (if 0 ≤ x5 then (if x5 < (x264000.length : Int) then ((weirtree_Same.f ((rd_T81 x263000 x5).f0) ((rd_T81 x264000 x5).f0)).bind fun t267 => (if t267 = true then (if ((rd_T81 x263000 x5).f1.f0).toList = ((rd_T81 x264000 x5).f1.f0).toList then (weirref13_Alike.l0 k (wrap64 (x5 + 1)) x263000 x263001 x263002 x263003 x263004 x263005 x263006 x263007 x263008 x263009 x263010 x263011 x263012 x264000 x264001 x264002 x264003 x264004 x264005 x264006 x264007 x264008 x264009 x264010 x264011 x264012) else (some false)) else (some false))) else (none)) else (none)) else ((weirref13_sameLabels.f k x263009 x264009).bind fun t270 => (if t270 = true then (if x263010 = x264010 then (some (x263011 == x264011)) else (some false)) else (some false)))
end
def weirref13_Alike.f (k : Nat) (l0_0 : List (S81)) (a0_1 : ByteArray) (a0_2 : Int) (a0_3 : ByteArray) (a0_4 : Int) (l0_5 : List (S35)) (a0_6 : Int) (a0_7 : Int) (a0_8 : Int) (l0_9 : List (S39)) (a0_10 : Int) (a0_11 : Int) (a0_12 : Int) (l1_0 : List (S81)) (a1_1 : ByteArray) (a1_2 : Int) (a1_3 : ByteArray) (a1_4 : Int) (l1_5 : List (S35)) (a1_6 : Int) (a1_7 : Int) (a1_8 : Int) (l1_9 : List (S39)) (a1_10 : Int) (a1_11 : Int) (a1_12 : Int) : Option (Bool) := if (l0_0.length : Int) = (l1_0.length : Int) then (if a0_1.toList = a1_1.toList then (if a0_3.toList = a1_3.toList then ((weirtree_Same.f l0_5 l1_5).bind fun t264 => (if t264 = true then (if a0_6 = a1_6 then (weirref13_Alike.j0 k (a0_7 != a1_7) l0_0 a0_1 a0_2 a0_3 a0_4 l0_5 a0_6 a0_7 a0_8 l0_9 a0_10 a0_11 a0_12 l1_0 a1_1 a1_2 a1_3 a1_4 l1_5 a1_6 a1_7 a1_8 l1_9 a1_10 a1_11 a1_12) else (weirref13_Alike.j0 k true l0_0 a0_1 a0_2 a0_3 a0_4 l0_5 a0_6 a0_7 a0_8 l0_9 a0_10 a0_11 a0_12 l1_0 a1_1 a1_2 a1_3 a1_4 l1_5 a1_6 a1_7 a1_8 l1_9 a1_10 a1_11 a1_12)) else (weirref13_Alike.j0 k true l0_0 a0_1 a0_2 a0_3 a0_4 l0_5 a0_6 a0_7 a0_8 l0_9 a0_10 a0_11 a0_12 l1_0 a1_1 a1_2 a1_3 a1_4 l1_5 a1_6 a1_7 a1_8 l1_9 a1_10 a1_11 a1_12))) else (weirref13_Alike.j0 k true l0_0 a0_1 a0_2 a0_3 a0_4 l0_5 a0_6 a0_7 a0_8 l0_9 a0_10 a0_11 a0_12 l1_0 a1_1 a1_2 a1_3 a1_4 l1_5 a1_6 a1_7 a1_8 l1_9 a1_10 a1_11 a1_12)) else (weirref13_Alike.j0 k true l0_0 a0_1 a0_2 a0_3 a0_4 l0_5 a0_6 a0_7 a0_8 l0_9 a0_10 a0_11 a0_12 l1_0 a1_1 a1_2 a1_3 a1_4 l1_5 a1_6 a1_7 a1_8 l1_9 a1_10 a1_11 a1_12)) else (weirref13_Alike.j0 k true l0_0 a0_1 a0_2 a0_3 a0_4 l0_5 a0_6 a0_7 a0_8 l0_9 a0_10 a0_11 a0_12 l1_0 a1_1 a1_2 a1_3 a1_4 l1_5 a1_6 a1_7 a1_8 l1_9 a1_10 a1_11 a1_12)
theorem weirref13_Alike.mono_l : ∀ k, (∀ y0 y1 y2 y3 y4 y5 y6 y7 y8 y9 y10 y11 y12 y13 y14 y15 y16 y17 y18 y19 y20 y21 y22 y23 y24 y25 y26, LeO (weirref13_Alike.j0 k y0 y1 y2 y3 y4 y5 y6 y7 y8 y9 y10 y11 y12 y13 y14 y15 y16 y17 y18 y19 y20 y21 y22 y23 y24 y25 y26) (weirref13_Alike.j0 (k + 1) y0 y1 y2 y3 y4 y5 y6 y7 y8 y9 y10 y11 y12 y13 y14 y15 y16 y17 y18 y19 y20 y21 y22 y23 y24 y25 y26)) ∧ (∀ y0 y1 y2 y3 y4 y5 y6 y7 y8 y9 y10 y11 y12 y13 y14 y15 y16 y17 y18 y19 y20 y21 y22 y23 y24 y25 y26, LeO (weirref13_Alike.l0 k y0 y1 y2 y3 y4 y5 y6 y7 y8 y9 y10 y11 y12 y13 y14 y15 y16 y17 y18 y19 y20 y21 y22 y23 y24 y25 y26) (weirref13_Alike.l0 (k + 1) y0 y1 y2 y3 y4 y5 y6 y7 y8 y9 y10 y11 y12 y13 y14 y15 y16 y17 y18 y19 y20 y21 y22 y23 y24 y25 y26))
 | 0 => ⟨fun _ _ _ _ _ _ _ _ _ _ _ _ _ _ _ _ _ _ _ _ _ _ _ _ _ _ _ r h => by simp [weirref13_Alike.j0] at h, fun _ _ _ _ _ _ _ _ _ _ _ _ _ _ _ _ _ _ _ _ _ _ _ _ _ _ _ r h => by simp [weirref13_Alike.l0] at h⟩
 | k + 1 => by
  obtain ⟨ih0, ih1⟩ := weirref13_Alike.mono_l k
  refine ⟨?_, ?_⟩
  ·
   intro y0 y1 y2 y3 y4 y5 y6 y7 y8 y9 y10 y11 y12 y13 y14 y15 y16 y17 y18 y19 y20 y21 y22 y23 y24 y25 y26
   unfold weirref13_Alike.j0
   repeat' first
   | (with_reducible exact ih0 _ _ _ _ _ _ _ _ _ _ _ _ _ _ _ _ _ _ _ _ _ _ _ _ _ _ _)
   | (with_reducible exact ih1 _ _ _ _ _ _ _ _ _ _ _ _ _ _ _ _ _ _ _ _ _ _ _ _ _ _ _)
   | (with_reducible exact weirref13_sameLabels.mono _ _ _)
   | (with_reducible exact LeO.refl _)
   | (with_reducible exact LeO.none _)
   | (with_reducible refine LeO.ite ?_ ?_)
   | (with_reducible refine LeO.bind ?_ (fun _ => ?_))
   | exact ih0 _ _ _ _ _ _ _ _ _ _ _ _ _ _ _ _ _ _ _ _ _ _ _ _ _ _ _
   | exact ih1 _ _ _ _ _ _ _ _ _ _ _ _ _ _ _ _ _ _ _ _ _ _ _ _ _ _ _
   | exact weirref13_sameLabels.mono _ _ _
   | exact LeO.none _
   | refine LeO.ite ?_ ?_
   | refine LeO.bind ?_ (fun _ => ?_)
  ·
   intro y0 y1 y2 y3 y4 y5 y6 y7 y8 y9 y10 y11 y12 y13 y14 y15 y16 y17 y18 y19 y20 y21 y22 y23 y24 y25 y26
   unfold weirref13_Alike.l0
   repeat' first
   | (with_reducible exact ih0 _ _ _ _ _ _ _ _ _ _ _ _ _ _ _ _ _ _ _ _ _ _ _ _ _ _ _)
   | (with_reducible exact ih1 _ _ _ _ _ _ _ _ _ _ _ _ _ _ _ _ _ _ _ _ _ _ _ _ _ _ _)
   | (with_reducible exact weirref13_sameLabels.mono _ _ _)
   | (with_reducible exact LeO.refl _)
   | (with_reducible exact LeO.none _)
   | (with_reducible refine LeO.ite ?_ ?_)
   | (with_reducible refine LeO.bind ?_ (fun _ => ?_))
   | exact ih0 _ _ _ _ _ _ _ _ _ _ _ _ _ _ _ _ _ _ _ _ _ _ _ _ _ _ _
   | exact ih1 _ _ _ _ _ _ _ _ _ _ _ _ _ _ _ _ _ _ _ _ _ _ _ _ _ _ _
   | exact weirref13_sameLabels.mono _ _ _
   | exact LeO.none _
   | refine LeO.ite ?_ ?_
   | refine LeO.bind ?_ (fun _ => ?_)
theorem weirref13_Alike.mono : ∀ a0 a1 a2 a3 a4 a5 a6 a7 a8 a9 a10 a11 a12 a13 a14 a15 a16 a17 a18 a19 a20 a21 a22 a23 a24 a25 k, LeO (weirref13_Alike.f k a0 a1 a2 a3 a4 a5 a6 a7 a8 a9 a10 a11 a12 a13 a14 a15 a16 a17 a18 a19 a20 a21 a22 a23 a24 a25) (weirref13_Alike.f (k + 1) a0 a1 a2 a3 a4 a5 a6 a7 a8 a9 a10 a11 a12 a13 a14 a15 a16 a17 a18 a19 a20 a21 a22 a23 a24 a25) := by
 intro a0 a1 a2 a3 a4 a5 a6 a7 a8 a9 a10 a11 a12 a13 a14 a15 a16 a17 a18 a19 a20 a21 a22 a23 a24 a25 k
 obtain ⟨ih0, ih1⟩ := weirref13_Alike.mono_l k
 unfold weirref13_Alike.f
 repeat' first
   | (with_reducible exact ih0 _ _ _ _ _ _ _ _ _ _ _ _ _ _ _ _ _ _ _ _ _ _ _ _ _ _ _)
   | (with_reducible exact ih1 _ _ _ _ _ _ _ _ _ _ _ _ _ _ _ _ _ _ _ _ _ _ _ _ _ _ _)
   | (with_reducible exact weirref13_sameLabels.mono _ _ _)
   | (with_reducible exact LeO.refl _)
   | (with_reducible exact LeO.none _)
   | (with_reducible refine LeO.ite ?_ ?_)
   | (with_reducible refine LeO.bind ?_ (fun _ => ?_))
   | exact ih0 _ _ _ _ _ _ _ _ _ _ _ _ _ _ _ _ _ _ _ _ _ _ _ _ _ _ _
   | exact ih1 _ _ _ _ _ _ _ _ _ _ _ _ _ _ _ _ _ _ _ _ _ _ _ _ _ _ _
   | exact weirref13_sameLabels.mono _ _ _
   | exact LeO.none _
   | refine LeO.ite ?_ ?_
   | refine LeO.bind ?_ (fun _ => ?_)
def weirref13_Alike.T6 : Bool × List (List Nat × List Nat) := (true, [([], []), ([0], [0]), ([], []), ([1, 2], [1, 2]), ([3], [3]), ([4], [4]), ([], []), ([6], [6]), ([], []), ([7, 8], [7, 8]), ([9], [9]), ([10], [10]), ([5, 11], [5, 11]), ([12], [12]), ([13, 12], [13]), ([14], [14]), ([15, 14], [14, 15]), ([14], [14]), ([16, 17, 14], [14, 16, 17]), ([18, 14], [14, 18]), ([19, 14], [14, 19]), ([20, 14], [14, 20]), ([14], [14]), ([22, 14], [14, 22]), ([14], [14]), ([23, 24, 14], [14, 23, 24]), ([25, 14], [14, 25]), ([26, 14], [14, 26]), ([27, 14], [14, 27]), ([21, 28, 14], [14, 21, 28]), ([14, 29], [14, 29])])
def weirref13_Alike.B6 : List Nat := [0, 1, 0, 7, 15, 31, 0, 64, 0, 448, 960, 1984, 4095, 8191, 16383, 32767, 65535, 32767, 262143, 524287, 1048575, 2097151, 32767, 4227071, 32767, 29392895, 62947327, 130056191, 264273919, 536870911, 1073741823]
theorem weirref13_Alike.tab6 : rtab .any (opsOf Tryz.f26 6) = weirref13_Alike.T6 := by kernel_rfl
theorem weirref13_Alike.bits6 : waitsOk weirref13_Alike.T6.2 weirref13_Alike.B6 = true := by kernel_rfl
set_option maxHeartbeats 8000000 in
set_option maxRecDepth 100000 in
theorem weirref13_Alike.calls (k : Nat) (A0_0 : Option Addr) (c0_0 : Nat) (l0_0 : List (S81)) (a0_1 : ByteArray) (a0_2 : Int) (a0_3 : ByteArray) (a0_4 : Int) (A0_5 : Option Addr) (c0_5 : Nat) (l0_5 : List (S35)) (a0_6 : Int) (a0_7 : Int) (a0_8 : Int) (A0_9 : Option Addr) (c0_9 : Nat) (l0_9 : List (S39)) (a0_10 : Int) (a0_11 : Int) (a0_12 : Int) (A1_0 : Option Addr) (c1_0 : Nat) (l1_0 : List (S81)) (a1_1 : ByteArray) (a1_2 : Int) (a1_3 : ByteArray) (a1_4 : Int) (A1_5 : Option Addr) (c1_5 : Nat) (l1_5 : List (S35)) (a1_6 : Int) (a1_7 : Int) (a1_8 : Int) (A1_9 : Option Addr) (c1_9 : Nat) (l1_9 : List (S39)) (a1_10 : Int) (a1_11 : Int) (a1_12 : Int) (r : Bool) (w : World) (hr0_0 : Kd.C k81 w A0_0 l0_0.length l0_0) (hc0_0 : l0_0.length ≤ c0_0) (hr0_5 : Kd.C k35 w A0_5 l0_5.length l0_5) (hc0_5 : l0_5.length ≤ c0_5) (hr0_9 : Kd.C k39 w A0_9 l0_9.length l0_9) (hc0_9 : l0_9.length ≤ c0_9) (hr1_0 : Kd.C k81 w A1_0 l1_0.length l1_0) (hc1_0 : l1_0.length ≤ c1_0) (hr1_5 : Kd.C k35 w A1_5 l1_5.length l1_5) (hc1_5 : l1_5.length ≤ c1_5) (hr1_9 : Kd.C k39 w A1_9 l1_9.length l1_9) (hc1_9 : l1_9.length ≤ c1_9) (h : weirref13_Alike.f k l0_0 a0_1 a0_2 a0_3 a0_4 l0_5 a0_6 a0_7 a0_8 l0_9 a0_10 a0_11 a0_12 l1_0 a1_1 a1_2 a1_3 a1_4 l1_5 a1_6 a1_7 a1_8 l1_9 a1_10 a1_11 a1_12 = some r) :
  Calls Tryz.prog 26 #[.agg #[.slice A0_0 l0_0.length c0_0, .string a0_1, .int .i64 a0_2, .string a0_3, .int .i64 a0_4, .slice A0_5 l0_5.length c0_5, .int .i64 a0_6, .int .i64 a0_7, .int .i64 a0_8, .slice A0_9 l0_9.length c0_9, .int .u8 a0_10, .int .i64 a0_11, .int .i64 a0_12], .agg #[.slice A1_0 l1_0.length c1_0, .string a1_1, .int .i64 a1_2, .string a1_3, .int .i64 a1_4, .slice A1_5 l1_5.length c1_5, .int .i64 a1_6, .int .i64 a1_7, .int .i64 a1_8, .slice A1_9 l1_9.length c1_9, .int .u8 a1_10, .int .i64 a1_11, .int .i64 a1_12]] w fun e w' => e = .returned (.bool r) ∧ Below w.heap.size w w' := by
 have hu43 := Tryz.underlying43
 have HR0_0 := Aside0.mk hr0_0
 have HC0_0 := Aside0.mk hc0_0
 clear hr0_0 hc0_0
 have HR0_5 := Aside0.mk hr0_5
 have HC0_5 := Aside0.mk hc0_5
 clear hr0_5 hc0_5
 have HR0_9 := Aside0.mk hr0_9
 have HC0_9 := Aside0.mk hc0_9
 clear hr0_9 hc0_9
 have HR1_0 := Aside0.mk hr1_0
 have HC1_0 := Aside0.mk hc1_0
 clear hr1_0 hc1_0
 have HR1_5 := Aside0.mk hr1_5
 have HC1_5 := Aside0.mk hc1_5
 clear hr1_5 hc1_5
 have HR1_9 := Aside0.mk hr1_9
 have HC1_9 := Aside0.mk hc1_9
 clear hr1_9 hc1_9
 have HB := Aside0.mk (Below.refl w.heap.size w)
 have H : (if (l0_0.length : Int) = (l1_0.length : Int) then (if a0_1.toList = a1_1.toList then (if a0_3.toList = a1_3.toList then ((weirtree_Same.f l0_5 l1_5).bind fun t264 => (if t264 = true then (if a0_6 = a1_6 then (weirref13_Alike.j0 k (a0_7 != a1_7) l0_0 a0_1 a0_2 a0_3 a0_4 l0_5 a0_6 a0_7 a0_8 l0_9 a0_10 a0_11 a0_12 l1_0 a1_1 a1_2 a1_3 a1_4 l1_5 a1_6 a1_7 a1_8 l1_9 a1_10 a1_11 a1_12) else (weirref13_Alike.j0 k true l0_0 a0_1 a0_2 a0_3 a0_4 l0_5 a0_6 a0_7 a0_8 l0_9 a0_10 a0_11 a0_12 l1_0 a1_1 a1_2 a1_3 a1_4 l1_5 a1_6 a1_7 a1_8 l1_9 a1_10 a1_11 a1_12)) else (weirref13_Alike.j0 k true l0_0 a0_1 a0_2 a0_3 a0_4 l0_5 a0_6 a0_7 a0_8 l0_9 a0_10 a0_11 a0_12 l1_0 a1_1 a1_2 a1_3 a1_4 l1_5 a1_6 a1_7 a1_8 l1_9 a1_10 a1_11 a1_12))) else (weirref13_Alike.j0 k true l0_0 a0_1 a0_2 a0_3 a0_4 l0_5 a0_6 a0_7 a0_8 l0_9 a0_10 a0_11 a0_12 l1_0 a1_1 a1_2 a1_3 a1_4 l1_5 a1_6 a1_7 a1_8 l1_9 a1_10 a1_11 a1_12)) else (weirref13_Alike.j0 k true l0_0 a0_1 a0_2 a0_3 a0_4 l0_5 a0_6 a0_7 a0_8 l0_9 a0_10 a0_11 a0_12 l1_0 a1_1 a1_2 a1_3 a1_4 l1_5 a1_6 a1_7 a1_8 l1_9 a1_10 a1_11 a1_12)) else (weirref13_Alike.j0 k true l0_0 a0_1 a0_2 a0_3 a0_4 l0_5 a0_6 a0_7 a0_8 l0_9 a0_10 a0_11 a0_12 l1_0 a1_1 a1_2 a1_3 a1_4 l1_5 a1_6 a1_7 a1_8 l1_9 a1_10 a1_11 a1_12)) = some r := h
 clear h
 have HC3 := Aside0.mk H
 clear H
 go_enter Tryz.func26, Tryz.ntmps26
 go_upto_region 1 with (first | ((with_reducible refine gate_dst (N := 2) rfl ?_); refine box_event ?hg (N := 2) ?hd (cs := #[.slice A0_0 l0_0.length c0_0, .string a0_1, .int .i64 a0_2, .string a0_3, .int .i64 a0_4, .slice A0_5 l0_5.length c0_5, .int .i64 a0_6, .int .i64 a0_7, .int .i64 a0_8, .slice A0_9 l0_9.length c0_9, .int .u8 a0_10, .int .i64 a0_11, .int .i64 a0_12]) (t := 43) ?hr ?_; (case hd => rfl); (case hg => rfl); (case hr => first | (go_simp; done) | (go_simp; rfl)); intro gb262 hg w4 hbox hb; have n0_ := Aside0.mk (below_step (by repeat (first | (with_reducible first | exact HB.out | apply below_alloc | apply pw_below_drewN | apply below_drew1) | exact HB.out)) hb); have n1_ := Aside0.mk (hbox); have n2_ := Aside0.mk ((by rw [hg]; exact (below_size (by repeat (first | (with_reducible first | exact HB.out | apply below_alloc | apply pw_below_drewN | apply below_drew1) | exact HB.out))) : w.heap.size ≤ gb262)); have n3_ := Aside0.mk ((by rw [hg]; exact (below_size (by repeat (first | (with_reducible first | exact HB.out | apply below_alloc | apply pw_below_drewN | apply below_drew1) | exact HB.out))) : w.heap.size ≤ gb262)); clear HB; have HB := n0_; have BK262 := n1_; have GW262 := n2_; have GE262 := n3_; clear n0_ n1_ n2_ n3_; clear hb hbox hg) | ((with_reducible refine gate_dst (N := 3) rfl ?_); refine box_event ?hg (N := 3) ?hd (cs := #[.slice A1_0 l1_0.length c1_0, .string a1_1, .int .i64 a1_2, .string a1_3, .int .i64 a1_4, .slice A1_5 l1_5.length c1_5, .int .i64 a1_6, .int .i64 a1_7, .int .i64 a1_8, .slice A1_9 l1_9.length c1_9, .int .u8 a1_10, .int .i64 a1_11, .int .i64 a1_12]) (t := 43) ?hr ?_; (case hd => rfl); (case hg => rfl); (case hr => first | (go_simp; done) | (go_simp; rfl)); intro gb263 hg w5 hbox hb; have n0_ := Aside0.mk (blk_below (g := gb262) (o := .cells #[.slice A0_0 l0_0.length c0_0, .string a0_1, .int .i64 a0_2, .string a0_3, .int .i64 a0_4, .slice A0_5 l0_5.length c0_5, .int .i64 a0_6, .int .i64 a0_7, .int .i64 a0_8, .slice A0_9 l0_9.length c0_9, .int .u8 a0_10, .int .i64 a0_11, .int .i64 a0_12] 43 (0, 0)) (by (with_reducible repeat (first | refine blk_drewN ?_ _ | refine blk_drew ?_ | refine blk_alloc ?_ _)); exact BK262.out) hb); have n1_ := Aside0.mk (below_step (by repeat (first | (with_reducible first | exact HB.out | apply below_alloc | apply pw_below_drewN | apply below_drew1 | refine below_set ?_ GE262.out) | exact HB.out)) hb); have n2_ := Aside0.mk (hbox); have n3_ := Aside0.mk ((by rw [hg]; exact (below_size (by repeat (first | (with_reducible first | exact HB.out | apply below_alloc | apply pw_below_drewN | apply below_drew1 | refine below_set ?_ GE262.out) | exact HB.out))) : w.heap.size ≤ gb263)); have n4_ := Aside0.mk ((by rw [hg]; exact (below_size (by repeat (first | (with_reducible first | exact HB.out | apply below_alloc | apply pw_below_drewN | apply below_drew1 | refine below_set ?_ GE262.out) | exact HB.out))) : w.heap.size ≤ gb263)); have n5_ := Aside0.mk ((by rw [hg]; exact Nat.ne_of_lt (blk_lt (g := gb262) (o := .cells #[.slice A0_0 l0_0.length c0_0, .string a0_1, .int .i64 a0_2, .string a0_3, .int .i64 a0_4, .slice A0_5 l0_5.length c0_5, .int .i64 a0_6, .int .i64 a0_7, .int .i64 a0_8, .slice A0_9 l0_9.length c0_9, .int .u8 a0_10, .int .i64 a0_11, .int .i64 a0_12] 43 (0, 0)) (by (with_reducible repeat (first | refine blk_drewN ?_ _ | refine blk_drew ?_ | refine blk_alloc ?_ _)); exact BK262.out)) : gb262 ≠ gb263)); have n6_ := Aside0.mk ((by rw [hg]; exact Nat.ne_of_gt (blk_lt (g := gb262) (o := .cells #[.slice A0_0 l0_0.length c0_0, .string a0_1, .int .i64 a0_2, .string a0_3, .int .i64 a0_4, .slice A0_5 l0_5.length c0_5, .int .i64 a0_6, .int .i64 a0_7, .int .i64 a0_8, .slice A0_9 l0_9.length c0_9, .int .u8 a0_10, .int .i64 a0_11, .int .i64 a0_12] 43 (0, 0)) (by (with_reducible repeat (first | refine blk_drewN ?_ _ | refine blk_drew ?_ | refine blk_alloc ?_ _)); exact BK262.out)) : gb263 ≠ gb262)); clear BK262; clear HB; have BK262 := n0_; have HB := n1_; have BK263 := n2_; have GW263 := n3_; have GE263 := n4_; have NB262_263 := n5_; have NB263_262 := n6_; clear n0_ n1_ n2_ n3_ n4_ n5_ n6_; clear hb hbox hg))
 (try simp only [Act.put, q1, q2, q3])
 go_cut [52] (fun v52 wc => ∃ (kq : Nat) (x52_2 : Bool), v52 = .bool x52_2 ∧ Aside0 (weirref13_Alike.j0 kq x52_2 l0_0 a0_1 a0_2 a0_3 a0_4 l0_5 a0_6 a0_7 a0_8 l0_9 a0_10 a0_11 a0_12 l1_0 a1_1 a1_2 a1_3 a1_4 l1_5 a1_6 a1_7 a1_8 l1_9 a1_10 a1_11 a1_12 = some r) ∧ Aside0 (kq ≤ k) ∧ Aside0 (wc.heap[gb262]? = some (.cells #[(.slice A0_0 l0_0.length c0_0), .string a0_1, .int .i64 a0_2, .string a0_3, .int .i64 a0_4, (.slice A0_5 l0_5.length c0_5), .int .i64 a0_6, .int .i64 a0_7, .int .i64 a0_8, (.slice A0_9 l0_9.length c0_9), .int .u8 a0_10, .int .i64 a0_11, .int .i64 a0_12] 43 (0, 0))) ∧ Aside0 (wc.heap[gb263]? = some (.cells #[(.slice A1_0 l1_0.length c1_0), .string a1_1, .int .i64 a1_2, .string a1_3, .int .i64 a1_4, (.slice A1_5 l1_5.length c1_5), .int .i64 a1_6, .int .i64 a1_7, .int .i64 a1_8, (.slice A1_9 l1_9.length c1_9), .int .u8 a1_10, .int .i64 a1_11, .int .i64 a1_12] 43 (0, 0))) ∧ Aside0 (Below w.heap.size w wc))
 case first =>
  have H := HC3.out
  clear HC3
  by_cases c6 : (l0_0.length : Int) = (l1_0.length : Int)
  ·
   rw [if_pos c6] at H
   have c6b0 : ((l0_0.length : Int) == (l1_0.length : Int)) = true := beq_iff_eq.mpr c6
   have c6b1 : ((l0_0.length : Int) != (l1_0.length : Int)) = false := bne_eq_false_iff_eq.mpr c6
   have c6b2 : (l0_0.length == l1_0.length) = true := by first | simpa using c6 | (simp at c6 ⊢; omega)
   clear c6
   (first | rw [c6b0] | (simp only [i64_w, i32_w]; rw [c6b0]) | skip)
   by_cases c7 : a0_1.toList = a1_1.toList
   ·
    rw [if_pos c7] at H
    have c7b0 : (a0_1.toList == a1_1.toList) = true := beq_iff_eq.mpr c7
    have c7b1 : (a0_1.toList != a1_1.toList) = false := bne_eq_false_iff_eq.mpr c7
    clear c7
    by_cases c8 : a0_3.toList = a1_3.toList
    ·
     rw [if_pos c8] at H
     have c8b0 : (a0_3.toList == a1_3.toList) = true := beq_iff_eq.mpr c8
     have c8b1 : (a0_3.toList != a1_3.toList) = false := bne_eq_false_iff_eq.mpr c8
     clear c8
     replace H := Option.bind_eq_some_iff.mp H
     obtain ⟨t264, A90, H⟩ := H
     replace H : (if t264 = true then (if a0_6 = a1_6 then (weirref13_Alike.j0 k (a0_7 != a1_7) l0_0 a0_1 a0_2 a0_3 a0_4 l0_5 a0_6 a0_7 a0_8 l0_9 a0_10 a0_11 a0_12 l1_0 a1_1 a1_2 a1_3 a1_4 l1_5 a1_6 a1_7 a1_8 l1_9 a1_10 a1_11 a1_12) else (weirref13_Alike.j0 k true l0_0 a0_1 a0_2 a0_3 a0_4 l0_5 a0_6 a0_7 a0_8 l0_9 a0_10 a0_11 a0_12 l1_0 a1_1 a1_2 a1_3 a1_4 l1_5 a1_6 a1_7 a1_8 l1_9 a1_10 a1_11 a1_12)) else (weirref13_Alike.j0 k true l0_0 a0_1 a0_2 a0_3 a0_4 l0_5 a0_6 a0_7 a0_8 l0_9 a0_10 a0_11 a0_12 l1_0 a1_1 a1_2 a1_3 a1_4 l1_5 a1_6 a1_7 a1_8 l1_9 a1_10 a1_11 a1_12)) = some r := H
     have A9 := Aside0.mk A90
     clear A90
     by_cases c10 : t264 = true
     ·
      subst c10
      have H1 : (if a0_6 = a1_6 then (weirref13_Alike.j0 k (a0_7 != a1_7) l0_0 a0_1 a0_2 a0_3 a0_4 l0_5 a0_6 a0_7 a0_8 l0_9 a0_10 a0_11 a0_12 l1_0 a1_1 a1_2 a1_3 a1_4 l1_5 a1_6 a1_7 a1_8 l1_9 a1_10 a1_11 a1_12) else (weirref13_Alike.j0 k true l0_0 a0_1 a0_2 a0_3 a0_4 l0_5 a0_6 a0_7 a0_8 l0_9 a0_10 a0_11 a0_12 l1_0 a1_1 a1_2 a1_3 a1_4 l1_5 a1_6 a1_7 a1_8 l1_9 a1_10 a1_11 a1_12)) = some r := by rw [if_pos rfl] at H; exact H
      clear H
      have H := H1
      clear H1
      by_cases c11 : a0_6 = a1_6
      ·
       rw [if_pos c11] at H
       have c11b0 : (a0_6 == a1_6) = true := beq_iff_eq.mpr c11
       have c11b1 : (a0_6 != a1_6) = false := bne_eq_false_iff_eq.mpr c11
       clear c11
       have H' := Aside0.mk H
       clear H
       have hnb12 := NB262_263.out
       have hnc12 := NB263_262.out
       have hcz13_0 : w5.cell? ⟨gb262, 0, none⟩ = some (.slice A0_0 l0_0.length c0_0) := (blk_cell BK262.out 0).trans rfl
       have hcz13_1 : w5.cell? ⟨gb262, 1, none⟩ = some (.string a0_1) := (blk_cell BK262.out 1).trans rfl
       have hcz13_2 : w5.cell? ⟨gb262, 2, none⟩ = some (.int .i64 a0_2) := (blk_cell BK262.out 2).trans rfl
       have hcz13_3 : w5.cell? ⟨gb262, 3, none⟩ = some (.string a0_3) := (blk_cell BK262.out 3).trans rfl
       have hcz13_4 : w5.cell? ⟨gb262, 4, none⟩ = some (.int .i64 a0_4) := (blk_cell BK262.out 4).trans rfl
       have hcz13_5 : w5.cell? ⟨gb262, 5, none⟩ = some (.slice A0_5 l0_5.length c0_5) := (blk_cell BK262.out 5).trans rfl
       have hcz13_6 : w5.cell? ⟨gb262, 6, none⟩ = some (.int .i64 a0_6) := (blk_cell BK262.out 6).trans rfl
       have hcz13_7 : w5.cell? ⟨gb262, 7, none⟩ = some (.int .i64 a0_7) := (blk_cell BK262.out 7).trans rfl
       have hcz13_8 : w5.cell? ⟨gb262, 8, none⟩ = some (.int .i64 a0_8) := (blk_cell BK262.out 8).trans rfl
       have hcz13_9 : w5.cell? ⟨gb262, 9, none⟩ = some (.slice A0_9 l0_9.length c0_9) := (blk_cell BK262.out 9).trans rfl
       have hcz13_10 : w5.cell? ⟨gb262, 10, none⟩ = some (.int .u8 a0_10) := (blk_cell BK262.out 10).trans rfl
       have hcz13_11 : w5.cell? ⟨gb262, 11, none⟩ = some (.int .i64 a0_11) := (blk_cell BK262.out 11).trans rfl
       have hcz13_12 : w5.cell? ⟨gb262, 12, none⟩ = some (.int .i64 a0_12) := (blk_cell BK262.out 12).trans rfl
       have hfz13_0 := blk_frozen BK262.out 0
       have hfz13_1 := blk_frozen BK262.out 1
       have hfz13_2 := blk_frozen BK262.out 2
       have hfz13_3 := blk_frozen BK262.out 3
       have hfz13_4 := blk_frozen BK262.out 4
       have hfz13_5 := blk_frozen BK262.out 5
       have hfz13_6 := blk_frozen BK262.out 6
       have hfz13_7 := blk_frozen BK262.out 7
       have hfz13_8 := blk_frozen BK262.out 8
       have hfz13_9 := blk_frozen BK262.out 9
       have hfz13_10 := blk_frozen BK262.out 10
       have hfz13_11 := blk_frozen BK262.out 11
       have hfz13_12 := blk_frozen BK262.out 12
       have hcz14_0 : w5.cell? ⟨gb263, 0, none⟩ = some (.slice A1_0 l1_0.length c1_0) := (blk_cell BK263.out 0).trans rfl
       have hcz14_1 : w5.cell? ⟨gb263, 1, none⟩ = some (.string a1_1) := (blk_cell BK263.out 1).trans rfl
       have hcz14_2 : w5.cell? ⟨gb263, 2, none⟩ = some (.int .i64 a1_2) := (blk_cell BK263.out 2).trans rfl
       have hcz14_3 : w5.cell? ⟨gb263, 3, none⟩ = some (.string a1_3) := (blk_cell BK263.out 3).trans rfl
       have hcz14_4 : w5.cell? ⟨gb263, 4, none⟩ = some (.int .i64 a1_4) := (blk_cell BK263.out 4).trans rfl
       have hcz14_5 : w5.cell? ⟨gb263, 5, none⟩ = some (.slice A1_5 l1_5.length c1_5) := (blk_cell BK263.out 5).trans rfl
       have hcz14_6 : w5.cell? ⟨gb263, 6, none⟩ = some (.int .i64 a1_6) := (blk_cell BK263.out 6).trans rfl
       have hcz14_7 : w5.cell? ⟨gb263, 7, none⟩ = some (.int .i64 a1_7) := (blk_cell BK263.out 7).trans rfl
       have hcz14_8 : w5.cell? ⟨gb263, 8, none⟩ = some (.int .i64 a1_8) := (blk_cell BK263.out 8).trans rfl
       have hcz14_9 : w5.cell? ⟨gb263, 9, none⟩ = some (.slice A1_9 l1_9.length c1_9) := (blk_cell BK263.out 9).trans rfl
       have hcz14_10 : w5.cell? ⟨gb263, 10, none⟩ = some (.int .u8 a1_10) := (blk_cell BK263.out 10).trans rfl
       have hcz14_11 : w5.cell? ⟨gb263, 11, none⟩ = some (.int .i64 a1_11) := (blk_cell BK263.out 11).trans rfl
       have hcz14_12 : w5.cell? ⟨gb263, 12, none⟩ = some (.int .i64 a1_12) := (blk_cell BK263.out 12).trans rfl
       have hfz14_0 := blk_frozen BK263.out 0
       have hfz14_1 := blk_frozen BK263.out 1
       have hfz14_2 := blk_frozen BK263.out 2
       have hfz14_3 := blk_frozen BK263.out 3
       have hfz14_4 := blk_frozen BK263.out 4
       have hfz14_5 := blk_frozen BK263.out 5
       have hfz14_6 := blk_frozen BK263.out 6
       have hfz14_7 := blk_frozen BK263.out 7
       have hfz14_8 := blk_frozen BK263.out 8
       have hfz14_9 := blk_frozen BK263.out 9
       have hfz14_10 := blk_frozen BK263.out 10
       have hfz14_11 := blk_frozen BK263.out 11
       have hfz14_12 := blk_frozen BK263.out 12
       go_wp2_with (first | (go_at_call 24; (with_reducible refine (weirtree_Same.calls _ _ l0_5 _ _ l1_5 true _ ?side1 ?side2 ?side3 ?side4 A9.out).mono ?_); (case side1 => repeat (first | exact (Kd.C_below HR0_5.out HB.out) | (with_reducible refine Kd.C_alloc ?_ _) | (with_reducible refine Kd.C_drewN ?_ _) | (with_reducible refine Kd.C_drew ?_))); (case side2 => exact HC0_5.out); (case side3 => repeat (first | exact (Kd.C_below HR1_5.out HB.out) | (with_reducible refine Kd.C_alloc ?_ _) | (with_reducible refine Kd.C_drewN ?_ _) | (with_reducible refine Kd.C_drew ?_))); (case side4 => exact HC1_5.out); rintro e w15 ⟨rfl, hb⟩; have n0_ := Aside0.mk (blk_below (g := gb262) (o := .cells #[.slice A0_0 l0_0.length c0_0, .string a0_1, .int .i64 a0_2, .string a0_3, .int .i64 a0_4, .slice A0_5 l0_5.length c0_5, .int .i64 a0_6, .int .i64 a0_7, .int .i64 a0_8, .slice A0_9 l0_9.length c0_9, .int .u8 a0_10, .int .i64 a0_11, .int .i64 a0_12] 43 (0, 0)) (by (with_reducible repeat (first | refine blk_drewN ?_ _ | refine blk_drew ?_ | refine blk_alloc ?_ _)); exact BK262.out) hb); have n1_ := Aside0.mk (blk_below (g := gb263) (o := .cells #[.slice A1_0 l1_0.length c1_0, .string a1_1, .int .i64 a1_2, .string a1_3, .int .i64 a1_4, .slice A1_5 l1_5.length c1_5, .int .i64 a1_6, .int .i64 a1_7, .int .i64 a1_8, .slice A1_9 l1_9.length c1_9, .int .u8 a1_10, .int .i64 a1_11, .int .i64 a1_12] 43 (0, 0)) (by (with_reducible repeat (first | refine blk_drewN ?_ _ | refine blk_drew ?_ | refine blk_alloc ?_ _)); exact BK263.out) hb); have n2_ := Aside0.mk (below_step (by repeat (first | (with_reducible first | exact HB.out | apply below_alloc | apply pw_below_drewN | apply below_drew1 | refine below_set ?_ GE262.out | refine below_set ?_ GE263.out) | exact HB.out)) hb); clear BK262; clear BK263; clear HB; have BK262 := n0_; have BK263 := n1_; have HB := n2_; clear n0_ n1_ n2_; (try clear hb); (try clear hb2); (try clear hk); (try clear hi); have hcz16_0 : w15.cell? ⟨gb262, 0, none⟩ = some (.slice A0_0 l0_0.length c0_0) := (blk_cell BK262.out 0).trans rfl; have hcz16_1 : w15.cell? ⟨gb262, 1, none⟩ = some (.string a0_1) := (blk_cell BK262.out 1).trans rfl; have hcz16_2 : w15.cell? ⟨gb262, 2, none⟩ = some (.int .i64 a0_2) := (blk_cell BK262.out 2).trans rfl; have hcz16_3 : w15.cell? ⟨gb262, 3, none⟩ = some (.string a0_3) := (blk_cell BK262.out 3).trans rfl; have hcz16_4 : w15.cell? ⟨gb262, 4, none⟩ = some (.int .i64 a0_4) := (blk_cell BK262.out 4).trans rfl; have hcz16_5 : w15.cell? ⟨gb262, 5, none⟩ = some (.slice A0_5 l0_5.length c0_5) := (blk_cell BK262.out 5).trans rfl; have hcz16_6 : w15.cell? ⟨gb262, 6, none⟩ = some (.int .i64 a0_6) := (blk_cell BK262.out 6).trans rfl; have hcz16_7 : w15.cell? ⟨gb262, 7, none⟩ = some (.int .i64 a0_7) := (blk_cell BK262.out 7).trans rfl; have hcz16_8 : w15.cell? ⟨gb262, 8, none⟩ = some (.int .i64 a0_8) := (blk_cell BK262.out 8).trans rfl; have hcz16_9 : w15.cell? ⟨gb262, 9, none⟩ = some (.slice A0_9 l0_9.length c0_9) := (blk_cell BK262.out 9).trans rfl; have hcz16_10 : w15.cell? ⟨gb262, 10, none⟩ = some (.int .u8 a0_10) := (blk_cell BK262.out 10).trans rfl; have hcz16_11 : w15.cell? ⟨gb262, 11, none⟩ = some (.int .i64 a0_11) := (blk_cell BK262.out 11).trans rfl; have hcz16_12 : w15.cell? ⟨gb262, 12, none⟩ = some (.int .i64 a0_12) := (blk_cell BK262.out 12).trans rfl; have hfz16_0 := blk_frozen BK262.out 0; have hfz16_1 := blk_frozen BK262.out 1; have hfz16_2 := blk_frozen BK262.out 2; have hfz16_3 := blk_frozen BK262.out 3; have hfz16_4 := blk_frozen BK262.out 4; have hfz16_5 := blk_frozen BK262.out 5; have hfz16_6 := blk_frozen BK262.out 6; have hfz16_7 := blk_frozen BK262.out 7; have hfz16_8 := blk_frozen BK262.out 8; have hfz16_9 := blk_frozen BK262.out 9; have hfz16_10 := blk_frozen BK262.out 10; have hfz16_11 := blk_frozen BK262.out 11; have hfz16_12 := blk_frozen BK262.out 12; have hcz17_0 : w15.cell? ⟨gb263, 0, none⟩ = some (.slice A1_0 l1_0.length c1_0) := (blk_cell BK263.out 0).trans rfl; have hcz17_1 : w15.cell? ⟨gb263, 1, none⟩ = some (.string a1_1) := (blk_cell BK263.out 1).trans rfl; have hcz17_2 : w15.cell? ⟨gb263, 2, none⟩ = some (.int .i64 a1_2) := (blk_cell BK263.out 2).trans rfl; have hcz17_3 : w15.cell? ⟨gb263, 3, none⟩ = some (.string a1_3) := (blk_cell BK263.out 3).trans rfl; have hcz17_4 : w15.cell? ⟨gb263, 4, none⟩ = some (.int .i64 a1_4) := (blk_cell BK263.out 4).trans rfl; have hcz17_5 : w15.cell? ⟨gb263, 5, none⟩ = some (.slice A1_5 l1_5.length c1_5) := (blk_cell BK263.out 5).trans rfl; have hcz17_6 : w15.cell? ⟨gb263, 6, none⟩ = some (.int .i64 a1_6) := (blk_cell BK263.out 6).trans rfl; have hcz17_7 : w15.cell? ⟨gb263, 7, none⟩ = some (.int .i64 a1_7) := (blk_cell BK263.out 7).trans rfl; have hcz17_8 : w15.cell? ⟨gb263, 8, none⟩ = some (.int .i64 a1_8) := (blk_cell BK263.out 8).trans rfl; have hcz17_9 : w15.cell? ⟨gb263, 9, none⟩ = some (.slice A1_9 l1_9.length c1_9) := (blk_cell BK263.out 9).trans rfl; have hcz17_10 : w15.cell? ⟨gb263, 10, none⟩ = some (.int .u8 a1_10) := (blk_cell BK263.out 10).trans rfl; have hcz17_11 : w15.cell? ⟨gb263, 11, none⟩ = some (.int .i64 a1_11) := (blk_cell BK263.out 11).trans rfl; have hcz17_12 : w15.cell? ⟨gb263, 12, none⟩ = some (.int .i64 a1_12) := (blk_cell BK263.out 12).trans rfl; have hfz17_0 := blk_frozen BK263.out 0; have hfz17_1 := blk_frozen BK263.out 1; have hfz17_2 := blk_frozen BK263.out 2; have hfz17_3 := blk_frozen BK263.out 3; have hfz17_4 := blk_frozen BK263.out 4; have hfz17_5 := blk_frozen BK263.out 5; have hfz17_6 := blk_frozen BK263.out 6; have hfz17_7 := blk_frozen BK263.out 7; have hfz17_8 := blk_frozen BK263.out 8; have hfz17_9 := blk_frozen BK263.out 9; have hfz17_10 := blk_frozen BK263.out 10; have hfz17_11 := blk_frozen BK263.out 11; have hfz17_12 := blk_frozen BK263.out 12))
       go_meet
       case rel => exact ⟨_, ((a0_7 != a1_7)), (by first | rfl | (simp; done) | (simp [*]; done)), H', ⟨by first | omega | exact Nat.le_refl _⟩, ⟨by (with_reducible repeat (first | refine blk_drewN ?_ _ | refine blk_drew ?_ | refine blk_alloc ?_ _)); exact BK262.out⟩, ⟨by (with_reducible repeat (first | refine blk_drewN ?_ _ | refine blk_drew ?_ | refine blk_alloc ?_ _)); exact BK263.out⟩, ⟨by repeat (first | (with_reducible first | exact HB.out | apply below_alloc | apply pw_below_drewN | apply below_drew1 | refine below_set ?_ GE262.out | refine below_set ?_ GE263.out) | exact HB.out)⟩⟩
      ·
       rw [if_neg c11] at H
       have c11b0 : (a0_6 == a1_6) = false := beq_eq_false_iff_ne.mpr c11
       have c11b1 : (a0_6 != a1_6) = true := bne_iff_ne.mpr c11
       have H' := Aside0.mk H
       clear H
       have hnb18 := NB262_263.out
       have hnc18 := NB263_262.out
       have hcz19_0 : w5.cell? ⟨gb262, 0, none⟩ = some (.slice A0_0 l0_0.length c0_0) := (blk_cell BK262.out 0).trans rfl
       have hcz19_1 : w5.cell? ⟨gb262, 1, none⟩ = some (.string a0_1) := (blk_cell BK262.out 1).trans rfl
       have hcz19_2 : w5.cell? ⟨gb262, 2, none⟩ = some (.int .i64 a0_2) := (blk_cell BK262.out 2).trans rfl
       have hcz19_3 : w5.cell? ⟨gb262, 3, none⟩ = some (.string a0_3) := (blk_cell BK262.out 3).trans rfl
       have hcz19_4 : w5.cell? ⟨gb262, 4, none⟩ = some (.int .i64 a0_4) := (blk_cell BK262.out 4).trans rfl
       have hcz19_5 : w5.cell? ⟨gb262, 5, none⟩ = some (.slice A0_5 l0_5.length c0_5) := (blk_cell BK262.out 5).trans rfl
       have hcz19_6 : w5.cell? ⟨gb262, 6, none⟩ = some (.int .i64 a0_6) := (blk_cell BK262.out 6).trans rfl
       have hcz19_7 : w5.cell? ⟨gb262, 7, none⟩ = some (.int .i64 a0_7) := (blk_cell BK262.out 7).trans rfl
       have hcz19_8 : w5.cell? ⟨gb262, 8, none⟩ = some (.int .i64 a0_8) := (blk_cell BK262.out 8).trans rfl
       have hcz19_9 : w5.cell? ⟨gb262, 9, none⟩ = some (.slice A0_9 l0_9.length c0_9) := (blk_cell BK262.out 9).trans rfl
       have hcz19_10 : w5.cell? ⟨gb262, 10, none⟩ = some (.int .u8 a0_10) := (blk_cell BK262.out 10).trans rfl
       have hcz19_11 : w5.cell? ⟨gb262, 11, none⟩ = some (.int .i64 a0_11) := (blk_cell BK262.out 11).trans rfl
       have hcz19_12 : w5.cell? ⟨gb262, 12, none⟩ = some (.int .i64 a0_12) := (blk_cell BK262.out 12).trans rfl
       have hfz19_0 := blk_frozen BK262.out 0
       have hfz19_1 := blk_frozen BK262.out 1
       have hfz19_2 := blk_frozen BK262.out 2
       have hfz19_3 := blk_frozen BK262.out 3
       have hfz19_4 := blk_frozen BK262.out 4
       have hfz19_5 := blk_frozen BK262.out 5
       have hfz19_6 := blk_frozen BK262.out 6
       have hfz19_7 := blk_frozen BK262.out 7
       have hfz19_8 := blk_frozen BK262.out 8
       have hfz19_9 := blk_frozen BK262.out 9
       have hfz19_10 := blk_frozen BK262.out 10
       have hfz19_11 := blk_frozen BK262.out 11
       have hfz19_12 := blk_frozen BK262.out 12
       have hcz20_0 : w5.cell? ⟨gb263, 0, none⟩ = some (.slice A1_0 l1_0.length c1_0) := (blk_cell BK263.out 0).trans rfl
       have hcz20_1 : w5.cell? ⟨gb263, 1, none⟩ = some (.string a1_1) := (blk_cell BK263.out 1).trans rfl
       have hcz20_2 : w5.cell? ⟨gb263, 2, none⟩ = some (.int .i64 a1_2) := (blk_cell BK263.out 2).trans rfl
       have hcz20_3 : w5.cell? ⟨gb263, 3, none⟩ = some (.string a1_3) := (blk_cell BK263.out 3).trans rfl
       have hcz20_4 : w5.cell? ⟨gb263, 4, none⟩ = some (.int .i64 a1_4) := (blk_cell BK263.out 4).trans rfl
       have hcz20_5 : w5.cell? ⟨gb263, 5, none⟩ = some (.slice A1_5 l1_5.length c1_5) := (blk_cell BK263.out 5).trans rfl
       have hcz20_6 : w5.cell? ⟨gb263, 6, none⟩ = some (.int .i64 a1_6) := (blk_cell BK263.out 6).trans rfl
       have hcz20_7 : w5.cell? ⟨gb263, 7, none⟩ = some (.int .i64 a1_7) := (blk_cell BK263.out 7).trans rfl
       have hcz20_8 : w5.cell? ⟨gb263, 8, none⟩ = some (.int .i64 a1_8) := (blk_cell BK263.out 8).trans rfl
       have hcz20_9 : w5.cell? ⟨gb263, 9, none⟩ = some (.slice A1_9 l1_9.length c1_9) := (blk_cell BK263.out 9).trans rfl
       have hcz20_10 : w5.cell? ⟨gb263, 10, none⟩ = some (.int .u8 a1_10) := (blk_cell BK263.out 10).trans rfl
       have hcz20_11 : w5.cell? ⟨gb263, 11, none⟩ = some (.int .i64 a1_11) := (blk_cell BK263.out 11).trans rfl
       have hcz20_12 : w5.cell? ⟨gb263, 12, none⟩ = some (.int .i64 a1_12) := (blk_cell BK263.out 12).trans rfl
       have hfz20_0 := blk_frozen BK263.out 0
       have hfz20_1 := blk_frozen BK263.out 1
       have hfz20_2 := blk_frozen BK263.out 2
       have hfz20_3 := blk_frozen BK263.out 3
       have hfz20_4 := blk_frozen BK263.out 4
       have hfz20_5 := blk_frozen BK263.out 5
       have hfz20_6 := blk_frozen BK263.out 6
       have hfz20_7 := blk_frozen BK263.out 7
       have hfz20_8 := blk_frozen BK263.out 8
       have hfz20_9 := blk_frozen BK263.out 9
       have hfz20_10 := blk_frozen BK263.out 10
       have hfz20_11 := blk_frozen BK263.out 11
       have hfz20_12 := blk_frozen BK263.out 12
       go_wp2_with (first | (go_at_call 24; (with_reducible refine (weirtree_Same.calls _ _ l0_5 _ _ l1_5 true _ ?side1 ?side2 ?side3 ?side4 A9.out).mono ?_); (case side1 => repeat (first | exact (Kd.C_below HR0_5.out HB.out) | (with_reducible refine Kd.C_alloc ?_ _) | (with_reducible refine Kd.C_drewN ?_ _) | (with_reducible refine Kd.C_drew ?_))); (case side2 => exact HC0_5.out); (case side3 => repeat (first | exact (Kd.C_below HR1_5.out HB.out) | (with_reducible refine Kd.C_alloc ?_ _) | (with_reducible refine Kd.C_drewN ?_ _) | (with_reducible refine Kd.C_drew ?_))); (case side4 => exact HC1_5.out); rintro e w21 ⟨rfl, hb⟩; have n0_ := Aside0.mk (blk_below (g := gb262) (o := .cells #[.slice A0_0 l0_0.length c0_0, .string a0_1, .int .i64 a0_2, .string a0_3, .int .i64 a0_4, .slice A0_5 l0_5.length c0_5, .int .i64 a0_6, .int .i64 a0_7, .int .i64 a0_8, .slice A0_9 l0_9.length c0_9, .int .u8 a0_10, .int .i64 a0_11, .int .i64 a0_12] 43 (0, 0)) (by (with_reducible repeat (first | refine blk_drewN ?_ _ | refine blk_drew ?_ | refine blk_alloc ?_ _)); exact BK262.out) hb); have n1_ := Aside0.mk (blk_below (g := gb263) (o := .cells #[.slice A1_0 l1_0.length c1_0, .string a1_1, .int .i64 a1_2, .string a1_3, .int .i64 a1_4, .slice A1_5 l1_5.length c1_5, .int .i64 a1_6, .int .i64 a1_7, .int .i64 a1_8, .slice A1_9 l1_9.length c1_9, .int .u8 a1_10, .int .i64 a1_11, .int .i64 a1_12] 43 (0, 0)) (by (with_reducible repeat (first | refine blk_drewN ?_ _ | refine blk_drew ?_ | refine blk_alloc ?_ _)); exact BK263.out) hb); have n2_ := Aside0.mk (below_step (by repeat (first | (with_reducible first | exact HB.out | apply below_alloc | apply pw_below_drewN | apply below_drew1 | refine below_set ?_ GE262.out | refine below_set ?_ GE263.out) | exact HB.out)) hb); clear BK262; clear BK263; clear HB; have BK262 := n0_; have BK263 := n1_; have HB := n2_; clear n0_ n1_ n2_; (try clear hb); (try clear hb2); (try clear hk); (try clear hi); have hcz22_0 : w21.cell? ⟨gb262, 0, none⟩ = some (.slice A0_0 l0_0.length c0_0) := (blk_cell BK262.out 0).trans rfl; have hcz22_1 : w21.cell? ⟨gb262, 1, none⟩ = some (.string a0_1) := (blk_cell BK262.out 1).trans rfl; have hcz22_2 : w21.cell? ⟨gb262, 2, none⟩ = some (.int .i64 a0_2) := (blk_cell BK262.out 2).trans rfl; have hcz22_3 : w21.cell? ⟨gb262, 3, none⟩ = some (.string a0_3) := (blk_cell BK262.out 3).trans rfl; have hcz22_4 : w21.cell? ⟨gb262, 4, none⟩ = some (.int .i64 a0_4) := (blk_cell BK262.out 4).trans rfl; have hcz22_5 : w21.cell? ⟨gb262, 5, none⟩ = some (.slice A0_5 l0_5.length c0_5) := (blk_cell BK262.out 5).trans rfl; have hcz22_6 : w21.cell? ⟨gb262, 6, none⟩ = some (.int .i64 a0_6) := (blk_cell BK262.out 6).trans rfl; have hcz22_7 : w21.cell? ⟨gb262, 7, none⟩ = some (.int .i64 a0_7) := (blk_cell BK262.out 7).trans rfl; have hcz22_8 : w21.cell? ⟨gb262, 8, none⟩ = some (.int .i64 a0_8) := (blk_cell BK262.out 8).trans rfl; have hcz22_9 : w21.cell? ⟨gb262, 9, none⟩ = some (.slice A0_9 l0_9.length c0_9) := (blk_cell BK262.out 9).trans rfl; have hcz22_10 : w21.cell? ⟨gb262, 10, none⟩ = some (.int .u8 a0_10) := (blk_cell BK262.out 10).trans rfl; have hcz22_11 : w21.cell? ⟨gb262, 11, none⟩ = some (.int .i64 a0_11) := (blk_cell BK262.out 11).trans rfl; have hcz22_12 : w21.cell? ⟨gb262, 12, none⟩ = some (.int .i64 a0_12) := (blk_cell BK262.out 12).trans rfl; have hfz22_0 := blk_frozen BK262.out 0; have hfz22_1 := blk_frozen BK262.out 1; have hfz22_2 := blk_frozen BK262.out 2; have hfz22_3 := blk_frozen BK262.out 3; have hfz22_4 := blk_frozen BK262.out 4; have hfz22_5 := blk_frozen BK262.out 5; have hfz22_6 := blk_frozen BK262.out 6; have hfz22_7 := blk_frozen BK262.out 7; have hfz22_8 := blk_frozen BK262.out 8; have hfz22_9 := blk_frozen BK262.out 9; have hfz22_10 := blk_frozen BK262.out 10; have hfz22_11 := blk_frozen BK262.out 11; have hfz22_12 := blk_frozen BK262.out 12; have hcz23_0 : w21.cell? ⟨gb263, 0, none⟩ = some (.slice A1_0 l1_0.length c1_0) := (blk_cell BK263.out 0).trans rfl; have hcz23_1 : w21.cell? ⟨gb263, 1, none⟩ = some (.string a1_1) := (blk_cell BK263.out 1).trans rfl; have hcz23_2 : w21.cell? ⟨gb263, 2, none⟩ = some (.int .i64 a1_2) := (blk_cell BK263.out 2).trans rfl; have hcz23_3 : w21.cell? ⟨gb263, 3, none⟩ = some (.string a1_3) := (blk_cell BK263.out 3).trans rfl; have hcz23_4 : w21.cell? ⟨gb263, 4, none⟩ = some (.int .i64 a1_4) := (blk_cell BK263.out 4).trans rfl; have hcz23_5 : w21.cell? ⟨gb263, 5, none⟩ = some (.slice A1_5 l1_5.length c1_5) := (blk_cell BK263.out 5).trans rfl; have hcz23_6 : w21.cell? ⟨gb263, 6, none⟩ = some (.int .i64 a1_6) := (blk_cell BK263.out 6).trans rfl; have hcz23_7 : w21.cell? ⟨gb263, 7, none⟩ = some (.int .i64 a1_7) := (blk_cell BK263.out 7).trans rfl; have hcz23_8 : w21.cell? ⟨gb263, 8, none⟩ = some (.int .i64 a1_8) := (blk_cell BK263.out 8).trans rfl; have hcz23_9 : w21.cell? ⟨gb263, 9, none⟩ = some (.slice A1_9 l1_9.length c1_9) := (blk_cell BK263.out 9).trans rfl; have hcz23_10 : w21.cell? ⟨gb263, 10, none⟩ = some (.int .u8 a1_10) := (blk_cell BK263.out 10).trans rfl; have hcz23_11 : w21.cell? ⟨gb263, 11, none⟩ = some (.int .i64 a1_11) := (blk_cell BK263.out 11).trans rfl; have hcz23_12 : w21.cell? ⟨gb263, 12, none⟩ = some (.int .i64 a1_12) := (blk_cell BK263.out 12).trans rfl; have hfz23_0 := blk_frozen BK263.out 0; have hfz23_1 := blk_frozen BK263.out 1; have hfz23_2 := blk_frozen BK263.out 2; have hfz23_3 := blk_frozen BK263.out 3; have hfz23_4 := blk_frozen BK263.out 4; have hfz23_5 := blk_frozen BK263.out 5; have hfz23_6 := blk_frozen BK263.out 6; have hfz23_7 := blk_frozen BK263.out 7; have hfz23_8 := blk_frozen BK263.out 8; have hfz23_9 := blk_frozen BK263.out 9; have hfz23_10 := blk_frozen BK263.out 10; have hfz23_11 := blk_frozen BK263.out 11; have hfz23_12 := blk_frozen BK263.out 12))
       go_meet
       case rel => exact ⟨_, (true), (by first | rfl | (simp; done) | (simp [*]; done)), H', ⟨by first | omega | exact Nat.le_refl _⟩, ⟨by (with_reducible repeat (first | refine blk_drewN ?_ _ | refine blk_drew ?_ | refine blk_alloc ?_ _)); exact BK262.out⟩, ⟨by (with_reducible repeat (first | refine blk_drewN ?_ _ | refine blk_drew ?_ | refine blk_alloc ?_ _)); exact BK263.out⟩, ⟨by repeat (first | (with_reducible first | exact HB.out | apply below_alloc | apply pw_below_drewN | apply below_drew1 | refine below_set ?_ GE262.out | refine below_set ?_ GE263.out) | exact HB.out)⟩⟩
     ·
      replace c10 := Bool.eq_false_iff.mpr c10
      subst c10
      have H1 : (weirref13_Alike.j0 k true l0_0 a0_1 a0_2 a0_3 a0_4 l0_5 a0_6 a0_7 a0_8 l0_9 a0_10 a0_11 a0_12 l1_0 a1_1 a1_2 a1_3 a1_4 l1_5 a1_6 a1_7 a1_8 l1_9 a1_10 a1_11 a1_12) = some r := by rw [if_neg (show ¬ (false = true) by decide)] at H; exact H
      clear H
      have H := H1
      clear H1
      have H' := Aside0.mk H
      clear H
      have hnb24 := NB262_263.out
      have hnc24 := NB263_262.out
      have hcz25_0 : w5.cell? ⟨gb262, 0, none⟩ = some (.slice A0_0 l0_0.length c0_0) := (blk_cell BK262.out 0).trans rfl
      have hcz25_1 : w5.cell? ⟨gb262, 1, none⟩ = some (.string a0_1) := (blk_cell BK262.out 1).trans rfl
      have hcz25_2 : w5.cell? ⟨gb262, 2, none⟩ = some (.int .i64 a0_2) := (blk_cell BK262.out 2).trans rfl
      have hcz25_3 : w5.cell? ⟨gb262, 3, none⟩ = some (.string a0_3) := (blk_cell BK262.out 3).trans rfl
      have hcz25_4 : w5.cell? ⟨gb262, 4, none⟩ = some (.int .i64 a0_4) := (blk_cell BK262.out 4).trans rfl
      have hcz25_5 : w5.cell? ⟨gb262, 5, none⟩ = some (.slice A0_5 l0_5.length c0_5) := (blk_cell BK262.out 5).trans rfl
      have hcz25_6 : w5.cell? ⟨gb262, 6, none⟩ = some (.int .i64 a0_6) := (blk_cell BK262.out 6).trans rfl
      have hcz25_7 : w5.cell? ⟨gb262, 7, none⟩ = some (.int .i64 a0_7) := (blk_cell BK262.out 7).trans rfl
      have hcz25_8 : w5.cell? ⟨gb262, 8, none⟩ = some (.int .i64 a0_8) := (blk_cell BK262.out 8).trans rfl
      have hcz25_9 : w5.cell? ⟨gb262, 9, none⟩ = some (.slice A0_9 l0_9.length c0_9) := (blk_cell BK262.out 9).trans rfl
      have hcz25_10 : w5.cell? ⟨gb262, 10, none⟩ = some (.int .u8 a0_10) := (blk_cell BK262.out 10).trans rfl
      have hcz25_11 : w5.cell? ⟨gb262, 11, none⟩ = some (.int .i64 a0_11) := (blk_cell BK262.out 11).trans rfl
      have hcz25_12 : w5.cell? ⟨gb262, 12, none⟩ = some (.int .i64 a0_12) := (blk_cell BK262.out 12).trans rfl
      have hfz25_0 := blk_frozen BK262.out 0
      have hfz25_1 := blk_frozen BK262.out 1
      have hfz25_2 := blk_frozen BK262.out 2
      have hfz25_3 := blk_frozen BK262.out 3
      have hfz25_4 := blk_frozen BK262.out 4
      have hfz25_5 := blk_frozen BK262.out 5
      have hfz25_6 := blk_frozen BK262.out 6
      have hfz25_7 := blk_frozen BK262.out 7
      have hfz25_8 := blk_frozen BK262.out 8
      have hfz25_9 := blk_frozen BK262.out 9
      have hfz25_10 := blk_frozen BK262.out 10
      have hfz25_11 := blk_frozen BK262.out 11
      have hfz25_12 := blk_frozen BK262.out 12
      have hcz26_0 : w5.cell? ⟨gb263, 0, none⟩ = some (.slice A1_0 l1_0.length c1_0) := (blk_cell BK263.out 0).trans rfl
      have hcz26_1 : w5.cell? ⟨gb263, 1, none⟩ = some (.string a1_1) := (blk_cell BK263.out 1).trans rfl
      have hcz26_2 : w5.cell? ⟨gb263, 2, none⟩ = some (.int .i64 a1_2) := (blk_cell BK263.out 2).trans rfl
      have hcz26_3 : w5.cell? ⟨gb263, 3, none⟩ = some (.string a1_3) := (blk_cell BK263.out 3).trans rfl
      have hcz26_4 : w5.cell? ⟨gb263, 4, none⟩ = some (.int .i64 a1_4) := (blk_cell BK263.out 4).trans rfl
      have hcz26_5 : w5.cell? ⟨gb263, 5, none⟩ = some (.slice A1_5 l1_5.length c1_5) := (blk_cell BK263.out 5).trans rfl
      have hcz26_6 : w5.cell? ⟨gb263, 6, none⟩ = some (.int .i64 a1_6) := (blk_cell BK263.out 6).trans rfl
      have hcz26_7 : w5.cell? ⟨gb263, 7, none⟩ = some (.int .i64 a1_7) := (blk_cell BK263.out 7).trans rfl
      have hcz26_8 : w5.cell? ⟨gb263, 8, none⟩ = some (.int .i64 a1_8) := (blk_cell BK263.out 8).trans rfl
      have hcz26_9 : w5.cell? ⟨gb263, 9, none⟩ = some (.slice A1_9 l1_9.length c1_9) := (blk_cell BK263.out 9).trans rfl
      have hcz26_10 : w5.cell? ⟨gb263, 10, none⟩ = some (.int .u8 a1_10) := (blk_cell BK263.out 10).trans rfl
      have hcz26_11 : w5.cell? ⟨gb263, 11, none⟩ = some (.int .i64 a1_11) := (blk_cell BK263.out 11).trans rfl
      have hcz26_12 : w5.cell? ⟨gb263, 12, none⟩ = some (.int .i64 a1_12) := (blk_cell BK263.out 12).trans rfl
      have hfz26_0 := blk_frozen BK263.out 0
      have hfz26_1 := blk_frozen BK263.out 1
      have hfz26_2 := blk_frozen BK263.out 2
      have hfz26_3 := blk_frozen BK263.out 3
      have hfz26_4 := blk_frozen BK263.out 4
      have hfz26_5 := blk_frozen BK263.out 5
      have hfz26_6 := blk_frozen BK263.out 6
      have hfz26_7 := blk_frozen BK263.out 7
      have hfz26_8 := blk_frozen BK263.out 8
      have hfz26_9 := blk_frozen BK263.out 9
      have hfz26_10 := blk_frozen BK263.out 10
      have hfz26_11 := blk_frozen BK263.out 11
      have hfz26_12 := blk_frozen BK263.out 12
      go_wp2_with (first | (go_at_call 24; (with_reducible refine (weirtree_Same.calls _ _ l0_5 _ _ l1_5 false _ ?side1 ?side2 ?side3 ?side4 A9.out).mono ?_); (case side1 => repeat (first | exact (Kd.C_below HR0_5.out HB.out) | (with_reducible refine Kd.C_alloc ?_ _) | (with_reducible refine Kd.C_drewN ?_ _) | (with_reducible refine Kd.C_drew ?_))); (case side2 => exact HC0_5.out); (case side3 => repeat (first | exact (Kd.C_below HR1_5.out HB.out) | (with_reducible refine Kd.C_alloc ?_ _) | (with_reducible refine Kd.C_drewN ?_ _) | (with_reducible refine Kd.C_drew ?_))); (case side4 => exact HC1_5.out); rintro e w27 ⟨rfl, hb⟩; have n0_ := Aside0.mk (blk_below (g := gb262) (o := .cells #[.slice A0_0 l0_0.length c0_0, .string a0_1, .int .i64 a0_2, .string a0_3, .int .i64 a0_4, .slice A0_5 l0_5.length c0_5, .int .i64 a0_6, .int .i64 a0_7, .int .i64 a0_8, .slice A0_9 l0_9.length c0_9, .int .u8 a0_10, .int .i64 a0_11, .int .i64 a0_12] 43 (0, 0)) (by (with_reducible repeat (first | refine blk_drewN ?_ _ | refine blk_drew ?_ | refine blk_alloc ?_ _)); exact BK262.out) hb); have n1_ := Aside0.mk (blk_below (g := gb263) (o := .cells #[.slice A1_0 l1_0.length c1_0, .string a1_1, .int .i64 a1_2, .string a1_3, .int .i64 a1_4, .slice A1_5 l1_5.length c1_5, .int .i64 a1_6, .int .i64 a1_7, .int .i64 a1_8, .slice A1_9 l1_9.length c1_9, .int .u8 a1_10, .int .i64 a1_11, .int .i64 a1_12] 43 (0, 0)) (by (with_reducible repeat (first | refine blk_drewN ?_ _ | refine blk_drew ?_ | refine blk_alloc ?_ _)); exact BK263.out) hb); have n2_ := Aside0.mk (below_step (by repeat (first | (with_reducible first | exact HB.out | apply below_alloc | apply pw_below_drewN | apply below_drew1 | refine below_set ?_ GE262.out | refine below_set ?_ GE263.out) | exact HB.out)) hb); clear BK262; clear BK263; clear HB; have BK262 := n0_; have BK263 := n1_; have HB := n2_; clear n0_ n1_ n2_; (try clear hb); (try clear hb2); (try clear hk); (try clear hi)))
      go_meet
      case rel => exact ⟨_, (true), (by first | rfl | (simp; done) | (simp [*]; done)), H', ⟨by first | omega | exact Nat.le_refl _⟩, ⟨by (with_reducible repeat (first | refine blk_drewN ?_ _ | refine blk_drew ?_ | refine blk_alloc ?_ _)); exact BK262.out⟩, ⟨by (with_reducible repeat (first | refine blk_drewN ?_ _ | refine blk_drew ?_ | refine blk_alloc ?_ _)); exact BK263.out⟩, ⟨by repeat (first | (with_reducible first | exact HB.out | apply below_alloc | apply pw_below_drewN | apply below_drew1 | refine below_set ?_ GE262.out | refine below_set ?_ GE263.out) | exact HB.out)⟩⟩
    ·
     rw [if_neg c8] at H
     have c8b0 : (a0_3.toList == a1_3.toList) = false := beq_eq_false_iff_ne.mpr c8
     have c8b1 : (a0_3.toList != a1_3.toList) = true := bne_iff_ne.mpr c8
     have H' := Aside0.mk H
     clear H
     have hnb28 := NB262_263.out
     have hnc28 := NB263_262.out
     have hcz29_0 : w5.cell? ⟨gb262, 0, none⟩ = some (.slice A0_0 l0_0.length c0_0) := (blk_cell BK262.out 0).trans rfl
     have hcz29_1 : w5.cell? ⟨gb262, 1, none⟩ = some (.string a0_1) := (blk_cell BK262.out 1).trans rfl
     have hcz29_2 : w5.cell? ⟨gb262, 2, none⟩ = some (.int .i64 a0_2) := (blk_cell BK262.out 2).trans rfl
     have hcz29_3 : w5.cell? ⟨gb262, 3, none⟩ = some (.string a0_3) := (blk_cell BK262.out 3).trans rfl
     have hcz29_4 : w5.cell? ⟨gb262, 4, none⟩ = some (.int .i64 a0_4) := (blk_cell BK262.out 4).trans rfl
     have hcz29_5 : w5.cell? ⟨gb262, 5, none⟩ = some (.slice A0_5 l0_5.length c0_5) := (blk_cell BK262.out 5).trans rfl
     have hcz29_6 : w5.cell? ⟨gb262, 6, none⟩ = some (.int .i64 a0_6) := (blk_cell BK262.out 6).trans rfl
     have hcz29_7 : w5.cell? ⟨gb262, 7, none⟩ = some (.int .i64 a0_7) := (blk_cell BK262.out 7).trans rfl
     have hcz29_8 : w5.cell? ⟨gb262, 8, none⟩ = some (.int .i64 a0_8) := (blk_cell BK262.out 8).trans rfl
     have hcz29_9 : w5.cell? ⟨gb262, 9, none⟩ = some (.slice A0_9 l0_9.length c0_9) := (blk_cell BK262.out 9).trans rfl
     have hcz29_10 : w5.cell? ⟨gb262, 10, none⟩ = some (.int .u8 a0_10) := (blk_cell BK262.out 10).trans rfl
     have hcz29_11 : w5.cell? ⟨gb262, 11, none⟩ = some (.int .i64 a0_11) := (blk_cell BK262.out 11).trans rfl
     have hcz29_12 : w5.cell? ⟨gb262, 12, none⟩ = some (.int .i64 a0_12) := (blk_cell BK262.out 12).trans rfl
     have hfz29_0 := blk_frozen BK262.out 0
     have hfz29_1 := blk_frozen BK262.out 1
     have hfz29_2 := blk_frozen BK262.out 2
     have hfz29_3 := blk_frozen BK262.out 3
     have hfz29_4 := blk_frozen BK262.out 4
     have hfz29_5 := blk_frozen BK262.out 5
     have hfz29_6 := blk_frozen BK262.out 6
     have hfz29_7 := blk_frozen BK262.out 7
     have hfz29_8 := blk_frozen BK262.out 8
     have hfz29_9 := blk_frozen BK262.out 9
     have hfz29_10 := blk_frozen BK262.out 10
     have hfz29_11 := blk_frozen BK262.out 11
     have hfz29_12 := blk_frozen BK262.out 12
     have hcz30_0 : w5.cell? ⟨gb263, 0, none⟩ = some (.slice A1_0 l1_0.length c1_0) := (blk_cell BK263.out 0).trans rfl
     have hcz30_1 : w5.cell? ⟨gb263, 1, none⟩ = some (.string a1_1) := (blk_cell BK263.out 1).trans rfl
     have hcz30_2 : w5.cell? ⟨gb263, 2, none⟩ = some (.int .i64 a1_2) := (blk_cell BK263.out 2).trans rfl
     have hcz30_3 : w5.cell? ⟨gb263, 3, none⟩ = some (.string a1_3) := (blk_cell BK263.out 3).trans rfl
     have hcz30_4 : w5.cell? ⟨gb263, 4, none⟩ = some (.int .i64 a1_4) := (blk_cell BK263.out 4).trans rfl
     have hcz30_5 : w5.cell? ⟨gb263, 5, none⟩ = some (.slice A1_5 l1_5.length c1_5) := (blk_cell BK263.out 5).trans rfl
     have hcz30_6 : w5.cell? ⟨gb263, 6, none⟩ = some (.int .i64 a1_6) := (blk_cell BK263.out 6).trans rfl
     have hcz30_7 : w5.cell? ⟨gb263, 7, none⟩ = some (.int .i64 a1_7) := (blk_cell BK263.out 7).trans rfl
     have hcz30_8 : w5.cell? ⟨gb263, 8, none⟩ = some (.int .i64 a1_8) := (blk_cell BK263.out 8).trans rfl
     have hcz30_9 : w5.cell? ⟨gb263, 9, none⟩ = some (.slice A1_9 l1_9.length c1_9) := (blk_cell BK263.out 9).trans rfl
     have hcz30_10 : w5.cell? ⟨gb263, 10, none⟩ = some (.int .u8 a1_10) := (blk_cell BK263.out 10).trans rfl
     have hcz30_11 : w5.cell? ⟨gb263, 11, none⟩ = some (.int .i64 a1_11) := (blk_cell BK263.out 11).trans rfl
     have hcz30_12 : w5.cell? ⟨gb263, 12, none⟩ = some (.int .i64 a1_12) := (blk_cell BK263.out 12).trans rfl
     have hfz30_0 := blk_frozen BK263.out 0
     have hfz30_1 := blk_frozen BK263.out 1
     have hfz30_2 := blk_frozen BK263.out 2
     have hfz30_3 := blk_frozen BK263.out 3
     have hfz30_4 := blk_frozen BK263.out 4
     have hfz30_5 := blk_frozen BK263.out 5
     have hfz30_6 := blk_frozen BK263.out 6
     have hfz30_7 := blk_frozen BK263.out 7
     have hfz30_8 := blk_frozen BK263.out 8
     have hfz30_9 := blk_frozen BK263.out 9
     have hfz30_10 := blk_frozen BK263.out 10
     have hfz30_11 := blk_frozen BK263.out 11
     have hfz30_12 := blk_frozen BK263.out 12
     go_wp2
     go_meet
     case rel => exact ⟨_, (true), (by first | rfl | (simp; done) | (simp [*]; done)), H', ⟨by first | omega | exact Nat.le_refl _⟩, ⟨by (with_reducible repeat (first | refine blk_drewN ?_ _ | refine blk_drew ?_ | refine blk_alloc ?_ _)); exact BK262.out⟩, ⟨by (with_reducible repeat (first | refine blk_drewN ?_ _ | refine blk_drew ?_ | refine blk_alloc ?_ _)); exact BK263.out⟩, ⟨by repeat (first | (with_reducible first | exact HB.out | apply below_alloc | apply pw_below_drewN | apply below_drew1 | refine below_set ?_ GE262.out | refine below_set ?_ GE263.out) | exact HB.out)⟩⟩
   ·
    rw [if_neg c7] at H
    have c7b0 : (a0_1.toList == a1_1.toList) = false := beq_eq_false_iff_ne.mpr c7
    have c7b1 : (a0_1.toList != a1_1.toList) = true := bne_iff_ne.mpr c7
    have H' := Aside0.mk H
    clear H
    have hnb31 := NB262_263.out
    have hnc31 := NB263_262.out
    have hcz32_0 : w5.cell? ⟨gb262, 0, none⟩ = some (.slice A0_0 l0_0.length c0_0) := (blk_cell BK262.out 0).trans rfl
    have hcz32_1 : w5.cell? ⟨gb262, 1, none⟩ = some (.string a0_1) := (blk_cell BK262.out 1).trans rfl
    have hcz32_2 : w5.cell? ⟨gb262, 2, none⟩ = some (.int .i64 a0_2) := (blk_cell BK262.out 2).trans rfl
    have hcz32_3 : w5.cell? ⟨gb262, 3, none⟩ = some (.string a0_3) := (blk_cell BK262.out 3).trans rfl
    have hcz32_4 : w5.cell? ⟨gb262, 4, none⟩ = some (.int .i64 a0_4) := (blk_cell BK262.out 4).trans rfl
    have hcz32_5 : w5.cell? ⟨gb262, 5, none⟩ = some (.slice A0_5 l0_5.length c0_5) := (blk_cell BK262.out 5).trans rfl
    have hcz32_6 : w5.cell? ⟨gb262, 6, none⟩ = some (.int .i64 a0_6) := (blk_cell BK262.out 6).trans rfl
    have hcz32_7 : w5.cell? ⟨gb262, 7, none⟩ = some (.int .i64 a0_7) := (blk_cell BK262.out 7).trans rfl
    have hcz32_8 : w5.cell? ⟨gb262, 8, none⟩ = some (.int .i64 a0_8) := (blk_cell BK262.out 8).trans rfl
    have hcz32_9 : w5.cell? ⟨gb262, 9, none⟩ = some (.slice A0_9 l0_9.length c0_9) := (blk_cell BK262.out 9).trans rfl
    have hcz32_10 : w5.cell? ⟨gb262, 10, none⟩ = some (.int .u8 a0_10) := (blk_cell BK262.out 10).trans rfl
    have hcz32_11 : w5.cell? ⟨gb262, 11, none⟩ = some (.int .i64 a0_11) := (blk_cell BK262.out 11).trans rfl
    have hcz32_12 : w5.cell? ⟨gb262, 12, none⟩ = some (.int .i64 a0_12) := (blk_cell BK262.out 12).trans rfl
    have hfz32_0 := blk_frozen BK262.out 0
    have hfz32_1 := blk_frozen BK262.out 1
    have hfz32_2 := blk_frozen BK262.out 2
    have hfz32_3 := blk_frozen BK262.out 3
    have hfz32_4 := blk_frozen BK262.out 4
    have hfz32_5 := blk_frozen BK262.out 5
    have hfz32_6 := blk_frozen BK262.out 6
    have hfz32_7 := blk_frozen BK262.out 7
    have hfz32_8 := blk_frozen BK262.out 8
    have hfz32_9 := blk_frozen BK262.out 9
    have hfz32_10 := blk_frozen BK262.out 10
    have hfz32_11 := blk_frozen BK262.out 11
    have hfz32_12 := blk_frozen BK262.out 12
    have hcz33_0 : w5.cell? ⟨gb263, 0, none⟩ = some (.slice A1_0 l1_0.length c1_0) := (blk_cell BK263.out 0).trans rfl
    have hcz33_1 : w5.cell? ⟨gb263, 1, none⟩ = some (.string a1_1) := (blk_cell BK263.out 1).trans rfl
    have hcz33_2 : w5.cell? ⟨gb263, 2, none⟩ = some (.int .i64 a1_2) := (blk_cell BK263.out 2).trans rfl
    have hcz33_3 : w5.cell? ⟨gb263, 3, none⟩ = some (.string a1_3) := (blk_cell BK263.out 3).trans rfl
    have hcz33_4 : w5.cell? ⟨gb263, 4, none⟩ = some (.int .i64 a1_4) := (blk_cell BK263.out 4).trans rfl
    have hcz33_5 : w5.cell? ⟨gb263, 5, none⟩ = some (.slice A1_5 l1_5.length c1_5) := (blk_cell BK263.out 5).trans rfl
    have hcz33_6 : w5.cell? ⟨gb263, 6, none⟩ = some (.int .i64 a1_6) := (blk_cell BK263.out 6).trans rfl
    have hcz33_7 : w5.cell? ⟨gb263, 7, none⟩ = some (.int .i64 a1_7) := (blk_cell BK263.out 7).trans rfl
    have hcz33_8 : w5.cell? ⟨gb263, 8, none⟩ = some (.int .i64 a1_8) := (blk_cell BK263.out 8).trans rfl
    have hcz33_9 : w5.cell? ⟨gb263, 9, none⟩ = some (.slice A1_9 l1_9.length c1_9) := (blk_cell BK263.out 9).trans rfl
    have hcz33_10 : w5.cell? ⟨gb263, 10, none⟩ = some (.int .u8 a1_10) := (blk_cell BK263.out 10).trans rfl
    have hcz33_11 : w5.cell? ⟨gb263, 11, none⟩ = some (.int .i64 a1_11) := (blk_cell BK263.out 11).trans rfl
    have hcz33_12 : w5.cell? ⟨gb263, 12, none⟩ = some (.int .i64 a1_12) := (blk_cell BK263.out 12).trans rfl
    have hfz33_0 := blk_frozen BK263.out 0
    have hfz33_1 := blk_frozen BK263.out 1
    have hfz33_2 := blk_frozen BK263.out 2
    have hfz33_3 := blk_frozen BK263.out 3
    have hfz33_4 := blk_frozen BK263.out 4
    have hfz33_5 := blk_frozen BK263.out 5
    have hfz33_6 := blk_frozen BK263.out 6
    have hfz33_7 := blk_frozen BK263.out 7
    have hfz33_8 := blk_frozen BK263.out 8
    have hfz33_9 := blk_frozen BK263.out 9
    have hfz33_10 := blk_frozen BK263.out 10
    have hfz33_11 := blk_frozen BK263.out 11
    have hfz33_12 := blk_frozen BK263.out 12
    go_wp2
    go_meet
    case rel => exact ⟨_, (true), (by first | rfl | (simp; done) | (simp [*]; done)), H', ⟨by first | omega | exact Nat.le_refl _⟩, ⟨by (with_reducible repeat (first | refine blk_drewN ?_ _ | refine blk_drew ?_ | refine blk_alloc ?_ _)); exact BK262.out⟩, ⟨by (with_reducible repeat (first | refine blk_drewN ?_ _ | refine blk_drew ?_ | refine blk_alloc ?_ _)); exact BK263.out⟩, ⟨by repeat (first | (with_reducible first | exact HB.out | apply below_alloc | apply pw_below_drewN | apply below_drew1 | refine below_set ?_ GE262.out | refine below_set ?_ GE263.out) | exact HB.out)⟩⟩
  ·
   rw [if_neg c6] at H
   have c6b0 : ((l0_0.length : Int) == (l1_0.length : Int)) = false := beq_eq_false_iff_ne.mpr c6
   have c6b1 : ((l0_0.length : Int) != (l1_0.length : Int)) = true := bne_iff_ne.mpr c6
   have c6b2 : (l0_0.length == l1_0.length) = false := by first | simpa using c6 | (simp at c6 ⊢; omega)
   (first | rw [c6b0] | (simp only [i64_w, i32_w]; rw [c6b0]) | skip)
   have H' := Aside0.mk H
   clear H
   have hnb34 := NB262_263.out
   have hnc34 := NB263_262.out
   have hcz35_0 : w5.cell? ⟨gb262, 0, none⟩ = some (.slice A0_0 l0_0.length c0_0) := (blk_cell BK262.out 0).trans rfl
   have hcz35_1 : w5.cell? ⟨gb262, 1, none⟩ = some (.string a0_1) := (blk_cell BK262.out 1).trans rfl
   have hcz35_2 : w5.cell? ⟨gb262, 2, none⟩ = some (.int .i64 a0_2) := (blk_cell BK262.out 2).trans rfl
   have hcz35_3 : w5.cell? ⟨gb262, 3, none⟩ = some (.string a0_3) := (blk_cell BK262.out 3).trans rfl
   have hcz35_4 : w5.cell? ⟨gb262, 4, none⟩ = some (.int .i64 a0_4) := (blk_cell BK262.out 4).trans rfl
   have hcz35_5 : w5.cell? ⟨gb262, 5, none⟩ = some (.slice A0_5 l0_5.length c0_5) := (blk_cell BK262.out 5).trans rfl
   have hcz35_6 : w5.cell? ⟨gb262, 6, none⟩ = some (.int .i64 a0_6) := (blk_cell BK262.out 6).trans rfl
   have hcz35_7 : w5.cell? ⟨gb262, 7, none⟩ = some (.int .i64 a0_7) := (blk_cell BK262.out 7).trans rfl
   have hcz35_8 : w5.cell? ⟨gb262, 8, none⟩ = some (.int .i64 a0_8) := (blk_cell BK262.out 8).trans rfl
   have hcz35_9 : w5.cell? ⟨gb262, 9, none⟩ = some (.slice A0_9 l0_9.length c0_9) := (blk_cell BK262.out 9).trans rfl
   have hcz35_10 : w5.cell? ⟨gb262, 10, none⟩ = some (.int .u8 a0_10) := (blk_cell BK262.out 10).trans rfl
   have hcz35_11 : w5.cell? ⟨gb262, 11, none⟩ = some (.int .i64 a0_11) := (blk_cell BK262.out 11).trans rfl
   have hcz35_12 : w5.cell? ⟨gb262, 12, none⟩ = some (.int .i64 a0_12) := (blk_cell BK262.out 12).trans rfl
   have hfz35_0 := blk_frozen BK262.out 0
   have hfz35_1 := blk_frozen BK262.out 1
   have hfz35_2 := blk_frozen BK262.out 2
   have hfz35_3 := blk_frozen BK262.out 3
   have hfz35_4 := blk_frozen BK262.out 4
   have hfz35_5 := blk_frozen BK262.out 5
   have hfz35_6 := blk_frozen BK262.out 6
   have hfz35_7 := blk_frozen BK262.out 7
   have hfz35_8 := blk_frozen BK262.out 8
   have hfz35_9 := blk_frozen BK262.out 9
   have hfz35_10 := blk_frozen BK262.out 10
   have hfz35_11 := blk_frozen BK262.out 11
   have hfz35_12 := blk_frozen BK262.out 12
   have hcz36_0 : w5.cell? ⟨gb263, 0, none⟩ = some (.slice A1_0 l1_0.length c1_0) := (blk_cell BK263.out 0).trans rfl
   have hcz36_1 : w5.cell? ⟨gb263, 1, none⟩ = some (.string a1_1) := (blk_cell BK263.out 1).trans rfl
   have hcz36_2 : w5.cell? ⟨gb263, 2, none⟩ = some (.int .i64 a1_2) := (blk_cell BK263.out 2).trans rfl
   have hcz36_3 : w5.cell? ⟨gb263, 3, none⟩ = some (.string a1_3) := (blk_cell BK263.out 3).trans rfl
   have hcz36_4 : w5.cell? ⟨gb263, 4, none⟩ = some (.int .i64 a1_4) := (blk_cell BK263.out 4).trans rfl
   have hcz36_5 : w5.cell? ⟨gb263, 5, none⟩ = some (.slice A1_5 l1_5.length c1_5) := (blk_cell BK263.out 5).trans rfl
   have hcz36_6 : w5.cell? ⟨gb263, 6, none⟩ = some (.int .i64 a1_6) := (blk_cell BK263.out 6).trans rfl
   have hcz36_7 : w5.cell? ⟨gb263, 7, none⟩ = some (.int .i64 a1_7) := (blk_cell BK263.out 7).trans rfl
   have hcz36_8 : w5.cell? ⟨gb263, 8, none⟩ = some (.int .i64 a1_8) := (blk_cell BK263.out 8).trans rfl
   have hcz36_9 : w5.cell? ⟨gb263, 9, none⟩ = some (.slice A1_9 l1_9.length c1_9) := (blk_cell BK263.out 9).trans rfl
   have hcz36_10 : w5.cell? ⟨gb263, 10, none⟩ = some (.int .u8 a1_10) := (blk_cell BK263.out 10).trans rfl
   have hcz36_11 : w5.cell? ⟨gb263, 11, none⟩ = some (.int .i64 a1_11) := (blk_cell BK263.out 11).trans rfl
   have hcz36_12 : w5.cell? ⟨gb263, 12, none⟩ = some (.int .i64 a1_12) := (blk_cell BK263.out 12).trans rfl
   have hfz36_0 := blk_frozen BK263.out 0
   have hfz36_1 := blk_frozen BK263.out 1
   have hfz36_2 := blk_frozen BK263.out 2
   have hfz36_3 := blk_frozen BK263.out 3
   have hfz36_4 := blk_frozen BK263.out 4
   have hfz36_5 := blk_frozen BK263.out 5
   have hfz36_6 := blk_frozen BK263.out 6
   have hfz36_7 := blk_frozen BK263.out 7
   have hfz36_8 := blk_frozen BK263.out 8
   have hfz36_9 := blk_frozen BK263.out 9
   have hfz36_10 := blk_frozen BK263.out 10
   have hfz36_11 := blk_frozen BK263.out 11
   have hfz36_12 := blk_frozen BK263.out 12
   go_wp2
   go_meet
   case rel => exact ⟨_, (true), (by first | rfl | (simp; done) | (simp [*]; done)), H', ⟨by first | omega | exact Nat.le_refl _⟩, ⟨by (with_reducible repeat (first | refine blk_drewN ?_ _ | refine blk_drew ?_ | refine blk_alloc ?_ _)); exact BK262.out⟩, ⟨by (with_reducible repeat (first | refine blk_drewN ?_ _ | refine blk_drew ?_ | refine blk_alloc ?_ _)); exact BK263.out⟩, ⟨by repeat (first | (with_reducible first | exact HB.out | apply below_alloc | apply pw_below_drewN | apply below_drew1 | refine below_set ?_ GE262.out | refine below_set ?_ GE263.out) | exact HB.out)⟩⟩
 case rest =>
  clear HC3
  try clear c1
  try clear c2
  try clear p2
  try clear c3
  try clear c6
  try clear c6b0
  try clear c6b1
  try clear c6b2
  try clear c7
  try clear c7b0
  try clear c7b1
  try clear c8
  try clear c8b0
  try clear c8b1
  try clear c10
  try clear c11
  try clear c11b0
  try clear c11b1
  try clear c12
  try clear c18
  try clear c24
  try clear c26
  try clear c28
  try clear c31
  try clear c34
  try clear hcz13_0
  try clear hcz13_1
  try clear hcz13_10
  try clear hcz13_11
  try clear hcz13_12
  try clear hcz13_2
  try clear hcz13_3
  try clear hcz13_4
  try clear hcz13_5
  try clear hcz13_6
  try clear hcz13_7
  try clear hcz13_8
  try clear hcz13_9
  try clear hcz14_0
  try clear hcz14_1
  try clear hcz14_10
  try clear hcz14_11
  try clear hcz14_12
  try clear hcz14_2
  try clear hcz14_3
  try clear hcz14_4
  try clear hcz14_5
  try clear hcz14_6
  try clear hcz14_7
  try clear hcz14_8
  try clear hcz14_9
  try clear hcz16_0
  try clear hcz16_1
  try clear hcz16_10
  try clear hcz16_11
  try clear hcz16_12
  try clear hcz16_2
  try clear hcz16_3
  try clear hcz16_4
  try clear hcz16_5
  try clear hcz16_6
  try clear hcz16_7
  try clear hcz16_8
  try clear hcz16_9
  try clear hcz17_0
  try clear hcz17_1
  try clear hcz17_10
  try clear hcz17_11
  try clear hcz17_12
  try clear hcz17_2
  try clear hcz17_3
  try clear hcz17_4
  try clear hcz17_5
  try clear hcz17_6
  try clear hcz17_7
  try clear hcz17_8
  try clear hcz17_9
  try clear hcz19_0
  try clear hcz19_1
  try clear hcz19_10
  try clear hcz19_11
  try clear hcz19_12
  try clear hcz19_2
  try clear hcz19_3
  try clear hcz19_4
  try clear hcz19_5
  try clear hcz19_6
  try clear hcz19_7
  try clear hcz19_8
  try clear hcz19_9
  try clear hcz20_0
  try clear hcz20_1
  try clear hcz20_10
  try clear hcz20_11
  try clear hcz20_12
  try clear hcz20_2
  try clear hcz20_3
  try clear hcz20_4
  try clear hcz20_5
  try clear hcz20_6
  try clear hcz20_7
  try clear hcz20_8
  try clear hcz20_9
  try clear hcz22_0
  try clear hcz22_1
  try clear hcz22_10
  try clear hcz22_11
  try clear hcz22_12
  try clear hcz22_2
  try clear hcz22_3
  try clear hcz22_4
  try clear hcz22_5
  try clear hcz22_6
  try clear hcz22_7
  try clear hcz22_8
  try clear hcz22_9
  try clear hcz23_0
  try clear hcz23_1
  try clear hcz23_10
  try clear hcz23_11
  try clear hcz23_12
  try clear hcz23_2
  try clear hcz23_3
  try clear hcz23_4
  try clear hcz23_5
  try clear hcz23_6
  try clear hcz23_7
  try clear hcz23_8
  try clear hcz23_9
  try clear hcz25_0
  try clear hcz25_1
  try clear hcz25_10
  try clear hcz25_11
  try clear hcz25_12
  try clear hcz25_2
  try clear hcz25_3
  try clear hcz25_4
  try clear hcz25_5
  try clear hcz25_6
  try clear hcz25_7
  try clear hcz25_8
  try clear hcz25_9
  try clear hcz26_0
  try clear hcz26_1
  try clear hcz26_10
  try clear hcz26_11
  try clear hcz26_12
  try clear hcz26_2
  try clear hcz26_3
  try clear hcz26_4
  try clear hcz26_5
  try clear hcz26_6
  try clear hcz26_7
  try clear hcz26_8
  try clear hcz26_9
  try clear hcz29_0
  try clear hcz29_1
  try clear hcz29_10
  try clear hcz29_11
  try clear hcz29_12
  try clear hcz29_2
  try clear hcz29_3
  try clear hcz29_4
  try clear hcz29_5
  try clear hcz29_6
  try clear hcz29_7
  try clear hcz29_8
  try clear hcz29_9
  try clear hcz30_0
  try clear hcz30_1
  try clear hcz30_10
  try clear hcz30_11
  try clear hcz30_12
  try clear hcz30_2
  try clear hcz30_3
  try clear hcz30_4
  try clear hcz30_5
  try clear hcz30_6
  try clear hcz30_7
  try clear hcz30_8
  try clear hcz30_9
  try clear hcz32_0
  try clear hcz32_1
  try clear hcz32_10
  try clear hcz32_11
  try clear hcz32_12
  try clear hcz32_2
  try clear hcz32_3
  try clear hcz32_4
  try clear hcz32_5
  try clear hcz32_6
  try clear hcz32_7
  try clear hcz32_8
  try clear hcz32_9
  try clear hcz33_0
  try clear hcz33_1
  try clear hcz33_10
  try clear hcz33_11
  try clear hcz33_12
  try clear hcz33_2
  try clear hcz33_3
  try clear hcz33_4
  try clear hcz33_5
  try clear hcz33_6
  try clear hcz33_7
  try clear hcz33_8
  try clear hcz33_9
  try clear hcz35_0
  try clear hcz35_1
  try clear hcz35_10
  try clear hcz35_11
  try clear hcz35_12
  try clear hcz35_2
  try clear hcz35_3
  try clear hcz35_4
  try clear hcz35_5
  try clear hcz35_6
  try clear hcz35_7
  try clear hcz35_8
  try clear hcz35_9
  try clear hcz36_0
  try clear hcz36_1
  try clear hcz36_10
  try clear hcz36_11
  try clear hcz36_12
  try clear hcz36_2
  try clear hcz36_3
  try clear hcz36_4
  try clear hcz36_5
  try clear hcz36_6
  try clear hcz36_7
  try clear hcz36_8
  try clear hcz36_9
  try clear hfz13_0
  try clear hfz13_1
  try clear hfz13_10
  try clear hfz13_11
  try clear hfz13_12
  try clear hfz13_2
  try clear hfz13_3
  try clear hfz13_4
  try clear hfz13_5
  try clear hfz13_6
  try clear hfz13_7
  try clear hfz13_8
  try clear hfz13_9
  try clear hfz14_0
  try clear hfz14_1
  try clear hfz14_10
  try clear hfz14_11
  try clear hfz14_12
  try clear hfz14_2
  try clear hfz14_3
  try clear hfz14_4
  try clear hfz14_5
  try clear hfz14_6
  try clear hfz14_7
  try clear hfz14_8
  try clear hfz14_9
  try clear hfz16_0
  try clear hfz16_1
  try clear hfz16_10
  try clear hfz16_11
  try clear hfz16_12
  try clear hfz16_2
  try clear hfz16_3
  try clear hfz16_4
  try clear hfz16_5
  try clear hfz16_6
  try clear hfz16_7
  try clear hfz16_8
  try clear hfz16_9
  try clear hfz17_0
  try clear hfz17_1
  try clear hfz17_10
  try clear hfz17_11
  try clear hfz17_12
  try clear hfz17_2
  try clear hfz17_3
  try clear hfz17_4
  try clear hfz17_5
  try clear hfz17_6
  try clear hfz17_7
  try clear hfz17_8
  try clear hfz17_9
  try clear hfz19_0
  try clear hfz19_1
  try clear hfz19_10
  try clear hfz19_11
  try clear hfz19_12
  try clear hfz19_2
  try clear hfz19_3
  try clear hfz19_4
  try clear hfz19_5
  try clear hfz19_6
  try clear hfz19_7
  try clear hfz19_8
  try clear hfz19_9
  try clear hfz20_0
  try clear hfz20_1
  try clear hfz20_10
  try clear hfz20_11
  try clear hfz20_12
  try clear hfz20_2
  try clear hfz20_3
  try clear hfz20_4
  try clear hfz20_5
  try clear hfz20_6
  try clear hfz20_7
  try clear hfz20_8
  try clear hfz20_9
  try clear hfz22_0
  try clear hfz22_1
  try clear hfz22_10
  try clear hfz22_11
  try clear hfz22_12
  try clear hfz22_2
  try clear hfz22_3
  try clear hfz22_4
  try clear hfz22_5
  try clear hfz22_6
  try clear hfz22_7
  try clear hfz22_8
  try clear hfz22_9
  try clear hfz23_0
  try clear hfz23_1
  try clear hfz23_10
  try clear hfz23_11
  try clear hfz23_12
  try clear hfz23_2
  try clear hfz23_3
  try clear hfz23_4
  try clear hfz23_5
  try clear hfz23_6
  try clear hfz23_7
  try clear hfz23_8
  try clear hfz23_9
  try clear hfz25_0
  try clear hfz25_1
  try clear hfz25_10
  try clear hfz25_11
  try clear hfz25_12
  try clear hfz25_2
  try clear hfz25_3
  try clear hfz25_4
  try clear hfz25_5
  try clear hfz25_6
  try clear hfz25_7
  try clear hfz25_8
  try clear hfz25_9
  try clear hfz26_0
  try clear hfz26_1
  try clear hfz26_10
  try clear hfz26_11
  try clear hfz26_12
  try clear hfz26_2
  try clear hfz26_3
  try clear hfz26_4
  try clear hfz26_5
  try clear hfz26_6
  try clear hfz26_7
  try clear hfz26_8
  try clear hfz26_9
  try clear hfz29_0
  try clear hfz29_1
  try clear hfz29_10
  try clear hfz29_11
  try clear hfz29_12
  try clear hfz29_2
  try clear hfz29_3
  try clear hfz29_4
  try clear hfz29_5
  try clear hfz29_6
  try clear hfz29_7
  try clear hfz29_8
  try clear hfz29_9
  try clear hfz30_0
  try clear hfz30_1
  try clear hfz30_10
  try clear hfz30_11
  try clear hfz30_12
  try clear hfz30_2
  try clear hfz30_3
  try clear hfz30_4
  try clear hfz30_5
  try clear hfz30_6
  try clear hfz30_7
  try clear hfz30_8
  try clear hfz30_9
  try clear hfz32_0
  try clear hfz32_1
  try clear hfz32_10
  try clear hfz32_11
  try clear hfz32_12
  try clear hfz32_2
  try clear hfz32_3
  try clear hfz32_4
  try clear hfz32_5
  try clear hfz32_6
  try clear hfz32_7
  try clear hfz32_8
  try clear hfz32_9
  try clear hfz33_0
  try clear hfz33_1
  try clear hfz33_10
  try clear hfz33_11
  try clear hfz33_12
  try clear hfz33_2
  try clear hfz33_3
  try clear hfz33_4
  try clear hfz33_5
  try clear hfz33_6
  try clear hfz33_7
  try clear hfz33_8
  try clear hfz33_9
  try clear hfz35_0
  try clear hfz35_1
  try clear hfz35_10
  try clear hfz35_11
  try clear hfz35_12
  try clear hfz35_2
  try clear hfz35_3
  try clear hfz35_4
  try clear hfz35_5
  try clear hfz35_6
  try clear hfz35_7
  try clear hfz35_8
  try clear hfz35_9
  try clear hfz36_0
  try clear hfz36_1
  try clear hfz36_10
  try clear hfz36_11
  try clear hfz36_12
  try clear hfz36_2
  try clear hfz36_3
  try clear hfz36_4
  try clear hfz36_5
  try clear hfz36_6
  try clear hfz36_7
  try clear hfz36_8
  try clear hfz36_9
  obtain ⟨kq, x52_2, rfl, HA, HJ2, BK262, BK263, HB⟩ := hcut
  cases kq with
  | zero => exact absurd HA.out (by simp [weirref13_Alike.j0])
  | succ kj2 =>
   have H := HA.out
   clear HA
   simp only [weirref13_Alike.j0] at H
   by_cases c37 : x52_2 = true
   ·
    subst c37
    have H1 : (some false) = some r := by rw [if_pos rfl] at H; exact H
    clear H
    have H := H1
    clear H1
    obtain rfl := Option.some.inj H
    go_wp2
    go_ret
    exact ⟨by first | rfl | (simp [errW_none, errW_some] <;> rfl) | (simp [*, errW_none, errW_some] <;> rfl), by repeat (first | (with_reducible first | exact HB.out | apply below_alloc | apply pw_below_drewN | apply below_drew1 | refine below_set ?_ GE262.out | refine below_set ?_ GE263.out) | exact HB.out)⟩
   ·
    replace c37 := Bool.eq_false_iff.mpr c37
    subst c37
    have H1 : (weirref13_Alike.l0 kj2 0 l0_0 a0_1 a0_2 a0_3 a0_4 l0_5 a0_6 a0_7 a0_8 l0_9 a0_10 a0_11 a0_12 l1_0 a1_1 a1_2 a1_3 a1_4 l1_5 a1_6 a1_7 a1_8 l1_9 a1_10 a1_11 a1_12) = some r := by rw [if_neg (show ¬ (false = true) by decide)] at H; exact H
    clear H
    have H := H1
    clear H1
    have H' := Aside0.mk H
    clear H
    go_wp2
    go_loopg [5] kj2 (fun kq v5 w' => ∃ (x5_2 : Int), v5 = .int .i64 x5_2 ∧ Aside0 (weirref13_Alike.l0 kq x5_2 l0_0 a0_1 a0_2 a0_3 a0_4 l0_5 a0_6 a0_7 a0_8 l0_9 a0_10 a0_11 a0_12 l1_0 a1_1 a1_2 a1_3 a1_4 l1_5 a1_6 a1_7 a1_8 l1_9 a1_10 a1_11 a1_12 = some r) ∧ Aside0 (kq ≤ kj2) ∧ Aside0 (w'.heap[gb262]? = some (.cells #[(.slice A0_0 l0_0.length c0_0), .string a0_1, .int .i64 a0_2, .string a0_3, .int .i64 a0_4, (.slice A0_5 l0_5.length c0_5), .int .i64 a0_6, .int .i64 a0_7, .int .i64 a0_8, (.slice A0_9 l0_9.length c0_9), .int .u8 a0_10, .int .i64 a0_11, .int .i64 a0_12] 43 (0, 0))) ∧ Aside0 (w'.heap[gb263]? = some (.cells #[(.slice A1_0 l1_0.length c1_0), .string a1_1, .int .i64 a1_2, .string a1_3, .int .i64 a1_4, (.slice A1_5 l1_5.length c1_5), .int .i64 a1_6, .int .i64 a1_7, .int .i64 a1_8, (.slice A1_9 l1_9.length c1_9), .int .u8 a1_10, .int .i64 a1_11, .int .i64 a1_12] 43 (0, 0))) ∧ Aside0 (Below w.heap.size w w'))
    case atStart => exact ⟨(0), (by first | rfl | (simp; done) | (simp [*]; done)), H', ⟨Nat.le_refl _⟩, ⟨by (with_reducible repeat (first | refine blk_drewN ?_ _ | refine blk_drew ?_ | refine blk_alloc ?_ _)); exact BK262.out⟩, ⟨by (with_reducible repeat (first | refine blk_drewN ?_ _ | refine blk_drew ?_ | refine blk_alloc ?_ _)); exact BK263.out⟩, ⟨by repeat (first | (with_reducible first | exact HB.out | apply below_alloc | apply pw_below_drewN | apply below_drew1 | refine below_set ?_ GE262.out | refine below_set ?_ GE263.out) | exact HB.out)⟩⟩
    case round =>
     clear H'
     try clear c1
     try clear c2
     try clear p2
     try clear c3
     try clear c6
     try clear c6b0
     try clear c6b1
     try clear c6b2
     try clear c7
     try clear c7b0
     try clear c7b1
     try clear c8
     try clear c8b0
     try clear c8b1
     try clear c10
     try clear c11
     try clear c11b0
     try clear c11b1
     try clear c12
     try clear c18
     try clear c24
     try clear c26
     try clear c28
     try clear c31
     try clear c34
     try clear c37
     try clear hcz13_0
     try clear hcz13_1
     try clear hcz13_10
     try clear hcz13_11
     try clear hcz13_12
     try clear hcz13_2
     try clear hcz13_3
     try clear hcz13_4
     try clear hcz13_5
     try clear hcz13_6
     try clear hcz13_7
     try clear hcz13_8
     try clear hcz13_9
     try clear hcz14_0
     try clear hcz14_1
     try clear hcz14_10
     try clear hcz14_11
     try clear hcz14_12
     try clear hcz14_2
     try clear hcz14_3
     try clear hcz14_4
     try clear hcz14_5
     try clear hcz14_6
     try clear hcz14_7
     try clear hcz14_8
     try clear hcz14_9
     try clear hcz16_0
     try clear hcz16_1
     try clear hcz16_10
     try clear hcz16_11
     try clear hcz16_12
     try clear hcz16_2
     try clear hcz16_3
     try clear hcz16_4
     try clear hcz16_5
     try clear hcz16_6
     try clear hcz16_7
     try clear hcz16_8
     try clear hcz16_9
     try clear hcz17_0
     try clear hcz17_1
     try clear hcz17_10
     try clear hcz17_11
     try clear hcz17_12
     try clear hcz17_2
     try clear hcz17_3
     try clear hcz17_4
     try clear hcz17_5
     try clear hcz17_6
     try clear hcz17_7
     try clear hcz17_8
     try clear hcz17_9
     try clear hcz19_0
     try clear hcz19_1
     try clear hcz19_10
     try clear hcz19_11
     try clear hcz19_12
     try clear hcz19_2
     try clear hcz19_3
     try clear hcz19_4
     try clear hcz19_5
     try clear hcz19_6
     try clear hcz19_7
     try clear hcz19_8
     try clear hcz19_9
     try clear hcz20_0
     try clear hcz20_1
     try clear hcz20_10
     try clear hcz20_11
     try clear hcz20_12
     try clear hcz20_2
     try clear hcz20_3
     try clear hcz20_4
     try clear hcz20_5
     try clear hcz20_6
     try clear hcz20_7
     try clear hcz20_8
     try clear hcz20_9
     try clear hcz22_0
     try clear hcz22_1
     try clear hcz22_10
     try clear hcz22_11
     try clear hcz22_12
     try clear hcz22_2
     try clear hcz22_3
     try clear hcz22_4
     try clear hcz22_5
     try clear hcz22_6
     try clear hcz22_7
     try clear hcz22_8
     try clear hcz22_9
     try clear hcz23_0
     try clear hcz23_1
     try clear hcz23_10
     try clear hcz23_11
     try clear hcz23_12
     try clear hcz23_2
     try clear hcz23_3
     try clear hcz23_4
     try clear hcz23_5
     try clear hcz23_6
     try clear hcz23_7
     try clear hcz23_8
     try clear hcz23_9
     try clear hcz25_0
     try clear hcz25_1
     try clear hcz25_10
     try clear hcz25_11
     try clear hcz25_12
     try clear hcz25_2
     try clear hcz25_3
     try clear hcz25_4
     try clear hcz25_5
     try clear hcz25_6
     try clear hcz25_7
     try clear hcz25_8
     try clear hcz25_9
     try clear hcz26_0
     try clear hcz26_1
     try clear hcz26_10
     try clear hcz26_11
     try clear hcz26_12
     try clear hcz26_2
     try clear hcz26_3
     try clear hcz26_4
     try clear hcz26_5
     try clear hcz26_6
     try clear hcz26_7
     try clear hcz26_8
     try clear hcz26_9
     try clear hcz29_0
     try clear hcz29_1
     try clear hcz29_10
     try clear hcz29_11
     try clear hcz29_12
     try clear hcz29_2
     try clear hcz29_3
     try clear hcz29_4
     try clear hcz29_5
     try clear hcz29_6
     try clear hcz29_7
     try clear hcz29_8
     try clear hcz29_9
     try clear hcz30_0
     try clear hcz30_1
     try clear hcz30_10
     try clear hcz30_11
     try clear hcz30_12
     try clear hcz30_2
     try clear hcz30_3
     try clear hcz30_4
     try clear hcz30_5
     try clear hcz30_6
     try clear hcz30_7
     try clear hcz30_8
     try clear hcz30_9
     try clear hcz32_0
     try clear hcz32_1
     try clear hcz32_10
     try clear hcz32_11
     try clear hcz32_12
     try clear hcz32_2
     try clear hcz32_3
     try clear hcz32_4
     try clear hcz32_5
     try clear hcz32_6
     try clear hcz32_7
     try clear hcz32_8
     try clear hcz32_9
     try clear hcz33_0
     try clear hcz33_1
     try clear hcz33_10
     try clear hcz33_11
     try clear hcz33_12
     try clear hcz33_2
     try clear hcz33_3
     try clear hcz33_4
     try clear hcz33_5
     try clear hcz33_6
     try clear hcz33_7
     try clear hcz33_8
     try clear hcz33_9
     try clear hcz35_0
     try clear hcz35_1
     try clear hcz35_10
     try clear hcz35_11
     try clear hcz35_12
     try clear hcz35_2
     try clear hcz35_3
     try clear hcz35_4
     try clear hcz35_5
     try clear hcz35_6
     try clear hcz35_7
     try clear hcz35_8
     try clear hcz35_9
     try clear hcz36_0
     try clear hcz36_1
     try clear hcz36_10
     try clear hcz36_11
     try clear hcz36_12
     try clear hcz36_2
     try clear hcz36_3
     try clear hcz36_4
     try clear hcz36_5
     try clear hcz36_6
     try clear hcz36_7
     try clear hcz36_8
     try clear hcz36_9
     try clear hfz13_0
     try clear hfz13_1
     try clear hfz13_10
     try clear hfz13_11
     try clear hfz13_12
     try clear hfz13_2
     try clear hfz13_3
     try clear hfz13_4
     try clear hfz13_5
     try clear hfz13_6
     try clear hfz13_7
     try clear hfz13_8
     try clear hfz13_9
     try clear hfz14_0
     try clear hfz14_1
     try clear hfz14_10
     try clear hfz14_11
     try clear hfz14_12
     try clear hfz14_2
     try clear hfz14_3
     try clear hfz14_4
     try clear hfz14_5
     try clear hfz14_6
     try clear hfz14_7
     try clear hfz14_8
     try clear hfz14_9
     try clear hfz16_0
     try clear hfz16_1
     try clear hfz16_10
     try clear hfz16_11
     try clear hfz16_12
     try clear hfz16_2
     try clear hfz16_3
     try clear hfz16_4
     try clear hfz16_5
     try clear hfz16_6
     try clear hfz16_7
     try clear hfz16_8
     try clear hfz16_9
     try clear hfz17_0
     try clear hfz17_1
     try clear hfz17_10
     try clear hfz17_11
     try clear hfz17_12
     try clear hfz17_2
     try clear hfz17_3
     try clear hfz17_4
     try clear hfz17_5
     try clear hfz17_6
     try clear hfz17_7
     try clear hfz17_8
     try clear hfz17_9
     try clear hfz19_0
     try clear hfz19_1
     try clear hfz19_10
     try clear hfz19_11
     try clear hfz19_12
     try clear hfz19_2
     try clear hfz19_3
     try clear hfz19_4
     try clear hfz19_5
     try clear hfz19_6
     try clear hfz19_7
     try clear hfz19_8
     try clear hfz19_9
     try clear hfz20_0
     try clear hfz20_1
     try clear hfz20_10
     try clear hfz20_11
     try clear hfz20_12
     try clear hfz20_2
     try clear hfz20_3
     try clear hfz20_4
     try clear hfz20_5
     try clear hfz20_6
     try clear hfz20_7
     try clear hfz20_8
     try clear hfz20_9
     try clear hfz22_0
     try clear hfz22_1
     try clear hfz22_10
     try clear hfz22_11
     try clear hfz22_12
     try clear hfz22_2
     try clear hfz22_3
     try clear hfz22_4
     try clear hfz22_5
     try clear hfz22_6
     try clear hfz22_7
     try clear hfz22_8
     try clear hfz22_9
     try clear hfz23_0
     try clear hfz23_1
     try clear hfz23_10
     try clear hfz23_11
     try clear hfz23_12
     try clear hfz23_2
     try clear hfz23_3
     try clear hfz23_4
     try clear hfz23_5
     try clear hfz23_6
     try clear hfz23_7
     try clear hfz23_8
     try clear hfz23_9
     try clear hfz25_0
     try clear hfz25_1
     try clear hfz25_10
     try clear hfz25_11
     try clear hfz25_12
     try clear hfz25_2
     try clear hfz25_3
     try clear hfz25_4
     try clear hfz25_5
     try clear hfz25_6
     try clear hfz25_7
     try clear hfz25_8
     try clear hfz25_9
     try clear hfz26_0
     try clear hfz26_1
     try clear hfz26_10
     try clear hfz26_11
     try clear hfz26_12
     try clear hfz26_2
     try clear hfz26_3
     try clear hfz26_4
     try clear hfz26_5
     try clear hfz26_6
     try clear hfz26_7
     try clear hfz26_8
     try clear hfz26_9
     try clear hfz29_0
     try clear hfz29_1
     try clear hfz29_10
     try clear hfz29_11
     try clear hfz29_12
     try clear hfz29_2
     try clear hfz29_3
     try clear hfz29_4
     try clear hfz29_5
     try clear hfz29_6
     try clear hfz29_7
     try clear hfz29_8
     try clear hfz29_9
     try clear hfz30_0
     try clear hfz30_1
     try clear hfz30_10
     try clear hfz30_11
     try clear hfz30_12
     try clear hfz30_2
     try clear hfz30_3
     try clear hfz30_4
     try clear hfz30_5
     try clear hfz30_6
     try clear hfz30_7
     try clear hfz30_8
     try clear hfz30_9
     try clear hfz32_0
     try clear hfz32_1
     try clear hfz32_10
     try clear hfz32_11
     try clear hfz32_12
     try clear hfz32_2
     try clear hfz32_3
     try clear hfz32_4
     try clear hfz32_5
     try clear hfz32_6
     try clear hfz32_7
     try clear hfz32_8
     try clear hfz32_9
     try clear hfz33_0
     try clear hfz33_1
     try clear hfz33_10
     try clear hfz33_11
     try clear hfz33_12
     try clear hfz33_2
     try clear hfz33_3
     try clear hfz33_4
     try clear hfz33_5
     try clear hfz33_6
     try clear hfz33_7
     try clear hfz33_8
     try clear hfz33_9
     try clear hfz35_0
     try clear hfz35_1
     try clear hfz35_10
     try clear hfz35_11
     try clear hfz35_12
     try clear hfz35_2
     try clear hfz35_3
     try clear hfz35_4
     try clear hfz35_5
     try clear hfz35_6
     try clear hfz35_7
     try clear hfz35_8
     try clear hfz35_9
     try clear hfz36_0
     try clear hfz36_1
     try clear hfz36_10
     try clear hfz36_11
     try clear hfz36_12
     try clear hfz36_2
     try clear hfz36_3
     try clear hfz36_4
     try clear hfz36_5
     try clear hfz36_6
     try clear hfz36_7
     try clear hfz36_8
     try clear hfz36_9
     try clear p2
     obtain ⟨x5_2, rfl, HA, HK2, BK262, BK263, HB⟩ := hrel
     cases gk with
     | zero => exact absurd HA.out (by simp [weirref13_Alike.l0])
     | succ k2 =>
      have H := HA.out
      clear HA
      simp only [weirref13_Alike.l0] at H
      by_cases c38 : x5_2 < (l0_0.length : Int)
      ·
       rw [if_pos c38] at H
       have c38b0 : decide (x5_2 < (l0_0.length : Int)) = true := decide_eq_true c38
       clear c38
       by_cases c39 : 0 ≤ x5_2
       ·
        rw [if_pos c39] at H
        have c39b0 : decide (0 ≤ x5_2) = true := decide_eq_true c39
        clear c39
        by_cases c40 : x5_2 < (l1_0.length : Int)
        ·
         rw [if_pos c40] at H
         have c40b0 : decide (x5_2 < (l1_0.length : Int)) = true := decide_eq_true c40
         clear c40
         replace H := Option.bind_eq_some_iff.mp H
         obtain ⟨t267, A410, H⟩ := H
         replace H : (if t267 = true then (if ((rd_T81 l0_0 x5_2).f1.f0).toList = ((rd_T81 l1_0 x5_2).f1.f0).toList then (weirref13_Alike.l0 k2 (wrap64 (x5_2 + 1)) l0_0 a0_1 a0_2 a0_3 a0_4 l0_5 a0_6 a0_7 a0_8 l0_9 a0_10 a0_11 a0_12 l1_0 a1_1 a1_2 a1_3 a1_4 l1_5 a1_6 a1_7 a1_8 l1_9 a1_10 a1_11 a1_12) else (some false)) else (some false)) = some r := H
         have A41 := Aside0.mk A410
         clear A410
         by_cases c42 : t267 = true
         ·
          subst c42
          have H1 : (if ((rd_T81 l0_0 x5_2).f1.f0).toList = ((rd_T81 l1_0 x5_2).f1.f0).toList then (weirref13_Alike.l0 k2 (wrap64 (x5_2 + 1)) l0_0 a0_1 a0_2 a0_3 a0_4 l0_5 a0_6 a0_7 a0_8 l0_9 a0_10 a0_11 a0_12 l1_0 a1_1 a1_2 a1_3 a1_4 l1_5 a1_6 a1_7 a1_8 l1_9 a1_10 a1_11 a1_12) else (some false)) = some r := by rw [if_pos rfl] at H; exact H
          clear H
          have H := H1
          clear H1
          by_cases c43 : ((rd_T81 l0_0 x5_2).f1.f0).toList = ((rd_T81 l1_0 x5_2).f1.f0).toList
          ·
           rw [if_pos c43] at H
           have c43b0 : (((rd_T81 l0_0 x5_2).f1.f0).toList == ((rd_T81 l1_0 x5_2).f1.f0).toList) = true := beq_iff_eq.mpr c43
           have c43b1 : (((rd_T81 l0_0 x5_2).f1.f0).toList != ((rd_T81 l1_0 x5_2).f1.f0).toList) = false := bne_eq_false_iff_eq.mpr c43
           clear c43
           have H' := Aside0.mk H
           clear H
           have hnb44 := NB262_263.out
           have hnc44 := NB263_262.out
           have hcz45_0 : wr.cell? ⟨gb262, 0, none⟩ = some (.slice A0_0 l0_0.length c0_0) := (blk_cell BK262.out 0).trans rfl
           have hcz45_1 : wr.cell? ⟨gb262, 1, none⟩ = some (.string a0_1) := (blk_cell BK262.out 1).trans rfl
           have hcz45_2 : wr.cell? ⟨gb262, 2, none⟩ = some (.int .i64 a0_2) := (blk_cell BK262.out 2).trans rfl
           have hcz45_3 : wr.cell? ⟨gb262, 3, none⟩ = some (.string a0_3) := (blk_cell BK262.out 3).trans rfl
           have hcz45_4 : wr.cell? ⟨gb262, 4, none⟩ = some (.int .i64 a0_4) := (blk_cell BK262.out 4).trans rfl
           have hcz45_5 : wr.cell? ⟨gb262, 5, none⟩ = some (.slice A0_5 l0_5.length c0_5) := (blk_cell BK262.out 5).trans rfl
           have hcz45_6 : wr.cell? ⟨gb262, 6, none⟩ = some (.int .i64 a0_6) := (blk_cell BK262.out 6).trans rfl
           have hcz45_7 : wr.cell? ⟨gb262, 7, none⟩ = some (.int .i64 a0_7) := (blk_cell BK262.out 7).trans rfl
           have hcz45_8 : wr.cell? ⟨gb262, 8, none⟩ = some (.int .i64 a0_8) := (blk_cell BK262.out 8).trans rfl
           have hcz45_9 : wr.cell? ⟨gb262, 9, none⟩ = some (.slice A0_9 l0_9.length c0_9) := (blk_cell BK262.out 9).trans rfl
           have hcz45_10 : wr.cell? ⟨gb262, 10, none⟩ = some (.int .u8 a0_10) := (blk_cell BK262.out 10).trans rfl
           have hcz45_11 : wr.cell? ⟨gb262, 11, none⟩ = some (.int .i64 a0_11) := (blk_cell BK262.out 11).trans rfl
           have hcz45_12 : wr.cell? ⟨gb262, 12, none⟩ = some (.int .i64 a0_12) := (blk_cell BK262.out 12).trans rfl
           have hfz45_0 := blk_frozen BK262.out 0
           have hfz45_1 := blk_frozen BK262.out 1
           have hfz45_2 := blk_frozen BK262.out 2
           have hfz45_3 := blk_frozen BK262.out 3
           have hfz45_4 := blk_frozen BK262.out 4
           have hfz45_5 := blk_frozen BK262.out 5
           have hfz45_6 := blk_frozen BK262.out 6
           have hfz45_7 := blk_frozen BK262.out 7
           have hfz45_8 := blk_frozen BK262.out 8
           have hfz45_9 := blk_frozen BK262.out 9
           have hfz45_10 := blk_frozen BK262.out 10
           have hfz45_11 := blk_frozen BK262.out 11
           have hfz45_12 := blk_frozen BK262.out 12
           try go_wp2
           have n0_ := Aside0.mk (blk_drew BK262.out)
           have n1_ := Aside0.mk (blk_drew BK263.out)
           have n2_ := Aside0.mk (below_drew1 HB.out)
           clear BK262
           clear BK263
           clear HB
           have BK262 := n0_
           have BK263 := n1_
           have HB := n2_
           clear n0_ n1_ n2_
           have p265 : 0 ≤ (x5_2 : Int) := of_decide_eq_true (by first | (with_reducible assumption) | assumption)
           have q265 : x5_2 < (l0_0.length : Int) := of_decide_eq_true (by first | (with_reducible assumption) | assumption)
           obtain ⟨ad265, A265_0, c265_0, e265, hx265_0, hx265_1, hx265_2, hx265_3, hl265_0, hi265_0⟩ := at_T81 HR0_0.out x5_2 p265 q265
           have hw265_3 := hx265_3
           have hw265_2 := hx265_2
           have hw265_1 := hx265_1
           have hw265_0 := hx265_0
           cases e265
           replace hx265_0 := (HB.out.cell (World.block_lt_of_cell? w _ hx265_0)).trans hx265_0
           replace hx265_1 := (HB.out.cell (World.block_lt_of_cell? w _ hx265_1)).trans hx265_1
           replace hx265_2 := (HB.out.cell (World.block_lt_of_cell? w _ hx265_2)).trans hx265_2
           replace hx265_3 := (HB.out.cell (World.block_lt_of_cell? w _ hx265_3)).trans hx265_3
           have HR265_0 := Aside0.mk hi265_0
           have HC265_0 := Aside0.mk hl265_0
           clear hi265_0 hl265_0
           replace p265 := eq_true p265
           replace q265 := eq_true q265
           have p266 : 0 ≤ (x5_2 : Int) := of_decide_eq_true (by first | (with_reducible assumption) | assumption)
           have q266 : x5_2 < (l1_0.length : Int) := of_decide_eq_true (by first | (with_reducible assumption) | assumption)
           obtain ⟨ad266, A266_0, c266_0, e266, hx266_0, hx266_1, hx266_2, hx266_3, hl266_0, hi266_0⟩ := at_T81 HR1_0.out x5_2 p266 q266
           have hw266_3 := hx266_3
           have hw266_2 := hx266_2
           have hw266_1 := hx266_1
           have hw266_0 := hx266_0
           cases e266
           replace hx266_0 := (HB.out.cell (World.block_lt_of_cell? w _ hx266_0)).trans hx266_0
           replace hx266_1 := (HB.out.cell (World.block_lt_of_cell? w _ hx266_1)).trans hx266_1
           replace hx266_2 := (HB.out.cell (World.block_lt_of_cell? w _ hx266_2)).trans hx266_2
           replace hx266_3 := (HB.out.cell (World.block_lt_of_cell? w _ hx266_3)).trans hx266_3
           have HR266_0 := Aside0.mk hi266_0
           have HC266_0 := Aside0.mk hl266_0
           clear hi266_0 hl266_0
           replace p266 := eq_true p266
           replace q266 := eq_true q266
           have p268 : 0 ≤ (x5_2 : Int) := of_decide_eq_true (by first | (with_reducible assumption) | assumption)
           have q268 : x5_2 < (l0_0.length : Int) := of_decide_eq_true (by first | (with_reducible assumption) | assumption)
           obtain ⟨ad268, A268_0, c268_0, e268, hx268_0, hx268_1, hx268_2, hx268_3, hl268_0, hi268_0⟩ := at_T81 HR0_0.out x5_2 p268 q268
           have hw268_3 := hx268_3
           have hw268_2 := hx268_2
           have hw268_1 := hx268_1
           have hw268_0 := hx268_0
           obtain rfl : ad265 = ad268 := (by injection e268)
           replace hx268_0 := (HB.out.cell (World.block_lt_of_cell? w _ hx268_0)).trans hx268_0
           replace hx268_1 := (HB.out.cell (World.block_lt_of_cell? w _ hx268_1)).trans hx268_1
           replace hx268_2 := (HB.out.cell (World.block_lt_of_cell? w _ hx268_2)).trans hx268_2
           replace hx268_3 := (HB.out.cell (World.block_lt_of_cell? w _ hx268_3)).trans hx268_3
           have HR268_0 := Aside0.mk hi268_0
           have HC268_0 := Aside0.mk hl268_0
           clear hi268_0 hl268_0
           replace p268 := eq_true p268
           replace q268 := eq_true q268
           have p269 : 0 ≤ (x5_2 : Int) := of_decide_eq_true (by first | (with_reducible assumption) | assumption)
           have q269 : x5_2 < (l1_0.length : Int) := of_decide_eq_true (by first | (with_reducible assumption) | assumption)
           obtain ⟨ad269, A269_0, c269_0, e269, hx269_0, hx269_1, hx269_2, hx269_3, hl269_0, hi269_0⟩ := at_T81 HR1_0.out x5_2 p269 q269
           have hw269_3 := hx269_3
           have hw269_2 := hx269_2
           have hw269_1 := hx269_1
           have hw269_0 := hx269_0
           obtain rfl : ad266 = ad269 := (by injection e269)
           replace hx269_0 := (HB.out.cell (World.block_lt_of_cell? w _ hx269_0)).trans hx269_0
           replace hx269_1 := (HB.out.cell (World.block_lt_of_cell? w _ hx269_1)).trans hx269_1
           replace hx269_2 := (HB.out.cell (World.block_lt_of_cell? w _ hx269_2)).trans hx269_2
           replace hx269_3 := (HB.out.cell (World.block_lt_of_cell? w _ hx269_3)).trans hx269_3
           have HR269_0 := Aside0.mk hi269_0
           have HC269_0 := Aside0.mk hl269_0
           clear hi269_0 hl269_0
           replace p269 := eq_true p269
           replace q269 := eq_true q269
           refine start_ (n := 31) (S := fun w' => w'.cell? ⟨gb262, 0, none⟩ = some (.slice (some ad265) l0_0.length c0_0) ∧ w'.cell? ⟨gb262, 1, none⟩ = some (.string a0_1) ∧ w'.cell? ⟨gb262, 2, none⟩ = some (.int .i64 a0_2) ∧ w'.cell? ⟨gb262, 3, none⟩ = some (.string a0_3) ∧ w'.cell? ⟨gb262, 4, none⟩ = some (.int .i64 a0_4) ∧ w'.cell? ⟨gb262, 5, none⟩ = some (.slice A0_5 l0_5.length c0_5) ∧ w'.cell? ⟨gb262, 6, none⟩ = some (.int .i64 a0_6) ∧ w'.cell? ⟨gb262, 7, none⟩ = some (.int .i64 a0_7) ∧ w'.cell? ⟨gb262, 8, none⟩ = some (.int .i64 a0_8) ∧ w'.cell? ⟨gb262, 9, none⟩ = some (.slice A0_9 l0_9.length c0_9) ∧ w'.cell? ⟨gb262, 10, none⟩ = some (.int .u8 a0_10) ∧ w'.cell? ⟨gb262, 11, none⟩ = some (.int .i64 a0_11) ∧ w'.cell? ⟨gb262, 12, none⟩ = some (.int .i64 a0_12) ∧ w'.cell? ⟨gb263, 0, none⟩ = some (.slice (some ad266) l1_0.length c1_0) ∧ w'.cell? ⟨gb263, 1, none⟩ = some (.string a1_1) ∧ w'.cell? ⟨gb263, 2, none⟩ = some (.int .i64 a1_2) ∧ w'.cell? ⟨gb263, 3, none⟩ = some (.string a1_3) ∧ w'.cell? ⟨gb263, 4, none⟩ = some (.int .i64 a1_4) ∧ w'.cell? ⟨gb263, 5, none⟩ = some (.slice A1_5 l1_5.length c1_5) ∧ w'.cell? ⟨gb263, 6, none⟩ = some (.int .i64 a1_6) ∧ w'.cell? ⟨gb263, 7, none⟩ = some (.int .i64 a1_7) ∧ w'.cell? ⟨gb263, 8, none⟩ = some (.int .i64 a1_8) ∧ w'.cell? ⟨gb263, 9, none⟩ = some (.slice A1_9 l1_9.length c1_9) ∧ w'.cell? ⟨gb263, 10, none⟩ = some (.int .u8 a1_10) ∧ w'.cell? ⟨gb263, 11, none⟩ = some (.int .i64 a1_11) ∧ w'.cell? ⟨gb263, 12, none⟩ = some (.int .i64 a1_12) ∧ w'.cell? (ad265.add ((x5_2).toNat * 4)) = some (.slice A265_0 ((rd_T81 l0_0 x5_2).f0).length c265_0) ∧ w'.cell? ⟨(ad265.add ((x5_2).toNat * 4)).block, (ad265.add ((x5_2).toNat * 4)).off + 1, none⟩ = some (.string ((rd_T81 l0_0 x5_2).f1.f0)) ∧ w'.cell? ⟨(ad265.add ((x5_2).toNat * 4)).block, (ad265.add ((x5_2).toNat * 4)).off + 2, none⟩ = some (.int .i64 ((rd_T81 l0_0 x5_2).f1.f1)) ∧ w'.cell? ⟨(ad265.add ((x5_2).toNat * 4)).block, (ad265.add ((x5_2).toNat * 4)).off + 3, none⟩ = some (.int .i64 ((rd_T81 l0_0 x5_2).f2)) ∧ w'.cell? (ad266.add ((x5_2).toNat * 4)) = some (.slice A266_0 ((rd_T81 l1_0 x5_2).f0).length c266_0) ∧ w'.cell? ⟨(ad266.add ((x5_2).toNat * 4)).block, (ad266.add ((x5_2).toNat * 4)).off + 1, none⟩ = some (.string ((rd_T81 l1_0 x5_2).f1.f0)) ∧ w'.cell? ⟨(ad266.add ((x5_2).toNat * 4)).block, (ad266.add ((x5_2).toNat * 4)).off + 2, none⟩ = some (.int .i64 ((rd_T81 l1_0 x5_2).f1.f1)) ∧ w'.cell? ⟨(ad266.add ((x5_2).toNat * 4)).block, (ad266.add ((x5_2).toNat * 4)).off + 3, none⟩ = some (.int .i64 ((rd_T81 l1_0 x5_2).f2)) ∧ w'.cell? (ad265.add ((x5_2).toNat * 4)) = some (.slice A268_0 ((rd_T81 l0_0 x5_2).f0).length c268_0) ∧ w'.cell? ⟨(ad265.add ((x5_2).toNat * 4)).block, (ad265.add ((x5_2).toNat * 4)).off + 1, none⟩ = some (.string ((rd_T81 l0_0 x5_2).f1.f0)) ∧ w'.cell? ⟨(ad265.add ((x5_2).toNat * 4)).block, (ad265.add ((x5_2).toNat * 4)).off + 2, none⟩ = some (.int .i64 ((rd_T81 l0_0 x5_2).f1.f1)) ∧ w'.cell? ⟨(ad265.add ((x5_2).toNat * 4)).block, (ad265.add ((x5_2).toNat * 4)).off + 3, none⟩ = some (.int .i64 ((rd_T81 l0_0 x5_2).f2)) ∧ w'.cell? (ad266.add ((x5_2).toNat * 4)) = some (.slice A269_0 ((rd_T81 l1_0 x5_2).f0).length c269_0) ∧ w'.cell? ⟨(ad266.add ((x5_2).toNat * 4)).block, (ad266.add ((x5_2).toNat * 4)).off + 1, none⟩ = some (.string ((rd_T81 l1_0 x5_2).f1.f0)) ∧ w'.cell? ⟨(ad266.add ((x5_2).toNat * 4)).block, (ad266.add ((x5_2).toNat * 4)).off + 2, none⟩ = some (.int .i64 ((rd_T81 l1_0 x5_2).f1.f1)) ∧ w'.cell? ⟨(ad266.add ((x5_2).toNat * 4)).block, (ad266.add ((x5_2).toNat * 4)).off + 3, none⟩ = some (.int .i64 ((rd_T81 l1_0 x5_2).f2))) (ds := []) #[false, false, false, false, false, false, false, false, false, false, false, false, false, false, false, false, false, false, false, false, false, false, false, false, false, false, false, false, false, false, false] (by kernel_rfl) rfl rfl ⟨(blk_cell BK262.out 0).trans rfl, (blk_cell BK262.out 1).trans rfl, (blk_cell BK262.out 2).trans rfl, (blk_cell BK262.out 3).trans rfl, (blk_cell BK262.out 4).trans rfl, (blk_cell BK262.out 5).trans rfl, (blk_cell BK262.out 6).trans rfl, (blk_cell BK262.out 7).trans rfl, (blk_cell BK262.out 8).trans rfl, (blk_cell BK262.out 9).trans rfl, (blk_cell BK262.out 10).trans rfl, (blk_cell BK262.out 11).trans rfl, (blk_cell BK262.out 12).trans rfl, (blk_cell BK263.out 0).trans rfl, (blk_cell BK263.out 1).trans rfl, (blk_cell BK263.out 2).trans rfl, (blk_cell BK263.out 3).trans rfl, (blk_cell BK263.out 4).trans rfl, (blk_cell BK263.out 5).trans rfl, (blk_cell BK263.out 6).trans rfl, (blk_cell BK263.out 7).trans rfl, (blk_cell BK263.out 8).trans rfl, (blk_cell BK263.out 9).trans rfl, (blk_cell BK263.out 10).trans rfl, (blk_cell BK263.out 11).trans rfl, (blk_cell BK263.out 12).trans rfl, ((HB.out.cell (World.block_lt_of_cell? w _ hw265_0)).trans hw265_0), ((HB.out.cell (World.block_lt_of_cell? w _ hw265_1)).trans hw265_1), ((HB.out.cell (World.block_lt_of_cell? w _ hw265_2)).trans hw265_2), ((HB.out.cell (World.block_lt_of_cell? w _ hw265_3)).trans hw265_3), ((HB.out.cell (World.block_lt_of_cell? w _ hw266_0)).trans hw266_0), ((HB.out.cell (World.block_lt_of_cell? w _ hw266_1)).trans hw266_1), ((HB.out.cell (World.block_lt_of_cell? w _ hw266_2)).trans hw266_2), ((HB.out.cell (World.block_lt_of_cell? w _ hw266_3)).trans hw266_3), ((HB.out.cell (World.block_lt_of_cell? w _ hw268_0)).trans hw268_0), ((HB.out.cell (World.block_lt_of_cell? w _ hw268_1)).trans hw268_1), ((HB.out.cell (World.block_lt_of_cell? w _ hw268_2)).trans hw268_2), ((HB.out.cell (World.block_lt_of_cell? w _ hw268_3)).trans hw268_3), ((HB.out.cell (World.block_lt_of_cell? w _ hw269_0)).trans hw269_0), ((HB.out.cell (World.block_lt_of_cell? w _ hw269_1)).trans hw269_1), ((HB.out.cell (World.block_lt_of_cell? w _ hw269_2)).trans hw269_2), ((HB.out.cell (World.block_lt_of_cell? w _ hw269_3)).trans hw269_3)⟩ (fun hHeld => ?_); refine with_tabW weirref13_Alike.tab6 weirref13_Alike.bits6 (fun HT_ HW_ => ?_)
           generalize wr.drew = w46 at BK262 BK263 HB HR265_0 HR266_0 HR268_0 HR269_0 hx265_0 hx265_1 hx265_2 hx265_3 hx266_0 hx266_1 hx266_2 hx266_3 hx268_0 hx268_1 hx268_2 hx268_3 hx269_0 hx269_1 hx269_2 hx269_3 hHeld ⊢
           refine pure_ (i := 0) (N := some 60) (v := ?_) (a' := ?_) #[true, false, false, false, false, false, false, false, false, false, false, false, false, false, false, false, false, false, false, false, false, false, false, false, false, false, false, false, false, false, false] rfl rfl (any_of HT_.out (by kernel_rfl)) (fun _ _ _ h => h) (Or.inl ⟨by rfl, ?_⟩) ?_ ?_
           rotate_left
           · intro w'; go_simp; with_reducible rfl
           rotate_left
           · simp only [Act.put, q1, q2, q3, i64_w, i32_w]; rfl
           refine pure_ (i := 2) (N := some 62) (v := ?_) (a' := ?_) #[true, false, true, false, false, false, false, false, false, false, false, false, false, false, false, false, false, false, false, false, false, false, false, false, false, false, false, false, false, false, false] rfl rfl (any_of HT_.out (by kernel_rfl)) (fun _ _ _ h => h) (Or.inl ⟨by rfl, ?_⟩) ?_ ?_
           rotate_left
           · intro w'; go_simp; with_reducible rfl
           rotate_left
           · simp only [Act.put, q1, q2, q3, i64_w, i32_w]; rfl
           refine pure_ (i := 6) (N := some 66) (v := ?_) (a' := ?_) #[true, false, true, false, false, false, true, false, false, false, false, false, false, false, false, false, false, false, false, false, false, false, false, false, false, false, false, false, false, false, false] rfl rfl (any_of HT_.out (by kernel_rfl)) (fun _ _ _ h => h) (Or.inl ⟨by rfl, ?_⟩) ?_ ?_
           rotate_left
           · intro w'; go_simp; with_reducible rfl
           rotate_left
           · simp only [Act.put, q1, q2, q3, i64_w, i32_w]; rfl
           refine pure_ (i := 8) (N := some 68) (v := ?_) (a' := ?_) #[true, false, true, false, false, false, true, false, true, false, false, false, false, false, false, false, false, false, false, false, false, false, false, false, false, false, false, false, false, false, false] rfl rfl (any_of HT_.out (by kernel_rfl)) (fun _ _ _ h => h) (Or.inl ⟨by rfl, ?_⟩) ?_ ?_
           rotate_left
           · intro w'; go_simp; with_reducible rfl
           rotate_left
           · simp only [Act.put, q1, q2, q3, i64_w, i32_w]; rfl
           refine take_ (i := 1) (N := some 61) (v := ?_) (a' := ?_) #[true, true, true, false, false, false, true, false, true, false, false, false, false, false, false, false, false, false, false, false, false, false, false, false, false, false, false, false, false, false, false] rfl rfl (take_ofW HT_.out HW_.out (by kernel_rfl)) (fun _ _ _ h => h) (Or.inl ⟨by rfl, ?_⟩) hHeld ?_ ?_
           rotate_left
           · rintro w' ⟨s0, s1, s2, s3, s4, s5, s6, s7, s8, s9, s10, s11, s12, s13, s14, s15, s16, s17, s18, s19, s20, s21, s22, s23, s24, s25, s26, s27, s28, s29, s30, s31, s32, s33, s34, s35, s36, s37, s38, s39, s40, s41⟩; go_simp; with_reducible rfl
           rotate_left
           · simp only [Act.put, q1, q2, q3, i64_w, i32_w]; rfl
           refine pure_ (i := 3) (N := some 63) (v := ?_) (a' := ?_) #[true, true, true, true, false, false, true, false, true, false, false, false, false, false, false, false, false, false, false, false, false, false, false, false, false, false, false, false, false, false, false] rfl rfl (any_of HT_.out (by kernel_rfl)) (fun _ _ _ h => h) (Or.inl ⟨by rfl, ?_⟩) ?_ ?_
           rotate_left
           · intro w'; go_simp; with_reducible rfl
           rotate_left
           · simp only [Act.put, q1, q2, q3, i64_w, i32_w]; rfl
           refine pure_ (i := 4) (N := some 64) (v := ?_) (a' := ?_) #[true, true, true, true, true, false, true, false, true, false, false, false, false, false, false, false, false, false, false, false, false, false, false, false, false, false, false, false, false, false, false] rfl rfl (any_of HT_.out (by kernel_rfl)) (fun _ _ _ h => h) (Or.inl ⟨by rfl, ?_⟩) ?_ ?_
           rotate_left
           · intro w'; go_simp; with_reducible rfl
           rotate_left
           · simp only [Act.put, q1, q2, q3, i64_w, i32_w]; rfl
           refine take_ (i := 5) (N := some 65) (v := ?_) (a' := ?_) #[true, true, true, true, true, true, true, false, true, false, false, false, false, false, false, false, false, false, false, false, false, false, false, false, false, false, false, false, false, false, false] rfl rfl (take_ofW HT_.out HW_.out (by kernel_rfl)) (fun _ _ _ h => h) (Or.inl ⟨by rfl, ?_⟩) hHeld ?_ ?_
           rotate_left
           · rintro w' ⟨s0, s1, s2, s3, s4, s5, s6, s7, s8, s9, s10, s11, s12, s13, s14, s15, s16, s17, s18, s19, s20, s21, s22, s23, s24, s25, s26, s27, s28, s29, s30, s31, s32, s33, s34, s35, s36, s37, s38, s39, s40, s41⟩; go_simp; with_reducible rfl
           rotate_left
           · simp only [Act.put, q1, q2, q3, i64_w, i32_w]; rfl
           refine take_ (i := 7) (N := some 67) (v := ?_) (a' := ?_) #[true, true, true, true, true, true, true, true, true, false, false, false, false, false, false, false, false, false, false, false, false, false, false, false, false, false, false, false, false, false, false] rfl rfl (take_ofW HT_.out HW_.out (by kernel_rfl)) (fun _ _ _ h => h) (Or.inl ⟨by rfl, ?_⟩) hHeld ?_ ?_
           rotate_left
           · rintro w' ⟨s0, s1, s2, s3, s4, s5, s6, s7, s8, s9, s10, s11, s12, s13, s14, s15, s16, s17, s18, s19, s20, s21, s22, s23, s24, s25, s26, s27, s28, s29, s30, s31, s32, s33, s34, s35, s36, s37, s38, s39, s40, s41⟩; go_simp; with_reducible rfl
           rotate_left
           · simp only [Act.put, q1, q2, q3, i64_w, i32_w]; rfl
           refine pure_ (i := 9) (N := some 69) (v := ?_) (a' := ?_) #[true, true, true, true, true, true, true, true, true, true, false, false, false, false, false, false, false, false, false, false, false, false, false, false, false, false, false, false, false, false, false] rfl rfl (any_of HT_.out (by kernel_rfl)) (fun _ _ _ h => h) (Or.inl ⟨by rfl, ?_⟩) ?_ ?_
           rotate_left
           · intro w'; go_simp; with_reducible rfl
           rotate_left
           · simp only [Act.put, q1, q2, q3, i64_w, i32_w]; rfl
           refine pure_ (i := 10) (N := some 70) (v := ?_) (a' := ?_) #[true, true, true, true, true, true, true, true, true, true, true, false, false, false, false, false, false, false, false, false, false, false, false, false, false, false, false, false, false, false, false] rfl rfl (any_of HT_.out (by kernel_rfl)) (fun _ _ _ h => h) (Or.inl ⟨by rfl, ?_⟩) ?_ ?_
           rotate_left
           · intro w'; go_simp; with_reducible rfl
           rotate_left
           · simp only [Act.put, q1, q2, q3, i64_w, i32_w]; rfl
           refine take_ (i := 11) (N := some 71) (v := ?_) (a' := ?_) #[true, true, true, true, true, true, true, true, true, true, true, true, false, false, false, false, false, false, false, false, false, false, false, false, false, false, false, false, false, false, false] rfl rfl (take_ofW HT_.out HW_.out (by kernel_rfl)) (fun _ _ _ h => h) (Or.inl ⟨by rfl, ?_⟩) hHeld ?_ ?_
           rotate_left
           · rintro w' ⟨s0, s1, s2, s3, s4, s5, s6, s7, s8, s9, s10, s11, s12, s13, s14, s15, s16, s17, s18, s19, s20, s21, s22, s23, s24, s25, s26, s27, s28, s29, s30, s31, s32, s33, s34, s35, s36, s37, s38, s39, s40, s41⟩; go_simp; with_reducible rfl
           rotate_left
           · simp only [Act.put, q1, q2, q3, i64_w, i32_w]; rfl
           refine one_ (i := 12) (N := some 72) #[true, true, true, true, true, true, true, true, true, true, true, true, true, false, false, false, false, false, false, false, false, false, false, false, false, false, false, false, false, false, false] rfl rfl (one_of HT_.out (by kernel_rfl)) (by decide) (fun K hK => ?_)
           refine goes_ Tryz.func24 (by kernel_rfl) rfl #[.slice A265_0 ((rd_T81 l0_0 x5_2).f0).length c265_0, .slice A266_0 ((rd_T81 l1_0 x5_2).f0).length c266_0] (by rfl) rfl rfl (by (try simp only [q4, q5, q6]); first | done | rfl | (simp only [List.length_drop, List.length_take]; rfl)) ?_
           with_reducible refine (weirtree_Same.calls _ _ ((rd_T81 l0_0 x5_2).f0) _ _ ((rd_T81 l1_0 x5_2).f0) true _ ?side1 ?side2 ?side3 ?side4 A41.out).mono ?_
           (case side1 => repeat (first | exact (Kd.C_below HR265_0.out HB.out) | (with_reducible refine Kd.C_alloc ?_ _) | (with_reducible refine Kd.C_drewN ?_ _) | (with_reducible refine Kd.C_drew ?_)))
           (case side2 => exact HC265_0.out)
           (case side3 => repeat (first | exact (Kd.C_below HR266_0.out HB.out) | (with_reducible refine Kd.C_alloc ?_ _) | (with_reducible refine Kd.C_drewN ?_ _) | (with_reducible refine Kd.C_drew ?_)))
           (case side4 => exact HC266_0.out)
           rintro e w47 ⟨rfl, hb⟩
           refine ⟨_, rfl, ?_⟩
           have n0_ := Aside0.mk (blk_below (g := gb262) (o := .cells #[.slice (some ad265) l0_0.length c0_0, .string a0_1, .int .i64 a0_2, .string a0_3, .int .i64 a0_4, .slice A0_5 l0_5.length c0_5, .int .i64 a0_6, .int .i64 a0_7, .int .i64 a0_8, .slice A0_9 l0_9.length c0_9, .int .u8 a0_10, .int .i64 a0_11, .int .i64 a0_12] 43 (0, 0)) (by (with_reducible repeat (first | refine blk_drewN ?_ _ | refine blk_drew ?_ | refine blk_alloc ?_ _)); exact BK262.out) hb)
           have n1_ := Aside0.mk (blk_below (g := gb263) (o := .cells #[.slice (some ad266) l1_0.length c1_0, .string a1_1, .int .i64 a1_2, .string a1_3, .int .i64 a1_4, .slice A1_5 l1_5.length c1_5, .int .i64 a1_6, .int .i64 a1_7, .int .i64 a1_8, .slice A1_9 l1_9.length c1_9, .int .u8 a1_10, .int .i64 a1_11, .int .i64 a1_12] 43 (0, 0)) (by (with_reducible repeat (first | refine blk_drewN ?_ _ | refine blk_drew ?_ | refine blk_alloc ?_ _)); exact BK263.out) hb)
           have n2_ := Aside0.mk (below_step (by repeat (first | (with_reducible first | exact HB.out | apply below_alloc | apply pw_below_drewN | apply below_drew1 | refine below_set ?_ GE262.out | refine below_set ?_ GE263.out) | exact HB.out)) hb)
           clear BK262
           clear BK263
           clear HB
           have BK262 := n0_
           have BK263 := n1_
           have HB := n2_
           clear n0_ n1_ n2_
           (try clear hb)
           (try clear hb2)
           (try clear hk)
           (try clear hi)
           refine hK.out _ _ ⟨(blk_cell BK262.out 0).trans rfl, (blk_cell BK262.out 1).trans rfl, (blk_cell BK262.out 2).trans rfl, (blk_cell BK262.out 3).trans rfl, (blk_cell BK262.out 4).trans rfl, (blk_cell BK262.out 5).trans rfl, (blk_cell BK262.out 6).trans rfl, (blk_cell BK262.out 7).trans rfl, (blk_cell BK262.out 8).trans rfl, (blk_cell BK262.out 9).trans rfl, (blk_cell BK262.out 10).trans rfl, (blk_cell BK262.out 11).trans rfl, (blk_cell BK262.out 12).trans rfl, (blk_cell BK263.out 0).trans rfl, (blk_cell BK263.out 1).trans rfl, (blk_cell BK263.out 2).trans rfl, (blk_cell BK263.out 3).trans rfl, (blk_cell BK263.out 4).trans rfl, (blk_cell BK263.out 5).trans rfl, (blk_cell BK263.out 6).trans rfl, (blk_cell BK263.out 7).trans rfl, (blk_cell BK263.out 8).trans rfl, (blk_cell BK263.out 9).trans rfl, (blk_cell BK263.out 10).trans rfl, (blk_cell BK263.out 11).trans rfl, (blk_cell BK263.out 12).trans rfl, ((HB.out.cell (World.block_lt_of_cell? w _ hw265_0)).trans hw265_0), ((HB.out.cell (World.block_lt_of_cell? w _ hw265_1)).trans hw265_1), ((HB.out.cell (World.block_lt_of_cell? w _ hw265_2)).trans hw265_2), ((HB.out.cell (World.block_lt_of_cell? w _ hw265_3)).trans hw265_3), ((HB.out.cell (World.block_lt_of_cell? w _ hw266_0)).trans hw266_0), ((HB.out.cell (World.block_lt_of_cell? w _ hw266_1)).trans hw266_1), ((HB.out.cell (World.block_lt_of_cell? w _ hw266_2)).trans hw266_2), ((HB.out.cell (World.block_lt_of_cell? w _ hw266_3)).trans hw266_3), ((HB.out.cell (World.block_lt_of_cell? w _ hw268_0)).trans hw268_0), ((HB.out.cell (World.block_lt_of_cell? w _ hw268_1)).trans hw268_1), ((HB.out.cell (World.block_lt_of_cell? w _ hw268_2)).trans hw268_2), ((HB.out.cell (World.block_lt_of_cell? w _ hw268_3)).trans hw268_3), ((HB.out.cell (World.block_lt_of_cell? w _ hw269_0)).trans hw269_0), ((HB.out.cell (World.block_lt_of_cell? w _ hw269_1)).trans hw269_1), ((HB.out.cell (World.block_lt_of_cell? w _ hw269_2)).trans hw269_2), ((HB.out.cell (World.block_lt_of_cell? w _ hw269_3)).trans hw269_3)⟩ (fun hHeld => ?_)
           clear hK K
           refine norm_ (a' := ?_) ?_ ?_
           rotate_left
           ·
            show Act.put _ (some 72) _ = _
            simp only [Act.put, q1, q2, q3, i64_w, i32_w]
            rfl
           refine pure_ (i := 13) (N := some 73) (v := ?_) (a' := ?_) #[true, true, true, true, true, true, true, true, true, true, true, true, true, true, false, false, false, false, false, false, false, false, false, false, false, false, false, false, false, false, false] rfl rfl (any_of HT_.out (by kernel_rfl)) (fun _ _ _ h => h) (Or.inl ⟨by rfl, ?_⟩) ?_ ?_
           rotate_left
           · intro w'; go_simp; with_reducible rfl
           rotate_left
           · simp only [Act.put, q1, q2, q3, i64_w, i32_w]; rfl
           refine pure_ (i := 14) (N := some 74) (v := ?_) (a' := ?_) #[true, true, true, true, true, true, true, true, true, true, true, true, true, true, true, false, false, false, false, false, false, false, false, false, false, false, false, false, false, false, false] rfl rfl (any_of HT_.out (by kernel_rfl)) (fun _ _ _ h => h) (Or.inl ⟨by rfl, ?_⟩) ?_ ?_
           rotate_left
           · intro w'; go_simp; with_reducible rfl
           rotate_left
           · simp only [Act.put, q1, q2, q3, i64_w, i32_w]; rfl
           refine pure_ (i := 15) (N := some 75) (v := ?_) (a' := ?_) #[true, true, true, true, true, true, true, true, true, true, true, true, true, true, true, true, false, false, false, false, false, false, false, false, false, false, false, false, false, false, false] rfl rfl (any_of HT_.out (by kernel_rfl)) (fun _ _ _ h => h) (Or.inl ⟨by rfl, ?_⟩) ?_ ?_
           rotate_left
           · intro w'; go_simp; with_reducible rfl
           rotate_left
           · simp only [Act.put, q1, q2, q3, i64_w, i32_w]; rfl
           refine pure_ (i := 17) (N := some 77) (v := ?_) (a' := ?_) #[true, true, true, true, true, true, true, true, true, true, true, true, true, true, true, true, false, true, false, false, false, false, false, false, false, false, false, false, false, false, false] rfl rfl (any_of HT_.out (by kernel_rfl)) (fun _ _ _ h => h) (Or.inl ⟨by rfl, ?_⟩) ?_ ?_
           rotate_left
           · intro w'; go_simp; with_reducible rfl
           rotate_left
           · simp only [Act.put, q1, q2, q3, i64_w, i32_w]; rfl
           refine pure_ (i := 22) (N := some 82) (v := ?_) (a' := ?_) #[true, true, true, true, true, true, true, true, true, true, true, true, true, true, true, true, false, true, false, false, false, false, true, false, false, false, false, false, false, false, false] rfl rfl (any_of HT_.out (by kernel_rfl)) (fun _ _ _ h => h) (Or.inl ⟨by rfl, ?_⟩) ?_ ?_
           rotate_left
           · intro w'; go_simp; with_reducible rfl
           rotate_left
           · simp only [Act.put, q1, q2, q3, i64_w, i32_w]; rfl
           refine pure_ (i := 24) (N := some 84) (v := ?_) (a' := ?_) #[true, true, true, true, true, true, true, true, true, true, true, true, true, true, true, true, false, true, false, false, false, false, true, false, true, false, false, false, false, false, false] rfl rfl (any_of HT_.out (by kernel_rfl)) (fun _ _ _ h => h) (Or.inl ⟨by rfl, ?_⟩) ?_ ?_
           rotate_left
           · intro w'; go_simp; with_reducible rfl
           rotate_left
           · simp only [Act.put, q1, q2, q3, i64_w, i32_w]; rfl
           refine take_ (i := 16) (N := some 76) (v := ?_) (a' := ?_) #[true, true, true, true, true, true, true, true, true, true, true, true, true, true, true, true, true, true, false, false, false, false, true, false, true, false, false, false, false, false, false] rfl rfl (take_ofW HT_.out HW_.out (by kernel_rfl)) (fun _ _ _ h => h) (Or.inl ⟨by rfl, ?_⟩) hHeld ?_ ?_
           rotate_left
           · rintro w' ⟨s0, s1, s2, s3, s4, s5, s6, s7, s8, s9, s10, s11, s12, s13, s14, s15, s16, s17, s18, s19, s20, s21, s22, s23, s24, s25, s26, s27, s28, s29, s30, s31, s32, s33, s34, s35, s36, s37, s38, s39, s40, s41⟩; go_simp; with_reducible rfl
           rotate_left
           · simp only [Act.put, q1, q2, q3, i64_w, i32_w]; rfl
           refine pure_ (i := 18) (N := some 78) (v := ?_) (a' := ?_) #[true, true, true, true, true, true, true, true, true, true, true, true, true, true, true, true, true, true, true, false, false, false, true, false, true, false, false, false, false, false, false] rfl rfl (any_of HT_.out (by kernel_rfl)) (fun _ _ _ h => h) (Or.inl ⟨by rfl, ?_⟩) ?_ ?_
           rotate_left
           · intro w'; go_simp; with_reducible rfl
           rotate_left
           · simp only [Act.put, q1, q2, q3, i64_w, i32_w]; rfl
           refine pure_ (i := 19) (N := some 79) (v := ?_) (a' := ?_) #[true, true, true, true, true, true, true, true, true, true, true, true, true, true, true, true, true, true, true, true, false, false, true, false, true, false, false, false, false, false, false] rfl rfl (any_of HT_.out (by kernel_rfl)) (fun _ _ _ h => h) (Or.inl ⟨by rfl, ?_⟩) ?_ ?_
           rotate_left
           · intro w'; go_simp; with_reducible rfl
           rotate_left
           · simp only [Act.put, q1, q2, q3, i64_w, i32_w]; rfl
           refine pure_ (i := 20) (N := some 80) (v := ?_) (a' := ?_) #[true, true, true, true, true, true, true, true, true, true, true, true, true, true, true, true, true, true, true, true, true, false, true, false, true, false, false, false, false, false, false] rfl rfl (any_of HT_.out (by kernel_rfl)) (fun _ _ _ h => h) (Or.inl ⟨by rfl, ?_⟩) ?_ ?_
           rotate_left
           · intro w'; go_simp; with_reducible rfl
           rotate_left
           · simp only [Act.put, q1, q2, q3, i64_w, i32_w]; rfl
           refine take_ (i := 21) (N := some 81) (v := ?_) (a' := ?_) #[true, true, true, true, true, true, true, true, true, true, true, true, true, true, true, true, true, true, true, true, true, true, true, false, true, false, false, false, false, false, false] rfl rfl (take_ofW HT_.out HW_.out (by kernel_rfl)) (fun _ _ _ h => h) (Or.inl ⟨by rfl, ?_⟩) hHeld ?_ ?_
           rotate_left
           · rintro w' ⟨s0, s1, s2, s3, s4, s5, s6, s7, s8, s9, s10, s11, s12, s13, s14, s15, s16, s17, s18, s19, s20, s21, s22, s23, s24, s25, s26, s27, s28, s29, s30, s31, s32, s33, s34, s35, s36, s37, s38, s39, s40, s41⟩; go_simp; with_reducible rfl
           rotate_left
           · simp only [Act.put, q1, q2, q3, i64_w, i32_w]; rfl
           refine take_ (i := 23) (N := some 83) (v := ?_) (a' := ?_) #[true, true, true, true, true, true, true, true, true, true, true, true, true, true, true, true, true, true, true, true, true, true, true, true, true, false, false, false, false, false, false] rfl rfl (take_ofW HT_.out HW_.out (by kernel_rfl)) (fun _ _ _ h => h) (Or.inl ⟨by rfl, ?_⟩) hHeld ?_ ?_
           rotate_left
           · rintro w' ⟨s0, s1, s2, s3, s4, s5, s6, s7, s8, s9, s10, s11, s12, s13, s14, s15, s16, s17, s18, s19, s20, s21, s22, s23, s24, s25, s26, s27, s28, s29, s30, s31, s32, s33, s34, s35, s36, s37, s38, s39, s40, s41⟩; go_simp; with_reducible rfl
           rotate_left
           · simp only [Act.put, q1, q2, q3, i64_w, i32_w]; rfl
           refine pure_ (i := 25) (N := some 85) (v := ?_) (a' := ?_) #[true, true, true, true, true, true, true, true, true, true, true, true, true, true, true, true, true, true, true, true, true, true, true, true, true, true, false, false, false, false, false] rfl rfl (any_of HT_.out (by kernel_rfl)) (fun _ _ _ h => h) (Or.inl ⟨by rfl, ?_⟩) ?_ ?_
           rotate_left
           · intro w'; go_simp; with_reducible rfl
           rotate_left
           · simp only [Act.put, q1, q2, q3, i64_w, i32_w]; rfl
           refine pure_ (i := 26) (N := some 86) (v := ?_) (a' := ?_) #[true, true, true, true, true, true, true, true, true, true, true, true, true, true, true, true, true, true, true, true, true, true, true, true, true, true, true, false, false, false, false] rfl rfl (any_of HT_.out (by kernel_rfl)) (fun _ _ _ h => h) (Or.inl ⟨by rfl, ?_⟩) ?_ ?_
           rotate_left
           · intro w'; go_simp; with_reducible rfl
           rotate_left
           · simp only [Act.put, q1, q2, q3, i64_w, i32_w]; rfl
           refine pure_ (i := 27) (N := some 87) (v := ?_) (a' := ?_) #[true, true, true, true, true, true, true, true, true, true, true, true, true, true, true, true, true, true, true, true, true, true, true, true, true, true, true, true, false, false, false] rfl rfl (any_of HT_.out (by kernel_rfl)) (fun _ _ _ h => h) (Or.inl ⟨by rfl, ?_⟩) ?_ ?_
           rotate_left
           · intro w'; go_simp; with_reducible rfl
           rotate_left
           · simp only [Act.put, q1, q2, q3, i64_w, i32_w]; rfl
           refine take_ (i := 28) (N := some 88) (v := ?_) (a' := ?_) #[true, true, true, true, true, true, true, true, true, true, true, true, true, true, true, true, true, true, true, true, true, true, true, true, true, true, true, true, true, false, false] rfl rfl (take_ofW HT_.out HW_.out (by kernel_rfl)) (fun _ _ _ h => h) (Or.inl ⟨by rfl, ?_⟩) hHeld ?_ ?_
           rotate_left
           · rintro w' ⟨s0, s1, s2, s3, s4, s5, s6, s7, s8, s9, s10, s11, s12, s13, s14, s15, s16, s17, s18, s19, s20, s21, s22, s23, s24, s25, s26, s27, s28, s29, s30, s31, s32, s33, s34, s35, s36, s37, s38, s39, s40, s41⟩; go_simp; with_reducible rfl
           rotate_left
           · simp only [Act.put, q1, q2, q3, i64_w, i32_w]; rfl
           refine pure_ (i := 29) (N := some 89) (v := ?_) (a' := ?_) #[true, true, true, true, true, true, true, true, true, true, true, true, true, true, true, true, true, true, true, true, true, true, true, true, true, true, true, true, true, true, false] rfl rfl (any_of HT_.out (by kernel_rfl)) (fun _ _ _ h => h) (Or.inl ⟨by rfl, ?_⟩) ?_ ?_
           rotate_left
           · intro w'; go_simp; with_reducible rfl
           rotate_left
           · simp only [Act.put, q1, q2, q3, i64_w, i32_w]; rfl
           refine pure_ (i := 30) (N := some 90) (v := ?_) (a' := ?_) #[true, true, true, true, true, true, true, true, true, true, true, true, true, true, true, true, true, true, true, true, true, true, true, true, true, true, true, true, true, true, true] rfl rfl (any_of HT_.out (by kernel_rfl)) (fun _ _ _ h => h) (Or.inl ⟨by rfl, ?_⟩) ?_ ?_
           rotate_left
           · intro w'; go_simp; with_reducible rfl
           rotate_left
           · simp only [Act.put, q1, q2, q3, i64_w, i32_w]; rfl
           refine done_ (done_of HT_.out (by kernel_rfl)) ?_
           try go_wp2
           go_roundg k2
           case measure => have := HJ2.out; have := HK2.out; omega
           case rel => exact ⟨(wrap64 (x5_2 + 1)), (by first | rfl | (simp; done) | (simp [*]; done)), H', ⟨by have := HJ2.out; have := HK2.out; omega⟩, ⟨by (with_reducible repeat (first | refine blk_drewN ?_ _ | refine blk_drew ?_ | refine blk_alloc ?_ _)); exact BK262.out⟩, ⟨by (with_reducible repeat (first | refine blk_drewN ?_ _ | refine blk_drew ?_ | refine blk_alloc ?_ _)); exact BK263.out⟩, ⟨by repeat (first | (with_reducible first | exact HB.out | apply below_alloc | apply pw_below_drewN | apply below_drew1 | refine below_set ?_ GE262.out | refine below_set ?_ GE263.out) | exact HB.out)⟩⟩
          ·
           rw [if_neg c43] at H
           have c43b0 : (((rd_T81 l0_0 x5_2).f1.f0).toList == ((rd_T81 l1_0 x5_2).f1.f0).toList) = false := beq_eq_false_iff_ne.mpr c43
           have c43b1 : (((rd_T81 l0_0 x5_2).f1.f0).toList != ((rd_T81 l1_0 x5_2).f1.f0).toList) = true := bne_iff_ne.mpr c43
           obtain rfl := Option.some.inj H
           have hnb48 := NB262_263.out
           have hnc48 := NB263_262.out
           have hcz49_0 : wr.cell? ⟨gb262, 0, none⟩ = some (.slice A0_0 l0_0.length c0_0) := (blk_cell BK262.out 0).trans rfl
           have hcz49_1 : wr.cell? ⟨gb262, 1, none⟩ = some (.string a0_1) := (blk_cell BK262.out 1).trans rfl
           have hcz49_2 : wr.cell? ⟨gb262, 2, none⟩ = some (.int .i64 a0_2) := (blk_cell BK262.out 2).trans rfl
           have hcz49_3 : wr.cell? ⟨gb262, 3, none⟩ = some (.string a0_3) := (blk_cell BK262.out 3).trans rfl
           have hcz49_4 : wr.cell? ⟨gb262, 4, none⟩ = some (.int .i64 a0_4) := (blk_cell BK262.out 4).trans rfl
           have hcz49_5 : wr.cell? ⟨gb262, 5, none⟩ = some (.slice A0_5 l0_5.length c0_5) := (blk_cell BK262.out 5).trans rfl
           have hcz49_6 : wr.cell? ⟨gb262, 6, none⟩ = some (.int .i64 a0_6) := (blk_cell BK262.out 6).trans rfl
           have hcz49_7 : wr.cell? ⟨gb262, 7, none⟩ = some (.int .i64 a0_7) := (blk_cell BK262.out 7).trans rfl
           have hcz49_8 : wr.cell? ⟨gb262, 8, none⟩ = some (.int .i64 a0_8) := (blk_cell BK262.out 8).trans rfl
           have hcz49_9 : wr.cell? ⟨gb262, 9, none⟩ = some (.slice A0_9 l0_9.length c0_9) := (blk_cell BK262.out 9).trans rfl
           have hcz49_10 : wr.cell? ⟨gb262, 10, none⟩ = some (.int .u8 a0_10) := (blk_cell BK262.out 10).trans rfl
           have hcz49_11 : wr.cell? ⟨gb262, 11, none⟩ = some (.int .i64 a0_11) := (blk_cell BK262.out 11).trans rfl
           have hcz49_12 : wr.cell? ⟨gb262, 12, none⟩ = some (.int .i64 a0_12) := (blk_cell BK262.out 12).trans rfl
           have hfz49_0 := blk_frozen BK262.out 0
           have hfz49_1 := blk_frozen BK262.out 1
           have hfz49_2 := blk_frozen BK262.out 2
           have hfz49_3 := blk_frozen BK262.out 3
           have hfz49_4 := blk_frozen BK262.out 4
           have hfz49_5 := blk_frozen BK262.out 5
           have hfz49_6 := blk_frozen BK262.out 6
           have hfz49_7 := blk_frozen BK262.out 7
           have hfz49_8 := blk_frozen BK262.out 8
           have hfz49_9 := blk_frozen BK262.out 9
           have hfz49_10 := blk_frozen BK262.out 10
           have hfz49_11 := blk_frozen BK262.out 11
           have hfz49_12 := blk_frozen BK262.out 12
           try go_wp2
           have n0_ := Aside0.mk (blk_drew BK262.out)
           have n1_ := Aside0.mk (blk_drew BK263.out)
           have n2_ := Aside0.mk (below_drew1 HB.out)
           clear BK262
           clear BK263
           clear HB
           have BK262 := n0_
           have BK263 := n1_
           have HB := n2_
           clear n0_ n1_ n2_
           have p265 : 0 ≤ (x5_2 : Int) := of_decide_eq_true (by first | (with_reducible assumption) | assumption)
           have q265 : x5_2 < (l0_0.length : Int) := of_decide_eq_true (by first | (with_reducible assumption) | assumption)
           obtain ⟨ad265, A265_0, c265_0, e265, hx265_0, hx265_1, hx265_2, hx265_3, hl265_0, hi265_0⟩ := at_T81 HR0_0.out x5_2 p265 q265
           have hw265_3 := hx265_3
           have hw265_2 := hx265_2
           have hw265_1 := hx265_1
           have hw265_0 := hx265_0
           cases e265
           replace hx265_0 := (HB.out.cell (World.block_lt_of_cell? w _ hx265_0)).trans hx265_0
           replace hx265_1 := (HB.out.cell (World.block_lt_of_cell? w _ hx265_1)).trans hx265_1
           replace hx265_2 := (HB.out.cell (World.block_lt_of_cell? w _ hx265_2)).trans hx265_2
           replace hx265_3 := (HB.out.cell (World.block_lt_of_cell? w _ hx265_3)).trans hx265_3
           have HR265_0 := Aside0.mk hi265_0
           have HC265_0 := Aside0.mk hl265_0
           clear hi265_0 hl265_0
           replace p265 := eq_true p265
           replace q265 := eq_true q265
           have p266 : 0 ≤ (x5_2 : Int) := of_decide_eq_true (by first | (with_reducible assumption) | assumption)
           have q266 : x5_2 < (l1_0.length : Int) := of_decide_eq_true (by first | (with_reducible assumption) | assumption)
           obtain ⟨ad266, A266_0, c266_0, e266, hx266_0, hx266_1, hx266_2, hx266_3, hl266_0, hi266_0⟩ := at_T81 HR1_0.out x5_2 p266 q266
           have hw266_3 := hx266_3
           have hw266_2 := hx266_2
           have hw266_1 := hx266_1
           have hw266_0 := hx266_0
           cases e266
           replace hx266_0 := (HB.out.cell (World.block_lt_of_cell? w _ hx266_0)).trans hx266_0
           replace hx266_1 := (HB.out.cell (World.block_lt_of_cell? w _ hx266_1)).trans hx266_1
           replace hx266_2 := (HB.out.cell (World.block_lt_of_cell? w _ hx266_2)).trans hx266_2
           replace hx266_3 := (HB.out.cell (World.block_lt_of_cell? w _ hx266_3)).trans hx266_3
           have HR266_0 := Aside0.mk hi266_0
           have HC266_0 := Aside0.mk hl266_0
           clear hi266_0 hl266_0
           replace p266 := eq_true p266
           replace q266 := eq_true q266
           have p268 : 0 ≤ (x5_2 : Int) := of_decide_eq_true (by first | (with_reducible assumption) | assumption)
           have q268 : x5_2 < (l0_0.length : Int) := of_decide_eq_true (by first | (with_reducible assumption) | assumption)
           obtain ⟨ad268, A268_0, c268_0, e268, hx268_0, hx268_1, hx268_2, hx268_3, hl268_0, hi268_0⟩ := at_T81 HR0_0.out x5_2 p268 q268
           have hw268_3 := hx268_3
           have hw268_2 := hx268_2
           have hw268_1 := hx268_1
           have hw268_0 := hx268_0
           obtain rfl : ad265 = ad268 := (by injection e268)
           replace hx268_0 := (HB.out.cell (World.block_lt_of_cell? w _ hx268_0)).trans hx268_0
           replace hx268_1 := (HB.out.cell (World.block_lt_of_cell? w _ hx268_1)).trans hx268_1
           replace hx268_2 := (HB.out.cell (World.block_lt_of_cell? w _ hx268_2)).trans hx268_2
           replace hx268_3 := (HB.out.cell (World.block_lt_of_cell? w _ hx268_3)).trans hx268_3
           have HR268_0 := Aside0.mk hi268_0
           have HC268_0 := Aside0.mk hl268_0
           clear hi268_0 hl268_0
           replace p268 := eq_true p268
           replace q268 := eq_true q268
           have p269 : 0 ≤ (x5_2 : Int) := of_decide_eq_true (by first | (with_reducible assumption) | assumption)
           have q269 : x5_2 < (l1_0.length : Int) := of_decide_eq_true (by first | (with_reducible assumption) | assumption)
           obtain ⟨ad269, A269_0, c269_0, e269, hx269_0, hx269_1, hx269_2, hx269_3, hl269_0, hi269_0⟩ := at_T81 HR1_0.out x5_2 p269 q269
           have hw269_3 := hx269_3
           have hw269_2 := hx269_2
           have hw269_1 := hx269_1
           have hw269_0 := hx269_0
           obtain rfl : ad266 = ad269 := (by injection e269)
           replace hx269_0 := (HB.out.cell (World.block_lt_of_cell? w _ hx269_0)).trans hx269_0
           replace hx269_1 := (HB.out.cell (World.block_lt_of_cell? w _ hx269_1)).trans hx269_1
           replace hx269_2 := (HB.out.cell (World.block_lt_of_cell? w _ hx269_2)).trans hx269_2
           replace hx269_3 := (HB.out.cell (World.block_lt_of_cell? w _ hx269_3)).trans hx269_3
           have HR269_0 := Aside0.mk hi269_0
           have HC269_0 := Aside0.mk hl269_0
           clear hi269_0 hl269_0
           replace p269 := eq_true p269
           replace q269 := eq_true q269
           refine start_ (n := 31) (S := fun w' => w'.cell? ⟨gb262, 0, none⟩ = some (.slice (some ad265) l0_0.length c0_0) ∧ w'.cell? ⟨gb262, 1, none⟩ = some (.string a0_1) ∧ w'.cell? ⟨gb262, 2, none⟩ = some (.int .i64 a0_2) ∧ w'.cell? ⟨gb262, 3, none⟩ = some (.string a0_3) ∧ w'.cell? ⟨gb262, 4, none⟩ = some (.int .i64 a0_4) ∧ w'.cell? ⟨gb262, 5, none⟩ = some (.slice A0_5 l0_5.length c0_5) ∧ w'.cell? ⟨gb262, 6, none⟩ = some (.int .i64 a0_6) ∧ w'.cell? ⟨gb262, 7, none⟩ = some (.int .i64 a0_7) ∧ w'.cell? ⟨gb262, 8, none⟩ = some (.int .i64 a0_8) ∧ w'.cell? ⟨gb262, 9, none⟩ = some (.slice A0_9 l0_9.length c0_9) ∧ w'.cell? ⟨gb262, 10, none⟩ = some (.int .u8 a0_10) ∧ w'.cell? ⟨gb262, 11, none⟩ = some (.int .i64 a0_11) ∧ w'.cell? ⟨gb262, 12, none⟩ = some (.int .i64 a0_12) ∧ w'.cell? ⟨gb263, 0, none⟩ = some (.slice (some ad266) l1_0.length c1_0) ∧ w'.cell? ⟨gb263, 1, none⟩ = some (.string a1_1) ∧ w'.cell? ⟨gb263, 2, none⟩ = some (.int .i64 a1_2) ∧ w'.cell? ⟨gb263, 3, none⟩ = some (.string a1_3) ∧ w'.cell? ⟨gb263, 4, none⟩ = some (.int .i64 a1_4) ∧ w'.cell? ⟨gb263, 5, none⟩ = some (.slice A1_5 l1_5.length c1_5) ∧ w'.cell? ⟨gb263, 6, none⟩ = some (.int .i64 a1_6) ∧ w'.cell? ⟨gb263, 7, none⟩ = some (.int .i64 a1_7) ∧ w'.cell? ⟨gb263, 8, none⟩ = some (.int .i64 a1_8) ∧ w'.cell? ⟨gb263, 9, none⟩ = some (.slice A1_9 l1_9.length c1_9) ∧ w'.cell? ⟨gb263, 10, none⟩ = some (.int .u8 a1_10) ∧ w'.cell? ⟨gb263, 11, none⟩ = some (.int .i64 a1_11) ∧ w'.cell? ⟨gb263, 12, none⟩ = some (.int .i64 a1_12) ∧ w'.cell? (ad265.add ((x5_2).toNat * 4)) = some (.slice A265_0 ((rd_T81 l0_0 x5_2).f0).length c265_0) ∧ w'.cell? ⟨(ad265.add ((x5_2).toNat * 4)).block, (ad265.add ((x5_2).toNat * 4)).off + 1, none⟩ = some (.string ((rd_T81 l0_0 x5_2).f1.f0)) ∧ w'.cell? ⟨(ad265.add ((x5_2).toNat * 4)).block, (ad265.add ((x5_2).toNat * 4)).off + 2, none⟩ = some (.int .i64 ((rd_T81 l0_0 x5_2).f1.f1)) ∧ w'.cell? ⟨(ad265.add ((x5_2).toNat * 4)).block, (ad265.add ((x5_2).toNat * 4)).off + 3, none⟩ = some (.int .i64 ((rd_T81 l0_0 x5_2).f2)) ∧ w'.cell? (ad266.add ((x5_2).toNat * 4)) = some (.slice A266_0 ((rd_T81 l1_0 x5_2).f0).length c266_0) ∧ w'.cell? ⟨(ad266.add ((x5_2).toNat * 4)).block, (ad266.add ((x5_2).toNat * 4)).off + 1, none⟩ = some (.string ((rd_T81 l1_0 x5_2).f1.f0)) ∧ w'.cell? ⟨(ad266.add ((x5_2).toNat * 4)).block, (ad266.add ((x5_2).toNat * 4)).off + 2, none⟩ = some (.int .i64 ((rd_T81 l1_0 x5_2).f1.f1)) ∧ w'.cell? ⟨(ad266.add ((x5_2).toNat * 4)).block, (ad266.add ((x5_2).toNat * 4)).off + 3, none⟩ = some (.int .i64 ((rd_T81 l1_0 x5_2).f2)) ∧ w'.cell? (ad265.add ((x5_2).toNat * 4)) = some (.slice A268_0 ((rd_T81 l0_0 x5_2).f0).length c268_0) ∧ w'.cell? ⟨(ad265.add ((x5_2).toNat * 4)).block, (ad265.add ((x5_2).toNat * 4)).off + 1, none⟩ = some (.string ((rd_T81 l0_0 x5_2).f1.f0)) ∧ w'.cell? ⟨(ad265.add ((x5_2).toNat * 4)).block, (ad265.add ((x5_2).toNat * 4)).off + 2, none⟩ = some (.int .i64 ((rd_T81 l0_0 x5_2).f1.f1)) ∧ w'.cell? ⟨(ad265.add ((x5_2).toNat * 4)).block, (ad265.add ((x5_2).toNat * 4)).off + 3, none⟩ = some (.int .i64 ((rd_T81 l0_0 x5_2).f2)) ∧ w'.cell? (ad266.add ((x5_2).toNat * 4)) = some (.slice A269_0 ((rd_T81 l1_0 x5_2).f0).length c269_0) ∧ w'.cell? ⟨(ad266.add ((x5_2).toNat * 4)).block, (ad266.add ((x5_2).toNat * 4)).off + 1, none⟩ = some (.string ((rd_T81 l1_0 x5_2).f1.f0)) ∧ w'.cell? ⟨(ad266.add ((x5_2).toNat * 4)).block, (ad266.add ((x5_2).toNat * 4)).off + 2, none⟩ = some (.int .i64 ((rd_T81 l1_0 x5_2).f1.f1)) ∧ w'.cell? ⟨(ad266.add ((x5_2).toNat * 4)).block, (ad266.add ((x5_2).toNat * 4)).off + 3, none⟩ = some (.int .i64 ((rd_T81 l1_0 x5_2).f2))) (ds := []) #[false, false, false, false, false, false, false, false, false, false, false, false, false, false, false, false, false, false, false, false, false, false, false, false, false, false, false, false, false, false, false] (by kernel_rfl) rfl rfl ⟨(blk_cell BK262.out 0).trans rfl, (blk_cell BK262.out 1).trans rfl, (blk_cell BK262.out 2).trans rfl, (blk_cell BK262.out 3).trans rfl, (blk_cell BK262.out 4).trans rfl, (blk_cell BK262.out 5).trans rfl, (blk_cell BK262.out 6).trans rfl, (blk_cell BK262.out 7).trans rfl, (blk_cell BK262.out 8).trans rfl, (blk_cell BK262.out 9).trans rfl, (blk_cell BK262.out 10).trans rfl, (blk_cell BK262.out 11).trans rfl, (blk_cell BK262.out 12).trans rfl, (blk_cell BK263.out 0).trans rfl, (blk_cell BK263.out 1).trans rfl, (blk_cell BK263.out 2).trans rfl, (blk_cell BK263.out 3).trans rfl, (blk_cell BK263.out 4).trans rfl, (blk_cell BK263.out 5).trans rfl, (blk_cell BK263.out 6).trans rfl, (blk_cell BK263.out 7).trans rfl, (blk_cell BK263.out 8).trans rfl, (blk_cell BK263.out 9).trans rfl, (blk_cell BK263.out 10).trans rfl, (blk_cell BK263.out 11).trans rfl, (blk_cell BK263.out 12).trans rfl, ((HB.out.cell (World.block_lt_of_cell? w _ hw265_0)).trans hw265_0), ((HB.out.cell (World.block_lt_of_cell? w _ hw265_1)).trans hw265_1), ((HB.out.cell (World.block_lt_of_cell? w _ hw265_2)).trans hw265_2), ((HB.out.cell (World.block_lt_of_cell? w _ hw265_3)).trans hw265_3), ((HB.out.cell (World.block_lt_of_cell? w _ hw266_0)).trans hw266_0), ((HB.out.cell (World.block_lt_of_cell? w _ hw266_1)).trans hw266_1), ((HB.out.cell (World.block_lt_of_cell? w _ hw266_2)).trans hw266_2), ((HB.out.cell (World.block_lt_of_cell? w _ hw266_3)).trans hw266_3), ((HB.out.cell (World.block_lt_of_cell? w _ hw268_0)).trans hw268_0), ((HB.out.cell (World.block_lt_of_cell? w _ hw268_1)).trans hw268_1), ((HB.out.cell (World.block_lt_of_cell? w _ hw268_2)).trans hw268_2), ((HB.out.cell (World.block_lt_of_cell? w _ hw268_3)).trans hw268_3), ((HB.out.cell (World.block_lt_of_cell? w _ hw269_0)).trans hw269_0), ((HB.out.cell (World.block_lt_of_cell? w _ hw269_1)).trans hw269_1), ((HB.out.cell (World.block_lt_of_cell? w _ hw269_2)).trans hw269_2), ((HB.out.cell (World.block_lt_of_cell? w _ hw269_3)).trans hw269_3)⟩ (fun hHeld => ?_); refine with_tabW weirref13_Alike.tab6 weirref13_Alike.bits6 (fun HT_ HW_ => ?_)
           generalize wr.drew = w50 at BK262 BK263 HB HR265_0 HR266_0 HR268_0 HR269_0 hx265_0 hx265_1 hx265_2 hx265_3 hx266_0 hx266_1 hx266_2 hx266_3 hx268_0 hx268_1 hx268_2 hx268_3 hx269_0 hx269_1 hx269_2 hx269_3 hHeld ⊢
           refine pure_ (i := 0) (N := some 60) (v := ?_) (a' := ?_) #[true, false, false, false, false, false, false, false, false, false, false, false, false, false, false, false, false, false, false, false, false, false, false, false, false, false, false, false, false, false, false] rfl rfl (any_of HT_.out (by kernel_rfl)) (fun _ _ _ h => h) (Or.inl ⟨by rfl, ?_⟩) ?_ ?_
           rotate_left
           · intro w'; go_simp; with_reducible rfl
           rotate_left
           · simp only [Act.put, q1, q2, q3, i64_w, i32_w]; rfl
           refine pure_ (i := 2) (N := some 62) (v := ?_) (a' := ?_) #[true, false, true, false, false, false, false, false, false, false, false, false, false, false, false, false, false, false, false, false, false, false, false, false, false, false, false, false, false, false, false] rfl rfl (any_of HT_.out (by kernel_rfl)) (fun _ _ _ h => h) (Or.inl ⟨by rfl, ?_⟩) ?_ ?_
           rotate_left
           · intro w'; go_simp; with_reducible rfl
           rotate_left
           · simp only [Act.put, q1, q2, q3, i64_w, i32_w]; rfl
           refine pure_ (i := 6) (N := some 66) (v := ?_) (a' := ?_) #[true, false, true, false, false, false, true, false, false, false, false, false, false, false, false, false, false, false, false, false, false, false, false, false, false, false, false, false, false, false, false] rfl rfl (any_of HT_.out (by kernel_rfl)) (fun _ _ _ h => h) (Or.inl ⟨by rfl, ?_⟩) ?_ ?_
           rotate_left
           · intro w'; go_simp; with_reducible rfl
           rotate_left
           · simp only [Act.put, q1, q2, q3, i64_w, i32_w]; rfl
           refine pure_ (i := 8) (N := some 68) (v := ?_) (a' := ?_) #[true, false, true, false, false, false, true, false, true, false, false, false, false, false, false, false, false, false, false, false, false, false, false, false, false, false, false, false, false, false, false] rfl rfl (any_of HT_.out (by kernel_rfl)) (fun _ _ _ h => h) (Or.inl ⟨by rfl, ?_⟩) ?_ ?_
           rotate_left
           · intro w'; go_simp; with_reducible rfl
           rotate_left
           · simp only [Act.put, q1, q2, q3, i64_w, i32_w]; rfl
           refine take_ (i := 1) (N := some 61) (v := ?_) (a' := ?_) #[true, true, true, false, false, false, true, false, true, false, false, false, false, false, false, false, false, false, false, false, false, false, false, false, false, false, false, false, false, false, false] rfl rfl (take_ofW HT_.out HW_.out (by kernel_rfl)) (fun _ _ _ h => h) (Or.inl ⟨by rfl, ?_⟩) hHeld ?_ ?_
           rotate_left
           · rintro w' ⟨s0, s1, s2, s3, s4, s5, s6, s7, s8, s9, s10, s11, s12, s13, s14, s15, s16, s17, s18, s19, s20, s21, s22, s23, s24, s25, s26, s27, s28, s29, s30, s31, s32, s33, s34, s35, s36, s37, s38, s39, s40, s41⟩; go_simp; with_reducible rfl
           rotate_left
           · simp only [Act.put, q1, q2, q3, i64_w, i32_w]; rfl
           refine pure_ (i := 3) (N := some 63) (v := ?_) (a' := ?_) #[true, true, true, true, false, false, true, false, true, false, false, false, false, false, false, false, false, false, false, false, false, false, false, false, false, false, false, false, false, false, false] rfl rfl (any_of HT_.out (by kernel_rfl)) (fun _ _ _ h => h) (Or.inl ⟨by rfl, ?_⟩) ?_ ?_
           rotate_left
           · intro w'; go_simp; with_reducible rfl
           rotate_left
           · simp only [Act.put, q1, q2, q3, i64_w, i32_w]; rfl
           refine pure_ (i := 4) (N := some 64) (v := ?_) (a' := ?_) #[true, true, true, true, true, false, true, false, true, false, false, false, false, false, false, false, false, false, false, false, false, false, false, false, false, false, false, false, false, false, false] rfl rfl (any_of HT_.out (by kernel_rfl)) (fun _ _ _ h => h) (Or.inl ⟨by rfl, ?_⟩) ?_ ?_
           rotate_left
           · intro w'; go_simp; with_reducible rfl
           rotate_left
           · simp only [Act.put, q1, q2, q3, i64_w, i32_w]; rfl
           refine take_ (i := 5) (N := some 65) (v := ?_) (a' := ?_) #[true, true, true, true, true, true, true, false, true, false, false, false, false, false, false, false, false, false, false, false, false, false, false, false, false, false, false, false, false, false, false] rfl rfl (take_ofW HT_.out HW_.out (by kernel_rfl)) (fun _ _ _ h => h) (Or.inl ⟨by rfl, ?_⟩) hHeld ?_ ?_
           rotate_left
           · rintro w' ⟨s0, s1, s2, s3, s4, s5, s6, s7, s8, s9, s10, s11, s12, s13, s14, s15, s16, s17, s18, s19, s20, s21, s22, s23, s24, s25, s26, s27, s28, s29, s30, s31, s32, s33, s34, s35, s36, s37, s38, s39, s40, s41⟩; go_simp; with_reducible rfl
           rotate_left
           · simp only [Act.put, q1, q2, q3, i64_w, i32_w]; rfl
           refine take_ (i := 7) (N := some 67) (v := ?_) (a' := ?_) #[true, true, true, true, true, true, true, true, true, false, false, false, false, false, false, false, false, false, false, false, false, false, false, false, false, false, false, false, false, false, false] rfl rfl (take_ofW HT_.out HW_.out (by kernel_rfl)) (fun _ _ _ h => h) (Or.inl ⟨by rfl, ?_⟩) hHeld ?_ ?_
           rotate_left
           · rintro w' ⟨s0, s1, s2, s3, s4, s5, s6, s7, s8, s9, s10, s11, s12, s13, s14, s15, s16, s17, s18, s19, s20, s21, s22, s23, s24, s25, s26, s27, s28, s29, s30, s31, s32, s33, s34, s35, s36, s37, s38, s39, s40, s41⟩; go_simp; with_reducible rfl
           rotate_left
           · simp only [Act.put, q1, q2, q3, i64_w, i32_w]; rfl
           refine pure_ (i := 9) (N := some 69) (v := ?_) (a' := ?_) #[true, true, true, true, true, true, true, true, true, true, false, false, false, false, false, false, false, false, false, false, false, false, false, false, false, false, false, false, false, false, false] rfl rfl (any_of HT_.out (by kernel_rfl)) (fun _ _ _ h => h) (Or.inl ⟨by rfl, ?_⟩) ?_ ?_
           rotate_left
           · intro w'; go_simp; with_reducible rfl
           rotate_left
           · simp only [Act.put, q1, q2, q3, i64_w, i32_w]; rfl
           refine pure_ (i := 10) (N := some 70) (v := ?_) (a' := ?_) #[true, true, true, true, true, true, true, true, true, true, true, false, false, false, false, false, false, false, false, false, false, false, false, false, false, false, false, false, false, false, false] rfl rfl (any_of HT_.out (by kernel_rfl)) (fun _ _ _ h => h) (Or.inl ⟨by rfl, ?_⟩) ?_ ?_
           rotate_left
           · intro w'; go_simp; with_reducible rfl
           rotate_left
           · simp only [Act.put, q1, q2, q3, i64_w, i32_w]; rfl
           refine take_ (i := 11) (N := some 71) (v := ?_) (a' := ?_) #[true, true, true, true, true, true, true, true, true, true, true, true, false, false, false, false, false, false, false, false, false, false, false, false, false, false, false, false, false, false, false] rfl rfl (take_ofW HT_.out HW_.out (by kernel_rfl)) (fun _ _ _ h => h) (Or.inl ⟨by rfl, ?_⟩) hHeld ?_ ?_
           rotate_left
           · rintro w' ⟨s0, s1, s2, s3, s4, s5, s6, s7, s8, s9, s10, s11, s12, s13, s14, s15, s16, s17, s18, s19, s20, s21, s22, s23, s24, s25, s26, s27, s28, s29, s30, s31, s32, s33, s34, s35, s36, s37, s38, s39, s40, s41⟩; go_simp; with_reducible rfl
           rotate_left
           · simp only [Act.put, q1, q2, q3, i64_w, i32_w]; rfl
           refine one_ (i := 12) (N := some 72) #[true, true, true, true, true, true, true, true, true, true, true, true, true, false, false, false, false, false, false, false, false, false, false, false, false, false, false, false, false, false, false] rfl rfl (one_of HT_.out (by kernel_rfl)) (by decide) (fun K hK => ?_)
           refine goes_ Tryz.func24 (by kernel_rfl) rfl #[.slice A265_0 ((rd_T81 l0_0 x5_2).f0).length c265_0, .slice A266_0 ((rd_T81 l1_0 x5_2).f0).length c266_0] (by rfl) rfl rfl (by (try simp only [q4, q5, q6]); first | done | rfl | (simp only [List.length_drop, List.length_take]; rfl)) ?_
           with_reducible refine (weirtree_Same.calls _ _ ((rd_T81 l0_0 x5_2).f0) _ _ ((rd_T81 l1_0 x5_2).f0) true _ ?side1 ?side2 ?side3 ?side4 A41.out).mono ?_
           (case side1 => repeat (first | exact (Kd.C_below HR265_0.out HB.out) | (with_reducible refine Kd.C_alloc ?_ _) | (with_reducible refine Kd.C_drewN ?_ _) | (with_reducible refine Kd.C_drew ?_)))
           (case side2 => exact HC265_0.out)
           (case side3 => repeat (first | exact (Kd.C_below HR266_0.out HB.out) | (with_reducible refine Kd.C_alloc ?_ _) | (with_reducible refine Kd.C_drewN ?_ _) | (with_reducible refine Kd.C_drew ?_)))
           (case side4 => exact HC266_0.out)
           rintro e w51 ⟨rfl, hb⟩
           refine ⟨_, rfl, ?_⟩
           have n0_ := Aside0.mk (blk_below (g := gb262) (o := .cells #[.slice (some ad265) l0_0.length c0_0, .string a0_1, .int .i64 a0_2, .string a0_3, .int .i64 a0_4, .slice A0_5 l0_5.length c0_5, .int .i64 a0_6, .int .i64 a0_7, .int .i64 a0_8, .slice A0_9 l0_9.length c0_9, .int .u8 a0_10, .int .i64 a0_11, .int .i64 a0_12] 43 (0, 0)) (by (with_reducible repeat (first | refine blk_drewN ?_ _ | refine blk_drew ?_ | refine blk_alloc ?_ _)); exact BK262.out) hb)
           have n1_ := Aside0.mk (blk_below (g := gb263) (o := .cells #[.slice (some ad266) l1_0.length c1_0, .string a1_1, .int .i64 a1_2, .string a1_3, .int .i64 a1_4, .slice A1_5 l1_5.length c1_5, .int .i64 a1_6, .int .i64 a1_7, .int .i64 a1_8, .slice A1_9 l1_9.length c1_9, .int .u8 a1_10, .int .i64 a1_11, .int .i64 a1_12] 43 (0, 0)) (by (with_reducible repeat (first | refine blk_drewN ?_ _ | refine blk_drew ?_ | refine blk_alloc ?_ _)); exact BK263.out) hb)
           have n2_ := Aside0.mk (below_step (by repeat (first | (with_reducible first | exact HB.out | apply below_alloc | apply pw_below_drewN | apply below_drew1 | refine below_set ?_ GE262.out | refine below_set ?_ GE263.out) | exact HB.out)) hb)
           clear BK262
           clear BK263
           clear HB
           have BK262 := n0_
           have BK263 := n1_
           have HB := n2_
           clear n0_ n1_ n2_
           (try clear hb)
           (try clear hb2)
           (try clear hk)
           (try clear hi)
           refine hK.out _ _ ⟨(blk_cell BK262.out 0).trans rfl, (blk_cell BK262.out 1).trans rfl, (blk_cell BK262.out 2).trans rfl, (blk_cell BK262.out 3).trans rfl, (blk_cell BK262.out 4).trans rfl, (blk_cell BK262.out 5).trans rfl, (blk_cell BK262.out 6).trans rfl, (blk_cell BK262.out 7).trans rfl, (blk_cell BK262.out 8).trans rfl, (blk_cell BK262.out 9).trans rfl, (blk_cell BK262.out 10).trans rfl, (blk_cell BK262.out 11).trans rfl, (blk_cell BK262.out 12).trans rfl, (blk_cell BK263.out 0).trans rfl, (blk_cell BK263.out 1).trans rfl, (blk_cell BK263.out 2).trans rfl, (blk_cell BK263.out 3).trans rfl, (blk_cell BK263.out 4).trans rfl, (blk_cell BK263.out 5).trans rfl, (blk_cell BK263.out 6).trans rfl, (blk_cell BK263.out 7).trans rfl, (blk_cell BK263.out 8).trans rfl, (blk_cell BK263.out 9).trans rfl, (blk_cell BK263.out 10).trans rfl, (blk_cell BK263.out 11).trans rfl, (blk_cell BK263.out 12).trans rfl, ((HB.out.cell (World.block_lt_of_cell? w _ hw265_0)).trans hw265_0), ((HB.out.cell (World.block_lt_of_cell? w _ hw265_1)).trans hw265_1), ((HB.out.cell (World.block_lt_of_cell? w _ hw265_2)).trans hw265_2), ((HB.out.cell (World.block_lt_of_cell? w _ hw265_3)).trans hw265_3), ((HB.out.cell (World.block_lt_of_cell? w _ hw266_0)).trans hw266_0), ((HB.out.cell (World.block_lt_of_cell? w _ hw266_1)).trans hw266_1), ((HB.out.cell (World.block_lt_of_cell? w _ hw266_2)).trans hw266_2), ((HB.out.cell (World.block_lt_of_cell? w _ hw266_3)).trans hw266_3), ((HB.out.cell (World.block_lt_of_cell? w _ hw268_0)).trans hw268_0), ((HB.out.cell (World.block_lt_of_cell? w _ hw268_1)).trans hw268_1), ((HB.out.cell (World.block_lt_of_cell? w _ hw268_2)).trans hw268_2), ((HB.out.cell (World.block_lt_of_cell? w _ hw268_3)).trans hw268_3), ((HB.out.cell (World.block_lt_of_cell? w _ hw269_0)).trans hw269_0), ((HB.out.cell (World.block_lt_of_cell? w _ hw269_1)).trans hw269_1), ((HB.out.cell (World.block_lt_of_cell? w _ hw269_2)).trans hw269_2), ((HB.out.cell (World.block_lt_of_cell? w _ hw269_3)).trans hw269_3)⟩ (fun hHeld => ?_)
           clear hK K
           refine norm_ (a' := ?_) ?_ ?_
           rotate_left
           ·
            show Act.put _ (some 72) _ = _
            simp only [Act.put, q1, q2, q3, i64_w, i32_w]
            rfl
           refine pure_ (i := 13) (N := some 73) (v := ?_) (a' := ?_) #[true, true, true, true, true, true, true, true, true, true, true, true, true, true, false, false, false, false, false, false, false, false, false, false, false, false, false, false, false, false, false] rfl rfl (any_of HT_.out (by kernel_rfl)) (fun _ _ _ h => h) (Or.inl ⟨by rfl, ?_⟩) ?_ ?_
           rotate_left
           · intro w'; go_simp; with_reducible rfl
           rotate_left
           · simp only [Act.put, q1, q2, q3, i64_w, i32_w]; rfl
           refine pure_ (i := 14) (N := some 74) (v := ?_) (a' := ?_) #[true, true, true, true, true, true, true, true, true, true, true, true, true, true, true, false, false, false, false, false, false, false, false, false, false, false, false, false, false, false, false] rfl rfl (any_of HT_.out (by kernel_rfl)) (fun _ _ _ h => h) (Or.inl ⟨by rfl, ?_⟩) ?_ ?_
           rotate_left
           · intro w'; go_simp; with_reducible rfl
           rotate_left
           · simp only [Act.put, q1, q2, q3, i64_w, i32_w]; rfl
           refine pure_ (i := 15) (N := some 75) (v := ?_) (a' := ?_) #[true, true, true, true, true, true, true, true, true, true, true, true, true, true, true, true, false, false, false, false, false, false, false, false, false, false, false, false, false, false, false] rfl rfl (any_of HT_.out (by kernel_rfl)) (fun _ _ _ h => h) (Or.inl ⟨by rfl, ?_⟩) ?_ ?_
           rotate_left
           · intro w'; go_simp; with_reducible rfl
           rotate_left
           · simp only [Act.put, q1, q2, q3, i64_w, i32_w]; rfl
           refine pure_ (i := 17) (N := some 77) (v := ?_) (a' := ?_) #[true, true, true, true, true, true, true, true, true, true, true, true, true, true, true, true, false, true, false, false, false, false, false, false, false, false, false, false, false, false, false] rfl rfl (any_of HT_.out (by kernel_rfl)) (fun _ _ _ h => h) (Or.inl ⟨by rfl, ?_⟩) ?_ ?_
           rotate_left
           · intro w'; go_simp; with_reducible rfl
           rotate_left
           · simp only [Act.put, q1, q2, q3, i64_w, i32_w]; rfl
           refine pure_ (i := 22) (N := some 82) (v := ?_) (a' := ?_) #[true, true, true, true, true, true, true, true, true, true, true, true, true, true, true, true, false, true, false, false, false, false, true, false, false, false, false, false, false, false, false] rfl rfl (any_of HT_.out (by kernel_rfl)) (fun _ _ _ h => h) (Or.inl ⟨by rfl, ?_⟩) ?_ ?_
           rotate_left
           · intro w'; go_simp; with_reducible rfl
           rotate_left
           · simp only [Act.put, q1, q2, q3, i64_w, i32_w]; rfl
           refine pure_ (i := 24) (N := some 84) (v := ?_) (a' := ?_) #[true, true, true, true, true, true, true, true, true, true, true, true, true, true, true, true, false, true, false, false, false, false, true, false, true, false, false, false, false, false, false] rfl rfl (any_of HT_.out (by kernel_rfl)) (fun _ _ _ h => h) (Or.inl ⟨by rfl, ?_⟩) ?_ ?_
           rotate_left
           · intro w'; go_simp; with_reducible rfl
           rotate_left
           · simp only [Act.put, q1, q2, q3, i64_w, i32_w]; rfl
           refine take_ (i := 16) (N := some 76) (v := ?_) (a' := ?_) #[true, true, true, true, true, true, true, true, true, true, true, true, true, true, true, true, true, true, false, false, false, false, true, false, true, false, false, false, false, false, false] rfl rfl (take_ofW HT_.out HW_.out (by kernel_rfl)) (fun _ _ _ h => h) (Or.inl ⟨by rfl, ?_⟩) hHeld ?_ ?_
           rotate_left
           · rintro w' ⟨s0, s1, s2, s3, s4, s5, s6, s7, s8, s9, s10, s11, s12, s13, s14, s15, s16, s17, s18, s19, s20, s21, s22, s23, s24, s25, s26, s27, s28, s29, s30, s31, s32, s33, s34, s35, s36, s37, s38, s39, s40, s41⟩; go_simp; with_reducible rfl
           rotate_left
           · simp only [Act.put, q1, q2, q3, i64_w, i32_w]; rfl
           refine pure_ (i := 18) (N := some 78) (v := ?_) (a' := ?_) #[true, true, true, true, true, true, true, true, true, true, true, true, true, true, true, true, true, true, true, false, false, false, true, false, true, false, false, false, false, false, false] rfl rfl (any_of HT_.out (by kernel_rfl)) (fun _ _ _ h => h) (Or.inl ⟨by rfl, ?_⟩) ?_ ?_
           rotate_left
           · intro w'; go_simp; with_reducible rfl
           rotate_left
           · simp only [Act.put, q1, q2, q3, i64_w, i32_w]; rfl
           refine pure_ (i := 19) (N := some 79) (v := ?_) (a' := ?_) #[true, true, true, true, true, true, true, true, true, true, true, true, true, true, true, true, true, true, true, true, false, false, true, false, true, false, false, false, false, false, false] rfl rfl (any_of HT_.out (by kernel_rfl)) (fun _ _ _ h => h) (Or.inl ⟨by rfl, ?_⟩) ?_ ?_
           rotate_left
           · intro w'; go_simp; with_reducible rfl
           rotate_left
           · simp only [Act.put, q1, q2, q3, i64_w, i32_w]; rfl
           refine pure_ (i := 20) (N := some 80) (v := ?_) (a' := ?_) #[true, true, true, true, true, true, true, true, true, true, true, true, true, true, true, true, true, true, true, true, true, false, true, false, true, false, false, false, false, false, false] rfl rfl (any_of HT_.out (by kernel_rfl)) (fun _ _ _ h => h) (Or.inl ⟨by rfl, ?_⟩) ?_ ?_
           rotate_left
           · intro w'; go_simp; with_reducible rfl
           rotate_left
           · simp only [Act.put, q1, q2, q3, i64_w, i32_w]; rfl
           refine take_ (i := 21) (N := some 81) (v := ?_) (a' := ?_) #[true, true, true, true, true, true, true, true, true, true, true, true, true, true, true, true, true, true, true, true, true, true, true, false, true, false, false, false, false, false, false] rfl rfl (take_ofW HT_.out HW_.out (by kernel_rfl)) (fun _ _ _ h => h) (Or.inl ⟨by rfl, ?_⟩) hHeld ?_ ?_
           rotate_left
           · rintro w' ⟨s0, s1, s2, s3, s4, s5, s6, s7, s8, s9, s10, s11, s12, s13, s14, s15, s16, s17, s18, s19, s20, s21, s22, s23, s24, s25, s26, s27, s28, s29, s30, s31, s32, s33, s34, s35, s36, s37, s38, s39, s40, s41⟩; go_simp; with_reducible rfl
           rotate_left
           · simp only [Act.put, q1, q2, q3, i64_w, i32_w]; rfl
           refine take_ (i := 23) (N := some 83) (v := ?_) (a' := ?_) #[true, true, true, true, true, true, true, true, true, true, true, true, true, true, true, true, true, true, true, true, true, true, true, true, true, false, false, false, false, false, false] rfl rfl (take_ofW HT_.out HW_.out (by kernel_rfl)) (fun _ _ _ h => h) (Or.inl ⟨by rfl, ?_⟩) hHeld ?_ ?_
           rotate_left
           · rintro w' ⟨s0, s1, s2, s3, s4, s5, s6, s7, s8, s9, s10, s11, s12, s13, s14, s15, s16, s17, s18, s19, s20, s21, s22, s23, s24, s25, s26, s27, s28, s29, s30, s31, s32, s33, s34, s35, s36, s37, s38, s39, s40, s41⟩; go_simp; with_reducible rfl
           rotate_left
           · simp only [Act.put, q1, q2, q3, i64_w, i32_w]; rfl
           refine pure_ (i := 25) (N := some 85) (v := ?_) (a' := ?_) #[true, true, true, true, true, true, true, true, true, true, true, true, true, true, true, true, true, true, true, true, true, true, true, true, true, true, false, false, false, false, false] rfl rfl (any_of HT_.out (by kernel_rfl)) (fun _ _ _ h => h) (Or.inl ⟨by rfl, ?_⟩) ?_ ?_
           rotate_left
           · intro w'; go_simp; with_reducible rfl
           rotate_left
           · simp only [Act.put, q1, q2, q3, i64_w, i32_w]; rfl
           refine pure_ (i := 26) (N := some 86) (v := ?_) (a' := ?_) #[true, true, true, true, true, true, true, true, true, true, true, true, true, true, true, true, true, true, true, true, true, true, true, true, true, true, true, false, false, false, false] rfl rfl (any_of HT_.out (by kernel_rfl)) (fun _ _ _ h => h) (Or.inl ⟨by rfl, ?_⟩) ?_ ?_
           rotate_left
           · intro w'; go_simp; with_reducible rfl
           rotate_left
           · simp only [Act.put, q1, q2, q3, i64_w, i32_w]; rfl
           refine pure_ (i := 27) (N := some 87) (v := ?_) (a' := ?_) #[true, true, true, true, true, true, true, true, true, true, true, true, true, true, true, true, true, true, true, true, true, true, true, true, true, true, true, true, false, false, false] rfl rfl (any_of HT_.out (by kernel_rfl)) (fun _ _ _ h => h) (Or.inl ⟨by rfl, ?_⟩) ?_ ?_
           rotate_left
           · intro w'; go_simp; with_reducible rfl
           rotate_left
           · simp only [Act.put, q1, q2, q3, i64_w, i32_w]; rfl
           refine take_ (i := 28) (N := some 88) (v := ?_) (a' := ?_) #[true, true, true, true, true, true, true, true, true, true, true, true, true, true, true, true, true, true, true, true, true, true, true, true, true, true, true, true, true, false, false] rfl rfl (take_ofW HT_.out HW_.out (by kernel_rfl)) (fun _ _ _ h => h) (Or.inl ⟨by rfl, ?_⟩) hHeld ?_ ?_
           rotate_left
           · rintro w' ⟨s0, s1, s2, s3, s4, s5, s6, s7, s8, s9, s10, s11, s12, s13, s14, s15, s16, s17, s18, s19, s20, s21, s22, s23, s24, s25, s26, s27, s28, s29, s30, s31, s32, s33, s34, s35, s36, s37, s38, s39, s40, s41⟩; go_simp; with_reducible rfl
           rotate_left
           · simp only [Act.put, q1, q2, q3, i64_w, i32_w]; rfl
           refine pure_ (i := 29) (N := some 89) (v := ?_) (a' := ?_) #[true, true, true, true, true, true, true, true, true, true, true, true, true, true, true, true, true, true, true, true, true, true, true, true, true, true, true, true, true, true, false] rfl rfl (any_of HT_.out (by kernel_rfl)) (fun _ _ _ h => h) (Or.inl ⟨by rfl, ?_⟩) ?_ ?_
           rotate_left
           · intro w'; go_simp; with_reducible rfl
           rotate_left
           · simp only [Act.put, q1, q2, q3, i64_w, i32_w]; rfl
           refine pure_ (i := 30) (N := some 90) (v := ?_) (a' := ?_) #[true, true, true, true, true, true, true, true, true, true, true, true, true, true, true, true, true, true, true, true, true, true, true, true, true, true, true, true, true, true, true] rfl rfl (any_of HT_.out (by kernel_rfl)) (fun _ _ _ h => h) (Or.inl ⟨by rfl, ?_⟩) ?_ ?_
           rotate_left
           · intro w'; go_simp; with_reducible rfl
           rotate_left
           · simp only [Act.put, q1, q2, q3, i64_w, i32_w]; rfl
           refine done_ (done_of HT_.out (by kernel_rfl)) ?_
           try go_wp2
           go_ret
           exact ⟨by first | rfl | (simp [errW_none, errW_some] <;> rfl) | (simp [*, errW_none, errW_some] <;> rfl), by repeat (first | (with_reducible first | exact HB.out | apply below_alloc | apply pw_below_drewN | apply below_drew1 | refine below_set ?_ GE262.out | refine below_set ?_ GE263.out) | exact HB.out)⟩
         ·
          replace c42 := Bool.eq_false_iff.mpr c42
          subst c42
          have H1 : (some false) = some r := by rw [if_neg (show ¬ (false = true) by decide)] at H; exact H
          clear H
          have H := H1
          clear H1
          obtain rfl := Option.some.inj H
          have hnb52 := NB262_263.out
          have hnc52 := NB263_262.out
          have hcz53_0 : wr.cell? ⟨gb262, 0, none⟩ = some (.slice A0_0 l0_0.length c0_0) := (blk_cell BK262.out 0).trans rfl
          have hcz53_1 : wr.cell? ⟨gb262, 1, none⟩ = some (.string a0_1) := (blk_cell BK262.out 1).trans rfl
          have hcz53_2 : wr.cell? ⟨gb262, 2, none⟩ = some (.int .i64 a0_2) := (blk_cell BK262.out 2).trans rfl
          have hcz53_3 : wr.cell? ⟨gb262, 3, none⟩ = some (.string a0_3) := (blk_cell BK262.out 3).trans rfl
          have hcz53_4 : wr.cell? ⟨gb262, 4, none⟩ = some (.int .i64 a0_4) := (blk_cell BK262.out 4).trans rfl
          have hcz53_5 : wr.cell? ⟨gb262, 5, none⟩ = some (.slice A0_5 l0_5.length c0_5) := (blk_cell BK262.out 5).trans rfl
          have hcz53_6 : wr.cell? ⟨gb262, 6, none⟩ = some (.int .i64 a0_6) := (blk_cell BK262.out 6).trans rfl
          have hcz53_7 : wr.cell? ⟨gb262, 7, none⟩ = some (.int .i64 a0_7) := (blk_cell BK262.out 7).trans rfl
          have hcz53_8 : wr.cell? ⟨gb262, 8, none⟩ = some (.int .i64 a0_8) := (blk_cell BK262.out 8).trans rfl
          have hcz53_9 : wr.cell? ⟨gb262, 9, none⟩ = some (.slice A0_9 l0_9.length c0_9) := (blk_cell BK262.out 9).trans rfl
          have hcz53_10 : wr.cell? ⟨gb262, 10, none⟩ = some (.int .u8 a0_10) := (blk_cell BK262.out 10).trans rfl
          have hcz53_11 : wr.cell? ⟨gb262, 11, none⟩ = some (.int .i64 a0_11) := (blk_cell BK262.out 11).trans rfl
          have hcz53_12 : wr.cell? ⟨gb262, 12, none⟩ = some (.int .i64 a0_12) := (blk_cell BK262.out 12).trans rfl
          have hfz53_0 := blk_frozen BK262.out 0
          have hfz53_1 := blk_frozen BK262.out 1
          have hfz53_2 := blk_frozen BK262.out 2
          have hfz53_3 := blk_frozen BK262.out 3
          have hfz53_4 := blk_frozen BK262.out 4
          have hfz53_5 := blk_frozen BK262.out 5
          have hfz53_6 := blk_frozen BK262.out 6
          have hfz53_7 := blk_frozen BK262.out 7
          have hfz53_8 := blk_frozen BK262.out 8
          have hfz53_9 := blk_frozen BK262.out 9
          have hfz53_10 := blk_frozen BK262.out 10
          have hfz53_11 := blk_frozen BK262.out 11
          have hfz53_12 := blk_frozen BK262.out 12
          try go_wp2
          have n0_ := Aside0.mk (blk_drew BK262.out)
          have n1_ := Aside0.mk (blk_drew BK263.out)
          have n2_ := Aside0.mk (below_drew1 HB.out)
          clear BK262
          clear BK263
          clear HB
          have BK262 := n0_
          have BK263 := n1_
          have HB := n2_
          clear n0_ n1_ n2_
          have p265 : 0 ≤ (x5_2 : Int) := of_decide_eq_true (by first | (with_reducible assumption) | assumption)
          have q265 : x5_2 < (l0_0.length : Int) := of_decide_eq_true (by first | (with_reducible assumption) | assumption)
          obtain ⟨ad265, A265_0, c265_0, e265, hx265_0, hx265_1, hx265_2, hx265_3, hl265_0, hi265_0⟩ := at_T81 HR0_0.out x5_2 p265 q265
          have hw265_3 := hx265_3
          have hw265_2 := hx265_2
          have hw265_1 := hx265_1
          have hw265_0 := hx265_0
          cases e265
          replace hx265_0 := (HB.out.cell (World.block_lt_of_cell? w _ hx265_0)).trans hx265_0
          replace hx265_1 := (HB.out.cell (World.block_lt_of_cell? w _ hx265_1)).trans hx265_1
          replace hx265_2 := (HB.out.cell (World.block_lt_of_cell? w _ hx265_2)).trans hx265_2
          replace hx265_3 := (HB.out.cell (World.block_lt_of_cell? w _ hx265_3)).trans hx265_3
          have HR265_0 := Aside0.mk hi265_0
          have HC265_0 := Aside0.mk hl265_0
          clear hi265_0 hl265_0
          replace p265 := eq_true p265
          replace q265 := eq_true q265
          have p266 : 0 ≤ (x5_2 : Int) := of_decide_eq_true (by first | (with_reducible assumption) | assumption)
          have q266 : x5_2 < (l1_0.length : Int) := of_decide_eq_true (by first | (with_reducible assumption) | assumption)
          obtain ⟨ad266, A266_0, c266_0, e266, hx266_0, hx266_1, hx266_2, hx266_3, hl266_0, hi266_0⟩ := at_T81 HR1_0.out x5_2 p266 q266
          have hw266_3 := hx266_3
          have hw266_2 := hx266_2
          have hw266_1 := hx266_1
          have hw266_0 := hx266_0
          cases e266
          replace hx266_0 := (HB.out.cell (World.block_lt_of_cell? w _ hx266_0)).trans hx266_0
          replace hx266_1 := (HB.out.cell (World.block_lt_of_cell? w _ hx266_1)).trans hx266_1
          replace hx266_2 := (HB.out.cell (World.block_lt_of_cell? w _ hx266_2)).trans hx266_2
          replace hx266_3 := (HB.out.cell (World.block_lt_of_cell? w _ hx266_3)).trans hx266_3
          have HR266_0 := Aside0.mk hi266_0
          have HC266_0 := Aside0.mk hl266_0
          clear hi266_0 hl266_0
          replace p266 := eq_true p266
          replace q266 := eq_true q266
          refine start_ (n := 31) (S := fun w' => w'.cell? ⟨gb262, 0, none⟩ = some (.slice (some ad265) l0_0.length c0_0) ∧ w'.cell? ⟨gb262, 1, none⟩ = some (.string a0_1) ∧ w'.cell? ⟨gb262, 2, none⟩ = some (.int .i64 a0_2) ∧ w'.cell? ⟨gb262, 3, none⟩ = some (.string a0_3) ∧ w'.cell? ⟨gb262, 4, none⟩ = some (.int .i64 a0_4) ∧ w'.cell? ⟨gb262, 5, none⟩ = some (.slice A0_5 l0_5.length c0_5) ∧ w'.cell? ⟨gb262, 6, none⟩ = some (.int .i64 a0_6) ∧ w'.cell? ⟨gb262, 7, none⟩ = some (.int .i64 a0_7) ∧ w'.cell? ⟨gb262, 8, none⟩ = some (.int .i64 a0_8) ∧ w'.cell? ⟨gb262, 9, none⟩ = some (.slice A0_9 l0_9.length c0_9) ∧ w'.cell? ⟨gb262, 10, none⟩ = some (.int .u8 a0_10) ∧ w'.cell? ⟨gb262, 11, none⟩ = some (.int .i64 a0_11) ∧ w'.cell? ⟨gb262, 12, none⟩ = some (.int .i64 a0_12) ∧ w'.cell? ⟨gb263, 0, none⟩ = some (.slice (some ad266) l1_0.length c1_0) ∧ w'.cell? ⟨gb263, 1, none⟩ = some (.string a1_1) ∧ w'.cell? ⟨gb263, 2, none⟩ = some (.int .i64 a1_2) ∧ w'.cell? ⟨gb263, 3, none⟩ = some (.string a1_3) ∧ w'.cell? ⟨gb263, 4, none⟩ = some (.int .i64 a1_4) ∧ w'.cell? ⟨gb263, 5, none⟩ = some (.slice A1_5 l1_5.length c1_5) ∧ w'.cell? ⟨gb263, 6, none⟩ = some (.int .i64 a1_6) ∧ w'.cell? ⟨gb263, 7, none⟩ = some (.int .i64 a1_7) ∧ w'.cell? ⟨gb263, 8, none⟩ = some (.int .i64 a1_8) ∧ w'.cell? ⟨gb263, 9, none⟩ = some (.slice A1_9 l1_9.length c1_9) ∧ w'.cell? ⟨gb263, 10, none⟩ = some (.int .u8 a1_10) ∧ w'.cell? ⟨gb263, 11, none⟩ = some (.int .i64 a1_11) ∧ w'.cell? ⟨gb263, 12, none⟩ = some (.int .i64 a1_12) ∧ w'.cell? (ad265.add ((x5_2).toNat * 4)) = some (.slice A265_0 ((rd_T81 l0_0 x5_2).f0).length c265_0) ∧ w'.cell? ⟨(ad265.add ((x5_2).toNat * 4)).block, (ad265.add ((x5_2).toNat * 4)).off + 1, none⟩ = some (.string ((rd_T81 l0_0 x5_2).f1.f0)) ∧ w'.cell? ⟨(ad265.add ((x5_2).toNat * 4)).block, (ad265.add ((x5_2).toNat * 4)).off + 2, none⟩ = some (.int .i64 ((rd_T81 l0_0 x5_2).f1.f1)) ∧ w'.cell? ⟨(ad265.add ((x5_2).toNat * 4)).block, (ad265.add ((x5_2).toNat * 4)).off + 3, none⟩ = some (.int .i64 ((rd_T81 l0_0 x5_2).f2)) ∧ w'.cell? (ad266.add ((x5_2).toNat * 4)) = some (.slice A266_0 ((rd_T81 l1_0 x5_2).f0).length c266_0) ∧ w'.cell? ⟨(ad266.add ((x5_2).toNat * 4)).block, (ad266.add ((x5_2).toNat * 4)).off + 1, none⟩ = some (.string ((rd_T81 l1_0 x5_2).f1.f0)) ∧ w'.cell? ⟨(ad266.add ((x5_2).toNat * 4)).block, (ad266.add ((x5_2).toNat * 4)).off + 2, none⟩ = some (.int .i64 ((rd_T81 l1_0 x5_2).f1.f1)) ∧ w'.cell? ⟨(ad266.add ((x5_2).toNat * 4)).block, (ad266.add ((x5_2).toNat * 4)).off + 3, none⟩ = some (.int .i64 ((rd_T81 l1_0 x5_2).f2))) (ds := []) #[false, false, false, false, false, false, false, false, false, false, false, false, false, false, false, false, false, false, false, false, false, false, false, false, false, false, false, false, false, false, false] (by kernel_rfl) rfl rfl ⟨(blk_cell BK262.out 0).trans rfl, (blk_cell BK262.out 1).trans rfl, (blk_cell BK262.out 2).trans rfl, (blk_cell BK262.out 3).trans rfl, (blk_cell BK262.out 4).trans rfl, (blk_cell BK262.out 5).trans rfl, (blk_cell BK262.out 6).trans rfl, (blk_cell BK262.out 7).trans rfl, (blk_cell BK262.out 8).trans rfl, (blk_cell BK262.out 9).trans rfl, (blk_cell BK262.out 10).trans rfl, (blk_cell BK262.out 11).trans rfl, (blk_cell BK262.out 12).trans rfl, (blk_cell BK263.out 0).trans rfl, (blk_cell BK263.out 1).trans rfl, (blk_cell BK263.out 2).trans rfl, (blk_cell BK263.out 3).trans rfl, (blk_cell BK263.out 4).trans rfl, (blk_cell BK263.out 5).trans rfl, (blk_cell BK263.out 6).trans rfl, (blk_cell BK263.out 7).trans rfl, (blk_cell BK263.out 8).trans rfl, (blk_cell BK263.out 9).trans rfl, (blk_cell BK263.out 10).trans rfl, (blk_cell BK263.out 11).trans rfl, (blk_cell BK263.out 12).trans rfl, ((HB.out.cell (World.block_lt_of_cell? w _ hw265_0)).trans hw265_0), ((HB.out.cell (World.block_lt_of_cell? w _ hw265_1)).trans hw265_1), ((HB.out.cell (World.block_lt_of_cell? w _ hw265_2)).trans hw265_2), ((HB.out.cell (World.block_lt_of_cell? w _ hw265_3)).trans hw265_3), ((HB.out.cell (World.block_lt_of_cell? w _ hw266_0)).trans hw266_0), ((HB.out.cell (World.block_lt_of_cell? w _ hw266_1)).trans hw266_1), ((HB.out.cell (World.block_lt_of_cell? w _ hw266_2)).trans hw266_2), ((HB.out.cell (World.block_lt_of_cell? w _ hw266_3)).trans hw266_3)⟩ (fun hHeld => ?_); refine with_tabW weirref13_Alike.tab6 weirref13_Alike.bits6 (fun HT_ HW_ => ?_)
          generalize wr.drew = w54 at BK262 BK263 HB HR265_0 HR266_0 hx265_0 hx265_1 hx265_2 hx265_3 hx266_0 hx266_1 hx266_2 hx266_3 hHeld ⊢
          refine pure_ (i := 0) (N := some 60) (v := ?_) (a' := ?_) #[true, false, false, false, false, false, false, false, false, false, false, false, false, false, false, false, false, false, false, false, false, false, false, false, false, false, false, false, false, false, false] rfl rfl (any_of HT_.out (by kernel_rfl)) (fun _ _ _ h => h) (Or.inl ⟨by rfl, ?_⟩) ?_ ?_
          rotate_left
          · intro w'; go_simp; with_reducible rfl
          rotate_left
          · simp only [Act.put, q1, q2, q3, i64_w, i32_w]; rfl
          refine pure_ (i := 2) (N := some 62) (v := ?_) (a' := ?_) #[true, false, true, false, false, false, false, false, false, false, false, false, false, false, false, false, false, false, false, false, false, false, false, false, false, false, false, false, false, false, false] rfl rfl (any_of HT_.out (by kernel_rfl)) (fun _ _ _ h => h) (Or.inl ⟨by rfl, ?_⟩) ?_ ?_
          rotate_left
          · intro w'; go_simp; with_reducible rfl
          rotate_left
          · simp only [Act.put, q1, q2, q3, i64_w, i32_w]; rfl
          refine pure_ (i := 6) (N := some 66) (v := ?_) (a' := ?_) #[true, false, true, false, false, false, true, false, false, false, false, false, false, false, false, false, false, false, false, false, false, false, false, false, false, false, false, false, false, false, false] rfl rfl (any_of HT_.out (by kernel_rfl)) (fun _ _ _ h => h) (Or.inl ⟨by rfl, ?_⟩) ?_ ?_
          rotate_left
          · intro w'; go_simp; with_reducible rfl
          rotate_left
          · simp only [Act.put, q1, q2, q3, i64_w, i32_w]; rfl
          refine pure_ (i := 8) (N := some 68) (v := ?_) (a' := ?_) #[true, false, true, false, false, false, true, false, true, false, false, false, false, false, false, false, false, false, false, false, false, false, false, false, false, false, false, false, false, false, false] rfl rfl (any_of HT_.out (by kernel_rfl)) (fun _ _ _ h => h) (Or.inl ⟨by rfl, ?_⟩) ?_ ?_
          rotate_left
          · intro w'; go_simp; with_reducible rfl
          rotate_left
          · simp only [Act.put, q1, q2, q3, i64_w, i32_w]; rfl
          refine take_ (i := 1) (N := some 61) (v := ?_) (a' := ?_) #[true, true, true, false, false, false, true, false, true, false, false, false, false, false, false, false, false, false, false, false, false, false, false, false, false, false, false, false, false, false, false] rfl rfl (take_ofW HT_.out HW_.out (by kernel_rfl)) (fun _ _ _ h => h) (Or.inl ⟨by rfl, ?_⟩) hHeld ?_ ?_
          rotate_left
          · rintro w' ⟨s0, s1, s2, s3, s4, s5, s6, s7, s8, s9, s10, s11, s12, s13, s14, s15, s16, s17, s18, s19, s20, s21, s22, s23, s24, s25, s26, s27, s28, s29, s30, s31, s32, s33⟩; go_simp; with_reducible rfl
          rotate_left
          · simp only [Act.put, q1, q2, q3, i64_w, i32_w]; rfl
          refine pure_ (i := 3) (N := some 63) (v := ?_) (a' := ?_) #[true, true, true, true, false, false, true, false, true, false, false, false, false, false, false, false, false, false, false, false, false, false, false, false, false, false, false, false, false, false, false] rfl rfl (any_of HT_.out (by kernel_rfl)) (fun _ _ _ h => h) (Or.inl ⟨by rfl, ?_⟩) ?_ ?_
          rotate_left
          · intro w'; go_simp; with_reducible rfl
          rotate_left
          · simp only [Act.put, q1, q2, q3, i64_w, i32_w]; rfl
          refine pure_ (i := 4) (N := some 64) (v := ?_) (a' := ?_) #[true, true, true, true, true, false, true, false, true, false, false, false, false, false, false, false, false, false, false, false, false, false, false, false, false, false, false, false, false, false, false] rfl rfl (any_of HT_.out (by kernel_rfl)) (fun _ _ _ h => h) (Or.inl ⟨by rfl, ?_⟩) ?_ ?_
          rotate_left
          · intro w'; go_simp; with_reducible rfl
          rotate_left
          · simp only [Act.put, q1, q2, q3, i64_w, i32_w]; rfl
          refine take_ (i := 5) (N := some 65) (v := ?_) (a' := ?_) #[true, true, true, true, true, true, true, false, true, false, false, false, false, false, false, false, false, false, false, false, false, false, false, false, false, false, false, false, false, false, false] rfl rfl (take_ofW HT_.out HW_.out (by kernel_rfl)) (fun _ _ _ h => h) (Or.inl ⟨by rfl, ?_⟩) hHeld ?_ ?_
          rotate_left
          · rintro w' ⟨s0, s1, s2, s3, s4, s5, s6, s7, s8, s9, s10, s11, s12, s13, s14, s15, s16, s17, s18, s19, s20, s21, s22, s23, s24, s25, s26, s27, s28, s29, s30, s31, s32, s33⟩; go_simp; with_reducible rfl
          rotate_left
          · simp only [Act.put, q1, q2, q3, i64_w, i32_w]; rfl
          refine take_ (i := 7) (N := some 67) (v := ?_) (a' := ?_) #[true, true, true, true, true, true, true, true, true, false, false, false, false, false, false, false, false, false, false, false, false, false, false, false, false, false, false, false, false, false, false] rfl rfl (take_ofW HT_.out HW_.out (by kernel_rfl)) (fun _ _ _ h => h) (Or.inl ⟨by rfl, ?_⟩) hHeld ?_ ?_
          rotate_left
          · rintro w' ⟨s0, s1, s2, s3, s4, s5, s6, s7, s8, s9, s10, s11, s12, s13, s14, s15, s16, s17, s18, s19, s20, s21, s22, s23, s24, s25, s26, s27, s28, s29, s30, s31, s32, s33⟩; go_simp; with_reducible rfl
          rotate_left
          · simp only [Act.put, q1, q2, q3, i64_w, i32_w]; rfl
          refine pure_ (i := 9) (N := some 69) (v := ?_) (a' := ?_) #[true, true, true, true, true, true, true, true, true, true, false, false, false, false, false, false, false, false, false, false, false, false, false, false, false, false, false, false, false, false, false] rfl rfl (any_of HT_.out (by kernel_rfl)) (fun _ _ _ h => h) (Or.inl ⟨by rfl, ?_⟩) ?_ ?_
          rotate_left
          · intro w'; go_simp; with_reducible rfl
          rotate_left
          · simp only [Act.put, q1, q2, q3, i64_w, i32_w]; rfl
          refine pure_ (i := 10) (N := some 70) (v := ?_) (a' := ?_) #[true, true, true, true, true, true, true, true, true, true, true, false, false, false, false, false, false, false, false, false, false, false, false, false, false, false, false, false, false, false, false] rfl rfl (any_of HT_.out (by kernel_rfl)) (fun _ _ _ h => h) (Or.inl ⟨by rfl, ?_⟩) ?_ ?_
          rotate_left
          · intro w'; go_simp; with_reducible rfl
          rotate_left
          · simp only [Act.put, q1, q2, q3, i64_w, i32_w]; rfl
          refine take_ (i := 11) (N := some 71) (v := ?_) (a' := ?_) #[true, true, true, true, true, true, true, true, true, true, true, true, false, false, false, false, false, false, false, false, false, false, false, false, false, false, false, false, false, false, false] rfl rfl (take_ofW HT_.out HW_.out (by kernel_rfl)) (fun _ _ _ h => h) (Or.inl ⟨by rfl, ?_⟩) hHeld ?_ ?_
          rotate_left
          · rintro w' ⟨s0, s1, s2, s3, s4, s5, s6, s7, s8, s9, s10, s11, s12, s13, s14, s15, s16, s17, s18, s19, s20, s21, s22, s23, s24, s25, s26, s27, s28, s29, s30, s31, s32, s33⟩; go_simp; with_reducible rfl
          rotate_left
          · simp only [Act.put, q1, q2, q3, i64_w, i32_w]; rfl
          refine one_ (i := 12) (N := some 72) #[true, true, true, true, true, true, true, true, true, true, true, true, true, false, false, false, false, false, false, false, false, false, false, false, false, false, false, false, false, false, false] rfl rfl (one_of HT_.out (by kernel_rfl)) (by decide) (fun K hK => ?_)
          refine goes_ Tryz.func24 (by kernel_rfl) rfl #[.slice A265_0 ((rd_T81 l0_0 x5_2).f0).length c265_0, .slice A266_0 ((rd_T81 l1_0 x5_2).f0).length c266_0] (by rfl) rfl rfl (by (try simp only [q4, q5, q6]); first | done | rfl | (simp only [List.length_drop, List.length_take]; rfl)) ?_
          with_reducible refine (weirtree_Same.calls _ _ ((rd_T81 l0_0 x5_2).f0) _ _ ((rd_T81 l1_0 x5_2).f0) false _ ?side1 ?side2 ?side3 ?side4 A41.out).mono ?_
          (case side1 => repeat (first | exact (Kd.C_below HR265_0.out HB.out) | (with_reducible refine Kd.C_alloc ?_ _) | (with_reducible refine Kd.C_drewN ?_ _) | (with_reducible refine Kd.C_drew ?_)))
          (case side2 => exact HC265_0.out)
          (case side3 => repeat (first | exact (Kd.C_below HR266_0.out HB.out) | (with_reducible refine Kd.C_alloc ?_ _) | (with_reducible refine Kd.C_drewN ?_ _) | (with_reducible refine Kd.C_drew ?_)))
          (case side4 => exact HC266_0.out)
          rintro e w55 ⟨rfl, hb⟩
          refine ⟨_, rfl, ?_⟩
          have n0_ := Aside0.mk (blk_below (g := gb262) (o := .cells #[.slice (some ad265) l0_0.length c0_0, .string a0_1, .int .i64 a0_2, .string a0_3, .int .i64 a0_4, .slice A0_5 l0_5.length c0_5, .int .i64 a0_6, .int .i64 a0_7, .int .i64 a0_8, .slice A0_9 l0_9.length c0_9, .int .u8 a0_10, .int .i64 a0_11, .int .i64 a0_12] 43 (0, 0)) (by (with_reducible repeat (first | refine blk_drewN ?_ _ | refine blk_drew ?_ | refine blk_alloc ?_ _)); exact BK262.out) hb)
          have n1_ := Aside0.mk (blk_below (g := gb263) (o := .cells #[.slice (some ad266) l1_0.length c1_0, .string a1_1, .int .i64 a1_2, .string a1_3, .int .i64 a1_4, .slice A1_5 l1_5.length c1_5, .int .i64 a1_6, .int .i64 a1_7, .int .i64 a1_8, .slice A1_9 l1_9.length c1_9, .int .u8 a1_10, .int .i64 a1_11, .int .i64 a1_12] 43 (0, 0)) (by (with_reducible repeat (first | refine blk_drewN ?_ _ | refine blk_drew ?_ | refine blk_alloc ?_ _)); exact BK263.out) hb)
          have n2_ := Aside0.mk (below_step (by repeat (first | (with_reducible first | exact HB.out | apply below_alloc | apply pw_below_drewN | apply below_drew1 | refine below_set ?_ GE262.out | refine below_set ?_ GE263.out) | exact HB.out)) hb)
          clear BK262
          clear BK263
          clear HB
          have BK262 := n0_
          have BK263 := n1_
          have HB := n2_
          clear n0_ n1_ n2_
          (try clear hb)
          (try clear hb2)
          (try clear hk)
          (try clear hi)
          refine hK.out _ _ ⟨(blk_cell BK262.out 0).trans rfl, (blk_cell BK262.out 1).trans rfl, (blk_cell BK262.out 2).trans rfl, (blk_cell BK262.out 3).trans rfl, (blk_cell BK262.out 4).trans rfl, (blk_cell BK262.out 5).trans rfl, (blk_cell BK262.out 6).trans rfl, (blk_cell BK262.out 7).trans rfl, (blk_cell BK262.out 8).trans rfl, (blk_cell BK262.out 9).trans rfl, (blk_cell BK262.out 10).trans rfl, (blk_cell BK262.out 11).trans rfl, (blk_cell BK262.out 12).trans rfl, (blk_cell BK263.out 0).trans rfl, (blk_cell BK263.out 1).trans rfl, (blk_cell BK263.out 2).trans rfl, (blk_cell BK263.out 3).trans rfl, (blk_cell BK263.out 4).trans rfl, (blk_cell BK263.out 5).trans rfl, (blk_cell BK263.out 6).trans rfl, (blk_cell BK263.out 7).trans rfl, (blk_cell BK263.out 8).trans rfl, (blk_cell BK263.out 9).trans rfl, (blk_cell BK263.out 10).trans rfl, (blk_cell BK263.out 11).trans rfl, (blk_cell BK263.out 12).trans rfl, ((HB.out.cell (World.block_lt_of_cell? w _ hw265_0)).trans hw265_0), ((HB.out.cell (World.block_lt_of_cell? w _ hw265_1)).trans hw265_1), ((HB.out.cell (World.block_lt_of_cell? w _ hw265_2)).trans hw265_2), ((HB.out.cell (World.block_lt_of_cell? w _ hw265_3)).trans hw265_3), ((HB.out.cell (World.block_lt_of_cell? w _ hw266_0)).trans hw266_0), ((HB.out.cell (World.block_lt_of_cell? w _ hw266_1)).trans hw266_1), ((HB.out.cell (World.block_lt_of_cell? w _ hw266_2)).trans hw266_2), ((HB.out.cell (World.block_lt_of_cell? w _ hw266_3)).trans hw266_3)⟩ (fun hHeld => ?_)
          clear hK K
          refine norm_ (a' := ?_) ?_ ?_
          rotate_left
          ·
           show Act.put _ (some 72) _ = _
           simp only [Act.put, q1, q2, q3, i64_w, i32_w]
           rfl
          refine pure_ (i := 13) (N := some 73) (v := ?_) (a' := ?_) #[true, true, true, true, true, true, true, true, true, true, true, true, true, true, false, false, false, false, false, false, false, false, false, false, false, false, false, false, false, false, false] rfl rfl (any_of HT_.out (by kernel_rfl)) (fun _ _ _ h => h) (Or.inl ⟨by rfl, ?_⟩) ?_ ?_
          rotate_left
          · intro w'; go_simp; with_reducible rfl
          rotate_left
          · simp only [Act.put, q1, q2, q3, i64_w, i32_w]; rfl
          refine pure_ (i := 14) (N := some 74) (v := ?_) (a' := ?_) #[true, true, true, true, true, true, true, true, true, true, true, true, true, true, true, false, false, false, false, false, false, false, false, false, false, false, false, false, false, false, false] rfl rfl (any_of HT_.out (by kernel_rfl)) (fun _ _ _ h => h) (Or.inl ⟨by rfl, ?_⟩) ?_ ?_
          rotate_left
          · intro w'; go_simp; with_reducible rfl
          rotate_left
          · simp only [Act.put, q1, q2, q3, i64_w, i32_w]; rfl
          refine pure_ (i := 15) (N := some 75) (v := undef) (a' := ?_) #[true, true, true, true, true, true, true, true, true, true, true, true, true, true, true, true, false, false, false, false, false, false, false, false, false, false, false, false, false, false, false] rfl rfl (any_of HT_.out (by kernel_rfl)) (fun _ _ _ h => h) (Or.inr ⟨by rfl, rfl⟩) ?_ ?_
          rotate_left
          · simp only [Act.put, q1, q2, q3, i64_w, i32_w]; rfl
          refine pure_ (i := 16) (N := some 76) (v := undef) (a' := ?_) #[true, true, true, true, true, true, true, true, true, true, true, true, true, true, true, true, true, false, false, false, false, false, false, false, false, false, false, false, false, false, false] rfl rfl (any_of HT_.out (by kernel_rfl)) (fun _ _ _ h => h) (Or.inr ⟨by rfl, rfl⟩) ?_ ?_
          rotate_left
          · simp only [Act.put, q1, q2, q3, i64_w, i32_w]; rfl
          refine pure_ (i := 17) (N := some 77) (v := undef) (a' := ?_) #[true, true, true, true, true, true, true, true, true, true, true, true, true, true, true, true, true, true, false, false, false, false, false, false, false, false, false, false, false, false, false] rfl rfl (any_of HT_.out (by kernel_rfl)) (fun _ _ _ h => h) (Or.inr ⟨by rfl, rfl⟩) ?_ ?_
          rotate_left
          · simp only [Act.put, q1, q2, q3, i64_w, i32_w]; rfl
          refine pure_ (i := 18) (N := some 78) (v := undef) (a' := ?_) #[true, true, true, true, true, true, true, true, true, true, true, true, true, true, true, true, true, true, true, false, false, false, false, false, false, false, false, false, false, false, false] rfl rfl (any_of HT_.out (by kernel_rfl)) (fun _ _ _ h => h) (Or.inr ⟨by rfl, rfl⟩) ?_ ?_
          rotate_left
          · simp only [Act.put, q1, q2, q3, i64_w, i32_w]; rfl
          refine pure_ (i := 19) (N := some 79) (v := undef) (a' := ?_) #[true, true, true, true, true, true, true, true, true, true, true, true, true, true, true, true, true, true, true, true, false, false, false, false, false, false, false, false, false, false, false] rfl rfl (any_of HT_.out (by kernel_rfl)) (fun _ _ _ h => h) (Or.inr ⟨by rfl, rfl⟩) ?_ ?_
          rotate_left
          · simp only [Act.put, q1, q2, q3, i64_w, i32_w]; rfl
          refine pure_ (i := 20) (N := some 80) (v := undef) (a' := ?_) #[true, true, true, true, true, true, true, true, true, true, true, true, true, true, true, true, true, true, true, true, true, false, false, false, false, false, false, false, false, false, false] rfl rfl (any_of HT_.out (by kernel_rfl)) (fun _ _ _ h => h) (Or.inr ⟨by rfl, rfl⟩) ?_ ?_
          rotate_left
          · simp only [Act.put, q1, q2, q3, i64_w, i32_w]; rfl
          refine pure_ (i := 21) (N := some 81) (v := undef) (a' := ?_) #[true, true, true, true, true, true, true, true, true, true, true, true, true, true, true, true, true, true, true, true, true, true, false, false, false, false, false, false, false, false, false] rfl rfl (any_of HT_.out (by kernel_rfl)) (fun _ _ _ h => h) (Or.inr ⟨by rfl, rfl⟩) ?_ ?_
          rotate_left
          · simp only [Act.put, q1, q2, q3, i64_w, i32_w]; rfl
          refine pure_ (i := 22) (N := some 82) (v := undef) (a' := ?_) #[true, true, true, true, true, true, true, true, true, true, true, true, true, true, true, true, true, true, true, true, true, true, true, false, false, false, false, false, false, false, false] rfl rfl (any_of HT_.out (by kernel_rfl)) (fun _ _ _ h => h) (Or.inr ⟨by rfl, rfl⟩) ?_ ?_
          rotate_left
          · simp only [Act.put, q1, q2, q3, i64_w, i32_w]; rfl
          refine pure_ (i := 23) (N := some 83) (v := undef) (a' := ?_) #[true, true, true, true, true, true, true, true, true, true, true, true, true, true, true, true, true, true, true, true, true, true, true, true, false, false, false, false, false, false, false] rfl rfl (any_of HT_.out (by kernel_rfl)) (fun _ _ _ h => h) (Or.inr ⟨by rfl, rfl⟩) ?_ ?_
          rotate_left
          · simp only [Act.put, q1, q2, q3, i64_w, i32_w]; rfl
          refine pure_ (i := 24) (N := some 84) (v := undef) (a' := ?_) #[true, true, true, true, true, true, true, true, true, true, true, true, true, true, true, true, true, true, true, true, true, true, true, true, true, false, false, false, false, false, false] rfl rfl (any_of HT_.out (by kernel_rfl)) (fun _ _ _ h => h) (Or.inr ⟨by rfl, rfl⟩) ?_ ?_
          rotate_left
          · simp only [Act.put, q1, q2, q3, i64_w, i32_w]; rfl
          refine pure_ (i := 25) (N := some 85) (v := undef) (a' := ?_) #[true, true, true, true, true, true, true, true, true, true, true, true, true, true, true, true, true, true, true, true, true, true, true, true, true, true, false, false, false, false, false] rfl rfl (any_of HT_.out (by kernel_rfl)) (fun _ _ _ h => h) (Or.inr ⟨by rfl, rfl⟩) ?_ ?_
          rotate_left
          · simp only [Act.put, q1, q2, q3, i64_w, i32_w]; rfl
          refine pure_ (i := 26) (N := some 86) (v := undef) (a' := ?_) #[true, true, true, true, true, true, true, true, true, true, true, true, true, true, true, true, true, true, true, true, true, true, true, true, true, true, true, false, false, false, false] rfl rfl (any_of HT_.out (by kernel_rfl)) (fun _ _ _ h => h) (Or.inr ⟨by rfl, rfl⟩) ?_ ?_
          rotate_left
          · simp only [Act.put, q1, q2, q3, i64_w, i32_w]; rfl
          refine pure_ (i := 27) (N := some 87) (v := undef) (a' := ?_) #[true, true, true, true, true, true, true, true, true, true, true, true, true, true, true, true, true, true, true, true, true, true, true, true, true, true, true, true, false, false, false] rfl rfl (any_of HT_.out (by kernel_rfl)) (fun _ _ _ h => h) (Or.inr ⟨by rfl, rfl⟩) ?_ ?_
          rotate_left
          · simp only [Act.put, q1, q2, q3, i64_w, i32_w]; rfl
          refine pure_ (i := 28) (N := some 88) (v := undef) (a' := ?_) #[true, true, true, true, true, true, true, true, true, true, true, true, true, true, true, true, true, true, true, true, true, true, true, true, true, true, true, true, true, false, false] rfl rfl (any_of HT_.out (by kernel_rfl)) (fun _ _ _ h => h) (Or.inr ⟨by rfl, rfl⟩) ?_ ?_
          rotate_left
          · simp only [Act.put, q1, q2, q3, i64_w, i32_w]; rfl
          refine pure_ (i := 29) (N := some 89) (v := undef) (a' := ?_) #[true, true, true, true, true, true, true, true, true, true, true, true, true, true, true, true, true, true, true, true, true, true, true, true, true, true, true, true, true, true, false] rfl rfl (any_of HT_.out (by kernel_rfl)) (fun _ _ _ h => h) (Or.inr ⟨by rfl, rfl⟩) ?_ ?_
          rotate_left
          · simp only [Act.put, q1, q2, q3, i64_w, i32_w]; rfl
          refine pure_ (i := 30) (N := some 90) (v := ?_) (a' := ?_) #[true, true, true, true, true, true, true, true, true, true, true, true, true, true, true, true, true, true, true, true, true, true, true, true, true, true, true, true, true, true, true] rfl rfl (any_of HT_.out (by kernel_rfl)) (fun _ _ _ h => h) (Or.inl ⟨by rfl, ?_⟩) ?_ ?_
          rotate_left
          · intro w'; go_simp; with_reducible rfl
          rotate_left
          · simp only [Act.put, q1, q2, q3, i64_w, i32_w]; rfl
          refine done_ (done_of HT_.out (by kernel_rfl)) ?_
          try go_wp2
          go_ret
          exact ⟨by first | rfl | (simp [errW_none, errW_some] <;> rfl) | (simp [*, errW_none, errW_some] <;> rfl), by repeat (first | (with_reducible first | exact HB.out | apply below_alloc | apply pw_below_drewN | apply below_drew1 | refine below_set ?_ GE262.out | refine below_set ?_ GE263.out) | exact HB.out)⟩
        ·
         rw [if_neg c40] at H
         exact absurd H (by simp)
       ·
        rw [if_neg c39] at H
        exact absurd H (by simp)
      ·
       rw [if_neg c38] at H
       have c38b0 : decide (x5_2 < (l0_0.length : Int)) = false := decide_eq_false c38
       clear c38
       replace H := Option.bind_eq_some_iff.mp H
       obtain ⟨t270, A560, H⟩ := H
       replace H : (if t270 = true then (if a0_10 = a1_10 then (some (a0_11 == a1_11)) else (some false)) else (some false)) = some r := H
       have A56 := Aside0.mk A560
       clear A560
       by_cases c57 : t270 = true
       ·
        subst c57
        have H1 : (if a0_10 = a1_10 then (some (a0_11 == a1_11)) else (some false)) = some r := by rw [if_pos rfl] at H; exact H
        clear H
        have H := H1
        clear H1
        by_cases c58 : a0_10 = a1_10
        ·
         rw [if_pos c58] at H
         have c58b0 : (a0_10 == a1_10) = true := beq_iff_eq.mpr c58
         have c58b1 : (a0_10 != a1_10) = false := bne_eq_false_iff_eq.mpr c58
         clear c58
         obtain rfl := Option.some.inj H
         have hnb59 := NB262_263.out
         have hnc59 := NB263_262.out
         have hcz60_0 : wr.cell? ⟨gb262, 0, none⟩ = some (.slice A0_0 l0_0.length c0_0) := (blk_cell BK262.out 0).trans rfl
         have hcz60_1 : wr.cell? ⟨gb262, 1, none⟩ = some (.string a0_1) := (blk_cell BK262.out 1).trans rfl
         have hcz60_2 : wr.cell? ⟨gb262, 2, none⟩ = some (.int .i64 a0_2) := (blk_cell BK262.out 2).trans rfl
         have hcz60_3 : wr.cell? ⟨gb262, 3, none⟩ = some (.string a0_3) := (blk_cell BK262.out 3).trans rfl
         have hcz60_4 : wr.cell? ⟨gb262, 4, none⟩ = some (.int .i64 a0_4) := (blk_cell BK262.out 4).trans rfl
         have hcz60_5 : wr.cell? ⟨gb262, 5, none⟩ = some (.slice A0_5 l0_5.length c0_5) := (blk_cell BK262.out 5).trans rfl
         have hcz60_6 : wr.cell? ⟨gb262, 6, none⟩ = some (.int .i64 a0_6) := (blk_cell BK262.out 6).trans rfl
         have hcz60_7 : wr.cell? ⟨gb262, 7, none⟩ = some (.int .i64 a0_7) := (blk_cell BK262.out 7).trans rfl
         have hcz60_8 : wr.cell? ⟨gb262, 8, none⟩ = some (.int .i64 a0_8) := (blk_cell BK262.out 8).trans rfl
         have hcz60_9 : wr.cell? ⟨gb262, 9, none⟩ = some (.slice A0_9 l0_9.length c0_9) := (blk_cell BK262.out 9).trans rfl
         have hcz60_10 : wr.cell? ⟨gb262, 10, none⟩ = some (.int .u8 a0_10) := (blk_cell BK262.out 10).trans rfl
         have hcz60_11 : wr.cell? ⟨gb262, 11, none⟩ = some (.int .i64 a0_11) := (blk_cell BK262.out 11).trans rfl
         have hcz60_12 : wr.cell? ⟨gb262, 12, none⟩ = some (.int .i64 a0_12) := (blk_cell BK262.out 12).trans rfl
         have hfz60_0 := blk_frozen BK262.out 0
         have hfz60_1 := blk_frozen BK262.out 1
         have hfz60_2 := blk_frozen BK262.out 2
         have hfz60_3 := blk_frozen BK262.out 3
         have hfz60_4 := blk_frozen BK262.out 4
         have hfz60_5 := blk_frozen BK262.out 5
         have hfz60_6 := blk_frozen BK262.out 6
         have hfz60_7 := blk_frozen BK262.out 7
         have hfz60_8 := blk_frozen BK262.out 8
         have hfz60_9 := blk_frozen BK262.out 9
         have hfz60_10 := blk_frozen BK262.out 10
         have hfz60_11 := blk_frozen BK262.out 11
         have hfz60_12 := blk_frozen BK262.out 12
         have hcz61_0 : wr.cell? ⟨gb263, 0, none⟩ = some (.slice A1_0 l1_0.length c1_0) := (blk_cell BK263.out 0).trans rfl
         have hcz61_1 : wr.cell? ⟨gb263, 1, none⟩ = some (.string a1_1) := (blk_cell BK263.out 1).trans rfl
         have hcz61_2 : wr.cell? ⟨gb263, 2, none⟩ = some (.int .i64 a1_2) := (blk_cell BK263.out 2).trans rfl
         have hcz61_3 : wr.cell? ⟨gb263, 3, none⟩ = some (.string a1_3) := (blk_cell BK263.out 3).trans rfl
         have hcz61_4 : wr.cell? ⟨gb263, 4, none⟩ = some (.int .i64 a1_4) := (blk_cell BK263.out 4).trans rfl
         have hcz61_5 : wr.cell? ⟨gb263, 5, none⟩ = some (.slice A1_5 l1_5.length c1_5) := (blk_cell BK263.out 5).trans rfl
         have hcz61_6 : wr.cell? ⟨gb263, 6, none⟩ = some (.int .i64 a1_6) := (blk_cell BK263.out 6).trans rfl
         have hcz61_7 : wr.cell? ⟨gb263, 7, none⟩ = some (.int .i64 a1_7) := (blk_cell BK263.out 7).trans rfl
         have hcz61_8 : wr.cell? ⟨gb263, 8, none⟩ = some (.int .i64 a1_8) := (blk_cell BK263.out 8).trans rfl
         have hcz61_9 : wr.cell? ⟨gb263, 9, none⟩ = some (.slice A1_9 l1_9.length c1_9) := (blk_cell BK263.out 9).trans rfl
         have hcz61_10 : wr.cell? ⟨gb263, 10, none⟩ = some (.int .u8 a1_10) := (blk_cell BK263.out 10).trans rfl
         have hcz61_11 : wr.cell? ⟨gb263, 11, none⟩ = some (.int .i64 a1_11) := (blk_cell BK263.out 11).trans rfl
         have hcz61_12 : wr.cell? ⟨gb263, 12, none⟩ = some (.int .i64 a1_12) := (blk_cell BK263.out 12).trans rfl
         have hfz61_0 := blk_frozen BK263.out 0
         have hfz61_1 := blk_frozen BK263.out 1
         have hfz61_2 := blk_frozen BK263.out 2
         have hfz61_3 := blk_frozen BK263.out 3
         have hfz61_4 := blk_frozen BK263.out 4
         have hfz61_5 := blk_frozen BK263.out 5
         have hfz61_6 := blk_frozen BK263.out 6
         have hfz61_7 := blk_frozen BK263.out 7
         have hfz61_8 := blk_frozen BK263.out 8
         have hfz61_9 := blk_frozen BK263.out 9
         have hfz61_10 := blk_frozen BK263.out 10
         have hfz61_11 := blk_frozen BK263.out 11
         have hfz61_12 := blk_frozen BK263.out 12
         go_wp2_with (first | ((with_reducible refine gate_callee (f := 60) rfl ?_); refine goesL_ (some 95) rfl rfl Tryz.func60 (by kernel_rfl) rfl #[.slice A0_9 l0_9.length c0_9, .slice A1_9 l1_9.length c1_9] rfl (by (try simp only [q4, q5, q6]); first | done | rfl | (simp only [List.length_drop, List.length_take]; rfl)) ?_; (with_reducible refine (weirref13_sameLabels.calls k2 _ _ l0_9 _ _ l1_9 true _ ?side1 ?side2 ?side3 ?side4 A56.out).mono ?_); (case side1 => repeat (first | exact (Kd.C_below HR0_9.out HB.out) | (with_reducible refine Kd.C_alloc ?_ _) | (with_reducible refine Kd.C_drewN ?_ _) | (with_reducible refine Kd.C_drew ?_))); (case side2 => exact HC0_9.out); (case side3 => repeat (first | exact (Kd.C_below HR1_9.out HB.out) | (with_reducible refine Kd.C_alloc ?_ _) | (with_reducible refine Kd.C_drewN ?_ _) | (with_reducible refine Kd.C_drew ?_))); (case side4 => exact HC1_9.out); rintro e w' ⟨rfl, ⟨nd, rfl⟩⟩; refine ⟨_, rfl, ?_⟩))
         go_ret
         exact ⟨by first | rfl | (simp [errW_none, errW_some] <;> rfl) | (simp [*, errW_none, errW_some] <;> rfl), by repeat (first | (with_reducible first | exact HB.out | apply below_alloc | apply pw_below_drewN | apply below_drew1 | refine below_set ?_ GE262.out | refine below_set ?_ GE263.out) | exact HB.out)⟩
        ·
         rw [if_neg c58] at H
         have c58b0 : (a0_10 == a1_10) = false := beq_eq_false_iff_ne.mpr c58
         have c58b1 : (a0_10 != a1_10) = true := bne_iff_ne.mpr c58
         obtain rfl := Option.some.inj H
         have hnb62 := NB262_263.out
         have hnc62 := NB263_262.out
         have hcz63_0 : wr.cell? ⟨gb262, 0, none⟩ = some (.slice A0_0 l0_0.length c0_0) := (blk_cell BK262.out 0).trans rfl
         have hcz63_1 : wr.cell? ⟨gb262, 1, none⟩ = some (.string a0_1) := (blk_cell BK262.out 1).trans rfl
         have hcz63_2 : wr.cell? ⟨gb262, 2, none⟩ = some (.int .i64 a0_2) := (blk_cell BK262.out 2).trans rfl
         have hcz63_3 : wr.cell? ⟨gb262, 3, none⟩ = some (.string a0_3) := (blk_cell BK262.out 3).trans rfl
         have hcz63_4 : wr.cell? ⟨gb262, 4, none⟩ = some (.int .i64 a0_4) := (blk_cell BK262.out 4).trans rfl
         have hcz63_5 : wr.cell? ⟨gb262, 5, none⟩ = some (.slice A0_5 l0_5.length c0_5) := (blk_cell BK262.out 5).trans rfl
         have hcz63_6 : wr.cell? ⟨gb262, 6, none⟩ = some (.int .i64 a0_6) := (blk_cell BK262.out 6).trans rfl
         have hcz63_7 : wr.cell? ⟨gb262, 7, none⟩ = some (.int .i64 a0_7) := (blk_cell BK262.out 7).trans rfl
         have hcz63_8 : wr.cell? ⟨gb262, 8, none⟩ = some (.int .i64 a0_8) := (blk_cell BK262.out 8).trans rfl
         have hcz63_9 : wr.cell? ⟨gb262, 9, none⟩ = some (.slice A0_9 l0_9.length c0_9) := (blk_cell BK262.out 9).trans rfl
         have hcz63_10 : wr.cell? ⟨gb262, 10, none⟩ = some (.int .u8 a0_10) := (blk_cell BK262.out 10).trans rfl
         have hcz63_11 : wr.cell? ⟨gb262, 11, none⟩ = some (.int .i64 a0_11) := (blk_cell BK262.out 11).trans rfl
         have hcz63_12 : wr.cell? ⟨gb262, 12, none⟩ = some (.int .i64 a0_12) := (blk_cell BK262.out 12).trans rfl
         have hfz63_0 := blk_frozen BK262.out 0
         have hfz63_1 := blk_frozen BK262.out 1
         have hfz63_2 := blk_frozen BK262.out 2
         have hfz63_3 := blk_frozen BK262.out 3
         have hfz63_4 := blk_frozen BK262.out 4
         have hfz63_5 := blk_frozen BK262.out 5
         have hfz63_6 := blk_frozen BK262.out 6
         have hfz63_7 := blk_frozen BK262.out 7
         have hfz63_8 := blk_frozen BK262.out 8
         have hfz63_9 := blk_frozen BK262.out 9
         have hfz63_10 := blk_frozen BK262.out 10
         have hfz63_11 := blk_frozen BK262.out 11
         have hfz63_12 := blk_frozen BK262.out 12
         have hcz64_0 : wr.cell? ⟨gb263, 0, none⟩ = some (.slice A1_0 l1_0.length c1_0) := (blk_cell BK263.out 0).trans rfl
         have hcz64_1 : wr.cell? ⟨gb263, 1, none⟩ = some (.string a1_1) := (blk_cell BK263.out 1).trans rfl
         have hcz64_2 : wr.cell? ⟨gb263, 2, none⟩ = some (.int .i64 a1_2) := (blk_cell BK263.out 2).trans rfl
         have hcz64_3 : wr.cell? ⟨gb263, 3, none⟩ = some (.string a1_3) := (blk_cell BK263.out 3).trans rfl
         have hcz64_4 : wr.cell? ⟨gb263, 4, none⟩ = some (.int .i64 a1_4) := (blk_cell BK263.out 4).trans rfl
         have hcz64_5 : wr.cell? ⟨gb263, 5, none⟩ = some (.slice A1_5 l1_5.length c1_5) := (blk_cell BK263.out 5).trans rfl
         have hcz64_6 : wr.cell? ⟨gb263, 6, none⟩ = some (.int .i64 a1_6) := (blk_cell BK263.out 6).trans rfl
         have hcz64_7 : wr.cell? ⟨gb263, 7, none⟩ = some (.int .i64 a1_7) := (blk_cell BK263.out 7).trans rfl
         have hcz64_8 : wr.cell? ⟨gb263, 8, none⟩ = some (.int .i64 a1_8) := (blk_cell BK263.out 8).trans rfl
         have hcz64_9 : wr.cell? ⟨gb263, 9, none⟩ = some (.slice A1_9 l1_9.length c1_9) := (blk_cell BK263.out 9).trans rfl
         have hcz64_10 : wr.cell? ⟨gb263, 10, none⟩ = some (.int .u8 a1_10) := (blk_cell BK263.out 10).trans rfl
         have hcz64_11 : wr.cell? ⟨gb263, 11, none⟩ = some (.int .i64 a1_11) := (blk_cell BK263.out 11).trans rfl
         have hcz64_12 : wr.cell? ⟨gb263, 12, none⟩ = some (.int .i64 a1_12) := (blk_cell BK263.out 12).trans rfl
         have hfz64_0 := blk_frozen BK263.out 0
         have hfz64_1 := blk_frozen BK263.out 1
         have hfz64_2 := blk_frozen BK263.out 2
         have hfz64_3 := blk_frozen BK263.out 3
         have hfz64_4 := blk_frozen BK263.out 4
         have hfz64_5 := blk_frozen BK263.out 5
         have hfz64_6 := blk_frozen BK263.out 6
         have hfz64_7 := blk_frozen BK263.out 7
         have hfz64_8 := blk_frozen BK263.out 8
         have hfz64_9 := blk_frozen BK263.out 9
         have hfz64_10 := blk_frozen BK263.out 10
         have hfz64_11 := blk_frozen BK263.out 11
         have hfz64_12 := blk_frozen BK263.out 12
         go_wp2_with (first | ((with_reducible refine gate_callee (f := 60) rfl ?_); refine goesL_ (some 95) rfl rfl Tryz.func60 (by kernel_rfl) rfl #[.slice A0_9 l0_9.length c0_9, .slice A1_9 l1_9.length c1_9] rfl (by (try simp only [q4, q5, q6]); first | done | rfl | (simp only [List.length_drop, List.length_take]; rfl)) ?_; (with_reducible refine (weirref13_sameLabels.calls k2 _ _ l0_9 _ _ l1_9 true _ ?side1 ?side2 ?side3 ?side4 A56.out).mono ?_); (case side1 => repeat (first | exact (Kd.C_below HR0_9.out HB.out) | (with_reducible refine Kd.C_alloc ?_ _) | (with_reducible refine Kd.C_drewN ?_ _) | (with_reducible refine Kd.C_drew ?_))); (case side2 => exact HC0_9.out); (case side3 => repeat (first | exact (Kd.C_below HR1_9.out HB.out) | (with_reducible refine Kd.C_alloc ?_ _) | (with_reducible refine Kd.C_drewN ?_ _) | (with_reducible refine Kd.C_drew ?_))); (case side4 => exact HC1_9.out); rintro e w' ⟨rfl, ⟨nd, rfl⟩⟩; refine ⟨_, rfl, ?_⟩))
         go_ret
         exact ⟨by first | rfl | (simp [errW_none, errW_some] <;> rfl) | (simp [*, errW_none, errW_some] <;> rfl), by repeat (first | (with_reducible first | exact HB.out | apply below_alloc | apply pw_below_drewN | apply below_drew1 | refine below_set ?_ GE262.out | refine below_set ?_ GE263.out) | exact HB.out)⟩
       ·
        replace c57 := Bool.eq_false_iff.mpr c57
        subst c57
        have H1 : (some false) = some r := by rw [if_neg (show ¬ (false = true) by decide)] at H; exact H
        clear H
        have H := H1
        clear H1
        obtain rfl := Option.some.inj H
        have hnb65 := NB262_263.out
        have hnc65 := NB263_262.out
        have hcz66_0 : wr.cell? ⟨gb262, 0, none⟩ = some (.slice A0_0 l0_0.length c0_0) := (blk_cell BK262.out 0).trans rfl
        have hcz66_1 : wr.cell? ⟨gb262, 1, none⟩ = some (.string a0_1) := (blk_cell BK262.out 1).trans rfl
        have hcz66_2 : wr.cell? ⟨gb262, 2, none⟩ = some (.int .i64 a0_2) := (blk_cell BK262.out 2).trans rfl
        have hcz66_3 : wr.cell? ⟨gb262, 3, none⟩ = some (.string a0_3) := (blk_cell BK262.out 3).trans rfl
        have hcz66_4 : wr.cell? ⟨gb262, 4, none⟩ = some (.int .i64 a0_4) := (blk_cell BK262.out 4).trans rfl
        have hcz66_5 : wr.cell? ⟨gb262, 5, none⟩ = some (.slice A0_5 l0_5.length c0_5) := (blk_cell BK262.out 5).trans rfl
        have hcz66_6 : wr.cell? ⟨gb262, 6, none⟩ = some (.int .i64 a0_6) := (blk_cell BK262.out 6).trans rfl
        have hcz66_7 : wr.cell? ⟨gb262, 7, none⟩ = some (.int .i64 a0_7) := (blk_cell BK262.out 7).trans rfl
        have hcz66_8 : wr.cell? ⟨gb262, 8, none⟩ = some (.int .i64 a0_8) := (blk_cell BK262.out 8).trans rfl
        have hcz66_9 : wr.cell? ⟨gb262, 9, none⟩ = some (.slice A0_9 l0_9.length c0_9) := (blk_cell BK262.out 9).trans rfl
        have hcz66_10 : wr.cell? ⟨gb262, 10, none⟩ = some (.int .u8 a0_10) := (blk_cell BK262.out 10).trans rfl
        have hcz66_11 : wr.cell? ⟨gb262, 11, none⟩ = some (.int .i64 a0_11) := (blk_cell BK262.out 11).trans rfl
        have hcz66_12 : wr.cell? ⟨gb262, 12, none⟩ = some (.int .i64 a0_12) := (blk_cell BK262.out 12).trans rfl
        have hfz66_0 := blk_frozen BK262.out 0
        have hfz66_1 := blk_frozen BK262.out 1
        have hfz66_2 := blk_frozen BK262.out 2
        have hfz66_3 := blk_frozen BK262.out 3
        have hfz66_4 := blk_frozen BK262.out 4
        have hfz66_5 := blk_frozen BK262.out 5
        have hfz66_6 := blk_frozen BK262.out 6
        have hfz66_7 := blk_frozen BK262.out 7
        have hfz66_8 := blk_frozen BK262.out 8
        have hfz66_9 := blk_frozen BK262.out 9
        have hfz66_10 := blk_frozen BK262.out 10
        have hfz66_11 := blk_frozen BK262.out 11
        have hfz66_12 := blk_frozen BK262.out 12
        have hcz67_0 : wr.cell? ⟨gb263, 0, none⟩ = some (.slice A1_0 l1_0.length c1_0) := (blk_cell BK263.out 0).trans rfl
        have hcz67_1 : wr.cell? ⟨gb263, 1, none⟩ = some (.string a1_1) := (blk_cell BK263.out 1).trans rfl
        have hcz67_2 : wr.cell? ⟨gb263, 2, none⟩ = some (.int .i64 a1_2) := (blk_cell BK263.out 2).trans rfl
        have hcz67_3 : wr.cell? ⟨gb263, 3, none⟩ = some (.string a1_3) := (blk_cell BK263.out 3).trans rfl
        have hcz67_4 : wr.cell? ⟨gb263, 4, none⟩ = some (.int .i64 a1_4) := (blk_cell BK263.out 4).trans rfl
        have hcz67_5 : wr.cell? ⟨gb263, 5, none⟩ = some (.slice A1_5 l1_5.length c1_5) := (blk_cell BK263.out 5).trans rfl
        have hcz67_6 : wr.cell? ⟨gb263, 6, none⟩ = some (.int .i64 a1_6) := (blk_cell BK263.out 6).trans rfl
        have hcz67_7 : wr.cell? ⟨gb263, 7, none⟩ = some (.int .i64 a1_7) := (blk_cell BK263.out 7).trans rfl
        have hcz67_8 : wr.cell? ⟨gb263, 8, none⟩ = some (.int .i64 a1_8) := (blk_cell BK263.out 8).trans rfl
        have hcz67_9 : wr.cell? ⟨gb263, 9, none⟩ = some (.slice A1_9 l1_9.length c1_9) := (blk_cell BK263.out 9).trans rfl
        have hcz67_10 : wr.cell? ⟨gb263, 10, none⟩ = some (.int .u8 a1_10) := (blk_cell BK263.out 10).trans rfl
        have hcz67_11 : wr.cell? ⟨gb263, 11, none⟩ = some (.int .i64 a1_11) := (blk_cell BK263.out 11).trans rfl
        have hcz67_12 : wr.cell? ⟨gb263, 12, none⟩ = some (.int .i64 a1_12) := (blk_cell BK263.out 12).trans rfl
        have hfz67_0 := blk_frozen BK263.out 0
        have hfz67_1 := blk_frozen BK263.out 1
        have hfz67_2 := blk_frozen BK263.out 2
        have hfz67_3 := blk_frozen BK263.out 3
        have hfz67_4 := blk_frozen BK263.out 4
        have hfz67_5 := blk_frozen BK263.out 5
        have hfz67_6 := blk_frozen BK263.out 6
        have hfz67_7 := blk_frozen BK263.out 7
        have hfz67_8 := blk_frozen BK263.out 8
        have hfz67_9 := blk_frozen BK263.out 9
        have hfz67_10 := blk_frozen BK263.out 10
        have hfz67_11 := blk_frozen BK263.out 11
        have hfz67_12 := blk_frozen BK263.out 12
        go_wp2_with (first | ((with_reducible refine gate_callee (f := 60) rfl ?_); refine goesL_ (some 95) rfl rfl Tryz.func60 (by kernel_rfl) rfl #[.slice A0_9 l0_9.length c0_9, .slice A1_9 l1_9.length c1_9] rfl (by (try simp only [q4, q5, q6]); first | done | rfl | (simp only [List.length_drop, List.length_take]; rfl)) ?_; (with_reducible refine (weirref13_sameLabels.calls k2 _ _ l0_9 _ _ l1_9 false _ ?side1 ?side2 ?side3 ?side4 A56.out).mono ?_); (case side1 => repeat (first | exact (Kd.C_below HR0_9.out HB.out) | (with_reducible refine Kd.C_alloc ?_ _) | (with_reducible refine Kd.C_drewN ?_ _) | (with_reducible refine Kd.C_drew ?_))); (case side2 => exact HC0_9.out); (case side3 => repeat (first | exact (Kd.C_below HR1_9.out HB.out) | (with_reducible refine Kd.C_alloc ?_ _) | (with_reducible refine Kd.C_drewN ?_ _) | (with_reducible refine Kd.C_drew ?_))); (case side4 => exact HC1_9.out); rintro e w' ⟨rfl, ⟨nd, rfl⟩⟩; refine ⟨_, rfl, ?_⟩))
        go_ret
        exact ⟨by first | rfl | (simp [errW_none, errW_some] <;> rfl) | (simp [*, errW_none, errW_some] <;> rfl), by repeat (first | (with_reducible first | exact HB.out | apply below_alloc | apply pw_below_drewN | apply below_drew1 | refine below_set ?_ GE262.out | refine below_set ?_ GE263.out) | exact HB.out)⟩

end Go.Proofs.YtabhhfpfdndidaaGreatDoor.Print
