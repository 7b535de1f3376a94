/- weirref13.condText tells what ast.condText tells. -/
import Derived.Test.YtlbjfomcgbiagaaGreatDoorCondT
import Derived.Test.YtlbjfomcgbiagaaGreatDoorPrint7
import Derived.Test.YtlbjfomcgbiagaaGreatDoorPrint13
import Derived.Test.YtlbjfomcgbiagaaGreatDoorPrint14
set_option linter.unusedVariables false
set_option linter.unusedSimpArgs false
namespace Go.Proofs.YtlbjfomcgbiagaaGreatDoor.CondR
open Go Go.RowKit Go.Proofs.YtlbjfomcgbiagaaGreatDoorW.PrintWords Go.Proofs.YtlbjfomcgbiagaaGreatDoorW.PrintLast Go.Proofs Go.Proofs.YtlbjfomcgbiagaaGreatDoor Go.Proofs.YtlbjfomcgbiagaaGreatDoor.Base Go.Proofs.YtlbjfomcgbiagaaGreatDoorW.PrintMore Go.Proofs.YtlbjfomcgbiagaaGreatDoor.Print Go.Proofs.YtlbjfomcgbiagaaGreatDoor.CondT
attribute [local go_sem] max2_int min2_int max_two min_two max_three min_three max_four min_four

/-- How strongly a condition's node binds. -/
def bindI (x : Int) : Int := if x = 15 then 1 else if x = 14 then 2 else if x = 13 then 3 else 4
theorem binds_at (x : Int) (h0 : 11 ≤ x) (h1 : x ≤ 26) : weirref13_binds.f 9 x = some (bindI x) := by
  have hc : x = 11 ∨ x = 12 ∨ x = 13 ∨ x = 14 ∨ x = 15 ∨ x = 16 ∨ x = 17 ∨ x = 18 ∨ x = 19 ∨ x = 20 ∨ x = 21 ∨ x = 22 ∨ x = 23 ∨ x = 24 ∨ x = 25 ∨ x = 26 := by omega
  rcases hc with rfl | rfl | rfl | rfl | rfl | rfl | rfl | rfl | rfl | rfl | rfl | rfl | rfl | rfl | rfl | rfl <;> rfl
theorem bind_not (x : Int) (h0 : 11 ≤ x) (h13 : x ≤ 26) : decide (bindI x < 3) = rowOp x := by
  have hc : x = 11 ∨ x = 12 ∨ x = 13 ∨ x = 14 ∨ x = 15 ∨ x = 16 ∨ x = 17 ∨ x = 18 ∨ x = 19 ∨ x = 20 ∨ x = 21 ∨ x = 22 ∨ x = 23 ∨ x = 24 ∨ x = 25 ∨ x = 26 := by omega
  rcases hc with rfl | rfl | rfl | rfl | rfl | rfl | rfl | rfl | rfl | rfl | rfl | rfl | rfl | rfl | rfl | rfl <;> rfl
theorem bind_and (x : Int) (h0 : 11 ≤ x) (h1 : x ≤ 26) : decide (bindI x ≤ 2) = rowOp x := by
  have hc : x = 11 ∨ x = 12 ∨ x = 13 ∨ x = 14 ∨ x = 15 ∨ x = 16 ∨ x = 17 ∨ x = 18 ∨ x = 19 ∨ x = 20 ∨ x = 21 ∨ x = 22 ∨ x = 23 ∨ x = 24 ∨ x = 25 ∨ x = 26 := by omega
  rcases hc with rfl | rfl | rfl | rfl | rfl | rfl | rfl | rfl | rfl | rfl | rfl | rfl | rfl | rfl | rfl | rfl <;> rfl
theorem bind_or (x : Int) (h0 : 11 ≤ x) (h1 : x ≤ 26) : decide (bindI x ≤ 1) = (x == 15) := by
  have hc : x = 11 ∨ x = 12 ∨ x = 13 ∨ x = 14 ∨ x = 15 ∨ x = 16 ∨ x = 17 ∨ x = 18 ∨ x = 19 ∨ x = 20 ∨ x = 21 ∨ x = 22 ∨ x = 23 ∨ x = 24 ∨ x = 25 ∨ x = 26 := by omega
  rcases hc with rfl | rfl | rfl | rfl | rfl | rfl | rfl | rfl | rfl | rfl | rfl | rfl | rfl | rfl | rfl | rfl <;> rfl
theorem brk_r (t : ByteArray) (m : Bool) (h : t.size ≤ 1099511627776) : weirref13_bracketed.f t m = some (brk t m) := by
  unfold weirref13_bracketed.f brk
  cases m
  · simp
  · have e1 : (⟨#[40]⟩ : ByteArray).size = 1 := rfl
    simp only [if_true, ByteArray.size_append, e1]
    rw [if_pos (by omega), if_pos (by omega)]
theorem rtext_any (k : Nat) (s r : ByteArray) (h : weirref12_within.f k s ⟨#[39]⟩ = some r) (w : World) : Calls Tryz.prog 75 #[.string s] w fun e w' => e = .returned (.string r) ∧ Below w.heap.size w w' := by
  have HQ := Aside0.mk (weirref12_within.calls k s ⟨#[39]⟩ r w h)
  clear h
  go_enter Tryz.func75, Tryz.ntmps75
  go_wp2_with (go_at_call 109; refine HQ.out.mono ?_; rintro e w1 ⟨rfl, hd⟩)
  go_ret
  exact ⟨rfl, hd.below⟩

/-- The texts joined so far: b ahead, g between. -/
def jacc (b g : ByteArray) (Z : List ByteArray) : Nat → ByteArray
  | 0 => b
  | j + 1 => (if j = 0 then jacc b g Z j else jacc b g Z j ++ g) ++ rdOf ByteArray.empty Z j
theorem jacc_data (b g : ByteArray) (Z : List ByteArray) : ∀ j, j ≤ Z.length → (jacc b g Z j).data.toList = b.data.toList ++ Lib.join ((Z.take j).map (·.data.toList)) g.data.toList
  | 0, _ => by simp [jacc, Lib.join]
  | j + 1, hj => by
    have ih := jacc_data b g Z j (by omega)
    have hr : rdOf ByteArray.empty Z (j : Int) = Z[j] := by simp [rdOf, List.getElem?_eq_getElem (show j < Z.length by omega)]
    show ((if j = 0 then jacc b g Z j else jacc b g Z j ++ g) ++ rdOf ByteArray.empty Z (j : Int)).data.toList = _
    rw [hr]
    match Z, hj with
    | z :: r, hj =>
      match j with
      | 0 =>
        simp [jacc, Lib.join]
      | j + 1 =>
        rw [if_neg (by omega)]
        simp only [ByteArray.data_append, Array.toList_append, ih]
        have hjr : j < r.length := by simp at hj; omega
        have h1 := Lib.joinTail_take_succ g.data.toList (r.map (·.data.toList)) j (r[j].data.toList) (by simp [hjr])
        simp only [List.take_succ_cons, List.map_cons, Lib.join_cons, List.getElem_cons_succ]
        rw [← List.map_take, ← List.map_take] at h1
        rw [h1]
        simp only [List.append_assoc]
theorem jacc_all (b g : ByteArray) (Z : List ByteArray) : jacc b g Z Z.length = b ++ ⟨(Lib.join (Z.map (·.data.toList)) g.data.toList).toArray⟩ := by
  have h := jacc_data b g Z Z.length (Nat.le_refl _)
  rw [List.take_of_length_le (Nat.le_refl _)] at h
  apply ByteArray.ext
  apply Array.ext'
  rw [h]
  simp [ByteArray.data_append]
theorem jacc_le (b g : ByteArray) (Z : List ByteArray) (j : Nat) : (jacc b g Z j).size ≤ (jacc b g Z (j + 1)).size ∧ (0 < j → (jacc b g Z j).size + g.size + (rdOf ByteArray.empty Z (j : Int)).size = (jacc b g Z (j + 1)).size) ∧ (j = 0 → (jacc b g Z j).size + (rdOf ByteArray.empty Z (j : Int)).size = (jacc b g Z (j + 1)).size) := by
  have e : jacc b g Z (j + 1) = (if j = 0 then jacc b g Z j else jacc b g Z j ++ g) ++ rdOf ByteArray.empty Z (j : Int) := rfl
  rw [e]
  by_cases h : j = 0
  · rw [if_pos h, ByteArray.size_append]
    exact ⟨by omega, fun h2 => by omega, fun _ => rfl⟩
  · rw [if_neg h, ByteArray.size_append, ByteArray.size_append]
    exact ⟨by omega, fun _ => rfl, fun h2 => absurd h2 h⟩
theorem jacc_mono (b g : ByteArray) (Z : List ByteArray) (j : Nat) : ∀ k, (jacc b g Z j).size ≤ (jacc b g Z (j + k)).size
  | 0 => Nat.le_refl _
  | k + 1 => Nat.le_trans (jacc_mono b g Z j k) (jacc_le b g Z (j + k)).1

def r33.T : Bool × List (List Nat × List Nat) := (true, [([], []), ([], []), ([], []), ([], []), ([2, 3], [2, 3]), ([4], [4]), ([1, 5], [1, 5]), ([], []), ([7], [7]), ([8], [8]), ([9, 6], [9]), ([10], [10]), ([11, 10], [10, 11]), ([12, 10], [10, 12]), ([10, 13], [10, 13]), ([14, 10], [14]), ([15], [15]), ([15], [15]), ([15], [15]), ([17, 18, 15], [15, 17, 18]), ([19, 15], [15, 19]), ([16, 20, 15], [15, 16, 20]), ([21, 15], [15, 21]), ([22, 15], [15, 22]), ([23, 15, 15], [15, 23]), ([15], [15]), ([25, 15], [15, 25]), ([26, 24, 15], [15, 26]), ([24, 27, 15], [15, 24, 27]), ([15, 28], [15, 28]), ([6, 29, 27], [6, 29]), ([0, 30], [0, 30]), ([31, 30, 0, 1, 2, 3, 4, 5, 6, 7, 8, 9, 10, 11, 12, 13, 14, 15, 16, 17, 18, 19, 20, 21, 22, 23, 24, 25, 26, 27, 28, 29, 30, 31], [0, 31])])
def r33.B : List Nat := [0, 0, 0, 0, 12, 28, 62, 0, 128, 384, 1022, 2046, 4094, 8190, 16382, 32766, 65534, 65534, 65534, 458750, 983038, 2097150, 4194302, 8388606, 16777214, 65534, 33619966, 134217726, 268435454, 536870910, 1073741822, 2147483647, 4294967295]
theorem r33.tab : rtab .any (opsOf Tryz.f29 33) = r33.T := by kernel_rfl
theorem r33.bits : waitsOk r33.T.2 r33.B = true := by kernel_rfl
theorem sign_at (x : Int) (g : ByteArray) (h0 : 16 ≤ x) (h1 : x ≤ 21) (h : ast_sign.f x = some g) : weirref13_sign.f x = some ((⟨#[32]⟩ : ByteArray) ++ g ++ (⟨#[32]⟩ : ByteArray)) := by
  have hc : x = 16 ∨ x = 17 ∨ x = 18 ∨ x = 19 ∨ x = 20 ∨ x = 21 := by omega
  rcases hc with rfl | rfl | rfl | rfl | rfl | rfl <;> (obtain rfl := Option.some.inj h.symm; rfl)
/-- The box that the node lies in. -/
theorem box_cells (w : World) (c0 c1 c2 c3 c4 c5 : Value) (t : TypeId) : ∀ W : World, Below (w.alloc (.cells #[c0, c1, c2, c3, c4, c5] t)).heap.size (w.alloc (.cells #[c0, c1, c2, c3, c4, c5] t)) W →
    W.cell? ⟨w.heap.size, 0, none⟩ = some c0 ∧ W.cell? ⟨w.heap.size, 2, none⟩ = some c2 ∧ W.cell? ⟨w.heap.size, 3, none⟩ = some c3 := by
  intro W hb
  have h1 := Rep.alloc_new w (.cells #[c0, c1, c2, c3, c4, c5] t)
  have h2 := (hb.block w.heap.size (by simp)).trans h1
  exact ⟨cell_of h2 0, cell_of h2 2, cell_of h2 3⟩
theorem box_below (w : World) (c : Obj) (W : World) (hb : Below (w.alloc c).heap.size (w.alloc c) W) : Below w.heap.size w W :=
  (below_alloc (Below.refl _ _) _).trans (hb.mono (by simp))

set_option maxRecDepth 100000 in
set_option maxHeartbeats 8000000 in
theorem cond_ref (A : Option Addr) (c : Nat) (l : List ND) (hc : l.length ≤ c) (w00 : World) (hr00 : Kd.C k56 w00 A l.length l) (hG0 : Globs w00)
    (hKids : ∀ a places, (∃ K, ast_Kids.f K l a = some places) → ∃ K, weirtree_Kids.f K l a = some places)
    (hQ : ∀ k s r, lex_Quote.f k s = some r → ∃ k', weirref12_Quote.f k' s = some r)
    (hX : ∀ s r, lex_inQuotes.f s ⟨#[39]⟩ = some r → ∃ k', weirref12_within.f k' s ⟨#[39]⟩ = some r)
    (hops : ∀ a places p, (∃ K, ast_Kids.f K l a = some places) → p ∈ places → (rd_T56 l a).f0 = 13 ∨ (rd_T56 l a).f0 = 14 ∨ (rd_T56 l a).f0 = 15 → 11 ≤ (rd_T56 l p).f0 ∧ (rd_T56 l p).f0 ≤ 26) :
    ∀ (a : Int) (s : ByteArray), CT l a s → ∀ w : World, Below w00.heap.size w00 w →
    Calls Tryz.prog 29 #[.slice A l.length c, .int .i64 a] w fun e w' => e = .returned (.string s) ∧ Below w.heap.size w w' := by
  intro a s h
  induction h with
  | mk a s places ks h0 h1 K hK hl hk hb ih =>
  intro w hw
  have hr := Kd.C_below hr00 hw
  obtain ⟨n, hn⟩ : ∃ n, rd_T56 l a = n := ⟨_, rfl⟩
  obtain ⟨ad, hA, hx0, hx1, hx2, hx3, hx4, hx5⟩ := at_T56 hr a h0 h1
  subst hA
  rw [hn] at hx0 hx1 hx2 hx3 hx4 hx5
  obtain ⟨K2, hK2⟩ := hKids a places ⟨K, hK⟩
  have hop := fun p hp => hops a places p ⟨K, hK⟩ hp
  have HK := Aside0.mk (fun (W : World) (hb : Below w00.heap.size w00 W) => weirtree_Kids.calls K2 (some ad) c l a places W (Kd.C_below hr00 hb) hc hK2)
  have hpl : places.length ≤ 1048576 := hb.1
  have IH := Aside0.mk ih
  have HB := Aside0.mk hb
  have HW := Aside0.mk hw
  have HN := Aside0.mk hn
  have HL := Aside0.mk hl
  have HOp := Aside0.mk hop
  have HQ := Aside0.mk hQ
  have HX := Aside0.mk hX
  clear ih hk hb hw hn hK hl hr hK2 hop hQ hX hops hKids
  have HGl := Aside0.mk (fun (W : World) (hb : Below w.heap.size w W) => hG0.below (below_then HW.out HW.out.size hb))
  obtain ⟨_, hks, hsz, hpr, hb⟩ := HB.out
  rw [HN.out] at hb
  have hop := HOp.out
  rw [HN.out] at hop
  rcases hb with ⟨hf, rfl⟩ | ⟨hf, rfl⟩ | ⟨hf, kq, hq⟩ | ⟨hf, hq⟩ | ⟨hf, rfl⟩ | ⟨hf, hq⟩ | ⟨hf, p, t, rfl, rfl, hs⟩ | ⟨hf, t, r, hrn, rfl, hs⟩ | ⟨hf, hk0, hs⟩ | ⟨hf, hk0, hs⟩ | ⟨hf, t, u, rfl, g, hg, hs⟩
  · clear hop hks hsz hpr
    go_enter Tryz.func29, Tryz.ntmps29
    go_wp2_with (first | (go_at_call 66; refine (HK.out _ (by have h1 := HW.out; repeat (first | exact h1 | apply below_alloc | (refine Below.setCell ?_ h1.size _)))).mono ?_; rintro e w3 ⟨v0, rfl, ho, hb3⟩; obtain ⟨B1, d1, rfl, hle1, hr1⟩ := Kd.R_reads ho; obtain ⟨k1, k2, k3⟩ := box_cells _ _ _ _ _ _ _ _ w3 hb3; (try rw [hf] at k1); have HR1 := Aside0.mk hr1; have HBW := Aside0.mk (box_below _ _ w3 hb3); clear ho hb3 hr1))
    go_ret
    exact ⟨rfl, HBW.out⟩
  · clear hop hks hsz hpr
    go_enter Tryz.func29, Tryz.ntmps29
    go_wp2_with (first | (go_at_call 66; refine (HK.out _ (by have h1 := HW.out; repeat (first | exact h1 | apply below_alloc | (refine Below.setCell ?_ h1.size _)))).mono ?_; rintro e w3 ⟨v0, rfl, ho, hb3⟩; obtain ⟨B1, d1, rfl, hle1, hr1⟩ := Kd.R_reads ho; obtain ⟨k1, k2, k3⟩ := box_cells _ _ _ _ _ _ _ _ w3 hb3; (try rw [hf] at k1); have HR1 := Aside0.mk hr1; have HBW := Aside0.mk (box_below _ _ w3 hb3); clear ho hb3 hr1))
    go_ret
    exact ⟨rfl, HBW.out⟩
  · clear hop hks hsz hpr
    obtain ⟨kr, hqr⟩ := HQ.out kq n.f2 s hq
    have HQr := Aside0.mk (fun W : World => weirref12_Quote.calls kr n.f2 s W hqr)
    clear hq hqr
    go_enter Tryz.func29, Tryz.ntmps29
    go_wp2_with (first | (go_at_call 66; refine (HK.out _ (by have h1 := HW.out; repeat (first | exact h1 | apply below_alloc | (refine Below.setCell ?_ h1.size _)))).mono ?_; rintro e w3 ⟨v0, rfl, ho, hb3⟩; obtain ⟨B1, d1, rfl, hle1, hr1⟩ := Kd.R_reads ho; obtain ⟨k1, k2, k3⟩ := box_cells _ _ _ _ _ _ _ _ w3 hb3; (try rw [hf] at k1); have HR1 := Aside0.mk hr1; have HBW := Aside0.mk (box_below _ _ w3 hb3); clear ho hb3 hr1) | (go_at_call 68; refine (HQr.out _).mono ?_; rintro e w4 ⟨rfl, hb4⟩))
    go_ret
    exact ⟨rfl, below_then HBW.out HBW.out.size hb4⟩
  · clear hop hks hsz hpr
    obtain ⟨kr, hqr⟩ := HX.out n.f2 s hq
    have HQr := Aside0.mk (fun W : World => rtext_any kr n.f2 s hqr W)
    clear hq hqr
    go_enter Tryz.func29, Tryz.ntmps29
    go_wp2_with (first | (go_at_call 66; refine (HK.out _ (by have h1 := HW.out; repeat (first | exact h1 | apply below_alloc | (refine Below.setCell ?_ h1.size _)))).mono ?_; rintro e w3 ⟨v0, rfl, ho, hb3⟩; obtain ⟨B1, d1, rfl, hle1, hr1⟩ := Kd.R_reads ho; obtain ⟨k1, k2, k3⟩ := box_cells _ _ _ _ _ _ _ _ w3 hb3; (try rw [hf] at k1); have HR1 := Aside0.mk hr1; have HBW := Aside0.mk (box_below _ _ w3 hb3); clear ho hb3 hr1) | (go_at_call 75; refine (HQr.out _).mono ?_; rintro e w4 ⟨rfl, hb4⟩))
    go_ret
    exact ⟨rfl, below_then HBW.out HBW.out.size hb4⟩
  · clear hop hks hsz hpr
    go_enter Tryz.func29, Tryz.ntmps29
    go_wp2_with (first | (go_at_call 66; refine (HK.out _ (by have h1 := HW.out; repeat (first | exact h1 | apply below_alloc | (refine Below.setCell ?_ h1.size _)))).mono ?_; rintro e w3 ⟨v0, rfl, ho, hb3⟩; obtain ⟨B1, d1, rfl, hle1, hr1⟩ := Kd.R_reads ho; obtain ⟨k1, k2, k3⟩ := box_cells _ _ _ _ _ _ _ _ w3 hb3; (try rw [hf] at k1); have HR1 := Aside0.mk hr1; have HBW := Aside0.mk (box_below _ _ w3 hb3); clear ho hb3 hr1))
    go_ret
    exact ⟨rfl, HBW.out⟩
  · clear hop hks hsz hpr
    have HFq := Aside0.mk hq
    clear hq
    go_enter Tryz.func29, Tryz.ntmps29
    go_wp2_with (first | (go_at_call 66; refine (HK.out _ (by have h1 := HW.out; repeat (first | exact h1 | apply below_alloc | (refine Below.setCell ?_ h1.size _)))).mono ?_; rintro e w3 ⟨v0, rfl, ho, hb3⟩; obtain ⟨B1, d1, rfl, hle1, hr1⟩ := Kd.R_reads ho; obtain ⟨k1, k2, k3⟩ := box_cells _ _ _ _ _ _ _ _ w3 hb3; (try rw [hf] at k1); have HR1 := Aside0.mk hr1; have HBW := Aside0.mk (box_below _ _ w3 hb3); clear ho hb3 hr1) | (go_at_call 60; refine (strconv_FormatInt.calls n.f3 10 s _ (HGl.out _ HBW.out) HFq.out).mono ?_; rintro e w4 ⟨rfl, hb4⟩))
    go_ret
    exact ⟨rfl, below_then HBW.out HBW.out.size hb4⟩
  · have hHs := Aside0.mk hs
    clear hs
    have hp := hpr p (by simp)
    have hop1 := hop p (by simp) (Or.inl hf)
    have hts : t.size ≤ 1099511627776 := hks t (by simp)
    go_enter Tryz.func29, Tryz.ntmps29
    go_wp2_with (first | (go_at_call 66; refine (HK.out _ (by have h1 := HW.out; repeat (first | exact h1 | apply below_alloc | (refine Below.setCell ?_ h1.size _)))).mono ?_; rintro e w3 ⟨v0, rfl, ho, hb3⟩; obtain ⟨B1, d1, rfl, hle1, hr1⟩ := Kd.R_reads ho; obtain ⟨k1, k2, k3⟩ := box_cells _ _ _ _ _ _ _ _ w3 hb3; (try rw [hf] at k1); have HR1 := Aside0.mk hr1; have HBW := Aside0.mk (box_below _ _ w3 hb3); clear ho hb3 hr1))
    have hs := hHs.out
    have HW3 := Aside0.mk (below_then HW.out HW.out.size HBW.out)
    obtain ⟨ae, hB1, hxe⟩ := Kd.at_int HR1.out 0 (by omega) (by simp)
    subst hB1
    have hxe : w3.cell? ae = some (.int .i64 p) := by rw [← CondT.add_zero ae]; exact hxe
    obtain ⟨ad2, hA2, kx, _⟩ := at_T56 (Kd.C_below hr00 HW3.out) p hp.1 hp.2
    obtain rfl := Option.some.inj hA2
    have HRec := Aside0.mk (fun (W : World) (hb : Below w3.heap.size w3 W) => IH.out 0 p t rfl rfl W (below_then HW3.out HW3.out.size hb))
    obtain ⟨x, hx⟩ : ∃ x, (rd_T56 l p).f0 = x := ⟨_, rfl⟩
    rw [hx] at kx hop1 hs
    have HBd := Aside0.mk (fun (W : World) => weirref13_binds.calls 9 x (bindI x) W (binds_at x hop1.1 hop1.2))
    have HBk := Aside0.mk (fun (m : Bool) (W : World) => weirref13_bracketed.calls t m (brk t m) W (brk_r t m hts))
    have hbx := bind_not x hop1.1 hop1.2
    have hbs := brk_size t (rowOp x)
    have hl1 : ¬ 9223372036854775807 < 4 + (brk t (rowOp x)).size := by omega
    have hp0 := hp.1
    have hp1 := hp.2
    have HHs := Aside0.mk hs
    clear hop hs hpr hks hx hop1 hp hr00 hG0 hA2 HR1
    go_region_held3 (fun W => Below w3.heap.size w3 W ∧ W.cell? ae = some (.int .i64 p) ∧ W.cell? (ad.add (p.toNat * 6)) = some (.int .u8 x))
      (first | exact start3 hxe kx | assumption | exact keep3 (by assumption) hb)
      (first
        | (go_at_call 29; refine (HRec.out _ (And.left (by assumption))).mono ?_; rintro e w' ⟨rfl, hb⟩)
        | (go_at_call 70; refine (HBd.out _).mono ?_; rintro e w' ⟨rfl, hd⟩; have hb := hd.below)
        | (go_at_call 69; refine (HBk.out _ _).mono ?_; rintro e w' ⟨rfl, hd⟩; have hb := hd.below))
    all_goals go_wp2
    all_goals go_ret
    all_goals exact ⟨by rw [HHs.out]; rfl, below_then HBW.out HBW.out.size (And.left (by assumption))⟩
  · have hHs := Aside0.mk hs
    clear hs
    have hprl : places.length = r.length + 1 := by have := HL.out; simp at this; omega
    have hpl0 : 0 < places.length := by omega
    obtain ⟨p0, hp0⟩ : ∃ p0, places[0] = p0 := ⟨_, rfl⟩
    have hg0 : places[0]? = some p0 := by rw [List.getElem?_eq_getElem hpl0, hp0]
    have hp := hpr p0 (by rw [← hp0]; exact List.getElem_mem hpl0)
    have hrd0 : rd places 0 = p0 := by rw [← hp0]; exact rd_get places 0 hpl0
    have HRd0 := Aside0.mk hrd0
    have HRec0 := Aside0.mk (fun (W : World) (hb : Below w00.heap.size w00 W) => IH.out 0 p0 t hg0 rfl W hb)
    have hts : t.size ≤ 1099511627776 := hks t (by simp)
    have HKs := Aside0.mk hks
    have HPr := Aside0.mk hpr
    have hfin := jacc_all (t ++ (⟨#[32, 73, 78, 32, 40]⟩ : ByteArray)) (⟨#[44, 32]⟩ : ByteArray) r
    have hs2 : s = jacc (t ++ (⟨#[32, 73, 78, 32, 40]⟩ : ByteArray)) (⟨#[44, 32]⟩ : ByteArray) r r.length ++ (⟨#[41]⟩ : ByteArray) := by rw [hHs.out, hfin]
    have hsz2 := congrArg ByteArray.size hs2
    have e1 : (⟨#[41]⟩ : ByteArray).size = 1 := rfl
    have e5 : (⟨#[32, 73, 78, 32, 40]⟩ : ByteArray).size = 5 := rfl
    have e2 : (⟨#[44, 32]⟩ : ByteArray).size = 2 := rfl
    rw [ByteArray.size_append, e1] at hsz2
    obtain ⟨acc, hacc⟩ : ∃ acc, jacc (t ++ (⟨#[32, 73, 78, 32, 40]⟩ : ByteArray)) (⟨#[44, 32]⟩ : ByteArray) r = acc := ⟨_, rfl⟩
    have ha0 : acc 0 = t ++ (⟨#[32, 73, 78, 32, 40]⟩ : ByteArray) := by rw [← hacc]; rfl
    have HAs := Aside0.mk (fun j : Nat => show acc (j + 1) = (if j = 0 then acc j else acc j ++ (⟨#[44, 32]⟩ : ByteArray)) ++ rdOf ByteArray.empty r (j : Int) by rw [← hacc]; rfl)
    have HAl := Aside0.mk (fun j : Nat => show (acc j).size ≤ (acc (j + 1)).size ∧ (0 < j → (acc j).size + 2 + (rdOf ByteArray.empty r (j : Int)).size = (acc (j + 1)).size) ∧ (j = 0 → (acc j).size + (rdOf ByteArray.empty r (j : Int)).size = (acc (j + 1)).size) by rw [← hacc]; exact jacc_le _ (⟨#[44, 32]⟩ : ByteArray) r j)
    have HAm := Aside0.mk (fun j k : Nat => show (acc j).size ≤ (acc (j + k)).size by rw [← hacc]; exact jacc_mono _ _ _ _ _)
    rw [hacc] at hs2 hsz2
    have HS2 := Aside0.mk hs2
    have HZ2 := Aside0.mk hsz2
    have HA0 := Aside0.mk ha0
    have hHs2 := hsz
    have HPl := Aside0.mk hprl
    clear hacc hs2 hsz2 ha0 hfin hks hpr hop hsz hrn hrd0 hp0 hg0 hprl
    have HSz := Aside0.mk hHs2
    clear hHs2
    have hl1 : ¬ 9223372036854775807 < t.size + 5 := by omega
    go_enter Tryz.func29, Tryz.ntmps29
    go_wp2_with (first | (go_at_call 66; refine (HK.out _ (by have h1 := HW.out; repeat (first | exact h1 | apply below_alloc | (refine Below.setCell ?_ h1.size _)))).mono ?_; rintro e w3 ⟨v0, rfl, ho, hb3⟩; obtain ⟨B1, d1, rfl, hle1, hr1⟩ := Kd.R_reads ho; obtain ⟨k1, k2, k3⟩ := box_cells _ _ _ _ _ _ _ _ w3 hb3; (try rw [hf] at k1); have HR1 := Aside0.mk hr1; have HBW := Aside0.mk (box_below _ _ w3 hb3); clear ho hb3 hr1))
    obtain ⟨ae, hB1, hxe⟩ := Kd.at_int HR1.out 0 (by omega) (by omega)
    subst hB1
    rw [HRd0.out] at hxe
    have hxe : w3.cell? ae = some (.int .i64 p0) := by rw [← CondT.add_zero ae]; exact hxe
    have hpn : (0 : Int) < (places.length : Int) := by omega
    have hl1 : ¬ 9223372036854775807 < t.size + 5 := by omega
    go_simp
    go_wp2_with (go_at_call 29; refine (HRec0.out _ (below_then HW.out HW.out.size HBW.out)).mono ?_; rintro e w4 ⟨rfl, hb4⟩)
    rw [← HA0.out]
    have HB4 := Aside0.mk hb4
    have HRk := Aside0.mk (Kd.C_below HR1.out hb4)
    have HW4 := Aside0.mk (below_then HW.out HW.out.size (below_then HBW.out HBW.out.size hb4))
    clear HR1 hxe hb4
    go_loopw [7, 8] (fun u i W => ∃ j : Nat, j ≤ r.length ∧ i = .int .i64 ((j : Int) + 1) ∧ u = .string (acc j) ∧ Aside0 (Below w4.heap.size w4 W)) (fun u i _ => r.length + 1 - (intOf i).toNat)
    case atStart => exact ⟨0, Nat.zero_le _, rfl, rfl, ⟨Below.refl _ _⟩⟩
    case round =>
      obtain ⟨j, hj2, rfl, rfl, HBr⟩ := hrel
      have hL0 := below_then HW4.out HW4.out.size HBr.out
      have hpl1 := HPl.out
      by_cases hlt : j < r.length
      · have hjp : j + 1 < places.length := by omega
        obtain ⟨p, hp2⟩ : ∃ p, places[j + 1] = p := ⟨_, rfl⟩
        have hxe := (Kd.at_int (Kd.C_below HRk.out HBr.out) ((j : Int) + 1) (by omega) (by omega))
        obtain ⟨ae2, hB2, hxe⟩ := hxe
        obtain rfl := Option.some.inj hB2
        have hrd : rd places ((j : Int) + 1) = p := by have := rd_get places (j + 1) hjp; rw [hp2] at this; exact_mod_cast this
        rw [hrd] at hxe
        have hto : ((j : Int) + 1).toNat = j + 1 := by omega
        have hxe2 := hxe
        rw [hto, show ae.add (j + 1) = ⟨ae.block, ae.off + (j + 1), none⟩ by unfold Addr.add; simp] at hxe2
        clear hxe hB2
        obtain ⟨t2, ht2⟩ : ∃ t2, r[j] = t2 := ⟨_, rfl⟩
        have hrt : rdOf ByteArray.empty r (j : Int) = t2 := by rw [← ht2]; simp [rdOf, List.getElem?_eq_getElem hlt]
        have hpr2 := HPr.out p (by rw [← hp2]; exact List.getElem_mem hjp)
        have HRec := Aside0.mk (fun (W : World) (hb : Below w00.heap.size w00 W) => IH.out (j + 1) p t2 (by rw [List.getElem?_eq_getElem hjp, hp2]) (by rw [List.getElem?_cons_succ, List.getElem?_eq_getElem hlt, ht2]) W hb)
        have hal := HAl.out j
        have hacj := HAs.out j
        have ham := HAm.out (j + 1) (r.length - (j + 1))
        rw [show j + 1 + (r.length - (j + 1)) = r.length by omega] at ham
        rw [hrt] at hal hacj
        have hsz0 := HSz.out
        have hsz1 := HZ2.out
        have HAc := Aside0.mk hacj
        have hn1 : ((j : Int) + 1) < (places.length : Int) := by omega
        have hn0 : 0 ≤ ((j : Int) + 1) := by omega
        have HL0 := Aside0.mk hL0
        clear hp2 hrt ht2 hL0 hrd hto hacj
        by_cases hj0 : j = 0
        · rw [if_pos hj0] at HAc
          have h1 := hal.2.2 hj0
          have hg1 : ¬ (1 : Int) < (j : Int) + 1 := by omega
          have hs1 : ¬ 9223372036854775807 < (acc j).size + t2.size := by omega
          clear hj0 hpl1 hsz1 h1 hal
          go_wp2_with (go_at_call 29; refine (HRec.out _ HL0.out).mono ?_; rintro e w5 ⟨rfl, hb5⟩)
          go_roundw
          case rel => exact ⟨j + 1, by omega, by go_num, by rw [HAc.out], ⟨below_then HBr.out HBr.out.size hb5⟩⟩
          case measure => simp [intOf]; omega
        · rw [if_neg hj0] at HAc
          have h1 := hal.2.1 (by omega)
          have hg1 : (1 : Int) < (j : Int) + 1 := by omega
          have hs0 : ¬ 9223372036854775807 < (acc j).size + 2 := by omega
          have hs1 : ¬ 9223372036854775807 < (acc j).size + 2 + t2.size := by omega
          clear hpl1 hsz1 h1 hal
          go_wp2_with (go_at_call 29; refine (HRec.out _ HL0.out).mono ?_; rintro e w5 ⟨rfl, hb5⟩)
          go_roundw
          case rel => exact ⟨j + 1, by omega, by go_num, by rw [HAc.out], ⟨below_then HBr.out HBr.out.size hb5⟩⟩
          case measure => simp [intOf]; omega
      · obtain rfl : j = r.length := by omega
        have hsz0 := HSz.out
        have hsz1 := HZ2.out
        have hs1 : ¬ 9223372036854775807 < (acc r.length).size + 1 := by omega
        have hn1 : ¬ ((r.length : Int) + 1) < (places.length : Int) := by omega
        clear hpl1 hsz1
        go_wp2
        go_ret
        exact ⟨by rw [HS2.out]; rfl, below_then HBW.out HBW.out.size (below_then HB4.out HB4.out.size HBr.out)⟩
  -- LAST THREE
  · obtain ⟨Z, hZ⟩ : ∃ Z, Z = List.zipWith (fun (p : Int) (t : ByteArray) => brk t (rowOp (rd_T56 l p).f0)) places ks := ⟨_, rfl⟩
    have hZl : Z.length = places.length := by rw [hZ, List.length_zipWith, HL.out]; omega
    have hZj : ∀ (j : Nat) (p : Int) (t : ByteArray), places[j]? = some p → ks[j]? = some t → rdOf ByteArray.empty Z (j : Int) = (fun (p : Int) (t : ByteArray) => brk t (rowOp (rd_T56 l p).f0)) p t := by
      intro j p t h1 h2
      have h3 : Z[j]? = some ((fun (p : Int) (t : ByteArray) => brk t (rowOp (rd_T56 l p).f0)) p t) := by rw [hZ, List.getElem?_zipWith, h1, h2]
      simp only [rdOf, Int.toNat_natCast, List.getD_eq_getElem?_getD, h3, Option.getD_some]
    rw [← hZ] at hs
    obtain ⟨G, hGe⟩ : ∃ G : ByteArray, G = ⟨#[32, 65, 78, 68, 32]⟩ := ⟨_, rfl⟩
    have HSg := Aside0.mk (fun W : World => weirref13_sign.calls 14 G W (by rw [hGe]; rfl))
    have hfin : s = jacc ByteArray.empty G Z Z.length := by rw [jacc_all, hs, hGe]; simp
    have hGs : G.size ≤ 5 := by rw [hGe]; decide
    clear hs hZ hGe hk0
    have hfin2 := hfin
    have hsz2 := congrArg ByteArray.size hfin
    obtain ⟨acc, hacc⟩ : ∃ acc, jacc ByteArray.empty G Z = acc := ⟨_, rfl⟩
    have ha0 : acc 0 = ByteArray.empty := by rw [← hacc]; rfl
    have HAs := Aside0.mk (fun j : Nat => show acc (j + 1) = (if j = 0 then acc j else acc j ++ G) ++ rdOf ByteArray.empty Z (j : Int) by rw [← hacc]; rfl)
    have HAl := Aside0.mk (fun j : Nat => show (acc j).size ≤ (acc (j + 1)).size ∧ (0 < j → (acc j).size + G.size + (rdOf ByteArray.empty Z (j : Int)).size = (acc (j + 1)).size) ∧ (j = 0 → (acc j).size + (rdOf ByteArray.empty Z (j : Int)).size = (acc (j + 1)).size) by rw [← hacc]; exact jacc_le _ G Z j)
    have HAm := Aside0.mk (fun j k : Nat => show (acc j).size ≤ (acc (j + k)).size by rw [← hacc]; exact jacc_mono _ _ _ _ _)
    rw [hacc, hZl] at hfin hsz2
    have HS2 := Aside0.mk hfin
    have HZ2 := Aside0.mk hsz2
    have HA0 := Aside0.mk ha0
    have HSz := Aside0.mk hsz
    have HKs := Aside0.mk hks
    have HPr := Aside0.mk hpr
    have HZj := Aside0.mk hZj
    have HZl := Aside0.mk hZl
    have HF := Aside0.mk hf
    clear hacc hfin hfin2 hsz2 ha0 hsz hks hpr hZj hZl hop
    go_enter Tryz.func29, Tryz.ntmps29
    go_wp2_with (first | (go_at_call 66; refine (HK.out _ (by have h1 := HW.out; repeat (first | exact h1 | apply below_alloc | (refine Below.setCell ?_ h1.size _)))).mono ?_; rintro e w3 ⟨v0, rfl, ho, hb3⟩; obtain ⟨B1, d1, rfl, hle1, hr1⟩ := Kd.R_reads ho; obtain ⟨k1, k2, k3⟩ := box_cells _ _ _ _ _ _ _ _ w3 hb3; (try rw [hf] at k1); have HR1 := Aside0.mk hr1; have HBW := Aside0.mk (box_below _ _ w3 hb3); clear ho hb3 hr1))
    have HW3 := Aside0.mk (below_then HW.out HW.out.size HBW.out)
    have hbe : (⟨#[]⟩ : ByteArray) = acc 0 := by rw [HA0.out]; rfl
    go_loopw [9, 10] (fun u i W => ∃ (j : Nat) (iv : Int), j ≤ places.length ∧ Aside0 (iv = j) ∧ i = .int .i64 iv ∧ u = .string (acc j) ∧ Aside0 (Below w3.heap.size w3 W)) (fun u i _ => places.length - (intOf i).toNat)
    case atStart => exact ⟨0, 0, Nat.zero_le _, ⟨rfl⟩, rfl, by rw [HA0.out]; rfl, ⟨Below.refl _ _⟩⟩
    case round =>
      clear hbe
      obtain ⟨j, iv, hj2, HIv, rfl, rfl, HBr⟩ := hrel
      have hL0 := below_then HW3.out HW3.out.size HBr.out
      have k1 : wr.cell? ⟨w.heap.size, 0, none⟩ = some (.int .u8 14) := (HBr.out.cell (Rep.lt_of_cell? k1)).trans k1
      have hiv := HIv.out
      have hsz0 := HSz.out
      have hsz1 := HZ2.out
      by_cases hlt : j < places.length
      · obtain ⟨ae, hB2, hxe⟩ := Kd.at_int (Kd.C_below HR1.out HBr.out) iv (by omega) (by omega)
        subst hB2
        obtain ⟨p, hp2⟩ : ∃ p, places[j] = p := ⟨_, rfl⟩
        have hrd : rd places iv = p := by rw [hiv, ← hp2]; exact rd_get places j hlt
        rw [hrd] at hxe
        have hpm : p ∈ places := by rw [← hp2]; exact List.getElem_mem hlt
        have hpr2 := HPr.out p hpm
        have hjk : j < ks.length := by rw [HL.out]; exact hlt
        obtain ⟨t, ht⟩ : ∃ t, ks[j] = t := ⟨_, rfl⟩
        have hts := HKs.out t (by rw [← ht]; exact List.getElem_mem hjk)
        have hzj := HZj.out j p t (by rw [List.getElem?_eq_getElem hlt, hp2]) (by rw [List.getElem?_eq_getElem hjk, ht])
        obtain ⟨ad2, hA2, kx, _⟩ := at_T56 (Kd.C_below hr00 hL0) p hpr2.1 hpr2.2
        obtain rfl := Option.some.inj hA2
        have HRec0 := Aside0.mk (fun (W : World) (hb : Below w00.heap.size w00 W) => IH.out j p t (by rw [List.getElem?_eq_getElem hlt, hp2]) (by rw [List.getElem?_eq_getElem hjk, ht]) W hb)
        have hal := HAl.out j
        have hacj := HAs.out j
        have ham := HAm.out (j + 1) (places.length - (j + 1))
        rw [show j + 1 + (places.length - (j + 1)) = places.length by omega] at ham
        have hopx := HOp.out p hpm (by rw [HN.out]; simp [HF.out])
        obtain ⟨x, hx⟩ : ∃ x, (rd_T56 l p).f0 = x := ⟨_, rfl⟩
        rw [hx] at kx hzj hopx
        rw [hzj] at hal hacj
        obtain ⟨u, hu⟩ : ∃ u, brk t (rowOp x) = u := ⟨_, rfl⟩
        rw [hu] at hal hacj
        have HBk := Aside0.mk (fun (W : World) => weirref13_bracketed.calls t (rowOp x) u W (by rw [← hu]; exact brk_r t (rowOp x) hts))
        have HBd := Aside0.mk (fun (W : World) => weirref13_binds.calls 9 x (bindI x) W (binds_at x hopx.1 hopx.2))
        have HBn := Aside0.mk (fun (W : World) => weirref13_binds.calls 9 14 2 W rfl)
        have hbx := bind_and x hopx.1 hopx.2
        have hn0 : 0 ≤ iv := by omega
        have hn1 : iv < (places.length : Int) := by omega
        have hp0 := hpr2.1
        have hp1 := hpr2.2
        have HL0 := Aside0.mk hL0
        have HB0 := Aside0.mk HBr.out
        have HJ := Aside0.mk hacj
        have HRd := Aside0.mk hj2
        clear hp2 hrd ht hx hzj hu hacj hpm hpr2 hL0 hr00 hA2 HR1
        by_cases hj0 : j = 0
        · rw [if_pos hj0] at HJ
          have HAc := HJ
          have h1 := hal.2.2 hj0
          have hg1 : ¬ (0 : Int) < iv := by omega
          have hs1 : ¬ 9223372036854775807 < (acc j).size + u.size := by omega
          have hm1 : iv ≤ 1048576 := by omega
          have HRec := Aside0.mk (fun (W : World) (hb : Below wr.heap.size wr W) => HRec0.out W (below_then HL0.out HL0.out.size hb))
          have HB00 := HB0
          have hj2 := hlt
          clear hj0 hsz0 hsz1 h1 hal ham hiv
          go_wp2
          refine start_ (n := 33) (S := fun W => Below wr.heap.size wr W ∧ W.cell? (ae.add iv.toNat) = some (.int .i64 p) ∧ W.cell? ⟨w.heap.size, 0, none⟩ = some (.int .u8 14) ∧ W.cell? (ad.add (p.toNat * 6)) = some (.int .u8 x)) (ds := []) #[false, false, false, false, false, false, false, false, false, false, false, false, false, false, false, false, false, false, false, false, false, false, false, false, false, false, false, false, false, false, false, false, false] (by kernel_rfl) rfl rfl (start4 hxe k1 kx) (fun hHeld => ?_)
          refine with_tabW r33.tab r33.bits (fun HT_ HW_ => ?_)
          refine pP 0 100 ?_
          refine pP 1 101 ?_
          refine pP 2 102 ?_
          refine pP 3 103 ?_
          refine pP 4 104 ?_
          refine pP 7 107 ?_
          refine pT 5 105 ?_
          refine pT 8 108 ?_
          refine pP 9 109 ?_
          refine pO 6 106 (fun K hK => ?_)
          refine goes_ Tryz.func29 (by kernel_rfl) rfl #[.slice (some ad) l.length c, .int .i64 p] (by rfl) rfl rfl (by first | rfl | (simp only [q4, q5, q6]; rfl)) ?_
          refine (HRec.out _ hHeld.1).mono ?_
          rintro e w6 ⟨rfl, hb⟩
          refine ⟨_, rfl, ?_⟩
          refine hK.out _ _ (keep4 hHeld hb) (fun hHeld => ?_)
          clear hK K
          refine norm_ (a' := ?_) ?_ ?_
          rotate_left
          · show Act.put _ (some 106) _ = _
            simp only [Act.put, q1, q2, q3, i64_w, i32_w]
            rfl
          refine pP 10 110 ?_
          refine pU 11 111 ?_
          refine pU 12 112 ?_
          refine pU 13 113 ?_
          refine pP 14 114 ?_
          refine pP 15 115 ?_
          refine pP 16 116 ?_
          refine pP 17 117 ?_
          refine pP 18 118 ?_
          refine pP 19 119 ?_
          refine pP 25 125 ?_
          refine pT 20 120 ?_
          refine pP 21 121 ?_
          refine pP 22 122 ?_
          refine pT 23 123 ?_
          refine pT 26 126 ?_
          refine pO 24 124 (fun K hK => ?_)
          refine goes_ Tryz.func70 (by kernel_rfl) rfl #[.int .u8 x] (by rfl) rfl rfl (by first | rfl | (simp only [q4, q5, q6]; rfl)) ?_
          refine (HBd.out _).mono ?_
          rintro e w7 ⟨rfl, hd⟩
          have hb := hd.below
          refine ⟨_, rfl, ?_⟩
          refine hK.out _ _ (keep4 hHeld hb) (fun hHeld => ?_)
          clear hK K
          refine norm_ (a' := ?_) ?_ ?_
          rotate_left
          · show Act.put _ (some 124) _ = _
            simp only [Act.put, q1, q2, q3, i64_w, i32_w]
            rfl
          refine pO 27 127 (fun K hK => ?_)
          refine goes_ Tryz.func70 (by kernel_rfl) rfl #[.int .u8 14] (by rfl) rfl rfl (by first | rfl | (simp only [q4, q5, q6]; rfl)) ?_
          refine (HBn.out _).mono ?_
          rintro e w8 ⟨rfl, hd⟩
          have hb := hd.below
          refine ⟨_, rfl, ?_⟩
          refine hK.out _ _ (keep4 hHeld hb) (fun hHeld => ?_)
          clear hK K
          refine norm_ (a' := ?_) ?_ ?_
          rotate_left
          · show Act.put _ (some 127) _ = _
            simp only [Act.put, q1, q2, q3, i64_w, i32_w]
            rfl
          refine pP 28 128 ?_
          refine pP 29 129 ?_
          refine pO 30 130 (fun K hK => ?_)
          refine goes_ Tryz.func69 (by kernel_rfl) rfl #[.string t, .bool (rowOp x)] (by rfl) rfl rfl (by first | rfl | (simp only [q4, q5, q6]; rfl)) ?_
          refine (HBk.out _).mono ?_
          rintro e w9 ⟨rfl, hd⟩
          have hb := hd.below
          refine ⟨_, rfl, ?_⟩
          refine hK.out _ _ (keep4 hHeld hb) (fun hHeld => ?_)
          clear hK K
          refine norm_ (a' := ?_) ?_ ?_
          rotate_left
          · show Act.put _ (some 130) _ = _
            simp only [Act.put, q1, q2, q3, i64_w, i32_w]
            rfl
          refine pP 31 131 ?_
          refine pP 32 9 ?_
          refine done_ (done_of HT_.out (by kernel_rfl)) ?_
          go_wp2
          go_roundw
          case rel => exact ⟨j + 1, iv + 1, by omega, ⟨by have := HIv.out; omega⟩, by go_num, by rw [HAc.out], ⟨below_then HB00.out HB00.out.size hHeld.1⟩⟩
          case measure =>
            have h1 := HIv.out
            simp [intOf]
            omega
        · rw [if_neg hj0] at HJ
          have HAc := HJ
          have h1 := hal.2.1 (by omega)
          have hg1 : (0 : Int) < iv := by omega
          have hs0 : ¬ 9223372036854775807 < (acc j).size + G.size := by omega
          have hs1 : ¬ 9223372036854775807 < (acc j).size + G.size + u.size := by omega
          have hm1 : iv ≤ 1048576 := by omega
          have HRec := Aside0.mk (fun (W : World) (hb : Below wr.heap.size wr W) => HRec0.out W (below_then HL0.out HL0.out.size hb))
          have HB00 := HB0
          clear hj0 hsz0 hsz1 h1 hal ham hiv
          go_wp2_with (go_at_call 71; refine (HSg.out _).mono ?_; rintro e w5 ⟨rfl, hd⟩; have hb5 := hd.below; have hxe := (hb5.cell (Rep.lt_of_cell? hxe)).trans hxe; have k1 := (hb5.cell (Rep.lt_of_cell? k1)).trans k1; have kx := (hb5.cell (Rep.lt_of_cell? kx)).trans kx; have HRec := Aside0.mk (fun (W : World) (hb : Below w5.heap.size w5 W) => HRec.out W (below_then hb5 hb5.size hb)); have HB00 := Aside0.mk (below_then HB00.out HB00.out.size hb5))
          refine start_ (n := 33) (S := fun W => Below w5.heap.size w5 W ∧ W.cell? (ae.add iv.toNat) = some (.int .i64 p) ∧ W.cell? ⟨w.heap.size, 0, none⟩ = some (.int .u8 14) ∧ W.cell? (ad.add (p.toNat * 6)) = some (.int .u8 x)) (ds := []) #[false, false, false, false, false, false, false, false, false, false, false, false, false, false, false, false, false, false, false, false, false, false, false, false, false, false, false, false, false, false, false, false, false] (by kernel_rfl) rfl rfl (start4 hxe k1 kx) (fun hHeld => ?_)
          refine with_tabW r33.tab r33.bits (fun HT_ HW_ => ?_)
          refine pP 0 100 ?_
          refine pP 1 101 ?_
          refine pP 2 102 ?_
          refine pP 3 103 ?_
          refine pP 4 104 ?_
          refine pP 7 107 ?_
          refine pT 5 105 ?_
          refine pT 8 108 ?_
          refine pP 9 109 ?_
          refine pO 6 106 (fun K hK => ?_)
          refine goes_ Tryz.func29 (by kernel_rfl) rfl #[.slice (some ad) l.length c, .int .i64 p] (by rfl) rfl rfl (by first | rfl | (simp only [q4, q5, q6]; rfl)) ?_
          refine (HRec.out _ hHeld.1).mono ?_
          rintro e w6 ⟨rfl, hb⟩
          refine ⟨_, rfl, ?_⟩
          refine hK.out _ _ (keep4 hHeld hb) (fun hHeld => ?_)
          clear hK K
          refine norm_ (a' := ?_) ?_ ?_
          rotate_left
          · show Act.put _ (some 106) _ = _
            simp only [Act.put, q1, q2, q3, i64_w, i32_w]
            rfl
          refine pP 10 110 ?_
          refine pU 11 111 ?_
          refine pU 12 112 ?_
          refine pU 13 113 ?_
          refine pP 14 114 ?_
          refine pP 15 115 ?_
          refine pP 16 116 ?_
          refine pP 17 117 ?_
          refine pP 18 118 ?_
          refine pP 19 119 ?_
          refine pP 25 125 ?_
          refine pT 20 120 ?_
          refine pP 21 121 ?_
          refine pP 22 122 ?_
          refine pT 23 123 ?_
          refine pT 26 126 ?_
          refine pO 24 124 (fun K hK => ?_)
          refine goes_ Tryz.func70 (by kernel_rfl) rfl #[.int .u8 x] (by rfl) rfl rfl (by first | rfl | (simp only [q4, q5, q6]; rfl)) ?_
          refine (HBd.out _).mono ?_
          rintro e w7 ⟨rfl, hd⟩
          have hb := hd.below
          refine ⟨_, rfl, ?_⟩
          refine hK.out _ _ (keep4 hHeld hb) (fun hHeld => ?_)
          clear hK K
          refine norm_ (a' := ?_) ?_ ?_
          rotate_left
          · show Act.put _ (some 124) _ = _
            simp only [Act.put, q1, q2, q3, i64_w, i32_w]
            rfl
          refine pO 27 127 (fun K hK => ?_)
          refine goes_ Tryz.func70 (by kernel_rfl) rfl #[.int .u8 14] (by rfl) rfl rfl (by first | rfl | (simp only [q4, q5, q6]; rfl)) ?_
          refine (HBn.out _).mono ?_
          rintro e w8 ⟨rfl, hd⟩
          have hb := hd.below
          refine ⟨_, rfl, ?_⟩
          refine hK.out _ _ (keep4 hHeld hb) (fun hHeld => ?_)
          clear hK K
          refine norm_ (a' := ?_) ?_ ?_
          rotate_left
          · show Act.put _ (some 127) _ = _
            simp only [Act.put, q1, q2, q3, i64_w, i32_w]
            rfl
          refine pP 28 128 ?_
          refine pP 29 129 ?_
          refine pO 30 130 (fun K hK => ?_)
          refine goes_ Tryz.func69 (by kernel_rfl) rfl #[.string t, .bool (rowOp x)] (by rfl) rfl rfl (by first | rfl | (simp only [q4, q5, q6]; rfl)) ?_
          refine (HBk.out _).mono ?_
          rintro e w9 ⟨rfl, hd⟩
          have hb := hd.below
          refine ⟨_, rfl, ?_⟩
          refine hK.out _ _ (keep4 hHeld hb) (fun hHeld => ?_)
          clear hK K
          refine norm_ (a' := ?_) ?_ ?_
          rotate_left
          · show Act.put _ (some 130) _ = _
            simp only [Act.put, q1, q2, q3, i64_w, i32_w]
            rfl
          refine pP 31 131 ?_
          refine pP 32 9 ?_
          refine done_ (done_of HT_.out (by kernel_rfl)) ?_
          go_wp2
          go_roundw
          case rel => exact ⟨j + 1, iv + 1, by omega, ⟨by have := HIv.out; omega⟩, by go_num, by rw [HAc.out], ⟨below_then HB00.out HB00.out.size hHeld.1⟩⟩
          case measure =>
            have h1 := HIv.out
            simp [intOf]
            omega
      · obtain rfl : j = places.length := by omega
        have hn1 : ¬ iv < (places.length : Int) := by omega
        clear hsz0 hsz1 hiv
        go_wp2
        go_ret
        exact ⟨by rw [HS2.out]; rfl, below_then HBW.out HBW.out.size HBr.out⟩
  · obtain ⟨Z, hZ⟩ : ∃ Z, Z = List.zipWith (fun (p : Int) (t : ByteArray) => brk t ((rd_T56 l p).f0 == 15)) places ks := ⟨_, rfl⟩
    have hZl : Z.length = places.length := by rw [hZ, List.length_zipWith, HL.out]; omega
    have hZj : ∀ (j : Nat) (p : Int) (t : ByteArray), places[j]? = some p → ks[j]? = some t → rdOf ByteArray.empty Z (j : Int) = (fun (p : Int) (t : ByteArray) => brk t ((rd_T56 l p).f0 == 15)) p t := by
      intro j p t h1 h2
      have h3 : Z[j]? = some ((fun (p : Int) (t : ByteArray) => brk t ((rd_T56 l p).f0 == 15)) p t) := by rw [hZ, List.getElem?_zipWith, h1, h2]
      simp only [rdOf, Int.toNat_natCast, List.getD_eq_getElem?_getD, h3, Option.getD_some]
    rw [← hZ] at hs
    obtain ⟨G, hGe⟩ : ∃ G : ByteArray, G = ⟨#[32, 79, 82, 32]⟩ := ⟨_, rfl⟩
    have HSg := Aside0.mk (fun W : World => weirref13_sign.calls 15 G W (by rw [hGe]; rfl))
    have hfin : s = jacc ByteArray.empty G Z Z.length := by rw [jacc_all, hs, hGe]; simp
    have hGs : G.size ≤ 5 := by rw [hGe]; decide
    clear hs hZ hGe hk0
    have hfin2 := hfin
    have hsz2 := congrArg ByteArray.size hfin
    obtain ⟨acc, hacc⟩ : ∃ acc, jacc ByteArray.empty G Z = acc := ⟨_, rfl⟩
    have ha0 : acc 0 = ByteArray.empty := by rw [← hacc]; rfl
    have HAs := Aside0.mk (fun j : Nat => show acc (j + 1) = (if j = 0 then acc j else acc j ++ G) ++ rdOf ByteArray.empty Z (j : Int) by rw [← hacc]; rfl)
    have HAl := Aside0.mk (fun j : Nat => show (acc j).size ≤ (acc (j + 1)).size ∧ (0 < j → (acc j).size + G.size + (rdOf ByteArray.empty Z (j : Int)).size = (acc (j + 1)).size) ∧ (j = 0 → (acc j).size + (rdOf ByteArray.empty Z (j : Int)).size = (acc (j + 1)).size) by rw [← hacc]; exact jacc_le _ G Z j)
    have HAm := Aside0.mk (fun j k : Nat => show (acc j).size ≤ (acc (j + k)).size by rw [← hacc]; exact jacc_mono _ _ _ _ _)
    rw [hacc, hZl] at hfin hsz2
    have HS2 := Aside0.mk hfin
    have HZ2 := Aside0.mk hsz2
    have HA0 := Aside0.mk ha0
    have HSz := Aside0.mk hsz
    have HKs := Aside0.mk hks
    have HPr := Aside0.mk hpr
    have HZj := Aside0.mk hZj
    have HZl := Aside0.mk hZl
    have HF := Aside0.mk hf
    clear hacc hfin hfin2 hsz2 ha0 hsz hks hpr hZj hZl hop
    go_enter Tryz.func29, Tryz.ntmps29
    go_wp2_with (first | (go_at_call 66; refine (HK.out _ (by have h1 := HW.out; repeat (first | exact h1 | apply below_alloc | (refine Below.setCell ?_ h1.size _)))).mono ?_; rintro e w3 ⟨v0, rfl, ho, hb3⟩; obtain ⟨B1, d1, rfl, hle1, hr1⟩ := Kd.R_reads ho; obtain ⟨k1, k2, k3⟩ := box_cells _ _ _ _ _ _ _ _ w3 hb3; (try rw [hf] at k1); have HR1 := Aside0.mk hr1; have HBW := Aside0.mk (box_below _ _ w3 hb3); clear ho hb3 hr1))
    have HW3 := Aside0.mk (below_then HW.out HW.out.size HBW.out)
    have hbe : (⟨#[]⟩ : ByteArray) = acc 0 := by rw [HA0.out]; rfl
    go_loopw [9, 10] (fun u i W => ∃ (j : Nat) (iv : Int), j ≤ places.length ∧ Aside0 (iv = j) ∧ i = .int .i64 iv ∧ u = .string (acc j) ∧ Aside0 (Below w3.heap.size w3 W)) (fun u i _ => places.length - (intOf i).toNat)
    case atStart => exact ⟨0, 0, Nat.zero_le _, ⟨rfl⟩, rfl, by rw [HA0.out]; rfl, ⟨Below.refl _ _⟩⟩
    case round =>
      clear hbe
      obtain ⟨j, iv, hj2, HIv, rfl, rfl, HBr⟩ := hrel
      have hL0 := below_then HW3.out HW3.out.size HBr.out
      have k1 : wr.cell? ⟨w.heap.size, 0, none⟩ = some (.int .u8 15) := (HBr.out.cell (Rep.lt_of_cell? k1)).trans k1
      have hiv := HIv.out
      have hsz0 := HSz.out
      have hsz1 := HZ2.out
      by_cases hlt : j < places.length
      · obtain ⟨ae, hB2, hxe⟩ := Kd.at_int (Kd.C_below HR1.out HBr.out) iv (by omega) (by omega)
        subst hB2
        obtain ⟨p, hp2⟩ : ∃ p, places[j] = p := ⟨_, rfl⟩
        have hrd : rd places iv = p := by rw [hiv, ← hp2]; exact rd_get places j hlt
        rw [hrd] at hxe
        have hpm : p ∈ places := by rw [← hp2]; exact List.getElem_mem hlt
        have hpr2 := HPr.out p hpm
        have hjk : j < ks.length := by rw [HL.out]; exact hlt
        obtain ⟨t, ht⟩ : ∃ t, ks[j] = t := ⟨_, rfl⟩
        have hts := HKs.out t (by rw [← ht]; exact List.getElem_mem hjk)
        have hzj := HZj.out j p t (by rw [List.getElem?_eq_getElem hlt, hp2]) (by rw [List.getElem?_eq_getElem hjk, ht])
        obtain ⟨ad2, hA2, kx, _⟩ := at_T56 (Kd.C_below hr00 hL0) p hpr2.1 hpr2.2
        obtain rfl := Option.some.inj hA2
        have HRec0 := Aside0.mk (fun (W : World) (hb : Below w00.heap.size w00 W) => IH.out j p t (by rw [List.getElem?_eq_getElem hlt, hp2]) (by rw [List.getElem?_eq_getElem hjk, ht]) W hb)
        have hal := HAl.out j
        have hacj := HAs.out j
        have ham := HAm.out (j + 1) (places.length - (j + 1))
        rw [show j + 1 + (places.length - (j + 1)) = places.length by omega] at ham
        have hopx := HOp.out p hpm (by rw [HN.out]; simp [HF.out])
        obtain ⟨x, hx⟩ : ∃ x, (rd_T56 l p).f0 = x := ⟨_, rfl⟩
        rw [hx] at kx hzj hopx
        rw [hzj] at hal hacj
        obtain ⟨u, hu⟩ : ∃ u, brk t (x == 15) = u := ⟨_, rfl⟩
        rw [hu] at hal hacj
        have HBk := Aside0.mk (fun (W : World) => weirref13_bracketed.calls t (x == 15) u W (by rw [← hu]; exact brk_r t (x == 15) hts))
        have HBd := Aside0.mk (fun (W : World) => weirref13_binds.calls 9 x (bindI x) W (binds_at x hopx.1 hopx.2))
        have HBn := Aside0.mk (fun (W : World) => weirref13_binds.calls 9 15 1 W rfl)
        have hbx := bind_or x hopx.1 hopx.2
        have hn0 : 0 ≤ iv := by omega
        have hn1 : iv < (places.length : Int) := by omega
        have hp0 := hpr2.1
        have hp1 := hpr2.2
        have HL0 := Aside0.mk hL0
        have HB0 := Aside0.mk HBr.out
        have HJ := Aside0.mk hacj
        have HRd := Aside0.mk hj2
        clear hp2 hrd ht hx hzj hu hacj hpm hpr2 hL0 hr00 hA2 HR1
        by_cases hj0 : j = 0
        · rw [if_pos hj0] at HJ
          have HAc := HJ
          have h1 := hal.2.2 hj0
          have hg1 : ¬ (0 : Int) < iv := by omega
          have hs1 : ¬ 9223372036854775807 < (acc j).size + u.size := by omega
          have hm1 : iv ≤ 1048576 := by omega
          have HRec := Aside0.mk (fun (W : World) (hb : Below wr.heap.size wr W) => HRec0.out W (below_then HL0.out HL0.out.size hb))
          have HB00 := HB0
          have hj2 := hlt
          clear hj0 hsz0 hsz1 h1 hal ham hiv
          go_wp2
          refine start_ (n := 33) (S := fun W => Below wr.heap.size wr W ∧ W.cell? (ae.add iv.toNat) = some (.int .i64 p) ∧ W.cell? ⟨w.heap.size, 0, none⟩ = some (.int .u8 15) ∧ W.cell? (ad.add (p.toNat * 6)) = some (.int .u8 x)) (ds := []) #[false, false, false, false, false, false, false, false, false, false, false, false, false, false, false, false, false, false, false, false, false, false, false, false, false, false, false, false, false, false, false, false, false] (by kernel_rfl) rfl rfl (start4 hxe k1 kx) (fun hHeld => ?_)
          refine with_tabW r33.tab r33.bits (fun HT_ HW_ => ?_)
          refine pP 0 100 ?_
          refine pP 1 101 ?_
          refine pP 2 102 ?_
          refine pP 3 103 ?_
          refine pP 4 104 ?_
          refine pP 7 107 ?_
          refine pT 5 105 ?_
          refine pT 8 108 ?_
          refine pP 9 109 ?_
          refine pO 6 106 (fun K hK => ?_)
          refine goes_ Tryz.func29 (by kernel_rfl) rfl #[.slice (some ad) l.length c, .int .i64 p] (by rfl) rfl rfl (by first | rfl | (simp only [q4, q5, q6]; rfl)) ?_
          refine (HRec.out _ hHeld.1).mono ?_
          rintro e w6 ⟨rfl, hb⟩
          refine ⟨_, rfl, ?_⟩
          refine hK.out _ _ (keep4 hHeld hb) (fun hHeld => ?_)
          clear hK K
          refine norm_ (a' := ?_) ?_ ?_
          rotate_left
          · show Act.put _ (some 106) _ = _
            simp only [Act.put, q1, q2, q3, i64_w, i32_w]
            rfl
          refine pP 10 110 ?_
          refine pP 11 111 ?_
          refine pT 12 112 ?_
          refine pP 13 113 ?_
          refine pP 14 114 ?_
          refine pP 15 115 ?_
          refine pP 16 116 ?_
          refine pP 17 117 ?_
          refine pP 18 118 ?_
          refine pP 19 119 ?_
          refine pP 25 125 ?_
          refine pT 20 120 ?_
          refine pP 21 121 ?_
          refine pP 22 122 ?_
          refine pT 23 123 ?_
          refine pT 26 126 ?_
          refine pO 24 124 (fun K hK => ?_)
          refine goes_ Tryz.func70 (by kernel_rfl) rfl #[.int .u8 x] (by rfl) rfl rfl (by first | rfl | (simp only [q4, q5, q6]; rfl)) ?_
          refine (HBd.out _).mono ?_
          rintro e w7 ⟨rfl, hd⟩
          have hb := hd.below
          refine ⟨_, rfl, ?_⟩
          refine hK.out _ _ (keep4 hHeld hb) (fun hHeld => ?_)
          clear hK K
          refine norm_ (a' := ?_) ?_ ?_
          rotate_left
          · show Act.put _ (some 124) _ = _
            simp only [Act.put, q1, q2, q3, i64_w, i32_w]
            rfl
          refine pO 27 127 (fun K hK => ?_)
          refine goes_ Tryz.func70 (by kernel_rfl) rfl #[.int .u8 15] (by rfl) rfl rfl (by first | rfl | (simp only [q4, q5, q6]; rfl)) ?_
          refine (HBn.out _).mono ?_
          rintro e w8 ⟨rfl, hd⟩
          have hb := hd.below
          refine ⟨_, rfl, ?_⟩
          refine hK.out _ _ (keep4 hHeld hb) (fun hHeld => ?_)
          clear hK K
          refine norm_ (a' := ?_) ?_ ?_
          rotate_left
          · show Act.put _ (some 127) _ = _
            simp only [Act.put, q1, q2, q3, i64_w, i32_w]
            rfl
          refine pP 28 128 ?_
          refine pP 29 129 ?_
          refine pO 30 130 (fun K hK => ?_)
          refine goes_ Tryz.func69 (by kernel_rfl) rfl #[.string t, .bool (x == 15)] (by rfl) rfl rfl (by first | rfl | (simp only [q4, q5, q6]; rfl)) ?_
          refine (HBk.out _).mono ?_
          rintro e w9 ⟨rfl, hd⟩
          have hb := hd.below
          refine ⟨_, rfl, ?_⟩
          refine hK.out _ _ (keep4 hHeld hb) (fun hHeld => ?_)
          clear hK K
          refine norm_ (a' := ?_) ?_ ?_
          rotate_left
          · show Act.put _ (some 130) _ = _
            simp only [Act.put, q1, q2, q3, i64_w, i32_w]
            rfl
          refine pP 31 131 ?_
          refine pP 32 9 ?_
          refine done_ (done_of HT_.out (by kernel_rfl)) ?_
          go_wp2
          go_roundw
          case rel => exact ⟨j + 1, iv + 1, by omega, ⟨by have := HIv.out; omega⟩, by go_num, by rw [HAc.out], ⟨below_then HB00.out HB00.out.size hHeld.1⟩⟩
          case measure =>
            have h1 := HIv.out
            simp [intOf]
            omega
        · rw [if_neg hj0] at HJ
          have HAc := HJ
          have h1 := hal.2.1 (by omega)
          have hg1 : (0 : Int) < iv := by omega
          have hs0 : ¬ 9223372036854775807 < (acc j).size + G.size := by omega
          have hs1 : ¬ 9223372036854775807 < (acc j).size + G.size + u.size := by omega
          have hm1 : iv ≤ 1048576 := by omega
          have HRec := Aside0.mk (fun (W : World) (hb : Below wr.heap.size wr W) => HRec0.out W (below_then HL0.out HL0.out.size hb))
          have HB00 := HB0
          clear hj0 hsz0 hsz1 h1 hal ham hiv
          go_wp2_with (go_at_call 71; refine (HSg.out _).mono ?_; rintro e w5 ⟨rfl, hd⟩; have hb5 := hd.below; have hxe := (hb5.cell (Rep.lt_of_cell? hxe)).trans hxe; have k1 := (hb5.cell (Rep.lt_of_cell? k1)).trans k1; have kx := (hb5.cell (Rep.lt_of_cell? kx)).trans kx; have HRec := Aside0.mk (fun (W : World) (hb : Below w5.heap.size w5 W) => HRec.out W (below_then hb5 hb5.size hb)); have HB00 := Aside0.mk (below_then HB00.out HB00.out.size hb5))
          refine start_ (n := 33) (S := fun W => Below w5.heap.size w5 W ∧ W.cell? (ae.add iv.toNat) = some (.int .i64 p) ∧ W.cell? ⟨w.heap.size, 0, none⟩ = some (.int .u8 15) ∧ W.cell? (ad.add (p.toNat * 6)) = some (.int .u8 x)) (ds := []) #[false, false, false, false, false, false, false, false, false, false, false, false, false, false, false, false, false, false, false, false, false, false, false, false, false, false, false, false, false, false, false, false, false] (by kernel_rfl) rfl rfl (start4 hxe k1 kx) (fun hHeld => ?_)
          refine with_tabW r33.tab r33.bits (fun HT_ HW_ => ?_)
          refine pP 0 100 ?_
          refine pP 1 101 ?_
          refine pP 2 102 ?_
          refine pP 3 103 ?_
          refine pP 4 104 ?_
          refine pP 7 107 ?_
          refine pT 5 105 ?_
          refine pT 8 108 ?_
          refine pP 9 109 ?_
          refine pO 6 106 (fun K hK => ?_)
          refine goes_ Tryz.func29 (by kernel_rfl) rfl #[.slice (some ad) l.length c, .int .i64 p] (by rfl) rfl rfl (by first | rfl | (simp only [q4, q5, q6]; rfl)) ?_
          refine (HRec.out _ hHeld.1).mono ?_
          rintro e w6 ⟨rfl, hb⟩
          refine ⟨_, rfl, ?_⟩
          refine hK.out _ _ (keep4 hHeld hb) (fun hHeld => ?_)
          clear hK K
          refine norm_ (a' := ?_) ?_ ?_
          rotate_left
          · show Act.put _ (some 106) _ = _
            simp only [Act.put, q1, q2, q3, i64_w, i32_w]
            rfl
          refine pP 10 110 ?_
          refine pP 11 111 ?_
          refine pT 12 112 ?_
          refine pP 13 113 ?_
          refine pP 14 114 ?_
          refine pP 15 115 ?_
          refine pP 16 116 ?_
          refine pP 17 117 ?_
          refine pP 18 118 ?_
          refine pP 19 119 ?_
          refine pP 25 125 ?_
          refine pT 20 120 ?_
          refine pP 21 121 ?_
          refine pP 22 122 ?_
          refine pT 23 123 ?_
          refine pT 26 126 ?_
          refine pO 24 124 (fun K hK => ?_)
          refine goes_ Tryz.func70 (by kernel_rfl) rfl #[.int .u8 x] (by rfl) rfl rfl (by first | rfl | (simp only [q4, q5, q6]; rfl)) ?_
          refine (HBd.out _).mono ?_
          rintro e w7 ⟨rfl, hd⟩
          have hb := hd.below
          refine ⟨_, rfl, ?_⟩
          refine hK.out _ _ (keep4 hHeld hb) (fun hHeld => ?_)
          clear hK K
          refine norm_ (a' := ?_) ?_ ?_
          rotate_left
          · show Act.put _ (some 124) _ = _
            simp only [Act.put, q1, q2, q3, i64_w, i32_w]
            rfl
          refine pO 27 127 (fun K hK => ?_)
          refine goes_ Tryz.func70 (by kernel_rfl) rfl #[.int .u8 15] (by rfl) rfl rfl (by first | rfl | (simp only [q4, q5, q6]; rfl)) ?_
          refine (HBn.out _).mono ?_
          rintro e w8 ⟨rfl, hd⟩
          have hb := hd.below
          refine ⟨_, rfl, ?_⟩
          refine hK.out _ _ (keep4 hHeld hb) (fun hHeld => ?_)
          clear hK K
          refine norm_ (a' := ?_) ?_ ?_
          rotate_left
          · show Act.put _ (some 127) _ = _
            simp only [Act.put, q1, q2, q3, i64_w, i32_w]
            rfl
          refine pP 28 128 ?_
          refine pP 29 129 ?_
          refine pO 30 130 (fun K hK => ?_)
          refine goes_ Tryz.func69 (by kernel_rfl) rfl #[.string t, .bool (x == 15)] (by rfl) rfl rfl (by first | rfl | (simp only [q4, q5, q6]; rfl)) ?_
          refine (HBk.out _).mono ?_
          rintro e w9 ⟨rfl, hd⟩
          have hb := hd.below
          refine ⟨_, rfl, ?_⟩
          refine hK.out _ _ (keep4 hHeld hb) (fun hHeld => ?_)
          clear hK K
          refine norm_ (a' := ?_) ?_ ?_
          rotate_left
          · show Act.put _ (some 130) _ = _
            simp only [Act.put, q1, q2, q3, i64_w, i32_w]
            rfl
          refine pP 31 131 ?_
          refine pP 32 9 ?_
          refine done_ (done_of HT_.out (by kernel_rfl)) ?_
          go_wp2
          go_roundw
          case rel => exact ⟨j + 1, iv + 1, by omega, ⟨by have := HIv.out; omega⟩, by go_num, by rw [HAc.out], ⟨below_then HB00.out HB00.out.size hHeld.1⟩⟩
          case measure =>
            have h1 := HIv.out
            simp [intOf]
            omega
      · obtain rfl : j = places.length := by omega
        have hn1 : ¬ iv < (places.length : Int) := by omega
        clear hsz0 hsz1 hiv
        go_wp2
        go_ret
        exact ⟨by rw [HS2.out]; rfl, below_then HBW.out HBW.out.size HBr.out⟩
  · have hgs := sign_at n.f0 g hf.1 hf.2 hg
    obtain ⟨G, hGe⟩ : ∃ G : ByteArray, G = (⟨#[32]⟩ : ByteArray) ++ g ++ (⟨#[32]⟩ : ByteArray) := ⟨_, rfl⟩
    rw [← hGe] at hgs
    have HSg := Aside0.mk (fun W : World => weirref13_sign.calls n.f0 G W hgs)
    obtain ⟨Z, hZ⟩ : ∃ Z, Z = [t, u] := ⟨_, rfl⟩
    have hfin : s = jacc ByteArray.empty G Z Z.length := by
      rw [hs, hZ, hGe]
      show _ = ((ByteArray.empty ++ t) ++ ((⟨#[32]⟩ : ByteArray) ++ g ++ (⟨#[32]⟩ : ByteArray))) ++ u
      simp [ByteArray.append_assoc]
    obtain ⟨ks, hks0⟩ : ∃ ks, [t, u] = ks := ⟨_, rfl⟩
    rw [hks0] at hZ
    rw [hks0] at HL HB IH hks
    have hZl : Z.length = places.length := by rw [hZ, HL.out]
    have hZj : ∀ (j : Nat) (p : Int) (t : ByteArray), places[j]? = some p → ks[j]? = some t → rdOf ByteArray.empty Z (j : Int) = brk t false := by
      intro j p t h1 h2
      rw [hZ]
      simp only [rdOf, Int.toNat_natCast, List.getD_eq_getElem?_getD, h2, Option.getD_some]
      rfl
    have z1 : (n.f0 == 11) = false := by rw [beq_eq_false_iff_ne]; omega
    have z2 : (n.f0 == 12) = false := by rw [beq_eq_false_iff_ne]; omega
    have z3 : (n.f0 == 23) = false := by rw [beq_eq_false_iff_ne]; omega
    have z4 : (n.f0 == 24) = false := by rw [beq_eq_false_iff_ne]; omega
    have z5 : (n.f0 == 25) = false := by rw [beq_eq_false_iff_ne]; omega
    have z6 : (n.f0 == 26) = false := by rw [beq_eq_false_iff_ne]; omega
    have z7 : (n.f0 == 13) = false := by rw [beq_eq_false_iff_ne]; omega
    have z8 : (n.f0 == 22) = false := by rw [beq_eq_false_iff_ne]; omega
    have z9 : (n.f0 == 14) = false := by rw [beq_eq_false_iff_ne]; omega
    have z10 : (n.f0 == 15) = false := by rw [beq_eq_false_iff_ne]; omega
    clear hs hZ hGe hg hgs hks0
    have hfin2 := hfin
    have hsz2 := congrArg ByteArray.size hfin
    obtain ⟨acc, hacc⟩ : ∃ acc, jacc ByteArray.empty G Z = acc := ⟨_, rfl⟩
    have ha0 : acc 0 = ByteArray.empty := by rw [← hacc]; rfl
    have HAs := Aside0.mk (fun j : Nat => show acc (j + 1) = (if j = 0 then acc j else acc j ++ G) ++ rdOf ByteArray.empty Z (j : Int) by rw [← hacc]; rfl)
    have HAl := Aside0.mk (fun j : Nat => show (acc j).size ≤ (acc (j + 1)).size ∧ (0 < j → (acc j).size + G.size + (rdOf ByteArray.empty Z (j : Int)).size = (acc (j + 1)).size) ∧ (j = 0 → (acc j).size + (rdOf ByteArray.empty Z (j : Int)).size = (acc (j + 1)).size) by rw [← hacc]; exact jacc_le _ G Z j)
    have HAm := Aside0.mk (fun j k : Nat => show (acc j).size ≤ (acc (j + k)).size by rw [← hacc]; exact jacc_mono _ _ _ _ _)
    rw [hacc, hZl] at hfin hsz2
    have HS2 := Aside0.mk hfin
    have HZ2 := Aside0.mk hsz2
    have HA0 := Aside0.mk ha0
    have HSz := Aside0.mk hsz
    have HKs := Aside0.mk hks
    have HPr := Aside0.mk hpr
    have HZj := Aside0.mk hZj
    have HZl := Aside0.mk hZl
    have HF := Aside0.mk hf
    clear hacc hfin hfin2 hsz2 ha0 hsz hks hpr hZj hZl hop
    go_enter Tryz.func29, Tryz.ntmps29
    go_wp2_with (first | (go_at_call 66; refine (HK.out _ (by have h1 := HW.out; repeat (first | exact h1 | apply below_alloc | (refine Below.setCell ?_ h1.size _)))).mono ?_; rintro e w3 ⟨v0, rfl, ho, hb3⟩; obtain ⟨B1, d1, rfl, hle1, hr1⟩ := Kd.R_reads ho; obtain ⟨k1, k2, k3⟩ := box_cells _ _ _ _ _ _ _ _ w3 hb3; (try rw [hf] at k1); have HR1 := Aside0.mk hr1; have HBW := Aside0.mk (box_below _ _ w3 hb3); clear ho hb3 hr1))
    have HW3 := Aside0.mk (below_then HW.out HW.out.size HBW.out)
    have hbe : (⟨#[]⟩ : ByteArray) = acc 0 := by rw [HA0.out]; rfl
    go_loopw [9, 10] (fun u i W => ∃ (j : Nat) (iv : Int), j ≤ places.length ∧ Aside0 (iv = j) ∧ i = .int .i64 iv ∧ u = .string (acc j) ∧ Aside0 (Below w3.heap.size w3 W)) (fun u i _ => places.length - (intOf i).toNat)
    case atStart => exact ⟨0, 0, Nat.zero_le _, ⟨rfl⟩, rfl, by rw [HA0.out]; rfl, ⟨Below.refl _ _⟩⟩
    case round =>
      clear hbe
      obtain ⟨j, iv, hj2, HIv, rfl, rfl, HBr⟩ := hrel
      have hL0 := below_then HW3.out HW3.out.size HBr.out
      have k1 : wr.cell? ⟨w.heap.size, 0, none⟩ = some (.int .u8 n.f0) := (HBr.out.cell (Rep.lt_of_cell? k1)).trans k1
      have hiv := HIv.out
      have hsz0 := HSz.out
      have hsz1 := HZ2.out
      by_cases hlt : j < places.length
      · obtain ⟨ae, hB2, hxe⟩ := Kd.at_int (Kd.C_below HR1.out HBr.out) iv (by omega) (by omega)
        subst hB2
        obtain ⟨p, hp2⟩ : ∃ p, places[j] = p := ⟨_, rfl⟩
        have hrd : rd places iv = p := by rw [hiv, ← hp2]; exact rd_get places j hlt
        rw [hrd] at hxe
        have hpm : p ∈ places := by rw [← hp2]; exact List.getElem_mem hlt
        have hpr2 := HPr.out p hpm
        have hjk : j < ks.length := by rw [HL.out]; exact hlt
        obtain ⟨t, ht⟩ : ∃ t, ks[j] = t := ⟨_, rfl⟩
        have hts := HKs.out t (by rw [← ht]; exact List.getElem_mem hjk)
        have hzj := HZj.out j p t (by rw [List.getElem?_eq_getElem hlt, hp2]) (by rw [List.getElem?_eq_getElem hjk, ht])
        obtain ⟨ad2, hA2, kx, _⟩ := at_T56 (Kd.C_below hr00 hL0) p hpr2.1 hpr2.2
        obtain rfl := Option.some.inj hA2
        have HRec0 := Aside0.mk (fun (W : World) (hb : Below w00.heap.size w00 W) => IH.out j p t (by rw [List.getElem?_eq_getElem hlt, hp2]) (by rw [List.getElem?_eq_getElem hjk, ht]) W hb)
        have hal := HAl.out j
        have hacj := HAs.out j
        have ham := HAm.out (j + 1) (places.length - (j + 1))
        rw [show j + 1 + (places.length - (j + 1)) = places.length by omega] at ham
        have hopx := hts
        obtain ⟨x, hx⟩ : ∃ x, (rd_T56 l p).f0 = x := ⟨_, rfl⟩
        rw [hx] at kx
        rw [hzj] at hal hacj
        obtain ⟨u, hu⟩ : ∃ u, brk t false = u := ⟨_, rfl⟩
        rw [hu] at hal hacj
        have HBk := Aside0.mk (fun (W : World) => weirref13_bracketed.calls t false u W (by rw [← hu]; exact brk_r t false hts))
        have hbb := hts
        have hn0 : 0 ≤ iv := by omega
        have hn1 : iv < (places.length : Int) := by omega
        have hp0 := hpr2.1
        have hp1 := hpr2.2
        have HL0 := Aside0.mk hL0
        have HB0 := Aside0.mk HBr.out
        have HJ := Aside0.mk hacj
        have HRd := Aside0.mk hj2
        clear hp2 hrd ht hx hzj hu hacj hpm hpr2 hL0 hr00 hA2 HR1
        by_cases hj0 : j = 0
        · rw [if_pos hj0] at HJ
          have HAc := HJ
          have h1 := hal.2.2 hj0
          have hg1 : ¬ (0 : Int) < iv := by omega
          have hs1 : ¬ 9223372036854775807 < (acc j).size + u.size := by omega
          have hm1 : iv ≤ 1048576 := by omega
          have HRec := Aside0.mk (fun (W : World) (hb : Below wr.heap.size wr W) => HRec0.out W (below_then HL0.out HL0.out.size hb))
          have HB00 := HB0
          have hj2 := hlt
          clear hj0 hsz0 hsz1 h1 hal ham hiv
          go_wp2
          refine start_ (n := 33) (S := fun W => Below wr.heap.size wr W ∧ W.cell? (ae.add iv.toNat) = some (.int .i64 p) ∧ W.cell? ⟨w.heap.size, 0, none⟩ = some (.int .u8 n.f0) ∧ W.cell? (ad.add (p.toNat * 6)) = some (.int .u8 x)) (ds := []) #[false, false, false, false, false, false, false, false, false, false, false, false, false, false, false, false, false, false, false, false, false, false, false, false, false, false, false, false, false, false, false, false, false] (by kernel_rfl) rfl rfl (start4 hxe k1 kx) (fun hHeld => ?_)
          refine with_tabW r33.tab r33.bits (fun HT_ HW_ => ?_)
          refine pP 0 100 ?_
          refine pP 1 101 ?_
          refine pP 2 102 ?_
          refine pP 3 103 ?_
          refine pP 4 104 ?_
          refine pP 7 107 ?_
          refine pT 5 105 ?_
          refine pT 8 108 ?_
          refine pP 9 109 ?_
          refine pO 6 106 (fun K hK => ?_)
          refine goes_ Tryz.func29 (by kernel_rfl) rfl #[.slice (some ad) l.length c, .int .i64 p] (by rfl) rfl rfl (by first | rfl | (simp only [q4, q5, q6]; rfl)) ?_
          refine (HRec.out _ hHeld.1).mono ?_
          rintro e w6 ⟨rfl, hb⟩
          refine ⟨_, rfl, ?_⟩
          refine hK.out _ _ (keep4 hHeld hb) (fun hHeld => ?_)
          clear hK K
          refine norm_ (a' := ?_) ?_ ?_
          rotate_left
          · show Act.put _ (some 106) _ = _
            simp only [Act.put, q1, q2, q3, i64_w, i32_w]
            rfl
          refine pP 10 110 ?_
          refine pP 11 111 ?_
          refine pT 12 112 ?_
          refine pP 13 113 ?_
          refine pP 14 114 ?_
          refine pP 15 115 ?_
          refine pU 16 116 ?_
          refine pU 17 117 ?_
          refine pU 18 118 ?_
          refine pU 19 119 ?_
          refine pU 20 120 ?_
          refine pU 21 121 ?_
          refine pU 22 122 ?_
          refine pU 23 123 ?_
          refine pU 24 124 ?_
          refine pU 25 125 ?_
          refine pU 26 126 ?_
          refine pU 27 127 ?_
          refine pU 28 128 ?_
          refine pP 29 129 ?_
          refine pO 30 130 (fun K hK => ?_)
          refine goes_ Tryz.func69 (by kernel_rfl) rfl #[.string t, .bool false] (by rfl) rfl rfl (by first | rfl | (simp only [q4, q5, q6]; rfl)) ?_
          refine (HBk.out _).mono ?_
          rintro e w9 ⟨rfl, hd⟩
          have hb := hd.below
          refine ⟨_, rfl, ?_⟩
          refine hK.out _ _ (keep4 hHeld hb) (fun hHeld => ?_)
          clear hK K
          refine norm_ (a' := ?_) ?_ ?_
          rotate_left
          · show Act.put _ (some 130) _ = _
            simp only [Act.put, q1, q2, q3, i64_w, i32_w]
            rfl
          refine pP 31 131 ?_
          refine pP 32 9 ?_
          refine done_ (done_of HT_.out (by kernel_rfl)) ?_
          go_wp2
          go_roundw
          case rel => exact ⟨j + 1, iv + 1, by omega, ⟨by have := HIv.out; omega⟩, by go_num, by rw [HAc.out], ⟨below_then HB00.out HB00.out.size hHeld.1⟩⟩
          case measure =>
            have h1 := HIv.out
            simp [intOf]
            omega
        · rw [if_neg hj0] at HJ
          have HAc := HJ
          have h1 := hal.2.1 (by omega)
          have hg1 : (0 : Int) < iv := by omega
          have hs0 : ¬ 9223372036854775807 < (acc j).size + G.size := by omega
          have hs1 : ¬ 9223372036854775807 < (acc j).size + G.size + u.size := by omega
          have hm1 : iv ≤ 1048576 := by omega
          have HRec := Aside0.mk (fun (W : World) (hb : Below wr.heap.size wr W) => HRec0.out W (below_then HL0.out HL0.out.size hb))
          have HB00 := HB0
          clear hj0 hsz0 hsz1 h1 hal ham hiv
          go_wp2_with (go_at_call 71; refine (HSg.out _).mono ?_; rintro e w5 ⟨rfl, hd⟩; have hb5 := hd.below; have hxe := (hb5.cell (Rep.lt_of_cell? hxe)).trans hxe; have k1 := (hb5.cell (Rep.lt_of_cell? k1)).trans k1; have kx := (hb5.cell (Rep.lt_of_cell? kx)).trans kx; have HRec := Aside0.mk (fun (W : World) (hb : Below w5.heap.size w5 W) => HRec.out W (below_then hb5 hb5.size hb)); have HB00 := Aside0.mk (below_then HB00.out HB00.out.size hb5))
          refine start_ (n := 33) (S := fun W => Below w5.heap.size w5 W ∧ W.cell? (ae.add iv.toNat) = some (.int .i64 p) ∧ W.cell? ⟨w.heap.size, 0, none⟩ = some (.int .u8 n.f0) ∧ W.cell? (ad.add (p.toNat * 6)) = some (.int .u8 x)) (ds := []) #[false, false, false, false, false, false, false, false, false, false, false, false, false, false, false, false, false, false, false, false, false, false, false, false, false, false, false, false, false, false, false, false, false] (by kernel_rfl) rfl rfl (start4 hxe k1 kx) (fun hHeld => ?_)
          refine with_tabW r33.tab r33.bits (fun HT_ HW_ => ?_)
          refine pP 0 100 ?_
          refine pP 1 101 ?_
          refine pP 2 102 ?_
          refine pP 3 103 ?_
          refine pP 4 104 ?_
          refine pP 7 107 ?_
          refine pT 5 105 ?_
          refine pT 8 108 ?_
          refine pP 9 109 ?_
          refine pO 6 106 (fun K hK => ?_)
          refine goes_ Tryz.func29 (by kernel_rfl) rfl #[.slice (some ad) l.length c, .int .i64 p] (by rfl) rfl rfl (by first | rfl | (simp only [q4, q5, q6]; rfl)) ?_
          refine (HRec.out _ hHeld.1).mono ?_
          rintro e w6 ⟨rfl, hb⟩
          refine ⟨_, rfl, ?_⟩
          refine hK.out _ _ (keep4 hHeld hb) (fun hHeld => ?_)
          clear hK K
          refine norm_ (a' := ?_) ?_ ?_
          rotate_left
          · show Act.put _ (some 106) _ = _
            simp only [Act.put, q1, q2, q3, i64_w, i32_w]
            rfl
          refine pP 10 110 ?_
          refine pP 11 111 ?_
          refine pT 12 112 ?_
          refine pP 13 113 ?_
          refine pP 14 114 ?_
          refine pP 15 115 ?_
          refine pU 16 116 ?_
          refine pU 17 117 ?_
          refine pU 18 118 ?_
          refine pU 19 119 ?_
          refine pU 20 120 ?_
          refine pU 21 121 ?_
          refine pU 22 122 ?_
          refine pU 23 123 ?_
          refine pU 24 124 ?_
          refine pU 25 125 ?_
          refine pU 26 126 ?_
          refine pU 27 127 ?_
          refine pU 28 128 ?_
          refine pP 29 129 ?_
          refine pO 30 130 (fun K hK => ?_)
          refine goes_ Tryz.func69 (by kernel_rfl) rfl #[.string t, .bool false] (by rfl) rfl rfl (by first | rfl | (simp only [q4, q5, q6]; rfl)) ?_
          refine (HBk.out _).mono ?_
          rintro e w9 ⟨rfl, hd⟩
          have hb := hd.below
          refine ⟨_, rfl, ?_⟩
          refine hK.out _ _ (keep4 hHeld hb) (fun hHeld => ?_)
          clear hK K
          refine norm_ (a' := ?_) ?_ ?_
          rotate_left
          · show Act.put _ (some 130) _ = _
            simp only [Act.put, q1, q2, q3, i64_w, i32_w]
            rfl
          refine pP 31 131 ?_
          refine pP 32 9 ?_
          refine done_ (done_of HT_.out (by kernel_rfl)) ?_
          go_wp2
          go_roundw
          case rel => exact ⟨j + 1, iv + 1, by omega, ⟨by have := HIv.out; omega⟩, by go_num, by rw [HAc.out], ⟨below_then HB00.out HB00.out.size hHeld.1⟩⟩
          case measure =>
            have h1 := HIv.out
            simp [intOf]
            omega
      · obtain rfl : j = places.length := by omega
        have hn1 : ¬ iv < (places.length : Int) := by omega
        clear hsz0 hsz1 hiv
        go_wp2
        go_ret
        exact ⟨by rw [HS2.out]; rfl, below_then HBW.out HBW.out.size HBr.out⟩
end Go.Proofs.YtlbjfomcgbiagaaGreatDoor.CondR
