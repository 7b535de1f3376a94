/- weirtree.cond: is the tree of a node a condition's? -/
import Derived.Test.YtlbjfomcgbiagaaGreatDoorCondR
import Derived.Test.YtlbjfomcgbiagaaGreatDoorPrint11
set_option linter.unusedVariables false
set_option linter.unusedSimpArgs false
namespace Go.Proofs.YtlbjfomcgbiagaaGreatDoor.CondW
open Go Go.RowKit Go.Proofs.YtlbjfomcgbiagaaGreatDoorW.PrintWords Go.Proofs.YtlbjfomcgbiagaaGreatDoorW.PrintLast Go.Proofs Go.Proofs.YtlbjfomcgbiagaaGreatDoor Go.Proofs.YtlbjfomcgbiagaaGreatDoor.Base Go.Proofs.YtlbjfomcgbiagaaGreatDoorW.PrintMore Go.Proofs.YtlbjfomcgbiagaaGreatDoor.Print Go.Proofs.YtlbjfomcgbiagaaGreatDoor.CondT Go.Proofs.YtlbjfomcgbiagaaGreatDoor.CondR
attribute [local go_sem] max2_int min2_int max_two min_two max_three min_three max_four min_four
attribute [local go_sem high] eqA56

/-- Is the tree of a node a condition's? so: what a node is by itself. -/
def condF (l : List ND) (kids : Int → List Int) (so : Int → Int) : Nat → Int → Bool
  | 0, _ => false
  | m + 1, a => so a == 1 && (
    if (rd_T56 l a).f0 = 11 ∨ (rd_T56 l a).f0 = 12 then (kids a).length == 0
    else if (rd_T56 l a).f0 = 13 then (kids a).length == 1 && (kids a).all (condF l kids so m)
    else if (rd_T56 l a).f0 = 14 ∨ (rd_T56 l a).f0 = 15 then decide (2 ≤ (kids a).length) && (kids a).all (condF l kids so m)
    else if (rd_T56 l a).f0 = 16 ∨ (rd_T56 l a).f0 = 17 then (kids a).length == 2 && ((kids a).all (so · == 2) || (kids a).all (so · == 3))
    else if (rd_T56 l a).f0 = 18 ∨ (rd_T56 l a).f0 = 19 ∨ (rd_T56 l a).f0 = 20 ∨ (rd_T56 l a).f0 = 21 then (kids a).length == 2 && (kids a).all (so · == 3)
    else if (rd_T56 l a).f0 = 22 then decide (2 ≤ (kids a).length) && decide ((kids a).length ≤ 65) && (so (rd (kids a) 0) == 2) && ((kids a).drop 1).all (fun p => (rd_T56 l p).f0 == 24 && so p == 2)
    else false)
theorem boxed (w : World) (c0 c1 c2 c3 c4 c5 : Value) (t : TypeId) (W : World) (hb : Below (w.alloc (.cells #[c0, c1, c2, c3, c4, c5] t)).heap.size (w.alloc (.cells #[c0, c1, c2, c3, c4, c5] t)) W) : W.heap[w.heap.size]? = some (.cells #[c0, c1, c2, c3, c4, c5] t (0, 0)) :=
  (hb.block w.heap.size (by simp)).trans (Rep.alloc_new w _)
/-- Two kids lie in memory, and their places. -/
def Two (W : World) (ae ap aq : Addr) (p q : Int) (m k : ND) : Prop :=
  W.cell? ae = some (.int .i64 p) ∧ W.cell? ⟨ae.block, ae.off + 1, none⟩ = some (.int .i64 q) ∧
  W.cell? ap = some (.int .u8 m.f0) ∧ W.cell? ⟨ap.block, ap.off + 1, none⟩ = some (.int .u8 m.f1) ∧ W.cell? ⟨ap.block, ap.off + 2, none⟩ = some (.string m.f2) ∧ W.cell? ⟨ap.block, ap.off + 3, none⟩ = some (.int .i64 m.f3) ∧ W.cell? ⟨ap.block, ap.off + 4, none⟩ = some (.int .i64 m.f4) ∧ W.cell? ⟨ap.block, ap.off + 5, none⟩ = some (.int .i64 m.f5) ∧
  W.cell? aq = some (.int .u8 k.f0) ∧ W.cell? ⟨aq.block, aq.off + 1, none⟩ = some (.int .u8 k.f1) ∧ W.cell? ⟨aq.block, aq.off + 2, none⟩ = some (.string k.f2) ∧ W.cell? ⟨aq.block, aq.off + 3, none⟩ = some (.int .i64 k.f3) ∧ W.cell? ⟨aq.block, aq.off + 4, none⟩ = some (.int .i64 k.f4) ∧ W.cell? ⟨aq.block, aq.off + 5, none⟩ = some (.int .i64 k.f5)
theorem Two.more {W W' : World} {ae ap aq : Addr} {p q : Int} {m k : ND} (h : Two W ae ap aq p q m k) (hb : Below W.heap.size W W') : Two W' ae ap aq p q m k := by
  obtain ⟨h1, h2, h3, h4, h5, h6, h7, h8, h9, h10, h11, h12, h13, h14⟩ := h
  have c : ∀ {a : Addr} {x : Value}, W.cell? a = some x → W'.cell? a = some x := fun {a} {x} hx => (hb.cell (Rep.lt_of_cell? hx)).trans hx
  exact ⟨c h1, c h2, c h3, c h4, c h5, c h6, c h7, c h8, c h9, c h10, c h11, c h12, c h13, c h14⟩
theorem len_eq (n : Nat) (m : Nat) : ((n : Int) == (m : Int)) = (n == m) := by rw [Bool.eq_iff_iff]; simp only [beq_iff_eq]; omega
theorem all_two (x y : Int) (f : Int → Bool) : [x, y].all f = (f x && f y) := by simp
theorem take_all (L : List Int) (f : Int → Bool) (j : Nat) (hj : j < L.length) (h : (L.take j).all f = true) : (L.take (j + 1)).all f = f L[j] := by
  rw [List.take_add_one, List.getElem?_eq_getElem hj, List.all_append, h]
  simp
theorem all_false (L : List Int) (f : Int → Bool) (j : Nat) (hj : j < L.length) (h : f L[j] = false) : L.all f = false := by
  rw [Bool.eq_false_iff]
  intro h2
  rw [List.all_eq_true] at h2
  have := h2 _ (List.getElem_mem hj)
  rw [h] at this
  cases this
def c3.T : Bool × List (List Nat × List Nat) := (true, [([], []), ([0], [0]), ([], []), ([2], [2]), ([3], [3]), ([1, 4], [1, 4])])
def c3.B : List Nat := [0, 1, 0, 4, 12, 31]
theorem c3.tab : rtab .any (opsOf Tryz.f93 3) = c3.T := by kernel_rfl
theorem c3.bits : waitsOk c3.T.2 c3.B = true := by kernel_rfl

set_option maxRecDepth 100000 in
set_option maxHeartbeats 16000000 in
theorem cond_p1 (A : Option Addr) (c : Nat) (l : List ND) (hc : l.length ≤ c) (w00 : World) (hr00 : Kd.C k56 w00 A l.length l) (K : Nat) (kids : Int → List Int) (so : Int → Int)
    (hK : ∀ a : Int, 0 ≤ a → a < l.length → weirtree_Kids.f K l a = some (kids a) ∧ (kids a).length ≤ 1048576 ∧ ∀ p ∈ kids a, a < p ∧ p < l.length)
    (hS : ∀ p : Int, 0 ≤ p → p < l.length → weirtree_worded.f K (rd_T56 l p).f0 (rd_T56 l p).f1 (rd_T56 l p).f2 (rd_T56 l p).f3 (rd_T56 l p).f4 (rd_T56 l p).f5 = some (so p == 2) ∧ weirtree_timed.f (rd_T56 l p).f0 (rd_T56 l p).f1 (rd_T56 l p).f2 (rd_T56 l p).f3 (rd_T56 l p).f4 (rd_T56 l p).f5 = some (so p == 3))
    (hB : ∀ p : Int, 0 ≤ p → p < l.length → 11 ≤ (rd_T56 l p).f0 → (rd_T56 l p).f0 ≤ 22 → ((rd_T56 l p).f1 == 0 && ((rd_T56 l p).f2.toList.isEmpty && ((rd_T56 l p).f3 == 0))) = (so p == 1))
    (m : Nat) (a : Int) (h0 : 0 ≤ a) (h1 : a < l.length) (h2 : (l.length : Int) - a ≤ (m + 1 : Nat)) (w : World) (hw : Below w00.heap.size w00 w)
    (ih : ∀ p : Int, 0 ≤ p → p < l.length → (l.length : Int) - p ≤ m → ∀ w : World, Below w00.heap.size w00 w → Calls Tryz.prog 93 #[.slice A l.length c, .int .i64 p] w fun e w' => e = .returned (.bool (condF l kids so m p)) ∧ Below w.heap.size w w')
    (hop : (rd_T56 l a).f0 = 11 ∨ (rd_T56 l a).f0 = 12) :
    Calls Tryz.prog 93 #[.slice A l.length c, .int .i64 a] w fun e w' => e = .returned (.bool (condF l kids so (m + 1) a)) ∧ Below w.heap.size w w' := by
  have hr := Kd.C_below hr00 hw
  obtain ⟨places, hpl⟩ : ∃ places, kids a = places := ⟨_, rfl⟩
  obtain ⟨hK2, hpm, hpr⟩ := hK a h0 h1
  rw [hpl] at hK2 hpm hpr
  have hB2 := hB a h0 h1
  obtain ⟨n, hn⟩ : ∃ n, rd_T56 l a = n := ⟨_, rfl⟩
  have hR : condF l kids so (m + 1) a = (so a == 1 && (if n.f0 = 11 ∨ n.f0 = 12 then ((places.length : Int) == 0)
    else if n.f0 = 13 then ((places.length : Int) == 1) && places.all (condF l kids so m)
    else if n.f0 = 14 ∨ n.f0 = 15 then decide ((places.length : Int) ≥ 2) && places.all (condF l kids so m)
    else if n.f0 = 16 ∨ n.f0 = 17 then ((places.length : Int) == 2) && (places.all (so · == 2) || places.all (so · == 3))
    else if n.f0 = 18 ∨ n.f0 = 19 ∨ n.f0 = 20 ∨ n.f0 = 21 then ((places.length : Int) == 2) && places.all (so · == 3)
    else if n.f0 = 22 then decide ((places.length : Int) ≥ 2) && decide ((places.length : Int) ≤ 65) && (so (rd places 0) == 2) && (places.drop 1).all (fun p => (rd_T56 l p).f0 == 24 && so p == 2)
    else false)) := by
    have g0 := len_eq places.length 0
    have g1 := len_eq places.length 1
    have g2 := len_eq places.length 2
    have g3 : decide ((places.length : Int) ≥ 2) = decide (2 ≤ places.length) := by rw [Bool.eq_iff_iff]; simp; omega
    have g4 : decide ((places.length : Int) ≤ 65) = decide (places.length ≤ 65) := by rw [Bool.eq_iff_iff]; simp; omega
    rw [condF, hn, hpl, g3, g4]
    rw [show ((places.length : Int) == 0) = (places.length == 0) from g0, show ((places.length : Int) == 1) = (places.length == 1) from g1, show ((places.length : Int) == 2) = (places.length == 2) from g2]
  obtain ⟨ad, hA, hx0, hx1, hx2, hx3, hx4, hx5⟩ := at_T56 hr a h0 h1
  subst hA
  rw [hn] at hx0 hx1 hx2 hx3 hx4 hx5 hB2 hop
  obtain ⟨b0, b1, b2, b3, b4, b5, hbe⟩ : ∃ (b0 b1 : Int) (b2 : ByteArray) (b3 b4 b5 : Int), b0 = n.f0 ∧ b1 = n.f1 ∧ b2 = n.f2 ∧ b3 = n.f3 ∧ b4 = 0 ∧ b5 = 0 := ⟨_, _, _, _, _, _, rfl, rfl, rfl, rfl, rfl, rfl⟩
  have HBa := Aside0.mk (fun (W : World) => show Calls Tryz.prog 116 #[.agg #[.int .u8 n.f0, .int .u8 n.f1, .string n.f2, .int .i64 n.f3, .int .i64 n.f4, .int .i64 n.f5]] W fun e w' => e = .returned (.agg #[.int .u8 b0, .int .u8 b1, .string b2, .int .i64 b3, .int .i64 b4, .int .i64 b5]) ∧ Below W.heap.size W w' from by
    obtain ⟨rfl, rfl, rfl, rfl, rfl, rfl⟩ := hbe
    exact weirtree_bare.calls n.f0 n.f1 n.f2 n.f3 n.f4 n.f5 _ _ _ _ _ _ W rfl)
  obtain ⟨cb, hcb⟩ : ∃ cb, (n.f1 == 0 && (n.f2.toList.isEmpty && (n.f3 == 0))) = cb := ⟨_, rfl⟩
  have e1 : (b0 == n.f0 && (b1 == 0 && (b2.toList.isEmpty && (b3 == 0 && (b4 == 0 && b5 == 0))))) = cb := by
    obtain ⟨rfl, rfl, rfl, rfl, rfl, rfl⟩ := hbe
    simpa using hcb
  have e2 : (b0 == n.f0 && (b1 == 0 && (b2.toList == ([] : List UInt8) && (b3 == 0 && (b4 == 0 && b5 == 0))))) = cb := by rw [← e1]; simp only [isE]
  rw [hcb] at hB2
  have HOp := Aside0.mk hop
  clear hop
  have HK := Aside0.mk (fun (W : World) (hb : Below w00.heap.size w00 W) => weirtree_Kids.calls K (some ad) c l a places W (Kd.C_below hr00 hb) hc hK2)
  have HIH := Aside0.mk ih
  have HW := Aside0.mk hw
  have HRes := Aside0.mk hR
  have HPr := Aside0.mk hpr
  have HS := Aside0.mk hS
  have HB2 := Aside0.mk hB2
  have HR0 := Aside0.mk hr00
  clear ih hw hR hpr hS hB2 hK hB hr hr00 hK2 hpl hn hbe hcb
  go_enter Tryz.func93, Tryz.ntmps93
  go_wp2_with (first | (go_at_call 66; refine (HK.out _ (by have h1 := HW.out; repeat (first | exact h1 | apply below_alloc | (refine Below.setCell ?_ h1.size _)))).mono ?_; rintro e w3 ⟨v0, rfl, ho, hb3⟩; obtain ⟨B1, d1, rfl, hle1, hr1⟩ := Kd.R_reads ho; have hbx := boxed _ _ _ _ _ _ _ _ w3 hb3; have HX := Aside0.mk hbx; have HBW := Aside0.mk (box_below _ _ w3 hb3); have HR1 := Aside0.mk hr1; clear hbx hb3 ho hr1))
  refine start_ (n := 6) (S := (fun W => Below w3.heap.size w3 W ∧ W.cell? ⟨w.heap.size, 0, none⟩ = some (.int .u8 n.f0) ∧ W.cell? ⟨w.heap.size, 1, none⟩ = some (.int .u8 n.f1) ∧ W.cell? ⟨w.heap.size, 2, none⟩ = some (.string n.f2) ∧ W.cell? ⟨w.heap.size, 3, none⟩ = some (.int .i64 n.f3) ∧ W.cell? ⟨w.heap.size, 4, none⟩ = some (.int .i64 n.f4) ∧ W.cell? ⟨w.heap.size, 5, none⟩ = some (.int .i64 n.f5))) (ds := []) #[false, false, false, false, false, false] (by kernel_rfl) rfl rfl (box7 (Below.refl _ _) HX.out) (fun hHeld => ?_)
  refine with_tabW c3.tab c3.bits (fun HT_ HW_ => ?_)
  refine pT 0 16 ?_
  refine pP 2 18 ?_
  refine pT 3 19 ?_
  refine pP 4 20 ?_
  refine pO 1 17 (fun K hK => ?_)
  refine goes_ Tryz.func116 (by kernel_rfl) rfl #[.agg #[.int .u8 n.f0, .int .u8 n.f1, .string n.f2, .int .i64 n.f3, .int .i64 n.f4, .int .i64 n.f5]] (by rfl) rfl rfl (by first | rfl | (simp only [q4, q5, q6]; rfl) | go_simp) ?_
  refine (HBa.out _).mono ?_
  rintro e w5 ⟨rfl, hb⟩
  refine ⟨_, rfl, ?_⟩
  refine hK.out _ _ (keep7 hHeld hb) (fun hHeld => ?_)
  clear hK K
  refine norm_ (a' := ?_) ?_ ?_
  rotate_left
  · show Act.put _ (some 17) _ = _
    simp only [Act.put, q1, q2, q3, i64_w, i32_w]
    rfl
  refine pP 5 21 ?_
  refine done_ (done_of HT_.out (by kernel_rfl)) ?_
  have hH := Aside0.mk hHeld
  obtain ⟨hb5, z0, z1, z2, z3, z4, z5⟩ := hHeld
  have HB5 := Aside0.mk (below_then HBW.out HBW.out.size hb5)
  have HI5 := Aside0.mk (Kd.C_below HR1.out hb5)
  have HW5 := Aside0.mk (below_then HW.out HW.out.size HB5.out)
  clear hb5 HX HR1 HBW HK HBa
  cases cb with
  | false =>
    go_wp2
    go_ret
    refine ⟨?_, HB5.out⟩
    rw [HRes.out]
    by_cases ho : 11 ≤ n.f0 ∧ n.f0 ≤ 22
    · rw [← HB2.out ho.1 ho.2]; rfl
    · rw [if_neg (by omega), if_neg (by omega), if_neg (by omega), if_neg (by omega), if_neg (by omega), if_neg (by omega), Bool.and_false]; rfl
  | true =>
    simp only [Bool.not_true]
    have o1 := HOp.out
    have hres := HRes.out
    rw [← HB2.out (by omega) (by omega), if_pos o1, Bool.true_and] at hres
    have HRs := Aside0.mk hres
    clear hres
    rcases o1 with hf | hf
    all_goals
      rw [hf] at z0
      go_wp2
      go_ret
      exact ⟨by rw [HRs.out]; rfl, HB5.out⟩

set_option maxRecDepth 100000 in
set_option maxHeartbeats 16000000 in
theorem cond_p2 (A : Option Addr) (c : Nat) (l : List ND) (hc : l.length ≤ c) (w00 : World) (hr00 : Kd.C k56 w00 A l.length l) (K : Nat) (kids : Int → List Int) (so : Int → Int)
    (hK : ∀ a : Int, 0 ≤ a → a < l.length → weirtree_Kids.f K l a = some (kids a) ∧ (kids a).length ≤ 1048576 ∧ ∀ p ∈ kids a, a < p ∧ p < l.length)
    (hS : ∀ p : Int, 0 ≤ p → p < l.length → weirtree_worded.f K (rd_T56 l p).f0 (rd_T56 l p).f1 (rd_T56 l p).f2 (rd_T56 l p).f3 (rd_T56 l p).f4 (rd_T56 l p).f5 = some (so p == 2) ∧ weirtree_timed.f (rd_T56 l p).f0 (rd_T56 l p).f1 (rd_T56 l p).f2 (rd_T56 l p).f3 (rd_T56 l p).f4 (rd_T56 l p).f5 = some (so p == 3))
    (hB : ∀ p : Int, 0 ≤ p → p < l.length → 11 ≤ (rd_T56 l p).f0 → (rd_T56 l p).f0 ≤ 22 → ((rd_T56 l p).f1 == 0 && ((rd_T56 l p).f2.toList.isEmpty && ((rd_T56 l p).f3 == 0))) = (so p == 1))
    (m : Nat) (a : Int) (h0 : 0 ≤ a) (h1 : a < l.length) (h2 : (l.length : Int) - a ≤ (m + 1 : Nat)) (w : World) (hw : Below w00.heap.size w00 w)
    (ih : ∀ p : Int, 0 ≤ p → p < l.length → (l.length : Int) - p ≤ m → ∀ w : World, Below w00.heap.size w00 w → Calls Tryz.prog 93 #[.slice A l.length c, .int .i64 p] w fun e w' => e = .returned (.bool (condF l kids so m p)) ∧ Below w.heap.size w w')
    (hop : (rd_T56 l a).f0 = 13) :
    Calls Tryz.prog 93 #[.slice A l.length c, .int .i64 a] w fun e w' => e = .returned (.bool (condF l kids so (m + 1) a)) ∧ Below w.heap.size w w' := by
  have hr := Kd.C_below hr00 hw
  obtain ⟨places, hpl⟩ : ∃ places, kids a = places := ⟨_, rfl⟩
  obtain ⟨hK2, hpm, hpr⟩ := hK a h0 h1
  rw [hpl] at hK2 hpm hpr
  have hB2 := hB a h0 h1
  obtain ⟨n, hn⟩ : ∃ n, rd_T56 l a = n := ⟨_, rfl⟩
  have hR : condF l kids so (m + 1) a = (so a == 1 && (if n.f0 = 11 ∨ n.f0 = 12 then ((places.length : Int) == 0)
    else if n.f0 = 13 then ((places.length : Int) == 1) && places.all (condF l kids so m)
    else if n.f0 = 14 ∨ n.f0 = 15 then decide ((places.length : Int) ≥ 2) && places.all (condF l kids so m)
    else if n.f0 = 16 ∨ n.f0 = 17 then ((places.length : Int) == 2) && (places.all (so · == 2) || places.all (so · == 3))
    else if n.f0 = 18 ∨ n.f0 = 19 ∨ n.f0 = 20 ∨ n.f0 = 21 then ((places.length : Int) == 2) && places.all (so · == 3)
    else if n.f0 = 22 then decide ((places.length : Int) ≥ 2) && decide ((places.length : Int) ≤ 65) && (so (rd places 0) == 2) && (places.drop 1).all (fun p => (rd_T56 l p).f0 == 24 && so p == 2)
    else false)) := by
    have g0 := len_eq places.length 0
    have g1 := len_eq places.length 1
    have g2 := len_eq places.length 2
    have g3 : decide ((places.length : Int) ≥ 2) = decide (2 ≤ places.length) := by rw [Bool.eq_iff_iff]; simp; omega
    have g4 : decide ((places.length : Int) ≤ 65) = decide (places.length ≤ 65) := by rw [Bool.eq_iff_iff]; simp; omega
    rw [condF, hn, hpl, g3, g4]
    rw [show ((places.length : Int) == 0) = (places.length == 0) from g0, show ((places.length : Int) == 1) = (places.length == 1) from g1, show ((places.length : Int) == 2) = (places.length == 2) from g2]
  obtain ⟨ad, hA, hx0, hx1, hx2, hx3, hx4, hx5⟩ := at_T56 hr a h0 h1
  subst hA
  rw [hn] at hx0 hx1 hx2 hx3 hx4 hx5 hB2 hop
  obtain ⟨b0, b1, b2, b3, b4, b5, hbe⟩ : ∃ (b0 b1 : Int) (b2 : ByteArray) (b3 b4 b5 : Int), b0 = n.f0 ∧ b1 = n.f1 ∧ b2 = n.f2 ∧ b3 = n.f3 ∧ b4 = 0 ∧ b5 = 0 := ⟨_, _, _, _, _, _, rfl, rfl, rfl, rfl, rfl, rfl⟩
  have HBa := Aside0.mk (fun (W : World) => show Calls Tryz.prog 116 #[.agg #[.int .u8 n.f0, .int .u8 n.f1, .string n.f2, .int .i64 n.f3, .int .i64 n.f4, .int .i64 n.f5]] W fun e w' => e = .returned (.agg #[.int .u8 b0, .int .u8 b1, .string b2, .int .i64 b3, .int .i64 b4, .int .i64 b5]) ∧ Below W.heap.size W w' from by
    obtain ⟨rfl, rfl, rfl, rfl, rfl, rfl⟩ := hbe
    exact weirtree_bare.calls n.f0 n.f1 n.f2 n.f3 n.f4 n.f5 _ _ _ _ _ _ W rfl)
  obtain ⟨cb, hcb⟩ : ∃ cb, (n.f1 == 0 && (n.f2.toList.isEmpty && (n.f3 == 0))) = cb := ⟨_, rfl⟩
  have e1 : (b0 == n.f0 && (b1 == 0 && (b2.toList.isEmpty && (b3 == 0 && (b4 == 0 && b5 == 0))))) = cb := by
    obtain ⟨rfl, rfl, rfl, rfl, rfl, rfl⟩ := hbe
    simpa using hcb
  have e2 : (b0 == n.f0 && (b1 == 0 && (b2.toList == ([] : List UInt8) && (b3 == 0 && (b4 == 0 && b5 == 0))))) = cb := by rw [← e1]; simp only [isE]
  rw [hcb] at hB2
  have HOp := Aside0.mk hop
  clear hop
  have HK := Aside0.mk (fun (W : World) (hb : Below w00.heap.size w00 W) => weirtree_Kids.calls K (some ad) c l a places W (Kd.C_below hr00 hb) hc hK2)
  have HIH := Aside0.mk ih
  have HW := Aside0.mk hw
  have HRes := Aside0.mk hR
  have HPr := Aside0.mk hpr
  have HS := Aside0.mk hS
  have HB2 := Aside0.mk hB2
  have HR0 := Aside0.mk hr00
  clear ih hw hR hpr hS hB2 hK hB hr hr00 hK2 hpl hn hbe hcb
  go_enter Tryz.func93, Tryz.ntmps93
  go_wp2_with (first | (go_at_call 66; refine (HK.out _ (by have h1 := HW.out; repeat (first | exact h1 | apply below_alloc | (refine Below.setCell ?_ h1.size _)))).mono ?_; rintro e w3 ⟨v0, rfl, ho, hb3⟩; obtain ⟨B1, d1, rfl, hle1, hr1⟩ := Kd.R_reads ho; have hbx := boxed _ _ _ _ _ _ _ _ w3 hb3; have HX := Aside0.mk hbx; have HBW := Aside0.mk (box_below _ _ w3 hb3); have HR1 := Aside0.mk hr1; clear hbx hb3 ho hr1))
  refine start_ (n := 6) (S := (fun W => Below w3.heap.size w3 W ∧ W.cell? ⟨w.heap.size, 0, none⟩ = some (.int .u8 n.f0) ∧ W.cell? ⟨w.heap.size, 1, none⟩ = some (.int .u8 n.f1) ∧ W.cell? ⟨w.heap.size, 2, none⟩ = some (.string n.f2) ∧ W.cell? ⟨w.heap.size, 3, none⟩ = some (.int .i64 n.f3) ∧ W.cell? ⟨w.heap.size, 4, none⟩ = some (.int .i64 n.f4) ∧ W.cell? ⟨w.heap.size, 5, none⟩ = some (.int .i64 n.f5))) (ds := []) #[false, false, false, false, false, false] (by kernel_rfl) rfl rfl (box7 (Below.refl _ _) HX.out) (fun hHeld => ?_)
  refine with_tabW c3.tab c3.bits (fun HT_ HW_ => ?_)
  refine pT 0 16 ?_
  refine pP 2 18 ?_
  refine pT 3 19 ?_
  refine pP 4 20 ?_
  refine pO 1 17 (fun K hK => ?_)
  refine goes_ Tryz.func116 (by kernel_rfl) rfl #[.agg #[.int .u8 n.f0, .int .u8 n.f1, .string n.f2, .int .i64 n.f3, .int .i64 n.f4, .int .i64 n.f5]] (by rfl) rfl rfl (by first | rfl | (simp only [q4, q5, q6]; rfl) | go_simp) ?_
  refine (HBa.out _).mono ?_
  rintro e w5 ⟨rfl, hb⟩
  refine ⟨_, rfl, ?_⟩
  refine hK.out _ _ (keep7 hHeld hb) (fun hHeld => ?_)
  clear hK K
  refine norm_ (a' := ?_) ?_ ?_
  rotate_left
  · show Act.put _ (some 17) _ = _
    simp only [Act.put, q1, q2, q3, i64_w, i32_w]
    rfl
  refine pP 5 21 ?_
  refine done_ (done_of HT_.out (by kernel_rfl)) ?_
  have hH := Aside0.mk hHeld
  obtain ⟨hb5, z0, z1, z2, z3, z4, z5⟩ := hHeld
  have HB5 := Aside0.mk (below_then HBW.out HBW.out.size hb5)
  have HI5 := Aside0.mk (Kd.C_below HR1.out hb5)
  have HW5 := Aside0.mk (below_then HW.out HW.out.size HB5.out)
  clear hb5 HX HR1 HBW HK HBa
  cases cb with
  | false =>
    go_wp2
    go_ret
    refine ⟨?_, HB5.out⟩
    rw [HRes.out]
    by_cases ho : 11 ≤ n.f0 ∧ n.f0 ≤ 22
    · rw [← HB2.out ho.1 ho.2]; rfl
    · rw [if_neg (by omega), if_neg (by omega), if_neg (by omega), if_neg (by omega), if_neg (by omega), if_neg (by omega), Bool.and_false]; rfl
  | true =>
    simp only [Bool.not_true]
    have o2 := HOp.out
    have o1 : ¬ (n.f0 = 11 ∨ n.f0 = 12) := by omega
    have hres := HRes.out
    rw [← HB2.out (by omega) (by omega), if_neg o1, if_pos o2, Bool.true_and] at hres
    have HRs := Aside0.mk hres
    clear hres
    clear o1
    rw [o2] at z0
    clear o2
    cases qe : ((places.length : Int) == 1)
    · have qn : ((places.length : Int) != 1) = true := by rw [bne, qe]; rfl
      go_wp2
      go_ret
      exact ⟨by rw [HRs.out, qe]; rfl, HB5.out⟩
    · have qn : ((places.length : Int) != 1) = false := by rw [bne, qe]; rfl
      rw [qe] at HRs
      clear qe
      go_wp2
      go_loopw [4, 7] (fun _ i W => ∃ j : Nat, j ≤ places.length ∧ i = .int .i64 j ∧ Aside0 ((places.take j).all (condF l kids so m) = true) ∧ Aside0 (Below w5.heap.size w5 W)) (fun _ i _ => places.length - (intOf i).toNat)
      case atStart => exact ⟨0, Nat.zero_le _, rfl, ⟨rfl⟩, ⟨Below.refl _ _⟩⟩
      case round =>
        obtain ⟨j, hj, rfl, HA, HB⟩ := hrel
        by_cases hlt : j < places.length
        · obtain ⟨p, hp⟩ : ∃ p, places[j] = p := ⟨_, rfl⟩
          obtain ⟨ae, hB1, hxe⟩ := Kd.at_int (Kd.C_below HI5.out HB.out) (j : Int) (by omega) (by omega)
          subst hB1
          rw [rd_get places j hlt, Int.toNat_natCast, hp] at hxe
          have hpp := HPr.out p (by rw [← hp]; exact List.getElem_mem hlt)
          have HC := Aside0.mk (HIH.out p (by omega) hpp.2 (by omega) wr (below_then HW5.out HW5.out.size HB.out))
          have HT := Aside0.mk (take_all places (condF l kids so m) j hlt HA.out)
          have HF := Aside0.mk (fun h => all_false places (condF l kids so m) j hlt h)
          rw [hp] at HT HF
          have hj0 : (0 : Int) ≤ (j : Int) := by omega
          have hj1 : (j : Int) < (places.length : Int) := by omega
          clear hp hpp HA
          cases hc2 : condF l kids so m p with
          | true =>
            rw [hc2] at HC HT
            clear hc2
            go_wp2_with (go_at_call 93; refine HC.out.mono ?_; rintro e w6 ⟨rfl, hb6⟩)
            go_roundw
            case rel => exact ⟨j + 1, by omega, by go_num, HT, ⟨below_then HB.out HB.out.size hb6⟩⟩
            case measure => simp [intOf]; omega
          | false =>
            rw [hc2] at HC
            have HF2 := Aside0.mk (HF.out hc2)
            clear hc2
            go_wp2_with (go_at_call 93; refine HC.out.mono ?_; rintro e w6 ⟨rfl, hb6⟩)
            go_ret
            exact ⟨by rw [HRs.out, HF2.out, Bool.and_false]; rfl, below_then HB5.out HB5.out.size (below_then HB.out HB.out.size hb6)⟩
        · obtain rfl : j = places.length := by omega
          have hall := HA.out
          rw [List.take_length] at hall
          have HAl := Aside0.mk hall
          clear hall HA
          go_wp2
          go_ret
          exact ⟨by rw [HRs.out, HAl.out]; rfl, below_then HB5.out HB5.out.size HB.out⟩

set_option maxRecDepth 100000 in
set_option maxHeartbeats 16000000 in
theorem cond_p3 (A : Option Addr) (c : Nat) (l : List ND) (hc : l.length ≤ c) (w00 : World) (hr00 : Kd.C k56 w00 A l.length l) (K : Nat) (kids : Int → List Int) (so : Int → Int)
    (hK : ∀ a : Int, 0 ≤ a → a < l.length → weirtree_Kids.f K l a = some (kids a) ∧ (kids a).length ≤ 1048576 ∧ ∀ p ∈ kids a, a < p ∧ p < l.length)
    (hS : ∀ p : Int, 0 ≤ p → p < l.length → weirtree_worded.f K (rd_T56 l p).f0 (rd_T56 l p).f1 (rd_T56 l p).f2 (rd_T56 l p).f3 (rd_T56 l p).f4 (rd_T56 l p).f5 = some (so p == 2) ∧ weirtree_timed.f (rd_T56 l p).f0 (rd_T56 l p).f1 (rd_T56 l p).f2 (rd_T56 l p).f3 (rd_T56 l p).f4 (rd_T56 l p).f5 = some (so p == 3))
    (hB : ∀ p : Int, 0 ≤ p → p < l.length → 11 ≤ (rd_T56 l p).f0 → (rd_T56 l p).f0 ≤ 22 → ((rd_T56 l p).f1 == 0 && ((rd_T56 l p).f2.toList.isEmpty && ((rd_T56 l p).f3 == 0))) = (so p == 1))
    (m : Nat) (a : Int) (h0 : 0 ≤ a) (h1 : a < l.length) (h2 : (l.length : Int) - a ≤ (m + 1 : Nat)) (w : World) (hw : Below w00.heap.size w00 w)
    (ih : ∀ p : Int, 0 ≤ p → p < l.length → (l.length : Int) - p ≤ m → ∀ w : World, Below w00.heap.size w00 w → Calls Tryz.prog 93 #[.slice A l.length c, .int .i64 p] w fun e w' => e = .returned (.bool (condF l kids so m p)) ∧ Below w.heap.size w w')
    (hop : (rd_T56 l a).f0 = 14 ∨ (rd_T56 l a).f0 = 15) :
    Calls Tryz.prog 93 #[.slice A l.length c, .int .i64 a] w fun e w' => e = .returned (.bool (condF l kids so (m + 1) a)) ∧ Below w.heap.size w w' := by
  have hr := Kd.C_below hr00 hw
  obtain ⟨places, hpl⟩ : ∃ places, kids a = places := ⟨_, rfl⟩
  obtain ⟨hK2, hpm, hpr⟩ := hK a h0 h1
  rw [hpl] at hK2 hpm hpr
  have hB2 := hB a h0 h1
  obtain ⟨n, hn⟩ : ∃ n, rd_T56 l a = n := ⟨_, rfl⟩
  have hR : condF l kids so (m + 1) a = (so a == 1 && (if n.f0 = 11 ∨ n.f0 = 12 then ((places.length : Int) == 0)
    else if n.f0 = 13 then ((places.length : Int) == 1) && places.all (condF l kids so m)
    else if n.f0 = 14 ∨ n.f0 = 15 then decide ((places.length : Int) ≥ 2) && places.all (condF l kids so m)
    else if n.f0 = 16 ∨ n.f0 = 17 then ((places.length : Int) == 2) && (places.all (so · == 2) || places.all (so · == 3))
    else if n.f0 = 18 ∨ n.f0 = 19 ∨ n.f0 = 20 ∨ n.f0 = 21 then ((places.length : Int) == 2) && places.all (so · == 3)
    else if n.f0 = 22 then decide ((places.length : Int) ≥ 2) && decide ((places.length : Int) ≤ 65) && (so (rd places 0) == 2) && (places.drop 1).all (fun p => (rd_T56 l p).f0 == 24 && so p == 2)
    else false)) := by
    have g0 := len_eq places.length 0
    have g1 := len_eq places.length 1
    have g2 := len_eq places.length 2
    have g3 : decide ((places.length : Int) ≥ 2) = decide (2 ≤ places.length) := by rw [Bool.eq_iff_iff]; simp; omega
    have g4 : decide ((places.length : Int) ≤ 65) = decide (places.length ≤ 65) := by rw [Bool.eq_iff_iff]; simp; omega
    rw [condF, hn, hpl, g3, g4]
    rw [show ((places.length : Int) == 0) = (places.length == 0) from g0, show ((places.length : Int) == 1) = (places.length == 1) from g1, show ((places.length : Int) == 2) = (places.length == 2) from g2]
  obtain ⟨ad, hA, hx0, hx1, hx2, hx3, hx4, hx5⟩ := at_T56 hr a h0 h1
  subst hA
  rw [hn] at hx0 hx1 hx2 hx3 hx4 hx5 hB2 hop
  obtain ⟨b0, b1, b2, b3, b4, b5, hbe⟩ : ∃ (b0 b1 : Int) (b2 : ByteArray) (b3 b4 b5 : Int), b0 = n.f0 ∧ b1 = n.f1 ∧ b2 = n.f2 ∧ b3 = n.f3 ∧ b4 = 0 ∧ b5 = 0 := ⟨_, _, _, _, _, _, rfl, rfl, rfl, rfl, rfl, rfl⟩
  have HBa := Aside0.mk (fun (W : World) => show Calls Tryz.prog 116 #[.agg #[.int .u8 n.f0, .int .u8 n.f1, .string n.f2, .int .i64 n.f3, .int .i64 n.f4, .int .i64 n.f5]] W fun e w' => e = .returned (.agg #[.int .u8 b0, .int .u8 b1, .string b2, .int .i64 b3, .int .i64 b4, .int .i64 b5]) ∧ Below W.heap.size W w' from by
    obtain ⟨rfl, rfl, rfl, rfl, rfl, rfl⟩ := hbe
    exact weirtree_bare.calls n.f0 n.f1 n.f2 n.f3 n.f4 n.f5 _ _ _ _ _ _ W rfl)
  obtain ⟨cb, hcb⟩ : ∃ cb, (n.f1 == 0 && (n.f2.toList.isEmpty && (n.f3 == 0))) = cb := ⟨_, rfl⟩
  have e1 : (b0 == n.f0 && (b1 == 0 && (b2.toList.isEmpty && (b3 == 0 && (b4 == 0 && b5 == 0))))) = cb := by
    obtain ⟨rfl, rfl, rfl, rfl, rfl, rfl⟩ := hbe
    simpa using hcb
  have e2 : (b0 == n.f0 && (b1 == 0 && (b2.toList == ([] : List UInt8) && (b3 == 0 && (b4 == 0 && b5 == 0))))) = cb := by rw [← e1]; simp only [isE]
  rw [hcb] at hB2
  have HOp := Aside0.mk hop
  clear hop
  have HK := Aside0.mk (fun (W : World) (hb : Below w00.heap.size w00 W) => weirtree_Kids.calls K (some ad) c l a places W (Kd.C_below hr00 hb) hc hK2)
  have HIH := Aside0.mk ih
  have HW := Aside0.mk hw
  have HRes := Aside0.mk hR
  have HPr := Aside0.mk hpr
  have HS := Aside0.mk hS
  have HB2 := Aside0.mk hB2
  have HR0 := Aside0.mk hr00
  clear ih hw hR hpr hS hB2 hK hB hr hr00 hK2 hpl hn hbe hcb
  go_enter Tryz.func93, Tryz.ntmps93
  go_wp2_with (first | (go_at_call 66; refine (HK.out _ (by have h1 := HW.out; repeat (first | exact h1 | apply below_alloc | (refine Below.setCell ?_ h1.size _)))).mono ?_; rintro e w3 ⟨v0, rfl, ho, hb3⟩; obtain ⟨B1, d1, rfl, hle1, hr1⟩ := Kd.R_reads ho; have hbx := boxed _ _ _ _ _ _ _ _ w3 hb3; have HX := Aside0.mk hbx; have HBW := Aside0.mk (box_below _ _ w3 hb3); have HR1 := Aside0.mk hr1; clear hbx hb3 ho hr1))
  refine start_ (n := 6) (S := (fun W => Below w3.heap.size w3 W ∧ W.cell? ⟨w.heap.size, 0, none⟩ = some (.int .u8 n.f0) ∧ W.cell? ⟨w.heap.size, 1, none⟩ = some (.int .u8 n.f1) ∧ W.cell? ⟨w.heap.size, 2, none⟩ = some (.string n.f2) ∧ W.cell? ⟨w.heap.size, 3, none⟩ = some (.int .i64 n.f3) ∧ W.cell? ⟨w.heap.size, 4, none⟩ = some (.int .i64 n.f4) ∧ W.cell? ⟨w.heap.size, 5, none⟩ = some (.int .i64 n.f5))) (ds := []) #[false, false, false, false, false, false] (by kernel_rfl) rfl rfl (box7 (Below.refl _ _) HX.out) (fun hHeld => ?_)
  refine with_tabW c3.tab c3.bits (fun HT_ HW_ => ?_)
  refine pT 0 16 ?_
  refine pP 2 18 ?_
  refine pT 3 19 ?_
  refine pP 4 20 ?_
  refine pO 1 17 (fun K hK => ?_)
  refine goes_ Tryz.func116 (by kernel_rfl) rfl #[.agg #[.int .u8 n.f0, .int .u8 n.f1, .string n.f2, .int .i64 n.f3, .int .i64 n.f4, .int .i64 n.f5]] (by rfl) rfl rfl (by first | rfl | (simp only [q4, q5, q6]; rfl) | go_simp) ?_
  refine (HBa.out _).mono ?_
  rintro e w5 ⟨rfl, hb⟩
  refine ⟨_, rfl, ?_⟩
  refine hK.out _ _ (keep7 hHeld hb) (fun hHeld => ?_)
  clear hK K
  refine norm_ (a' := ?_) ?_ ?_
  rotate_left
  · show Act.put _ (some 17) _ = _
    simp only [Act.put, q1, q2, q3, i64_w, i32_w]
    rfl
  refine pP 5 21 ?_
  refine done_ (done_of HT_.out (by kernel_rfl)) ?_
  have hH := Aside0.mk hHeld
  obtain ⟨hb5, z0, z1, z2, z3, z4, z5⟩ := hHeld
  have HB5 := Aside0.mk (below_then HBW.out HBW.out.size hb5)
  have HI5 := Aside0.mk (Kd.C_below HR1.out hb5)
  have HW5 := Aside0.mk (below_then HW.out HW.out.size HB5.out)
  clear hb5 HX HR1 HBW HK HBa
  cases cb with
  | false =>
    go_wp2
    go_ret
    refine ⟨?_, HB5.out⟩
    rw [HRes.out]
    by_cases ho : 11 ≤ n.f0 ∧ n.f0 ≤ 22
    · rw [← HB2.out ho.1 ho.2]; rfl
    · rw [if_neg (by omega), if_neg (by omega), if_neg (by omega), if_neg (by omega), if_neg (by omega), if_neg (by omega), Bool.and_false]; rfl
  | true =>
    simp only [Bool.not_true]
    have o3 := HOp.out
    have o1 : ¬ (n.f0 = 11 ∨ n.f0 = 12) := by omega
    have o2 : ¬ (n.f0 = 13) := by omega
    have hres := HRes.out
    rw [← HB2.out (by omega) (by omega), if_neg o1, if_neg o2, if_pos o3, Bool.true_and] at hres
    have HRs := Aside0.mk hres
    clear hres
    clear o1 o2
    rcases o3 with hf | hf
    all_goals
      rw [hf] at z0
      clear hf
      cases qe : decide ((places.length : Int) ≥ 2)
      · have qn : decide ((places.length : Int) < 2) = true := by have := of_decide_eq_false qe; exact decide_eq_true (by omega)
        go_wp2
        go_ret
        exact ⟨by rw [HRs.out, qe]; rfl, HB5.out⟩
      · have qn : decide ((places.length : Int) < 2) = false := by have := of_decide_eq_true qe; exact decide_eq_false (by omega)
        rw [qe] at HRs
        clear qe
        go_wp2
        go_loopw [4, 7] (fun _ i W => ∃ j : Nat, j ≤ places.length ∧ i = .int .i64 j ∧ Aside0 ((places.take j).all (condF l kids so m) = true) ∧ Aside0 (Below w5.heap.size w5 W)) (fun _ i _ => places.length - (intOf i).toNat)
        case atStart => exact ⟨0, Nat.zero_le _, rfl, ⟨rfl⟩, ⟨Below.refl _ _⟩⟩
        case round =>
          obtain ⟨j, hj, rfl, HA, HB⟩ := hrel
          by_cases hlt : j < places.length
          · obtain ⟨p, hp⟩ : ∃ p, places[j] = p := ⟨_, rfl⟩
            obtain ⟨ae, hB1, hxe⟩ := Kd.at_int (Kd.C_below HI5.out HB.out) (j : Int) (by omega) (by omega)
            subst hB1
            rw [rd_get places j hlt, Int.toNat_natCast, hp] at hxe
            have hpp := HPr.out p (by rw [← hp]; exact List.getElem_mem hlt)
            have HC := Aside0.mk (HIH.out p (by omega) hpp.2 (by omega) wr (below_then HW5.out HW5.out.size HB.out))
            have HT := Aside0.mk (take_all places (condF l kids so m) j hlt HA.out)
            have HF := Aside0.mk (fun h => all_false places (condF l kids so m) j hlt h)
            rw [hp] at HT HF
            have hj0 : (0 : Int) ≤ (j : Int) := by omega
            have hj1 : (j : Int) < (places.length : Int) := by omega
            clear hp hpp HA
            cases hc2 : condF l kids so m p with
            | true =>
              rw [hc2] at HC HT
              clear hc2
              go_wp2_with (go_at_call 93; refine HC.out.mono ?_; rintro e w6 ⟨rfl, hb6⟩)
              go_roundw
              case rel => exact ⟨j + 1, by omega, by go_num, HT, ⟨below_then HB.out HB.out.size hb6⟩⟩
              case measure => simp [intOf]; omega
            | false =>
              rw [hc2] at HC
              have HF2 := Aside0.mk (HF.out hc2)
              clear hc2
              go_wp2_with (go_at_call 93; refine HC.out.mono ?_; rintro e w6 ⟨rfl, hb6⟩)
              go_ret
              exact ⟨by rw [HRs.out, HF2.out, Bool.and_false]; rfl, below_then HB5.out HB5.out.size (below_then HB.out HB.out.size hb6)⟩
          · obtain rfl : j = places.length := by omega
            have hall := HA.out
            rw [List.take_length] at hall
            have HAl := Aside0.mk hall
            clear hall HA
            go_wp2
            go_ret
            exact ⟨by rw [HRs.out, HAl.out]; rfl, below_then HB5.out HB5.out.size HB.out⟩

set_option maxRecDepth 100000 in
set_option maxHeartbeats 16000000 in
theorem cond_p4 (A : Option Addr) (c : Nat) (l : List ND) (hc : l.length ≤ c) (w00 : World) (hr00 : Kd.C k56 w00 A l.length l) (K : Nat) (kids : Int → List Int) (so : Int → Int)
    (hK : ∀ a : Int, 0 ≤ a → a < l.length → weirtree_Kids.f K l a = some (kids a) ∧ (kids a).length ≤ 1048576 ∧ ∀ p ∈ kids a, a < p ∧ p < l.length)
    (hS : ∀ p : Int, 0 ≤ p → p < l.length → weirtree_worded.f K (rd_T56 l p).f0 (rd_T56 l p).f1 (rd_T56 l p).f2 (rd_T56 l p).f3 (rd_T56 l p).f4 (rd_T56 l p).f5 = some (so p == 2) ∧ weirtree_timed.f (rd_T56 l p).f0 (rd_T56 l p).f1 (rd_T56 l p).f2 (rd_T56 l p).f3 (rd_T56 l p).f4 (rd_T56 l p).f5 = some (so p == 3))
    (hB : ∀ p : Int, 0 ≤ p → p < l.length → 11 ≤ (rd_T56 l p).f0 → (rd_T56 l p).f0 ≤ 22 → ((rd_T56 l p).f1 == 0 && ((rd_T56 l p).f2.toList.isEmpty && ((rd_T56 l p).f3 == 0))) = (so p == 1))
    (m : Nat) (a : Int) (h0 : 0 ≤ a) (h1 : a < l.length) (h2 : (l.length : Int) - a ≤ (m + 1 : Nat)) (w : World) (hw : Below w00.heap.size w00 w)
    (ih : ∀ p : Int, 0 ≤ p → p < l.length → (l.length : Int) - p ≤ m → ∀ w : World, Below w00.heap.size w00 w → Calls Tryz.prog 93 #[.slice A l.length c, .int .i64 p] w fun e w' => e = .returned (.bool (condF l kids so m p)) ∧ Below w.heap.size w w')
    (hop : (rd_T56 l a).f0 = 16 ∨ (rd_T56 l a).f0 = 17) :
    Calls Tryz.prog 93 #[.slice A l.length c, .int .i64 a] w fun e w' => e = .returned (.bool (condF l kids so (m + 1) a)) ∧ Below w.heap.size w w' := by
  have hr := Kd.C_below hr00 hw
  obtain ⟨places, hpl⟩ : ∃ places, kids a = places := ⟨_, rfl⟩
  obtain ⟨hK2, hpm, hpr⟩ := hK a h0 h1
  rw [hpl] at hK2 hpm hpr
  have hB2 := hB a h0 h1
  obtain ⟨n, hn⟩ : ∃ n, rd_T56 l a = n := ⟨_, rfl⟩
  have hR : condF l kids so (m + 1) a = (so a == 1 && (if n.f0 = 11 ∨ n.f0 = 12 then ((places.length : Int) == 0)
    else if n.f0 = 13 then ((places.length : Int) == 1) && places.all (condF l kids so m)
    else if n.f0 = 14 ∨ n.f0 = 15 then decide ((places.length : Int) ≥ 2) && places.all (condF l kids so m)
    else if n.f0 = 16 ∨ n.f0 = 17 then ((places.length : Int) == 2) && (places.all (so · == 2) || places.all (so · == 3))
    else if n.f0 = 18 ∨ n.f0 = 19 ∨ n.f0 = 20 ∨ n.f0 = 21 then ((places.length : Int) == 2) && places.all (so · == 3)
    else if n.f0 = 22 then decide ((places.length : Int) ≥ 2) && decide ((places.length : Int) ≤ 65) && (so (rd places 0) == 2) && (places.drop 1).all (fun p => (rd_T56 l p).f0 == 24 && so p == 2)
    else false)) := by
    have g0 := len_eq places.length 0
    have g1 := len_eq places.length 1
    have g2 := len_eq places.length 2
    have g3 : decide ((places.length : Int) ≥ 2) = decide (2 ≤ places.length) := by rw [Bool.eq_iff_iff]; simp; omega
    have g4 : decide ((places.length : Int) ≤ 65) = decide (places.length ≤ 65) := by rw [Bool.eq_iff_iff]; simp; omega
    rw [condF, hn, hpl, g3, g4]
    rw [show ((places.length : Int) == 0) = (places.length == 0) from g0, show ((places.length : Int) == 1) = (places.length == 1) from g1, show ((places.length : Int) == 2) = (places.length == 2) from g2]
  obtain ⟨ad, hA, hx0, hx1, hx2, hx3, hx4, hx5⟩ := at_T56 hr a h0 h1
  subst hA
  rw [hn] at hx0 hx1 hx2 hx3 hx4 hx5 hB2 hop
  obtain ⟨b0, b1, b2, b3, b4, b5, hbe⟩ : ∃ (b0 b1 : Int) (b2 : ByteArray) (b3 b4 b5 : Int), b0 = n.f0 ∧ b1 = n.f1 ∧ b2 = n.f2 ∧ b3 = n.f3 ∧ b4 = 0 ∧ b5 = 0 := ⟨_, _, _, _, _, _, rfl, rfl, rfl, rfl, rfl, rfl⟩
  have HBa := Aside0.mk (fun (W : World) => show Calls Tryz.prog 116 #[.agg #[.int .u8 n.f0, .int .u8 n.f1, .string n.f2, .int .i64 n.f3, .int .i64 n.f4, .int .i64 n.f5]] W fun e w' => e = .returned (.agg #[.int .u8 b0, .int .u8 b1, .string b2, .int .i64 b3, .int .i64 b4, .int .i64 b5]) ∧ Below W.heap.size W w' from by
    obtain ⟨rfl, rfl, rfl, rfl, rfl, rfl⟩ := hbe
    exact weirtree_bare.calls n.f0 n.f1 n.f2 n.f3 n.f4 n.f5 _ _ _ _ _ _ W rfl)
  obtain ⟨cb, hcb⟩ : ∃ cb, (n.f1 == 0 && (n.f2.toList.isEmpty && (n.f3 == 0))) = cb := ⟨_, rfl⟩
  have e1 : (b0 == n.f0 && (b1 == 0 && (b2.toList.isEmpty && (b3 == 0 && (b4 == 0 && b5 == 0))))) = cb := by
    obtain ⟨rfl, rfl, rfl, rfl, rfl, rfl⟩ := hbe
    simpa using hcb
  have e2 : (b0 == n.f0 && (b1 == 0 && (b2.toList == ([] : List UInt8) && (b3 == 0 && (b4 == 0 && b5 == 0))))) = cb := by rw [← e1]; simp only [isE]
  rw [hcb] at hB2
  have HOp := Aside0.mk hop
  clear hop
  have HK := Aside0.mk (fun (W : World) (hb : Below w00.heap.size w00 W) => weirtree_Kids.calls K (some ad) c l a places W (Kd.C_below hr00 hb) hc hK2)
  have HIH := Aside0.mk ih
  have HW := Aside0.mk hw
  have HRes := Aside0.mk hR
  have HPr := Aside0.mk hpr
  have HS := Aside0.mk hS
  have HB2 := Aside0.mk hB2
  have HR0 := Aside0.mk hr00
  clear ih hw hR hpr hS hB2 hK hB hr hr00 hK2 hpl hn hbe hcb
  go_enter Tryz.func93, Tryz.ntmps93
  go_wp2_with (first | (go_at_call 66; refine (HK.out _ (by have h1 := HW.out; repeat (first | exact h1 | apply below_alloc | (refine Below.setCell ?_ h1.size _)))).mono ?_; rintro e w3 ⟨v0, rfl, ho, hb3⟩; obtain ⟨B1, d1, rfl, hle1, hr1⟩ := Kd.R_reads ho; have hbx := boxed _ _ _ _ _ _ _ _ w3 hb3; have HX := Aside0.mk hbx; have HBW := Aside0.mk (box_below _ _ w3 hb3); have HR1 := Aside0.mk hr1; clear hbx hb3 ho hr1))
  refine start_ (n := 6) (S := (fun W => Below w3.heap.size w3 W ∧ W.cell? ⟨w.heap.size, 0, none⟩ = some (.int .u8 n.f0) ∧ W.cell? ⟨w.heap.size, 1, none⟩ = some (.int .u8 n.f1) ∧ W.cell? ⟨w.heap.size, 2, none⟩ = some (.string n.f2) ∧ W.cell? ⟨w.heap.size, 3, none⟩ = some (.int .i64 n.f3) ∧ W.cell? ⟨w.heap.size, 4, none⟩ = some (.int .i64 n.f4) ∧ W.cell? ⟨w.heap.size, 5, none⟩ = some (.int .i64 n.f5))) (ds := []) #[false, false, false, false, false, false] (by kernel_rfl) rfl rfl (box7 (Below.refl _ _) HX.out) (fun hHeld => ?_)
  refine with_tabW c3.tab c3.bits (fun HT_ HW_ => ?_)
  refine pT 0 16 ?_
  refine pP 2 18 ?_
  refine pT 3 19 ?_
  refine pP 4 20 ?_
  refine pO 1 17 (fun K hK => ?_)
  refine goes_ Tryz.func116 (by kernel_rfl) rfl #[.agg #[.int .u8 n.f0, .int .u8 n.f1, .string n.f2, .int .i64 n.f3, .int .i64 n.f4, .int .i64 n.f5]] (by rfl) rfl rfl (by first | rfl | (simp only [q4, q5, q6]; rfl) | go_simp) ?_
  refine (HBa.out _).mono ?_
  rintro e w5 ⟨rfl, hb⟩
  refine ⟨_, rfl, ?_⟩
  refine hK.out _ _ (keep7 hHeld hb) (fun hHeld => ?_)
  clear hK K
  refine norm_ (a' := ?_) ?_ ?_
  rotate_left
  · show Act.put _ (some 17) _ = _
    simp only [Act.put, q1, q2, q3, i64_w, i32_w]
    rfl
  refine pP 5 21 ?_
  refine done_ (done_of HT_.out (by kernel_rfl)) ?_
  have hH := Aside0.mk hHeld
  obtain ⟨hb5, z0, z1, z2, z3, z4, z5⟩ := hHeld
  have HB5 := Aside0.mk (below_then HBW.out HBW.out.size hb5)
  have HI5 := Aside0.mk (Kd.C_below HR1.out hb5)
  have HW5 := Aside0.mk (below_then HW.out HW.out.size HB5.out)
  clear hb5 HX HR1 HBW HK HBa
  cases cb with
  | false =>
    go_wp2
    go_ret
    refine ⟨?_, HB5.out⟩
    rw [HRes.out]
    by_cases ho : 11 ≤ n.f0 ∧ n.f0 ≤ 22
    · rw [← HB2.out ho.1 ho.2]; rfl
    · rw [if_neg (by omega), if_neg (by omega), if_neg (by omega), if_neg (by omega), if_neg (by omega), if_neg (by omega), Bool.and_false]; rfl
  | true =>
    simp only [Bool.not_true]
    have o4 := HOp.out
    have o1 : ¬ (n.f0 = 11 ∨ n.f0 = 12) := by omega
    have o2 : ¬ (n.f0 = 13) := by omega
    have o3 : ¬ (n.f0 = 14 ∨ n.f0 = 15) := by omega
    have hres := HRes.out
    rw [← HB2.out (by omega) (by omega), if_neg o1, if_neg o2, if_neg o3, if_pos o4, Bool.true_and] at hres
    have HRs := Aside0.mk hres
    clear hres
    clear o1 o2 o3
    cases qe : ((places.length : Int) == 2)
    · rcases o4 with hf | hf
      all_goals
        rw [hf] at z0
        go_wp2
        go_ret
        exact ⟨by rw [HRs.out, qe]; rfl, HB5.out⟩
    · obtain ⟨p, q, hpq⟩ : ∃ p q, places = [p, q] := by
        have hl : places.length = 2 := by have := eq_of_beq qe; omega
        match places, hl with
        | [p, q], _ => exact ⟨p, q, rfl⟩
      subst hpq
      have hpp := HPr.out p (by simp)
      have hqq := HPr.out q (by simp)
      obtain ⟨sp2, sp3⟩ := HS.out p (by omega) hpp.2
      obtain ⟨sq2, sq3⟩ := HS.out q (by omega) hqq.2
      obtain ⟨ap, hA1, x0, x1, x2, x3, x4, x5⟩ := at_T56 (Kd.C_below HR0.out HW5.out) p (by omega) hpp.2
      obtain rfl := Option.some.inj hA1
      obtain ⟨aq, hA2, y0, y1, y2, y3, y4, y5⟩ := at_T56 (Kd.C_below HR0.out HW5.out) q (by omega) hqq.2
      obtain rfl := Option.some.inj hA2
      obtain ⟨ae, hB1, c1⟩ := Kd.at_int HI5.out 0 (by omega) (by simp)
      subst hB1
      obtain ⟨ae2, hB2, c2⟩ := Kd.at_int HI5.out 1 (by omega) (by simp)
      obtain rfl := Option.some.inj hB2
      have c1 : w5.cell? ae = some (.int .i64 p) := by rw [← CondT.add_zero ae]; exact c1
      have c2 : w5.cell? ⟨ae.block, ae.off + 1, none⟩ = some (.int .i64 q) := c2
      obtain ⟨u, hu⟩ : ∃ u, rd_T56 l p = u := ⟨_, rfl⟩
      obtain ⟨v, hv⟩ : ∃ v, rd_T56 l q = v := ⟨_, rfl⟩
      rw [hu] at x0 x1 x2 x3 x4 x5 sp2 sp3
      rw [hv] at y0 y1 y2 y3 y4 y5 sq2 sq3
      have HT := Aside0.mk (show Two w5 ae (ad.add (p.toNat * 6)) (ad.add (q.toNat * 6)) p q u v from ⟨c1, c2, x0, x1, x2, x3, x4, x5, y0, y1, y2, y3, y4, y5⟩)
      have HB := HB5
      obtain ⟨xp2, hxp2⟩ : ∃ x, (so p == 2) = x := ⟨_, rfl⟩
      obtain ⟨xp3, hxp3⟩ : ∃ x, (so p == 3) = x := ⟨_, rfl⟩
      obtain ⟨xq2, hxq2⟩ : ∃ x, (so q == 2) = x := ⟨_, rfl⟩
      obtain ⟨xq3, hxq3⟩ : ∃ x, (so q == 3) = x := ⟨_, rfl⟩
      rw [hxp2] at sp2
      rw [hxp3] at sp3
      rw [hxq2] at sq2
      rw [hxq3] at sq3
      have hfin := HRs.out
      rw [all_two, all_two, hxp2, hxp3, hxq2, hxq3] at hfin
      have HFn := Aside0.mk hfin
      have HWp := Aside0.mk (fun (W : World) => weirtree_worded.calls K u.f0 u.f1 u.f2 u.f3 u.f4 u.f5 xp2 W sp2)
      have HWq := Aside0.mk (fun (W : World) => weirtree_worded.calls K v.f0 v.f1 v.f2 v.f3 v.f4 v.f5 xq2 W sq2)
      have HTp := Aside0.mk (fun (W : World) => weirtree_timed.calls u.f0 u.f1 u.f2 u.f3 u.f4 u.f5 xp3 W sp3)
      have HTq := Aside0.mk (fun (W : World) => weirtree_timed.calls v.f0 v.f1 v.f2 v.f3 v.f4 v.f5 xq3 W sq3)
      have hp0 : 0 ≤ p := by omega
      have hp1 := hpp.2
      have hq0 : 0 ≤ q := by omega
      have hq1 := hqq.2
      clear hfin hxp2 hxp3 hxq2 hxq3 sp2 sp3 sq2 sq3 hu hv hpp hqq hA1 hA2 hB2 HRs
      clear qe HI5 HPr HS HR0 HIH
      rcases o4 with hf | hf
      all_goals
        rw [hf] at z0
        clear hf
        cases xp2
        · cases xp3
          all_goals
            go_wp2_with (first | (go_at_call 119; (first | (with_reducible refine (HWp.out _).mono ?_) | (with_reducible refine (HWq.out _).mono ?_)); rintro e w6 ⟨rfl, hb⟩; have HT := Aside0.mk (Two.more HT.out hb); have HB := Aside0.mk (below_then HB.out HB.out.size hb); obtain ⟨t1, t2, t3, t4, t5, t6, t7, t8, t9, t10, t11, t12, t13, t14⟩ := HT.out; clear hb) | (go_at_call 120; (first | (with_reducible refine (HTp.out _).mono ?_) | (with_reducible refine (HTq.out _).mono ?_)); rintro e w6 ⟨rfl, hb⟩; have HT := Aside0.mk (Two.more HT.out hb); have HB := Aside0.mk (below_then HB.out HB.out.size hb); obtain ⟨t1, t2, t3, t4, t5, t6, t7, t8, t9, t10, t11, t12, t13, t14⟩ := HT.out; clear hb))
            go_ret
            exact ⟨by rw [HFn.out]; first | rfl | (cases xq2 <;> cases xq3 <;> rfl), HB.out⟩
        · cases xq2
          · cases xp3
            all_goals
              go_wp2_with (first | (go_at_call 119; (first | (with_reducible refine (HWp.out _).mono ?_) | (with_reducible refine (HWq.out _).mono ?_)); rintro e w6 ⟨rfl, hb⟩; have HT := Aside0.mk (Two.more HT.out hb); have HB := Aside0.mk (below_then HB.out HB.out.size hb); obtain ⟨t1, t2, t3, t4, t5, t6, t7, t8, t9, t10, t11, t12, t13, t14⟩ := HT.out; clear hb) | (go_at_call 120; (first | (with_reducible refine (HTp.out _).mono ?_) | (with_reducible refine (HTq.out _).mono ?_)); rintro e w6 ⟨rfl, hb⟩; have HT := Aside0.mk (Two.more HT.out hb); have HB := Aside0.mk (below_then HB.out HB.out.size hb); obtain ⟨t1, t2, t3, t4, t5, t6, t7, t8, t9, t10, t11, t12, t13, t14⟩ := HT.out; clear hb))
              go_ret
              exact ⟨by rw [HFn.out]; first | rfl | (cases xq3 <;> rfl), HB.out⟩
          · go_wp2_with (first | (go_at_call 119; (first | (with_reducible refine (HWp.out _).mono ?_) | (with_reducible refine (HWq.out _).mono ?_)); rintro e w6 ⟨rfl, hb⟩; have HT := Aside0.mk (Two.more HT.out hb); have HB := Aside0.mk (below_then HB.out HB.out.size hb); obtain ⟨t1, t2, t3, t4, t5, t6, t7, t8, t9, t10, t11, t12, t13, t14⟩ := HT.out; clear hb) | (go_at_call 120; (first | (with_reducible refine (HTp.out _).mono ?_) | (with_reducible refine (HTq.out _).mono ?_)); rintro e w6 ⟨rfl, hb⟩; have HT := Aside0.mk (Two.more HT.out hb); have HB := Aside0.mk (below_then HB.out HB.out.size hb); obtain ⟨t1, t2, t3, t4, t5, t6, t7, t8, t9, t10, t11, t12, t13, t14⟩ := HT.out; clear hb))
            go_ret
            exact ⟨by rw [HFn.out]; rfl, HB.out⟩

set_option maxRecDepth 100000 in
set_option maxHeartbeats 16000000 in
theorem cond_p5 (A : Option Addr) (c : Nat) (l : List ND) (hc : l.length ≤ c) (w00 : World) (hr00 : Kd.C k56 w00 A l.length l) (K : Nat) (kids : Int → List Int) (so : Int → Int)
    (hK : ∀ a : Int, 0 ≤ a → a < l.length → weirtree_Kids.f K l a = some (kids a) ∧ (kids a).length ≤ 1048576 ∧ ∀ p ∈ kids a, a < p ∧ p < l.length)
    (hS : ∀ p : Int, 0 ≤ p → p < l.length → weirtree_worded.f K (rd_T56 l p).f0 (rd_T56 l p).f1 (rd_T56 l p).f2 (rd_T56 l p).f3 (rd_T56 l p).f4 (rd_T56 l p).f5 = some (so p == 2) ∧ weirtree_timed.f (rd_T56 l p).f0 (rd_T56 l p).f1 (rd_T56 l p).f2 (rd_T56 l p).f3 (rd_T56 l p).f4 (rd_T56 l p).f5 = some (so p == 3))
    (hB : ∀ p : Int, 0 ≤ p → p < l.length → 11 ≤ (rd_T56 l p).f0 → (rd_T56 l p).f0 ≤ 22 → ((rd_T56 l p).f1 == 0 && ((rd_T56 l p).f2.toList.isEmpty && ((rd_T56 l p).f3 == 0))) = (so p == 1))
    (m : Nat) (a : Int) (h0 : 0 ≤ a) (h1 : a < l.length) (h2 : (l.length : Int) - a ≤ (m + 1 : Nat)) (w : World) (hw : Below w00.heap.size w00 w)
    (ih : ∀ p : Int, 0 ≤ p → p < l.length → (l.length : Int) - p ≤ m → ∀ w : World, Below w00.heap.size w00 w → Calls Tryz.prog 93 #[.slice A l.length c, .int .i64 p] w fun e w' => e = .returned (.bool (condF l kids so m p)) ∧ Below w.heap.size w w')
    (hop : (rd_T56 l a).f0 = 18 ∨ (rd_T56 l a).f0 = 19 ∨ (rd_T56 l a).f0 = 20 ∨ (rd_T56 l a).f0 = 21) :
    Calls Tryz.prog 93 #[.slice A l.length c, .int .i64 a] w fun e w' => e = .returned (.bool (condF l kids so (m + 1) a)) ∧ Below w.heap.size w w' := by
  have hr := Kd.C_below hr00 hw
  obtain ⟨places, hpl⟩ : ∃ places, kids a = places := ⟨_, rfl⟩
  obtain ⟨hK2, hpm, hpr⟩ := hK a h0 h1
  rw [hpl] at hK2 hpm hpr
  have hB2 := hB a h0 h1
  obtain ⟨n, hn⟩ : ∃ n, rd_T56 l a = n := ⟨_, rfl⟩
  have hR : condF l kids so (m + 1) a = (so a == 1 && (if n.f0 = 11 ∨ n.f0 = 12 then ((places.length : Int) == 0)
    else if n.f0 = 13 then ((places.length : Int) == 1) && places.all (condF l kids so m)
    else if n.f0 = 14 ∨ n.f0 = 15 then decide ((places.length : Int) ≥ 2) && places.all (condF l kids so m)
    else if n.f0 = 16 ∨ n.f0 = 17 then ((places.length : Int) == 2) && (places.all (so · == 2) || places.all (so · == 3))
    else if n.f0 = 18 ∨ n.f0 = 19 ∨ n.f0 = 20 ∨ n.f0 = 21 then ((places.length : Int) == 2) && places.all (so · == 3)
    else if n.f0 = 22 then decide ((places.length : Int) ≥ 2) && decide ((places.length : Int) ≤ 65) && (so (rd places 0) == 2) && (places.drop 1).all (fun p => (rd_T56 l p).f0 == 24 && so p == 2)
    else false)) := by
    have g0 := len_eq places.length 0
    have g1 := len_eq places.length 1
    have g2 := len_eq places.length 2
    have g3 : decide ((places.length : Int) ≥ 2) = decide (2 ≤ places.length) := by rw [Bool.eq_iff_iff]; simp; omega
    have g4 : decide ((places.length : Int) ≤ 65) = decide (places.length ≤ 65) := by rw [Bool.eq_iff_iff]; simp; omega
    rw [condF, hn, hpl, g3, g4]
    rw [show ((places.length : Int) == 0) = (places.length == 0) from g0, show ((places.length : Int) == 1) = (places.length == 1) from g1, show ((places.length : Int) == 2) = (places.length == 2) from g2]
  obtain ⟨ad, hA, hx0, hx1, hx2, hx3, hx4, hx5⟩ := at_T56 hr a h0 h1
  subst hA
  rw [hn] at hx0 hx1 hx2 hx3 hx4 hx5 hB2 hop
  obtain ⟨b0, b1, b2, b3, b4, b5, hbe⟩ : ∃ (b0 b1 : Int) (b2 : ByteArray) (b3 b4 b5 : Int), b0 = n.f0 ∧ b1 = n.f1 ∧ b2 = n.f2 ∧ b3 = n.f3 ∧ b4 = 0 ∧ b5 = 0 := ⟨_, _, _, _, _, _, rfl, rfl, rfl, rfl, rfl, rfl⟩
  have HBa := Aside0.mk (fun (W : World) => show Calls Tryz.prog 116 #[.agg #[.int .u8 n.f0, .int .u8 n.f1, .string n.f2, .int .i64 n.f3, .int .i64 n.f4, .int .i64 n.f5]] W fun e w' => e = .returned (.agg #[.int .u8 b0, .int .u8 b1, .string b2, .int .i64 b3, .int .i64 b4, .int .i64 b5]) ∧ Below W.heap.size W w' from by
    obtain ⟨rfl, rfl, rfl, rfl, rfl, rfl⟩ := hbe
    exact weirtree_bare.calls n.f0 n.f1 n.f2 n.f3 n.f4 n.f5 _ _ _ _ _ _ W rfl)
  obtain ⟨cb, hcb⟩ : ∃ cb, (n.f1 == 0 && (n.f2.toList.isEmpty && (n.f3 == 0))) = cb := ⟨_, rfl⟩
  have e1 : (b0 == n.f0 && (b1 == 0 && (b2.toList.isEmpty && (b3 == 0 && (b4 == 0 && b5 == 0))))) = cb := by
    obtain ⟨rfl, rfl, rfl, rfl, rfl, rfl⟩ := hbe
    simpa using hcb
  have e2 : (b0 == n.f0 && (b1 == 0 && (b2.toList == ([] : List UInt8) && (b3 == 0 && (b4 == 0 && b5 == 0))))) = cb := by rw [← e1]; simp only [isE]
  rw [hcb] at hB2
  have HOp := Aside0.mk hop
  clear hop
  have HK := Aside0.mk (fun (W : World) (hb : Below w00.heap.size w00 W) => weirtree_Kids.calls K (some ad) c l a places W (Kd.C_below hr00 hb) hc hK2)
  have HIH := Aside0.mk ih
  have HW := Aside0.mk hw
  have HRes := Aside0.mk hR
  have HPr := Aside0.mk hpr
  have HS := Aside0.mk hS
  have HB2 := Aside0.mk hB2
  have HR0 := Aside0.mk hr00
  clear ih hw hR hpr hS hB2 hK hB hr hr00 hK2 hpl hn hbe hcb
  go_enter Tryz.func93, Tryz.ntmps93
  go_wp2_with (first | (go_at_call 66; refine (HK.out _ (by have h1 := HW.out; repeat (first | exact h1 | apply below_alloc | (refine Below.setCell ?_ h1.size _)))).mono ?_; rintro e w3 ⟨v0, rfl, ho, hb3⟩; obtain ⟨B1, d1, rfl, hle1, hr1⟩ := Kd.R_reads ho; have hbx := boxed _ _ _ _ _ _ _ _ w3 hb3; have HX := Aside0.mk hbx; have HBW := Aside0.mk (box_below _ _ w3 hb3); have HR1 := Aside0.mk hr1; clear hbx hb3 ho hr1))
  refine start_ (n := 6) (S := (fun W => Below w3.heap.size w3 W ∧ W.cell? ⟨w.heap.size, 0, none⟩ = some (.int .u8 n.f0) ∧ W.cell? ⟨w.heap.size, 1, none⟩ = some (.int .u8 n.f1) ∧ W.cell? ⟨w.heap.size, 2, none⟩ = some (.string n.f2) ∧ W.cell? ⟨w.heap.size, 3, none⟩ = some (.int .i64 n.f3) ∧ W.cell? ⟨w.heap.size, 4, none⟩ = some (.int .i64 n.f4) ∧ W.cell? ⟨w.heap.size, 5, none⟩ = some (.int .i64 n.f5))) (ds := []) #[false, false, false, false, false, false] (by kernel_rfl) rfl rfl (box7 (Below.refl _ _) HX.out) (fun hHeld => ?_)
  refine with_tabW c3.tab c3.bits (fun HT_ HW_ => ?_)
  refine pT 0 16 ?_
  refine pP 2 18 ?_
  refine pT 3 19 ?_
  refine pP 4 20 ?_
  refine pO 1 17 (fun K hK => ?_)
  refine goes_ Tryz.func116 (by kernel_rfl) rfl #[.agg #[.int .u8 n.f0, .int .u8 n.f1, .string n.f2, .int .i64 n.f3, .int .i64 n.f4, .int .i64 n.f5]] (by rfl) rfl rfl (by first | rfl | (simp only [q4, q5, q6]; rfl) | go_simp) ?_
  refine (HBa.out _).mono ?_
  rintro e w5 ⟨rfl, hb⟩
  refine ⟨_, rfl, ?_⟩
  refine hK.out _ _ (keep7 hHeld hb) (fun hHeld => ?_)
  clear hK K
  refine norm_ (a' := ?_) ?_ ?_
  rotate_left
  · show Act.put _ (some 17) _ = _
    simp only [Act.put, q1, q2, q3, i64_w, i32_w]
    rfl
  refine pP 5 21 ?_
  refine done_ (done_of HT_.out (by kernel_rfl)) ?_
  have hH := Aside0.mk hHeld
  obtain ⟨hb5, z0, z1, z2, z3, z4, z5⟩ := hHeld
  have HB5 := Aside0.mk (below_then HBW.out HBW.out.size hb5)
  have HI5 := Aside0.mk (Kd.C_below HR1.out hb5)
  have HW5 := Aside0.mk (below_then HW.out HW.out.size HB5.out)
  clear hb5 HX HR1 HBW HK HBa
  cases cb with
  | false =>
    go_wp2
    go_ret
    refine ⟨?_, HB5.out⟩
    rw [HRes.out]
    by_cases ho : 11 ≤ n.f0 ∧ n.f0 ≤ 22
    · rw [← HB2.out ho.1 ho.2]; rfl
    · rw [if_neg (by omega), if_neg (by omega), if_neg (by omega), if_neg (by omega), if_neg (by omega), if_neg (by omega), Bool.and_false]; rfl
  | true =>
    simp only [Bool.not_true]
    have o5 := HOp.out
    have o1 : ¬ (n.f0 = 11 ∨ n.f0 = 12) := by omega
    have o2 : ¬ (n.f0 = 13) := by omega
    have o3 : ¬ (n.f0 = 14 ∨ n.f0 = 15) := by omega
    have o4 : ¬ (n.f0 = 16 ∨ n.f0 = 17) := by omega
    have hres := HRes.out
    rw [← HB2.out (by omega) (by omega), if_neg o1, if_neg o2, if_neg o3, if_neg o4, if_pos o5, Bool.true_and] at hres
    have HRs := Aside0.mk hres
    clear hres
    clear o1 o2 o3 o4
    cases qe : ((places.length : Int) == 2)
    · rcases o5 with hf | hf | hf | hf
      all_goals
        rw [hf] at z0
        go_wp2
        go_ret
        exact ⟨by rw [HRs.out, qe]; rfl, HB5.out⟩
    · obtain ⟨p, q, hpq⟩ : ∃ p q, places = [p, q] := by
        have hl : places.length = 2 := by have := eq_of_beq qe; omega
        match places, hl with
        | [p, q], _ => exact ⟨p, q, rfl⟩
      subst hpq
      have hpp := HPr.out p (by simp)
      have hqq := HPr.out q (by simp)
      obtain ⟨sp2, sp3⟩ := HS.out p (by omega) hpp.2
      obtain ⟨sq2, sq3⟩ := HS.out q (by omega) hqq.2
      obtain ⟨ap, hA1, x0, x1, x2, x3, x4, x5⟩ := at_T56 (Kd.C_below HR0.out HW5.out) p (by omega) hpp.2
      obtain rfl := Option.some.inj hA1
      obtain ⟨aq, hA2, y0, y1, y2, y3, y4, y5⟩ := at_T56 (Kd.C_below HR0.out HW5.out) q (by omega) hqq.2
      obtain rfl := Option.some.inj hA2
      obtain ⟨ae, hB1, c1⟩ := Kd.at_int HI5.out 0 (by omega) (by simp)
      subst hB1
      obtain ⟨ae2, hB2, c2⟩ := Kd.at_int HI5.out 1 (by omega) (by simp)
      obtain rfl := Option.some.inj hB2
      have c1 : w5.cell? ae = some (.int .i64 p) := by rw [← CondT.add_zero ae]; exact c1
      have c2 : w5.cell? ⟨ae.block, ae.off + 1, none⟩ = some (.int .i64 q) := c2
      obtain ⟨u, hu⟩ : ∃ u, rd_T56 l p = u := ⟨_, rfl⟩
      obtain ⟨v, hv⟩ : ∃ v, rd_T56 l q = v := ⟨_, rfl⟩
      rw [hu] at x0 x1 x2 x3 x4 x5 sp2 sp3
      rw [hv] at y0 y1 y2 y3 y4 y5 sq2 sq3
      have HT := Aside0.mk (show Two w5 ae (ad.add (p.toNat * 6)) (ad.add (q.toNat * 6)) p q u v from ⟨c1, c2, x0, x1, x2, x3, x4, x5, y0, y1, y2, y3, y4, y5⟩)
      have HB := HB5
      obtain ⟨xp2, hxp2⟩ : ∃ x, (so p == 2) = x := ⟨_, rfl⟩
      obtain ⟨xp3, hxp3⟩ : ∃ x, (so p == 3) = x := ⟨_, rfl⟩
      obtain ⟨xq2, hxq2⟩ : ∃ x, (so q == 2) = x := ⟨_, rfl⟩
      obtain ⟨xq3, hxq3⟩ : ∃ x, (so q == 3) = x := ⟨_, rfl⟩
      rw [hxp2] at sp2
      rw [hxp3] at sp3
      rw [hxq2] at sq2
      rw [hxq3] at sq3
      have hfin := HRs.out
      rw [all_two, hxp3, hxq3] at hfin
      have HFn := Aside0.mk hfin
      have HWp := Aside0.mk (fun (W : World) => weirtree_worded.calls K u.f0 u.f1 u.f2 u.f3 u.f4 u.f5 xp2 W sp2)
      have HWq := Aside0.mk (fun (W : World) => weirtree_worded.calls K v.f0 v.f1 v.f2 v.f3 v.f4 v.f5 xq2 W sq2)
      have HTp := Aside0.mk (fun (W : World) => weirtree_timed.calls u.f0 u.f1 u.f2 u.f3 u.f4 u.f5 xp3 W sp3)
      have HTq := Aside0.mk (fun (W : World) => weirtree_timed.calls v.f0 v.f1 v.f2 v.f3 v.f4 v.f5 xq3 W sq3)
      have hp0 : 0 ≤ p := by omega
      have hp1 := hpp.2
      have hq0 : 0 ≤ q := by omega
      have hq1 := hqq.2
      clear hfin hxp2 hxp3 hxq2 hxq3 sp2 sp3 sq2 sq3 hu hv hpp hqq hA1 hA2 hB2 HRs
      clear qe HI5 HPr HS HR0 HIH
      rcases o5 with hf | hf | hf | hf
      all_goals
        rw [hf] at z0
        clear hf
        cases xp3
        all_goals
          go_wp2_with (first | (go_at_call 119; (first | (with_reducible refine (HWp.out _).mono ?_) | (with_reducible refine (HWq.out _).mono ?_)); rintro e w6 ⟨rfl, hb⟩; have HT := Aside0.mk (Two.more HT.out hb); have HB := Aside0.mk (below_then HB.out HB.out.size hb); obtain ⟨t1, t2, t3, t4, t5, t6, t7, t8, t9, t10, t11, t12, t13, t14⟩ := HT.out; clear hb) | (go_at_call 120; (first | (with_reducible refine (HTp.out _).mono ?_) | (with_reducible refine (HTq.out _).mono ?_)); rintro e w6 ⟨rfl, hb⟩; have HT := Aside0.mk (Two.more HT.out hb); have HB := Aside0.mk (below_then HB.out HB.out.size hb); obtain ⟨t1, t2, t3, t4, t5, t6, t7, t8, t9, t10, t11, t12, t13, t14⟩ := HT.out; clear hb))
          go_ret
          exact ⟨by rw [HFn.out]; first | rfl | (cases xq3 <;> rfl), HB.out⟩

set_option maxRecDepth 100000 in
set_option maxHeartbeats 16000000 in
theorem cond_p6 (A : Option Addr) (c : Nat) (l : List ND) (hc : l.length ≤ c) (w00 : World) (hr00 : Kd.C k56 w00 A l.length l) (K : Nat) (kids : Int → List Int) (so : Int → Int)
    (hK : ∀ a : Int, 0 ≤ a → a < l.length → weirtree_Kids.f K l a = some (kids a) ∧ (kids a).length ≤ 1048576 ∧ ∀ p ∈ kids a, a < p ∧ p < l.length)
    (hS : ∀ p : Int, 0 ≤ p → p < l.length → weirtree_worded.f K (rd_T56 l p).f0 (rd_T56 l p).f1 (rd_T56 l p).f2 (rd_T56 l p).f3 (rd_T56 l p).f4 (rd_T56 l p).f5 = some (so p == 2) ∧ weirtree_timed.f (rd_T56 l p).f0 (rd_T56 l p).f1 (rd_T56 l p).f2 (rd_T56 l p).f3 (rd_T56 l p).f4 (rd_T56 l p).f5 = some (so p == 3))
    (hB : ∀ p : Int, 0 ≤ p → p < l.length → 11 ≤ (rd_T56 l p).f0 → (rd_T56 l p).f0 ≤ 22 → ((rd_T56 l p).f1 == 0 && ((rd_T56 l p).f2.toList.isEmpty && ((rd_T56 l p).f3 == 0))) = (so p == 1))
    (m : Nat) (a : Int) (h0 : 0 ≤ a) (h1 : a < l.length) (h2 : (l.length : Int) - a ≤ (m + 1 : Nat)) (w : World) (hw : Below w00.heap.size w00 w)
    (ih : ∀ p : Int, 0 ≤ p → p < l.length → (l.length : Int) - p ≤ m → ∀ w : World, Below w00.heap.size w00 w → Calls Tryz.prog 93 #[.slice A l.length c, .int .i64 p] w fun e w' => e = .returned (.bool (condF l kids so m p)) ∧ Below w.heap.size w w')
    (hop : (rd_T56 l a).f0 = 22) :
    Calls Tryz.prog 93 #[.slice A l.length c, .int .i64 a] w fun e w' => e = .returned (.bool (condF l kids so (m + 1) a)) ∧ Below w.heap.size w w' := by
  have hr := Kd.C_below hr00 hw
  obtain ⟨places, hpl⟩ : ∃ places, kids a = places := ⟨_, rfl⟩
  obtain ⟨hK2, hpm, hpr⟩ := hK a h0 h1
  rw [hpl] at hK2 hpm hpr
  have hB2 := hB a h0 h1
  obtain ⟨n, hn⟩ : ∃ n, rd_T56 l a = n := ⟨_, rfl⟩
  have hR : condF l kids so (m + 1) a = (so a == 1 && (if n.f0 = 11 ∨ n.f0 = 12 then ((places.length : Int) == 0)
    else if n.f0 = 13 then ((places.length : Int) == 1) && places.all (condF l kids so m)
    else if n.f0 = 14 ∨ n.f0 = 15 then decide ((places.length : Int) ≥ 2) && places.all (condF l kids so m)
    else if n.f0 = 16 ∨ n.f0 = 17 then ((places.length : Int) == 2) && (places.all (so · == 2) || places.all (so · == 3))
    else if n.f0 = 18 ∨ n.f0 = 19 ∨ n.f0 = 20 ∨ n.f0 = 21 then ((places.length : Int) == 2) && places.all (so · == 3)
    else if n.f0 = 22 then decide ((places.length : Int) ≥ 2) && decide ((places.length : Int) ≤ 65) && (so (rd places 0) == 2) && (places.drop 1).all (fun p => (rd_T56 l p).f0 == 24 && so p == 2)
    else false)) := by
    have g0 := len_eq places.length 0
    have g1 := len_eq places.length 1
    have g2 := len_eq places.length 2
    have g3 : decide ((places.length : Int) ≥ 2) = decide (2 ≤ places.length) := by rw [Bool.eq_iff_iff]; simp; omega
    have g4 : decide ((places.length : Int) ≤ 65) = decide (places.length ≤ 65) := by rw [Bool.eq_iff_iff]; simp; omega
    rw [condF, hn, hpl, g3, g4]
    rw [show ((places.length : Int) == 0) = (places.length == 0) from g0, show ((places.length : Int) == 1) = (places.length == 1) from g1, show ((places.length : Int) == 2) = (places.length == 2) from g2]
  obtain ⟨ad, hA, hx0, hx1, hx2, hx3, hx4, hx5⟩ := at_T56 hr a h0 h1
  subst hA
  rw [hn] at hx0 hx1 hx2 hx3 hx4 hx5 hB2 hop
  obtain ⟨b0, b1, b2, b3, b4, b5, hbe⟩ : ∃ (b0 b1 : Int) (b2 : ByteArray) (b3 b4 b5 : Int), b0 = n.f0 ∧ b1 = n.f1 ∧ b2 = n.f2 ∧ b3 = n.f3 ∧ b4 = 0 ∧ b5 = 0 := ⟨_, _, _, _, _, _, rfl, rfl, rfl, rfl, rfl, rfl⟩
  have HBa := Aside0.mk (fun (W : World) => show Calls Tryz.prog 116 #[.agg #[.int .u8 n.f0, .int .u8 n.f1, .string n.f2, .int .i64 n.f3, .int .i64 n.f4, .int .i64 n.f5]] W fun e w' => e = .returned (.agg #[.int .u8 b0, .int .u8 b1, .string b2, .int .i64 b3, .int .i64 b4, .int .i64 b5]) ∧ Below W.heap.size W w' from by
    obtain ⟨rfl, rfl, rfl, rfl, rfl, rfl⟩ := hbe
    exact weirtree_bare.calls n.f0 n.f1 n.f2 n.f3 n.f4 n.f5 _ _ _ _ _ _ W rfl)
  obtain ⟨cb, hcb⟩ : ∃ cb, (n.f1 == 0 && (n.f2.toList.isEmpty && (n.f3 == 0))) = cb := ⟨_, rfl⟩
  have e1 : (b0 == n.f0 && (b1 == 0 && (b2.toList.isEmpty && (b3 == 0 && (b4 == 0 && b5 == 0))))) = cb := by
    obtain ⟨rfl, rfl, rfl, rfl, rfl, rfl⟩ := hbe
    simpa using hcb
  have e2 : (b0 == n.f0 && (b1 == 0 && (b2.toList == ([] : List UInt8) && (b3 == 0 && (b4 == 0 && b5 == 0))))) = cb := by rw [← e1]; simp only [isE]
  rw [hcb] at hB2
  have HOp := Aside0.mk hop
  clear hop
  have HK := Aside0.mk (fun (W : World) (hb : Below w00.heap.size w00 W) => weirtree_Kids.calls K (some ad) c l a places W (Kd.C_below hr00 hb) hc hK2)
  have HIH := Aside0.mk ih
  have HW := Aside0.mk hw
  have HRes := Aside0.mk hR
  have HPr := Aside0.mk hpr
  have HS := Aside0.mk hS
  have HB2 := Aside0.mk hB2
  have HR0 := Aside0.mk hr00
  clear ih hw hR hpr hS hB2 hK hB hr hr00 hK2 hpl hn hbe hcb
  go_enter Tryz.func93, Tryz.ntmps93
  go_wp2_with (first | (go_at_call 66; refine (HK.out _ (by have h1 := HW.out; repeat (first | exact h1 | apply below_alloc | (refine Below.setCell ?_ h1.size _)))).mono ?_; rintro e w3 ⟨v0, rfl, ho, hb3⟩; obtain ⟨B1, d1, rfl, hle1, hr1⟩ := Kd.R_reads ho; have hbx := boxed _ _ _ _ _ _ _ _ w3 hb3; have HX := Aside0.mk hbx; have HBW := Aside0.mk (box_below _ _ w3 hb3); have HR1 := Aside0.mk hr1; clear hbx hb3 ho hr1))
  refine start_ (n := 6) (S := (fun W => Below w3.heap.size w3 W ∧ W.cell? ⟨w.heap.size, 0, none⟩ = some (.int .u8 n.f0) ∧ W.cell? ⟨w.heap.size, 1, none⟩ = some (.int .u8 n.f1) ∧ W.cell? ⟨w.heap.size, 2, none⟩ = some (.string n.f2) ∧ W.cell? ⟨w.heap.size, 3, none⟩ = some (.int .i64 n.f3) ∧ W.cell? ⟨w.heap.size, 4, none⟩ = some (.int .i64 n.f4) ∧ W.cell? ⟨w.heap.size, 5, none⟩ = some (.int .i64 n.f5))) (ds := []) #[false, false, false, false, false, false] (by kernel_rfl) rfl rfl (box7 (Below.refl _ _) HX.out) (fun hHeld => ?_)
  refine with_tabW c3.tab c3.bits (fun HT_ HW_ => ?_)
  refine pT 0 16 ?_
  refine pP 2 18 ?_
  refine pT 3 19 ?_
  refine pP 4 20 ?_
  refine pO 1 17 (fun K hK => ?_)
  refine goes_ Tryz.func116 (by kernel_rfl) rfl #[.agg #[.int .u8 n.f0, .int .u8 n.f1, .string n.f2, .int .i64 n.f3, .int .i64 n.f4, .int .i64 n.f5]] (by rfl) rfl rfl (by first | rfl | (simp only [q4, q5, q6]; rfl) | go_simp) ?_
  refine (HBa.out _).mono ?_
  rintro e w5 ⟨rfl, hb⟩
  refine ⟨_, rfl, ?_⟩
  refine hK.out _ _ (keep7 hHeld hb) (fun hHeld => ?_)
  clear hK K
  refine norm_ (a' := ?_) ?_ ?_
  rotate_left
  · show Act.put _ (some 17) _ = _
    simp only [Act.put, q1, q2, q3, i64_w, i32_w]
    rfl
  refine pP 5 21 ?_
  refine done_ (done_of HT_.out (by kernel_rfl)) ?_
  have hH := Aside0.mk hHeld
  obtain ⟨hb5, z0, z1, z2, z3, z4, z5⟩ := hHeld
  have HB5 := Aside0.mk (below_then HBW.out HBW.out.size hb5)
  have HI5 := Aside0.mk (Kd.C_below HR1.out hb5)
  have HW5 := Aside0.mk (below_then HW.out HW.out.size HB5.out)
  clear hb5 HX HR1 HBW HK HBa
  cases cb with
  | false =>
    go_wp2
    go_ret
    refine ⟨?_, HB5.out⟩
    rw [HRes.out]
    by_cases ho : 11 ≤ n.f0 ∧ n.f0 ≤ 22
    · rw [← HB2.out ho.1 ho.2]; rfl
    · rw [if_neg (by omega), if_neg (by omega), if_neg (by omega), if_neg (by omega), if_neg (by omega), if_neg (by omega), Bool.and_false]; rfl
  | true =>
    simp only [Bool.not_true]
    have o6 := HOp.out
    have o1 : ¬ (n.f0 = 11 ∨ n.f0 = 12) := by omega
    have o2 : ¬ (n.f0 = 13) := by omega
    have o3 : ¬ (n.f0 = 14 ∨ n.f0 = 15) := by omega
    have o4 : ¬ (n.f0 = 16 ∨ n.f0 = 17) := by omega
    have o5 : ¬ (n.f0 = 18 ∨ n.f0 = 19 ∨ n.f0 = 20 ∨ n.f0 = 21) := by omega
    have hres := HRes.out
    rw [← HB2.out (by omega) (by omega), if_neg o1, if_neg o2, if_neg o3, if_neg o4, if_neg o5, if_pos o6, Bool.true_and] at hres
    have HRs := Aside0.mk hres
    clear hres
    clear o1 o2 o3 o4 o5
    rw [o6] at z0
    clear o6
    cases q1 : decide ((places.length : Int) ≥ 2)
    · have qn : decide ((places.length : Int) < 2) = true := by have := of_decide_eq_false q1; exact decide_eq_true (by omega)
      go_wp2
      go_ret
      exact ⟨by rw [HRs.out, q1]; rfl, HB5.out⟩
    have qn : decide ((places.length : Int) < 2) = false := by have := of_decide_eq_true q1; exact decide_eq_false (by omega)
    have hl2 : 2 ≤ places.length := by have := of_decide_eq_true q1; omega
    cases q2 : decide ((places.length : Int) ≤ 65)
    · have qg : decide ((places.length : Int) > 65) = true := by have := of_decide_eq_false q2; exact decide_eq_true (by omega)
      go_wp2
      go_ret
      exact ⟨by rw [HRs.out, q1, q2]; rfl, HB5.out⟩
    have qg : decide ((places.length : Int) > 65) = false := by have := of_decide_eq_true q2; exact decide_eq_false (by omega)
    rw [q1, q2] at HRs
    obtain ⟨p0, hp0⟩ : ∃ p0, places[0] = p0 := ⟨_, rfl⟩
    have hr0 : rd places 0 = p0 := by rw [← hp0]; exact rd_get places 0 (by omega)
    rw [hr0] at HRs
    have hpp := HPr.out p0 (by rw [← hp0]; exact List.getElem_mem (by omega))
    obtain ⟨sp2, _⟩ := HS.out p0 (by omega) hpp.2
    obtain ⟨ap, hA1, x0, x1, x2, x3, x4, x5⟩ := at_T56 (Kd.C_below HR0.out HW5.out) p0 (by omega) hpp.2
    obtain rfl := Option.some.inj hA1
    obtain ⟨ae, hB1, c1⟩ := Kd.at_int HI5.out 0 (by omega) (by omega)
    subst hB1
    rw [hr0] at c1
    have c1 : w5.cell? ae = some (.int .i64 p0) := by rw [← CondT.add_zero ae]; exact c1
    obtain ⟨u, hu⟩ : ∃ u, rd_T56 l p0 = u := ⟨_, rfl⟩
    rw [hu] at x0 x1 x2 x3 x4 x5 sp2
    obtain ⟨xp2, hxp2⟩ : ∃ x, (so p0 == 2) = x := ⟨_, rfl⟩
    rw [hxp2] at sp2 HRs
    have HWp := Aside0.mk (fun (W : World) => weirtree_worded.calls K u.f0 u.f1 u.f2 u.f3 u.f4 u.f5 xp2 W sp2)
    have hp00 : 0 ≤ p0 := by omega
    have hp01 := hpp.2
    have hm0 : (0 : Int) < (places.length : Int) := by omega
    clear q1 q2 hxp2 sp2 hu hpp hA1 hp0 hr0
    cases xp2
    · go_wp2_with (go_at_call 119; with_reducible refine (HWp.out _).mono ?_; rintro e w6 ⟨rfl, hb⟩; have HB := Aside0.mk hb; clear hb)
      go_ret
      exact ⟨by rw [HRs.out]; rfl, below_then HB5.out HB5.out.size HB.out⟩
    go_wp2_with (go_at_call 119; with_reducible refine (HWp.out _).mono ?_; rintro e w6 ⟨rfl, hb⟩; have HB6 := Aside0.mk hb; clear hb)
    obtain ⟨P, hP⟩ : ∃ P : Int → Bool, P = fun p => (rd_T56 l p).f0 == 24 && so p == 2 := ⟨_, rfl⟩
    rw [← hP] at HRs
    obtain ⟨L, hL⟩ : ∃ L, places.drop 1 = L := ⟨_, rfl⟩
    rw [hL] at HRs
    have hLl : L.length = places.length - 1 := by rw [← hL, List.length_drop]
    have HLg := Aside0.mk (fun (j : Nat) (h : j < L.length) => show ∃ h2 : 1 + j < places.length, L[j] = places[1 + j] from ⟨by omega, by subst hL; rw [List.getElem_drop]⟩)
    have HPd := Aside0.mk hP
    have HLl := Aside0.mk hLl
    clear hL hP c1 x0 x1 x2 x3 x4 x5 z1 z2 z3 z4 z5 HWp
    go_loopw [4, 8] (fun _ i W => ∃ (j : Nat) (iv : Int), j ≤ L.length ∧ Aside0 (iv = j + 1) ∧ i = .int .i64 iv ∧ Aside0 ((L.take j).all P = true) ∧ Aside0 (Below w6.heap.size w6 W)) (fun _ i _ => L.length + 1 - (intOf i).toNat)
    case atStart => exact ⟨0, 1, Nat.zero_le _, ⟨rfl⟩, rfl, ⟨rfl⟩, ⟨Below.refl _ _⟩⟩
    case round =>
      obtain ⟨j, iv, hj, HIv, rfl, HA, HB⟩ := hrel
      by_cases hlt : j < L.length
      · obtain ⟨hg1, hg2⟩ := HLg.out j hlt
        obtain ⟨p, hp⟩ : ∃ p, L[j] = p := ⟨_, rfl⟩
        have HWr := Aside0.mk (below_then HB6.out HB6.out.size HB.out)
        have hiv0 : (0 : Int) ≤ iv := by have := HIv.out; omega
        have hiv1 : iv < (places.length : Int) := by have := HIv.out; omega
        obtain ⟨ae3, hB3, hxe⟩ := Kd.at_int (Kd.C_below HI5.out HWr.out) iv hiv0 hiv1
        obtain rfl := Option.some.inj hB3
        have hrp : rd places iv = p := by
          rw [HIv.out, show ((j : Int) + 1) = ((1 + j : Nat) : Int) by omega, rd_get places (1 + j) hg1, ← hg2, hp]
        rw [hrp] at hxe
        have hpp := HPr.out p (by rw [← hp, hg2]; exact List.getElem_mem hg1)
        obtain ⟨sp2, _⟩ := HS.out p (by omega) hpp.2
        obtain ⟨ap, hA1, x0, x1, x2, x3, x4, x5⟩ := at_T56 (Kd.C_below HR0.out (below_then HW5.out HW5.out.size HWr.out)) p (by omega) hpp.2
        obtain rfl := Option.some.inj hA1
        have hPp : P p = ((rd_T56 l p).f0 == 24 && so p == 2) := by rw [HPd.out]
        obtain ⟨u, hu⟩ : ∃ u, rd_T56 l p = u := ⟨_, rfl⟩
        rw [hu] at x0 x1 x2 x3 x4 x5 sp2 hPp
        obtain ⟨xp2, hxp2⟩ : ∃ x, (so p == 2) = x := ⟨_, rfl⟩
        rw [hxp2] at sp2 hPp
        have HT := Aside0.mk (take_all L P j hlt HA.out)
        have HF := Aside0.mk (fun h => all_false L P j hlt h)
        rw [hp] at HT HF
        have HWp := Aside0.mk (fun (W : World) => weirtree_worded.calls K u.f0 u.f1 u.f2 u.f3 u.f4 u.f5 xp2 W sp2)
        have hp0 : 0 ≤ p := by omega
        have hp1 := hpp.2
        have HPp := Aside0.mk hPp
        clear hp hpp HA hrp sp2 hxp2 hu hA1 hB3 hg1 hg2 hPp
        cases q24 : (u.f0 == 24) with
        | false =>
          have qn24 : (u.f0 != 24) = true := by rw [bne, q24]; rfl
          have HF2 := Aside0.mk (HF.out (by rw [HPp.out, q24]; rfl))
          go_wp2
          go_ret
          exact ⟨by rw [HRs.out, HF2.out, Bool.and_false]; rfl, below_then HB5.out HB5.out.size HWr.out⟩
        | true =>
          have qn24 : (u.f0 != 24) = false := by rw [bne, q24]; rfl
          cases xp2 with
          | false =>
            have HF2 := Aside0.mk (HF.out (by rw [HPp.out, q24]; rfl))
            go_wp2_with (go_at_call 119; with_reducible refine (HWp.out _).mono ?_; rintro e w7 ⟨rfl, hb⟩)
            go_ret
            exact ⟨by rw [HRs.out, HF2.out, Bool.and_false]; rfl, below_then HB5.out HB5.out.size (below_then HWr.out HWr.out.size hb)⟩
          | true =>
            have HT2 := Aside0.mk (HT.out.trans (by rw [HPp.out, q24, Bool.true_and]))
            go_wp2_with (go_at_call 119; with_reducible refine (HWp.out _).mono ?_; rintro e w7 ⟨rfl, hb⟩)
            go_roundw
            case rel => exact ⟨j + 1, iv + 1, by omega, ⟨by have := HIv.out; omega⟩, by go_num, HT2, ⟨below_then HB.out HB.out.size hb⟩⟩
            case measure =>
              have h1 := HIv.out
              simp [intOf]
              omega
      · obtain rfl : j = L.length := by omega
        have hall := HA.out
        rw [List.take_length] at hall
        have HAl := Aside0.mk hall
        have hivL : iv = (places.length : Int) := by have h1 := HIv.out; have h2 := HLl.out; omega
        subst hivL
        clear hall HA
        go_wp2
        go_ret
        exact ⟨by rw [HRs.out, HAl.out]; rfl, below_then HB5.out HB5.out.size (below_then HB6.out HB6.out.size HB.out)⟩

set_option maxRecDepth 100000 in
set_option maxHeartbeats 16000000 in
theorem cond_p0 (A : Option Addr) (c : Nat) (l : List ND) (hc : l.length ≤ c) (w00 : World) (hr00 : Kd.C k56 w00 A l.length l) (K : Nat) (kids : Int → List Int) (so : Int → Int)
    (hK : ∀ a : Int, 0 ≤ a → a < l.length → weirtree_Kids.f K l a = some (kids a) ∧ (kids a).length ≤ 1048576 ∧ ∀ p ∈ kids a, a < p ∧ p < l.length)
    (hS : ∀ p : Int, 0 ≤ p → p < l.length → weirtree_worded.f K (rd_T56 l p).f0 (rd_T56 l p).f1 (rd_T56 l p).f2 (rd_T56 l p).f3 (rd_T56 l p).f4 (rd_T56 l p).f5 = some (so p == 2) ∧ weirtree_timed.f (rd_T56 l p).f0 (rd_T56 l p).f1 (rd_T56 l p).f2 (rd_T56 l p).f3 (rd_T56 l p).f4 (rd_T56 l p).f5 = some (so p == 3))
    (hB : ∀ p : Int, 0 ≤ p → p < l.length → 11 ≤ (rd_T56 l p).f0 → (rd_T56 l p).f0 ≤ 22 → ((rd_T56 l p).f1 == 0 && ((rd_T56 l p).f2.toList.isEmpty && ((rd_T56 l p).f3 == 0))) = (so p == 1))
    (m : Nat) (a : Int) (h0 : 0 ≤ a) (h1 : a < l.length) (h2 : (l.length : Int) - a ≤ (m + 1 : Nat)) (w : World) (hw : Below w00.heap.size w00 w)
    (ih : ∀ p : Int, 0 ≤ p → p < l.length → (l.length : Int) - p ≤ m → ∀ w : World, Below w00.heap.size w00 w → Calls Tryz.prog 93 #[.slice A l.length c, .int .i64 p] w fun e w' => e = .returned (.bool (condF l kids so m p)) ∧ Below w.heap.size w w')
    (hop : (rd_T56 l a).f0 < 11 ∨ 22 < (rd_T56 l a).f0) :
    Calls Tryz.prog 93 #[.slice A l.length c, .int .i64 a] w fun e w' => e = .returned (.bool (condF l kids so (m + 1) a)) ∧ Below w.heap.size w w' := by
  have hr := Kd.C_below hr00 hw
  obtain ⟨places, hpl⟩ : ∃ places, kids a = places := ⟨_, rfl⟩
  obtain ⟨hK2, hpm, hpr⟩ := hK a h0 h1
  rw [hpl] at hK2 hpm hpr
  have hB2 := hB a h0 h1
  obtain ⟨n, hn⟩ : ∃ n, rd_T56 l a = n := ⟨_, rfl⟩
  have hR : condF l kids so (m + 1) a = (so a == 1 && (if n.f0 = 11 ∨ n.f0 = 12 then ((places.length : Int) == 0)
    else if n.f0 = 13 then ((places.length : Int) == 1) && places.all (condF l kids so m)
    else if n.f0 = 14 ∨ n.f0 = 15 then decide ((places.length : Int) ≥ 2) && places.all (condF l kids so m)
    else if n.f0 = 16 ∨ n.f0 = 17 then ((places.length : Int) == 2) && (places.all (so · == 2) || places.all (so · == 3))
    else if n.f0 = 18 ∨ n.f0 = 19 ∨ n.f0 = 20 ∨ n.f0 = 21 then ((places.length : Int) == 2) && places.all (so · == 3)
    else if n.f0 = 22 then decide ((places.length : Int) ≥ 2) && decide ((places.length : Int) ≤ 65) && (so (rd places 0) == 2) && (places.drop 1).all (fun p => (rd_T56 l p).f0 == 24 && so p == 2)
    else false)) := by
    have g0 := len_eq places.length 0
    have g1 := len_eq places.length 1
    have g2 := len_eq places.length 2
    have g3 : decide ((places.length : Int) ≥ 2) = decide (2 ≤ places.length) := by rw [Bool.eq_iff_iff]; simp; omega
    have g4 : decide ((places.length : Int) ≤ 65) = decide (places.length ≤ 65) := by rw [Bool.eq_iff_iff]; simp; omega
    rw [condF, hn, hpl, g3, g4]
    rw [show ((places.length : Int) == 0) = (places.length == 0) from g0, show ((places.length : Int) == 1) = (places.length == 1) from g1, show ((places.length : Int) == 2) = (places.length == 2) from g2]
  obtain ⟨ad, hA, hx0, hx1, hx2, hx3, hx4, hx5⟩ := at_T56 hr a h0 h1
  subst hA
  rw [hn] at hx0 hx1 hx2 hx3 hx4 hx5 hB2 hop
  obtain ⟨b0, b1, b2, b3, b4, b5, hbe⟩ : ∃ (b0 b1 : Int) (b2 : ByteArray) (b3 b4 b5 : Int), b0 = n.f0 ∧ b1 = n.f1 ∧ b2 = n.f2 ∧ b3 = n.f3 ∧ b4 = 0 ∧ b5 = 0 := ⟨_, _, _, _, _, _, rfl, rfl, rfl, rfl, rfl, rfl⟩
  have HBa := Aside0.mk (fun (W : World) => show Calls Tryz.prog 116 #[.agg #[.int .u8 n.f0, .int .u8 n.f1, .string n.f2, .int .i64 n.f3, .int .i64 n.f4, .int .i64 n.f5]] W fun e w' => e = .returned (.agg #[.int .u8 b0, .int .u8 b1, .string b2, .int .i64 b3, .int .i64 b4, .int .i64 b5]) ∧ Below W.heap.size W w' from by
    obtain ⟨rfl, rfl, rfl, rfl, rfl, rfl⟩ := hbe
    exact weirtree_bare.calls n.f0 n.f1 n.f2 n.f3 n.f4 n.f5 _ _ _ _ _ _ W rfl)
  obtain ⟨cb, hcb⟩ : ∃ cb, (n.f1 == 0 && (n.f2.toList.isEmpty && (n.f3 == 0))) = cb := ⟨_, rfl⟩
  have e1 : (b0 == n.f0 && (b1 == 0 && (b2.toList.isEmpty && (b3 == 0 && (b4 == 0 && b5 == 0))))) = cb := by
    obtain ⟨rfl, rfl, rfl, rfl, rfl, rfl⟩ := hbe
    simpa using hcb
  have e2 : (b0 == n.f0 && (b1 == 0 && (b2.toList == ([] : List UInt8) && (b3 == 0 && (b4 == 0 && b5 == 0))))) = cb := by rw [← e1]; simp only [isE]
  rw [hcb] at hB2
  have HOp := Aside0.mk hop
  clear hop
  have HK := Aside0.mk (fun (W : World) (hb : Below w00.heap.size w00 W) => weirtree_Kids.calls K (some ad) c l a places W (Kd.C_below hr00 hb) hc hK2)
  have HIH := Aside0.mk ih
  have HW := Aside0.mk hw
  have HRes := Aside0.mk hR
  have HPr := Aside0.mk hpr
  have HS := Aside0.mk hS
  have HB2 := Aside0.mk hB2
  have HR0 := Aside0.mk hr00
  clear ih hw hR hpr hS hB2 hK hB hr hr00 hK2 hpl hn hbe hcb
  go_enter Tryz.func93, Tryz.ntmps93
  go_wp2_with (first | (go_at_call 66; refine (HK.out _ (by have h1 := HW.out; repeat (first | exact h1 | apply below_alloc | (refine Below.setCell ?_ h1.size _)))).mono ?_; rintro e w3 ⟨v0, rfl, ho, hb3⟩; obtain ⟨B1, d1, rfl, hle1, hr1⟩ := Kd.R_reads ho; have hbx := boxed _ _ _ _ _ _ _ _ w3 hb3; have HX := Aside0.mk hbx; have HBW := Aside0.mk (box_below _ _ w3 hb3); have HR1 := Aside0.mk hr1; clear hbx hb3 ho hr1))
  refine start_ (n := 6) (S := (fun W => Below w3.heap.size w3 W ∧ W.cell? ⟨w.heap.size, 0, none⟩ = some (.int .u8 n.f0) ∧ W.cell? ⟨w.heap.size, 1, none⟩ = some (.int .u8 n.f1) ∧ W.cell? ⟨w.heap.size, 2, none⟩ = some (.string n.f2) ∧ W.cell? ⟨w.heap.size, 3, none⟩ = some (.int .i64 n.f3) ∧ W.cell? ⟨w.heap.size, 4, none⟩ = some (.int .i64 n.f4) ∧ W.cell? ⟨w.heap.size, 5, none⟩ = some (.int .i64 n.f5))) (ds := []) #[false, false, false, false, false, false] (by kernel_rfl) rfl rfl (box7 (Below.refl _ _) HX.out) (fun hHeld => ?_)
  refine with_tabW c3.tab c3.bits (fun HT_ HW_ => ?_)
  refine pT 0 16 ?_
  refine pP 2 18 ?_
  refine pT 3 19 ?_
  refine pP 4 20 ?_
  refine pO 1 17 (fun K hK => ?_)
  refine goes_ Tryz.func116 (by kernel_rfl) rfl #[.agg #[.int .u8 n.f0, .int .u8 n.f1, .string n.f2, .int .i64 n.f3, .int .i64 n.f4, .int .i64 n.f5]] (by rfl) rfl rfl (by first | rfl | (simp only [q4, q5, q6]; rfl) | go_simp) ?_
  refine (HBa.out _).mono ?_
  rintro e w5 ⟨rfl, hb⟩
  refine ⟨_, rfl, ?_⟩
  refine hK.out _ _ (keep7 hHeld hb) (fun hHeld => ?_)
  clear hK K
  refine norm_ (a' := ?_) ?_ ?_
  rotate_left
  · show Act.put _ (some 17) _ = _
    simp only [Act.put, q1, q2, q3, i64_w, i32_w]
    rfl
  refine pP 5 21 ?_
  refine done_ (done_of HT_.out (by kernel_rfl)) ?_
  have hH := Aside0.mk hHeld
  obtain ⟨hb5, z0, z1, z2, z3, z4, z5⟩ := hHeld
  have HB5 := Aside0.mk (below_then HBW.out HBW.out.size hb5)
  have HI5 := Aside0.mk (Kd.C_below HR1.out hb5)
  have HW5 := Aside0.mk (below_then HW.out HW.out.size HB5.out)
  clear hb5 HX HR1 HBW HK HBa
  cases cb with
  | false =>
    go_wp2
    go_ret
    refine ⟨?_, HB5.out⟩
    rw [HRes.out]
    by_cases ho : 11 ≤ n.f0 ∧ n.f0 ≤ 22
    · rw [← HB2.out ho.1 ho.2]; rfl
    · rw [if_neg (by omega), if_neg (by omega), if_neg (by omega), if_neg (by omega), if_neg (by omega), if_neg (by omega), Bool.and_false]; rfl
  | true =>
    simp only [Bool.not_true]
    have o0 := HOp.out
    have hres := HRes.out
    rw [if_neg (by omega), if_neg (by omega), if_neg (by omega), if_neg (by omega), if_neg (by omega), if_neg (by omega), Bool.and_false] at hres
    have HRs := Aside0.mk hres
    clear hres
    have e11 : (n.f0 == 11) = false := by simp; omega
    have e12 : (n.f0 == 12) = false := by simp; omega
    have e13 : (n.f0 == 13) = false := by simp; omega
    have e14 : (n.f0 == 14) = false := by simp; omega
    have e15 : (n.f0 == 15) = false := by simp; omega
    have e16 : (n.f0 == 16) = false := by simp; omega
    have e17 : (n.f0 == 17) = false := by simp; omega
    have e18 : (n.f0 == 18) = false := by simp; omega
    have e19 : (n.f0 == 19) = false := by simp; omega
    have e20 : (n.f0 == 20) = false := by simp; omega
    have e21 : (n.f0 == 21) = false := by simp; omega
    have e22 : (n.f0 == 22) = false := by simp; omega
    clear o0
    go_wp2
    go_ret
    exact ⟨by rw [HRs.out]; rfl, HB5.out⟩

theorem cond_any (A : Option Addr) (c : Nat) (l : List ND) (hc : l.length ≤ c) (w00 : World) (hr00 : Kd.C k56 w00 A l.length l) (K : Nat) (kids : Int → List Int) (so : Int → Int)
    (hK : ∀ a : Int, 0 ≤ a → a < l.length → weirtree_Kids.f K l a = some (kids a) ∧ (kids a).length ≤ 1048576 ∧ ∀ p ∈ kids a, a < p ∧ p < l.length)
    (hS : ∀ p : Int, 0 ≤ p → p < l.length → weirtree_worded.f K (rd_T56 l p).f0 (rd_T56 l p).f1 (rd_T56 l p).f2 (rd_T56 l p).f3 (rd_T56 l p).f4 (rd_T56 l p).f5 = some (so p == 2) ∧ weirtree_timed.f (rd_T56 l p).f0 (rd_T56 l p).f1 (rd_T56 l p).f2 (rd_T56 l p).f3 (rd_T56 l p).f4 (rd_T56 l p).f5 = some (so p == 3))
    (hB : ∀ p : Int, 0 ≤ p → p < l.length → 11 ≤ (rd_T56 l p).f0 → (rd_T56 l p).f0 ≤ 22 → ((rd_T56 l p).f1 == 0 && ((rd_T56 l p).f2.toList.isEmpty && ((rd_T56 l p).f3 == 0))) = (so p == 1)) :
    ∀ (m : Nat) (a : Int), 0 ≤ a → a < l.length → (l.length : Int) - a ≤ m → ∀ w : World, Below w00.heap.size w00 w →
    Calls Tryz.prog 93 #[.slice A l.length c, .int .i64 a] w fun e w' => e = .returned (.bool (condF l kids so m a)) ∧ Below w.heap.size w w' := by
  intro m
  induction m with
  | zero => intro a h0 h1 h2; omega
  | succ m ih =>
    intro a h0 h1 h2 w hw
    by_cases o1 : (rd_T56 l a).f0 = 11 ∨ (rd_T56 l a).f0 = 12
    · exact cond_p1 A c l hc w00 hr00 K kids so hK hS hB m a h0 h1 h2 w hw ih o1
    by_cases o2 : (rd_T56 l a).f0 = 13
    · exact cond_p2 A c l hc w00 hr00 K kids so hK hS hB m a h0 h1 h2 w hw ih o2
    by_cases o3 : (rd_T56 l a).f0 = 14 ∨ (rd_T56 l a).f0 = 15
    · exact cond_p3 A c l hc w00 hr00 K kids so hK hS hB m a h0 h1 h2 w hw ih o3
    by_cases o4 : (rd_T56 l a).f0 = 16 ∨ (rd_T56 l a).f0 = 17
    · exact cond_p4 A c l hc w00 hr00 K kids so hK hS hB m a h0 h1 h2 w hw ih o4
    by_cases o5 : (rd_T56 l a).f0 = 18 ∨ (rd_T56 l a).f0 = 19 ∨ (rd_T56 l a).f0 = 20 ∨ (rd_T56 l a).f0 = 21
    · exact cond_p5 A c l hc w00 hr00 K kids so hK hS hB m a h0 h1 h2 w hw ih o5
    by_cases o6 : (rd_T56 l a).f0 = 22
    · exact cond_p6 A c l hc w00 hr00 K kids so hK hS hB m a h0 h1 h2 w hw ih o6
    exact cond_p0 A c l hc w00 hr00 K kids so hK hS hB m a h0 h1 h2 w hw ih (by omega)
end Go.Proofs.YtlbjfomcgbiagaaGreatDoor.CondW
