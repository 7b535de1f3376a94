/- ast.sumText and weirref13.sumText: the text of a sum's tree, both against one predicate. -/
import Derived.Test.YtlbjfomcgbiagaaGreatDoorCondR
import Derived.Test.YtlbjfomcgbiagaaGreatDoorPrint11
set_option linter.unusedVariables false
set_option linter.unusedSimpArgs false
namespace Go.Proofs.YtlbjfomcgbiagaaGreatDoor.SumT
open Go Go.RowKit Go.Proofs.YtlbjfomcgbiagaaGreatDoorW.PrintWords Go.Proofs.YtlbjfomcgbiagaaGreatDoorW.PrintLast Go.Proofs Go.Proofs.YtlbjfomcgbiagaaGreatDoor Go.Proofs.YtlbjfomcgbiagaaGreatDoor.Base Go.Proofs.YtlbjfomcgbiagaaGreatDoorW.PrintMore Go.Proofs.YtlbjfomcgbiagaaGreatDoor.Print Go.Proofs.YtlbjfomcgbiagaaGreatDoor.CondT Go.Proofs.YtlbjfomcgbiagaaGreatDoor.CondR
attribute [local go_sem] max2_int min2_int max_two min_two max_three min_three max_four min_four

/-- How strongly a sum's node binds. -/
def bindS (x : Int) : Int := if x = 4 ∨ x = 5 then 0 else if x = 6 ∨ x = 7 ∨ x = 8 then 1 else 2
def bindQ (x : Int) : Int := if x = 4 ∨ x = 5 then 1 else if x = 6 ∨ x = 7 ∨ x = 8 then 2 else if x = 3 then 3 else 4
theorem eight {x : Int} (h0 : 1 ≤ x) (h1 : x ≤ 8) : x = 1 ∨ x = 2 ∨ x = 3 ∨ x = 4 ∨ x = 5 ∨ x = 6 ∨ x = 7 ∨ x = 8 := by omega
theorem binding_at (x : Int) (h0 : 1 ≤ x) (h1 : x ≤ 8) : ast_binding.f 9 x = some (bindS x) := by
  rcases eight h0 h1 with rfl | rfl | rfl | rfl | rfl | rfl | rfl | rfl <;> rfl
theorem bindq_at (x : Int) (h0 : 1 ≤ x) (h1 : x ≤ 8) : weirref13_binds.f 9 x = some (bindQ x) := by
  rcases eight h0 h1 with rfl | rfl | rfl | rfl | rfl | rfl | rfl | rfl <;> rfl
theorem bind_lt (x o : Int) (h0 : 1 ≤ x) (h1 : x ≤ 8) (h2 : 4 ≤ o) (h3 : o ≤ 8) : decide (bindQ x < bindQ o) = decide (bindS x < bindS o) := by
  rcases eight h0 h1 with rfl | rfl | rfl | rfl | rfl | rfl | rfl | rfl <;> rcases eight (by omega) h3 with rfl | rfl | rfl | rfl | rfl | rfl | rfl | rfl <;> first | rfl | omega
theorem bind_le (x o : Int) (h0 : 1 ≤ x) (h1 : x ≤ 8) (h2 : 4 ≤ o) (h3 : o ≤ 8) : decide (bindQ x ≤ bindQ o) = decide (bindS x ≤ bindS o) := by
  rcases eight h0 h1 with rfl | rfl | rfl | rfl | rfl | rfl | rfl | rfl <;> rcases eight (by omega) h3 with rfl | rfl | rfl | rfl | rfl | rfl | rfl | rfl <;> first | rfl | omega
theorem sgn_at (x : Int) (g : ByteArray) (h0 : 4 ≤ x) (h1 : x ≤ 8) (h : ast_sign.f x = some g) : weirref13_sign.f x = some ((⟨#[32]⟩ : ByteArray) ++ g ++ (⟨#[32]⟩ : ByteArray)) := by
  rcases eight (by omega) h1 with rfl | rfl | rfl | rfl | rfl | rfl | rfl | rfl <;> first | omega | (obtain rfl := Option.some.inj h; rfl)
/-- What a node's text is of its kids' texts. -/
def SBody (l : List ND) (n : ND) (places : List Int) (ks : List ByteArray) (s : ByteArray) : Prop :=
  (∀ t ∈ ks, t.size ≤ 1099511627776) ∧ s.size ≤ 1099511627776 ∧ (∀ p ∈ places, (0 ≤ p ∧ p < l.length) ∧ 1 ≤ (rd_T56 l p).f0 ∧ (rd_T56 l p).f0 ≤ 8) ∧
  ((n.f0 = 1 ∧ strconv_FormatInt.f n.f3 10 = some s) ∨
   (n.f0 = 2 ∧ ∃ k q g, lex_Quote.f k n.f2 = some q ∧ ast_name.f n.f1 = some g ∧ q.size ≤ 1099511627776 ∧ g.size ≤ 1099511627776 ∧ s = g ++ (⟨#[40]⟩ : ByteArray) ++ q ++ (⟨#[41]⟩ : ByteArray)) ∨
   (n.f0 = 3 ∧ ∃ p t, places = [p] ∧ ks = [t] ∧ s = (⟨#[45]⟩ : ByteArray) ++ brk t ((rd_T56 l p).f0 != 2)) ∨
   ((4 ≤ n.f0 ∧ n.f0 ≤ 8) ∧ ∃ p q t u g, places = [p, q] ∧ ks = [t, u] ∧ ast_sign.f n.f0 = some g ∧ g.size ≤ 1 ∧
      s = brk t (decide (bindS (rd_T56 l p).f0 < bindS n.f0)) ++ (⟨#[32]⟩ : ByteArray) ++ g ++ (⟨#[32]⟩ : ByteArray) ++ brk u (decide (bindS (rd_T56 l q).f0 ≤ bindS n.f0))))
/-- The sum at a place prints so. -/
inductive ST (l : List ND) : Int → ByteArray → Prop
  | mk (a : Int) (s : ByteArray) (places : List Int) (ks : List ByteArray) (h0 : 0 ≤ a) (h1 : a < l.length) (K : Nat) (hK : ast_Kids.f K l a = some places) (hl : ks.length = places.length)
      (hk : ∀ (j : Nat) (p : Int) (t : ByteArray), places[j]? = some p → ks[j]? = some t → ST l p t) (hb : SBody l (rd_T56 l a) places ks s) : ST l a s
theorem box_cells4 (w : World) (c0 c1 c2 c3 c4 c5 : Value) (t : TypeId) : ∀ W : World, Below (w.alloc (.cells #[c0, c1, c2, c3, c4, c5] t)).heap.size (w.alloc (.cells #[c0, c1, c2, c3, c4, c5] t)) W →
    W.cell? ⟨w.heap.size, 0, none⟩ = some c0 ∧ W.cell? ⟨w.heap.size, 1, none⟩ = some c1 ∧ W.cell? ⟨w.heap.size, 2, none⟩ = some c2 ∧ W.cell? ⟨w.heap.size, 3, none⟩ = some c3 := by
  intro W hb
  have h1 := Rep.alloc_new w (.cells #[c0, c1, c2, c3, c4, c5] t)
  have h2 := (hb.block w.heap.size (by simp)).trans h1
  exact ⟨cell_of h2 0, cell_of h2 1, cell_of h2 2, cell_of h2 3⟩
section
variable {w0 W W' : World} {a b c d e : Addr} {x y z u v : Value}
theorem keep6 (h : Below w0.heap.size w0 W ∧ W.cell? a = some x ∧ W.cell? b = some y ∧ W.cell? c = some z ∧ W.cell? d = some u ∧ W.cell? e = some v) (hb : Below W.heap.size W W') : Below w0.heap.size w0 W' ∧ W'.cell? a = some x ∧ W'.cell? b = some y ∧ W'.cell? c = some z ∧ W'.cell? d = some u ∧ W'.cell? e = some v :=
  ⟨below_then h.1 h.1.size hb, (hb.cell (Rep.lt_of_cell? h.2.1)).trans h.2.1, (hb.cell (Rep.lt_of_cell? h.2.2.1)).trans h.2.2.1, (hb.cell (Rep.lt_of_cell? h.2.2.2.1)).trans h.2.2.2.1, (hb.cell (Rep.lt_of_cell? h.2.2.2.2.1)).trans h.2.2.2.2.1, (hb.cell (Rep.lt_of_cell? h.2.2.2.2.2)).trans h.2.2.2.2.2⟩
theorem drew6 (h : Below w0.heap.size w0 W ∧ W.cell? a = some x ∧ W.cell? b = some y ∧ W.cell? c = some z ∧ W.cell? d = some u ∧ W.cell? e = some v) : Below w0.heap.size w0 W.drew ∧ W.drew.cell? a = some x ∧ W.drew.cell? b = some y ∧ W.drew.cell? c = some z ∧ W.drew.cell? d = some u ∧ W.drew.cell? e = some v :=
  keep6 h (below_drew1 (Below.refl _ _))
end
def r11.T : Bool × List (List Nat × List Nat) := (true, [([], []), ([], []), ([1], [1]), ([2], [2]), ([0, 3], [0, 3]), ([], []), ([5, 4], [5]), ([], []), ([7], [7]), ([8, 6], [8]), ([6, 9], [6, 9]), ([4, 10, 9], [4, 10]), ([], []), ([12], [12]), ([13, 11], [13]), ([11, 14], [11, 14]), ([], []), ([], []), ([17], [17]), ([18], [18]), ([16, 19, 14], [16, 19]), ([], []), ([21, 20], [21]), ([], []), ([23], [23]), ([24, 22], [24]), ([22, 25], [22, 25]), ([20, 26, 25], [20, 26]), ([15, 27], [15, 27]), ([28, 27, 0, 1, 2, 3, 4, 5, 6, 7, 8, 9, 10, 11, 12, 13, 14, 15, 16, 17, 18, 19, 20, 21, 22, 23, 24, 25, 26, 27, 28], [28])])
def r11.B : List Nat := [0, 0, 2, 6, 15, 0, 63, 0, 128, 511, 1023, 2047, 0, 4096, 16383, 32767, 0, 0, 131072, 393216, 1015807, 0, 4161535, 0, 8388608, 33521663, 67076095, 134184959, 268435455, 536870911]
theorem r11.tab : rtab .any (opsOf Tryz.f27 11) = r11.T := by kernel_rfl
theorem r11.bits : waitsOk r11.T.2 r11.B = true := by kernel_rfl
set_option maxRecDepth 100000 in
set_option maxHeartbeats 8000000 in
theorem sum_any (A : Option Addr) (c : Nat) (l : List ND) (hc : l.length ≤ c) (w00 : World) (hr00 : Kd.C k56 w00 A l.length l) (hG0 : Globs w00) :
    ∀ (a : Int) (s : ByteArray), ST l a s → ∀ w : World, Below w00.heap.size w00 w →
    Calls Tryz.prog 26 #[.slice A l.length c, .int .i64 a] w fun e w' => e = .returned (.string s) ∧ Below w.heap.size w w' := by
  intro a s h
  induction h with
  | mk a s places ks h0 h1 K hK hl hk hb ih =>
  intro w hw
  have hr := Kd.C_below hr00 hw
  obtain ⟨n, hn⟩ : ∃ n, rd_T56 l a = n := ⟨_, rfl⟩
  obtain ⟨ad, hA, hx0, hx1, hx2, hx3, hx4, hx5⟩ := at_T56 hr a h0 h1
  subst hA
  rw [hn] at hx0 hx1 hx2 hx3 hx4 hx5 hb
  have HK := Aside0.mk (fun (W : World) (hb : Below w00.heap.size w00 W) => ast_Kids.calls K (some ad) c l a places W (Kd.C_below hr00 hb) hc hK)
  have IH := Aside0.mk ih
  have HW := Aside0.mk hw
  have HL := Aside0.mk hl
  clear ih hk hw hn hK hl hr
  have HGl := Aside0.mk (fun (W : World) (hb : Below w.heap.size w W) => hG0.below (below_then HW.out HW.out.size hb))
  obtain ⟨hks, hsz, hpr, hb⟩ := hb
  rcases hb with ⟨hf, hq⟩ | ⟨hf, kq, q, g, hq, hg, hq1, hg1, hs⟩ | ⟨hf, p, t, rfl, rfl, hs⟩ | ⟨⟨hf0, hf1⟩, p, q, t, u, g, rfl, rfl, hg, hg1, hs⟩
  · have HQ1 := Aside0.mk (fun (W : World) (hb : Below w.heap.size w W) => strconv_FormatInt.calls n.f3 10 s W (HGl.out W hb) hq)
    clear hq hpr hks hsz hr00 hG0
    go_enter Tryz.func26, Tryz.ntmps26
    go_wp2_with (first | (go_at_call 59; refine (HK.out _ (by have h1 := HW.out; repeat (first | exact h1 | apply below_alloc | (refine Below.setCell ?_ h1.size _)))).mono ?_; rintro e w3 ⟨v0, rfl, ho, hb3⟩; obtain ⟨B1, d1, rfl, hle1, hr1⟩ := Kd.R_reads ho; obtain ⟨k0, k1, k2, k3⟩ := box_cells4 _ _ _ _ _ _ _ _ w3 hb3; (try rw [hf] at k0); have HR1 := Aside0.mk hr1; have HBW := Aside0.mk (box_below _ _ w3 hb3); clear ho hb3 hr1) | (go_at_call 60; refine (HQ1.out _ HBW.out).mono ?_; rintro e w4 ⟨rfl, hb4⟩))
    go_ret
    exact ⟨rfl, below_then HBW.out HBW.out.size hb4⟩
  · have hss := congrArg ByteArray.size hs
    simp only [ByteArray.size_append] at hss
    have e1 : (⟨#[40]⟩ : ByteArray).size = 1 := rfl
    have e2 : (⟨#[41]⟩ : ByteArray).size = 1 := rfl
    have hl1 : ¬ 9223372036854775807 < g.size + 1 := by omega
    have hl2 : ¬ 9223372036854775807 < g.size + 1 + q.size := by omega
    have hl3 : ¬ 9223372036854775807 < g.size + 1 + q.size + 1 := by omega
    have HNm := Aside0.mk (fun (W : World) => ast_name.calls n.f1 g W hg)
    have HQt := Aside0.mk (fun (W : World) (hb : Below w.heap.size w W) => lex_Quote.calls kq n.f2 q W hq)
    have HHs := Aside0.mk hs
    clear hq hg hs hss hpr hks hsz hq1 hg1 hr00 hG0
    go_enter Tryz.func26, Tryz.ntmps26
    go_wp2_with (first | (go_at_call 59; refine (HK.out _ (by have h1 := HW.out; repeat (first | exact h1 | apply below_alloc | (refine Below.setCell ?_ h1.size _)))).mono ?_; rintro e w3 ⟨v0, rfl, ho, hb3⟩; obtain ⟨B1, d1, rfl, hle1, hr1⟩ := Kd.R_reads ho; obtain ⟨k0, k1, k2, k3⟩ := box_cells4 _ _ _ _ _ _ _ _ w3 hb3; (try rw [hf] at k0); have HR1 := Aside0.mk hr1; have HBW := Aside0.mk (box_below _ _ w3 hb3); clear ho hb3 hr1))
    go_region_held3 (fun W => Below w3.heap.size w3 W ∧ W.cell? ⟨w.heap.size, 1, none⟩ = some (.int .u8 n.f1) ∧ W.cell? ⟨w.heap.size, 2, none⟩ = some (.string n.f2))
      (first | exact start3 k1 k2 | assumption | exact keep3 (by assumption) hb)
      (first
        | (go_at_call 61; refine (HNm.out _).mono ?_; rintro e w' ⟨rfl, hd⟩; have hb := hd.below)
        | (go_at_call 62; refine (HQt.out _ (below_then HBW.out HBW.out.size (And.left (by assumption)))).mono ?_; rintro e w' ⟨rfl, hb⟩))
    all_goals go_wp2
    all_goals go_ret
    all_goals exact ⟨by rw [HHs.out]; rfl, below_then HBW.out HBW.out.size (And.left (by assumption))⟩
  · have HHs0 := Aside0.mk hs
    clear hs
    have hpx := hpr p (by simp)
    have hts : t.size ≤ 1099511627776 := hks t (by simp)
    go_enter Tryz.func26, Tryz.ntmps26
    go_wp2_with (first | (go_at_call 59; refine (HK.out _ (by have h1 := HW.out; repeat (first | exact h1 | apply below_alloc | (refine Below.setCell ?_ h1.size _)))).mono ?_; rintro e w3 ⟨v0, rfl, ho, hb3⟩; obtain ⟨B1, d1, rfl, hle1, hr1⟩ := Kd.R_reads ho; obtain ⟨k0, k1, k2, k3⟩ := box_cells4 _ _ _ _ _ _ _ _ w3 hb3; (try rw [hf] at k0); have HR1 := Aside0.mk hr1; have HBW := Aside0.mk (box_below _ _ w3 hb3); clear ho hb3 hr1))
    have hs := HHs0.out
    have HW3 := Aside0.mk (below_then HW.out HW.out.size HBW.out)
    obtain ⟨ae, hB1, hxe0⟩ := Kd.at_int HR1.out 0 (by omega) (by simp)
    subst hB1
    have hxe0 : w3.cell? ae = some (.int .i64 p) := by rw [← CondT.add_zero ae]; exact hxe0
    obtain ⟨adx, hAx, kx, _⟩ := at_T56 (Kd.C_below hr00 HW3.out) p hpx.1.1 hpx.1.2
    obtain rfl := Option.some.inj hAx
    have HRecx := Aside0.mk (fun (W : World) (hb : Below w3.heap.size w3 W) => IH.out 0 p t rfl rfl W (below_then HW3.out HW3.out.size hb))
    obtain ⟨x, hx⟩ : ∃ x, (rd_T56 l p).f0 = x := ⟨_, rfl⟩
    rw [hx] at kx hpx hs
    have HBk := Aside0.mk (fun (m : Bool) (W : World) => ast_bracketed.calls t m (brk t m) W (brk_f t m (by omega)))
    have hbs := brk_size t (x != 2)
    have hl1 : ¬ 9223372036854775807 < 1 + (brk t (x != 2)).size := by omega
    have hp0 := hpx.1.1
    have hp1 := hpx.1.2
    have HHs := Aside0.mk hs
    clear hs hpr hks hx hpx hr00 hG0 hAx HR1
    go_region_held3 (fun W => Below w3.heap.size w3 W ∧ W.cell? ae = some (.int .i64 p) ∧ W.cell? (ad.add (p.toNat * 6)) = some (.int .u8 x))
      (first | exact start3 hxe0 kx | assumption | exact keep3 (by assumption) hb)
      (first
        | (go_at_call 26; refine (HRecx.out _ (And.left (by assumption))).mono ?_; rintro e w' ⟨rfl, hb⟩)
        | (go_at_call 63; refine (HBk.out _ _).mono ?_; rintro e w' ⟨rfl, hd⟩; have hb := hd.below))
    all_goals go_wp2
    all_goals go_ret
    all_goals exact ⟨by rw [HHs.out]; rfl, below_then HBW.out HBW.out.size (And.left (by assumption))⟩
  · have HHs0 := Aside0.mk hs
    clear hs
    have hpx := hpr p (by simp)
    have hpy := hpr q (by simp)
    have hts : t.size ≤ 1099511627776 := hks t (by simp)
    have hus : u.size ≤ 1099511627776 := hks u (by simp)
    have hn1 : (n.f0 == 1) = false := by simp; omega
    have hn2 : (n.f0 == 2) = false := by simp; omega
    have hn3 : (n.f0 == 3) = false := by simp; omega
    have HBo := Aside0.mk (fun (W : World) => ast_binding.calls 9 n.f0 (bindS n.f0) W (binding_at n.f0 (by omega) hf1))
    go_enter Tryz.func26, Tryz.ntmps26
    go_wp2_with (first | (go_at_call 59; refine (HK.out _ (by have h1 := HW.out; repeat (first | exact h1 | apply below_alloc | (refine Below.setCell ?_ h1.size _)))).mono ?_; rintro e w3 ⟨v0, rfl, ho, hb3⟩; obtain ⟨B1, d1, rfl, hle1, hr1⟩ := Kd.R_reads ho; obtain ⟨k0, k1, k2, k3⟩ := box_cells4 _ _ _ _ _ _ _ _ w3 hb3; (try rw [hf] at k0); have HR1 := Aside0.mk hr1; have HBW := Aside0.mk (box_below _ _ w3 hb3); clear ho hb3 hr1))
    have hs := HHs0.out
    have HW3 := Aside0.mk (below_then HW.out HW.out.size HBW.out)
    obtain ⟨ae, hB1, hxe0⟩ := Kd.at_int HR1.out 0 (by omega) (by simp)
    subst hB1
    have hxe0 : w3.cell? ae = some (.int .i64 p) := by rw [← CondT.add_zero ae]; exact hxe0
    obtain ⟨adx, hAx, kx, _⟩ := at_T56 (Kd.C_below hr00 HW3.out) p hpx.1.1 hpx.1.2
    obtain rfl := Option.some.inj hAx
    have HRecx := Aside0.mk (fun (W : World) (hb : Below w3.heap.size w3 W) => IH.out 0 p t rfl rfl W (below_then HW3.out HW3.out.size hb))
    obtain ⟨x, hx⟩ : ∃ x, (rd_T56 l p).f0 = x := ⟨_, rfl⟩
    rw [hx] at kx hpx hs
    obtain ⟨be, hB1, hxe1⟩ := Kd.at_int HR1.out 1 (by omega) (by simp)
    obtain rfl := Option.some.inj hB1
    replace hxe1 : w3.cell? ⟨ae.block, ae.off + 1, none⟩ = some (.int .i64 q) := hxe1
    obtain ⟨ady, hAy, ky, _⟩ := at_T56 (Kd.C_below hr00 HW3.out) q hpy.1.1 hpy.1.2
    obtain rfl := Option.some.inj hAy
    have HRecy := Aside0.mk (fun (W : World) (hb : Below w3.heap.size w3 W) => IH.out 1 q u rfl rfl W (below_then HW3.out HW3.out.size hb))
    obtain ⟨y, hy⟩ : ∃ x, (rd_T56 l q).f0 = x := ⟨_, rfl⟩
    rw [hy] at ky hpy hs
    have hbt := brk_size t (decide (bindS x < bindS n.f0))
    have hbu := brk_size u (decide (bindS y ≤ bindS n.f0))
    have e1 : (⟨#[32]⟩ : ByteArray).size = 1 := rfl
    obtain ⟨T, hT⟩ : ∃ T, brk t (decide (bindS x < bindS n.f0)) = T := ⟨_, rfl⟩
    obtain ⟨U, hU⟩ : ∃ U, brk u (decide (bindS y ≤ bindS n.f0)) = U := ⟨_, rfl⟩
    rw [hT] at hs hbt
    rw [hU] at hs hbu
    have HBx := Aside0.mk (fun (W : World) => ast_binding.calls 9 x (bindS x) W (binding_at x hpx.2.1 hpx.2.2))
    have HBy := Aside0.mk (fun (W : World) => ast_binding.calls 9 y (bindS y) W (binding_at y hpy.2.1 hpy.2.2))
    have HBt := Aside0.mk (fun (W : World) => ast_bracketed.calls t (decide (bindS x < bindS n.f0)) T W (by rw [← hT]; exact brk_f t _ (by omega)))
    have HBu := Aside0.mk (fun (W : World) => ast_bracketed.calls u (decide (bindS y ≤ bindS n.f0)) U W (by rw [← hU]; exact brk_f u _ (by omega)))
    have HSg := Aside0.mk (fun (W : World) => ast_sign.calls n.f0 g W hg)
    have hl1 : ¬ 9223372036854775807 < T.size + 1 := by omega
    have hl2 : ¬ 9223372036854775807 < T.size + 1 + g.size := by omega
    have hl3 : ¬ 9223372036854775807 < T.size + 1 + g.size + 1 := by omega
    have hl4 : ¬ 9223372036854775807 < T.size + 1 + g.size + 1 + U.size := by omega
    have hp0 := hpx.1.1
    have hp1 := hpx.1.2
    have hq0 := hpy.1.1
    have hq1 := hpy.1.2
    have HHs := Aside0.mk hs
    clear hs hpr hks hx hy hpx hpy hr00 hG0 hAx hAy HR1 hT hU hg HHs0
    go_wp2_with (go_at_call 64; refine (HBo.out _).mono ?_; rintro e w4 ⟨rfl, hd4⟩)
    have hd4 := hd4.below
    have HS4 := keep6 (a := ae) (b := ad.add (p.toNat * 6)) (c := ⟨ae.block, ae.off + 1, none⟩) (d := ad.add (q.toNat * 6)) (e := ⟨w.heap.size, 0, none⟩) ⟨Below.refl _ w3, hxe0, kx, hxe1, ky, k0⟩ hd4
    clear hxe0 kx hxe1 ky k0 k1 k2 k3
    go_region_held3 (fun W => Below w3.heap.size w3 W ∧ W.cell? ae = some (.int .i64 p) ∧ W.cell? (ad.add (p.toNat * 6)) = some (.int .u8 x) ∧ W.cell? ⟨ae.block, ae.off + 1, none⟩ = some (.int .i64 q) ∧ W.cell? (ad.add (q.toNat * 6)) = some (.int .u8 y) ∧ W.cell? ⟨w.heap.size, 0, none⟩ = some (.int .u8 n.f0))
      (first | exact drew6 HS4 | assumption | exact keep6 (by assumption) hb)
      (first
        | (go_at_call 26; refine (HRecx.out _ (And.left (by assumption))).mono ?_; rintro e w' ⟨rfl, hb⟩)
        | (go_at_call 64; refine (HBx.out _).mono ?_; rintro e w' ⟨rfl, hd⟩; have hb := hd.below)
        | (go_at_call 63; refine (HBt.out _).mono ?_; rintro e w' ⟨rfl, hd⟩; have hb := hd.below))
    all_goals go_wp2
    all_goals go_region_held3 (fun W => Below w3.heap.size w3 W ∧ W.cell? ae = some (.int .i64 p) ∧ W.cell? (ad.add (p.toNat * 6)) = some (.int .u8 x) ∧ W.cell? ⟨ae.block, ae.off + 1, none⟩ = some (.int .i64 q) ∧ W.cell? (ad.add (q.toNat * 6)) = some (.int .u8 y) ∧ W.cell? ⟨w.heap.size, 0, none⟩ = some (.int .u8 n.f0))
      (first | exact drew6 (by assumption) | assumption | exact keep6 (by assumption) hb)
      (first
        | (go_at_call 26; refine (HRecy.out _ (And.left (by assumption))).mono ?_; rintro e w' ⟨rfl, hb⟩)
        | (go_at_call 64; refine (HBy.out _).mono ?_; rintro e w' ⟨rfl, hd⟩; have hb := hd.below)
        | (go_at_call 63; refine (HBu.out _).mono ?_; rintro e w' ⟨rfl, hd⟩; have hb := hd.below))
    all_goals go_wp2_with (go_at_call 65; refine (HSg.out _).mono ?_; rintro e w9 ⟨rfl, hd9⟩)
    all_goals go_ret
    all_goals exact ⟨by rw [HHs.out]; rfl, below_then HBW.out HBW.out.size (below_then (And.left (by assumption)) (Below.size (And.left (by assumption))) hd9.below)⟩
set_option maxRecDepth 100000 in
set_option maxHeartbeats 8000000 in
theorem sum_ref (A : Option Addr) (c : Nat) (l : List ND) (hc : l.length ≤ c) (w00 : World) (hr00 : Kd.C k56 w00 A l.length l) (hG0 : Globs w00)
    (hKids : ∀ a places, (∃ K, ast_Kids.f K l a = some places) → ∃ K, weirtree_Kids.f K l a = some places)
    (hQ : ∀ k s r, lex_Quote.f k s = some r → ∃ k', weirref12_Quote.f k' s = some r) :
    ∀ (a : Int) (s : ByteArray), ST l a s → ∀ w : World, Below w00.heap.size w00 w →
    Calls Tryz.prog 27 #[.slice A l.length c, .int .i64 a] w fun e w' => e = .returned (.string s) ∧ Below w.heap.size w w' := by
  intro a s h
  induction h with
  | mk a s places ks h0 h1 K hK hl hk hb ih =>
  intro w hw
  have hr := Kd.C_below hr00 hw
  obtain ⟨n, hn⟩ : ∃ n, rd_T56 l a = n := ⟨_, rfl⟩
  obtain ⟨ad, hA, hx0, hx1, hx2, hx3, hx4, hx5⟩ := at_T56 hr a h0 h1
  subst hA
  rw [hn] at hx0 hx1 hx2 hx3 hx4 hx5 hb
  obtain ⟨K2, hK2⟩ := hKids a places ⟨K, hK⟩
  have HK := Aside0.mk (fun (W : World) (hb : Below w00.heap.size w00 W) => weirtree_Kids.calls K2 (some ad) c l a places W (Kd.C_below hr00 hb) hc hK2)
  have HQ := Aside0.mk hQ
  clear hK2 hQ hKids
  have IH := Aside0.mk ih
  have HW := Aside0.mk hw
  have HL := Aside0.mk hl
  clear ih hk hw hn hK hl hr
  have HGl := Aside0.mk (fun (W : World) (hb : Below w.heap.size w W) => hG0.below (below_then HW.out HW.out.size hb))
  obtain ⟨hks, hsz, hpr, hb⟩ := hb
  rcases hb with ⟨hf, hq⟩ | ⟨hf, kq, q, g, hq, hg, hq1, hg1, hs⟩ | ⟨hf, p, t, rfl, rfl, hs⟩ | ⟨⟨hf0, hf1⟩, p, q, t, u, g, rfl, rfl, hg, hg1, hs⟩
  · have HQ1 := Aside0.mk (fun (W : World) (hb : Below w.heap.size w W) => strconv_FormatInt.calls n.f3 10 s W (HGl.out W hb) hq)
    clear hq hpr hks hsz hr00 hG0
    go_enter Tryz.func27, Tryz.ntmps27
    go_wp2_with (first | (go_at_call 66; refine (HK.out _ (by have h1 := HW.out; repeat (first | exact h1 | apply below_alloc | (refine Below.setCell ?_ h1.size _)))).mono ?_; rintro e w3 ⟨v0, rfl, ho, hb3⟩; obtain ⟨B1, d1, rfl, hle1, hr1⟩ := Kd.R_reads ho; obtain ⟨k0, k1, k2, k3⟩ := box_cells4 _ _ _ _ _ _ _ _ w3 hb3; (try rw [hf] at k0); have HR1 := Aside0.mk hr1; have HBW := Aside0.mk (box_below _ _ w3 hb3); clear ho hb3 hr1) | (go_at_call 60; refine (HQ1.out _ HBW.out).mono ?_; rintro e w4 ⟨rfl, hb4⟩))
    go_ret
    exact ⟨rfl, below_then HBW.out HBW.out.size hb4⟩
  · have hss := congrArg ByteArray.size hs
    simp only [ByteArray.size_append] at hss
    have e1 : (⟨#[40]⟩ : ByteArray).size = 1 := rfl
    have e2 : (⟨#[41]⟩ : ByteArray).size = 1 := rfl
    have hl1 : ¬ 9223372036854775807 < g.size + 1 := by omega
    have hl2 : ¬ 9223372036854775807 < g.size + 1 + q.size := by omega
    have hl3 : ¬ 9223372036854775807 < g.size + 1 + q.size + 1 := by omega
    obtain ⟨k', hq'⟩ := HQ.out kq n.f2 q hq
    have HNm := Aside0.mk (fun (W : World) => weirref13_FuncName.calls n.f1 g W hg)
    have HQt := Aside0.mk (fun (W : World) (hb : Below w.heap.size w W) => weirref12_Quote.calls k' n.f2 q W hq')
    clear hq'
    have HHs := Aside0.mk hs
    clear hq hg hs hss hpr hks hsz hq1 hg1 hr00 hG0
    go_enter Tryz.func27, Tryz.ntmps27
    go_wp2_with (first | (go_at_call 66; refine (HK.out _ (by have h1 := HW.out; repeat (first | exact h1 | apply below_alloc | (refine Below.setCell ?_ h1.size _)))).mono ?_; rintro e w3 ⟨v0, rfl, ho, hb3⟩; obtain ⟨B1, d1, rfl, hle1, hr1⟩ := Kd.R_reads ho; obtain ⟨k0, k1, k2, k3⟩ := box_cells4 _ _ _ _ _ _ _ _ w3 hb3; (try rw [hf] at k0); have HR1 := Aside0.mk hr1; have HBW := Aside0.mk (box_below _ _ w3 hb3); clear ho hb3 hr1))
    go_region_held3 (fun W => Below w3.heap.size w3 W ∧ W.cell? ⟨w.heap.size, 1, none⟩ = some (.int .u8 n.f1) ∧ W.cell? ⟨w.heap.size, 2, none⟩ = some (.string n.f2))
      (first | exact start3 k1 k2 | assumption | exact keep3 (by assumption) hb)
      (first
        | (go_at_call 67; refine (HNm.out _).mono ?_; rintro e w' ⟨rfl, hd⟩; have hb := hd)
        | (go_at_call 68; refine (HQt.out _ (below_then HBW.out HBW.out.size (And.left (by assumption)))).mono ?_; rintro e w' ⟨rfl, hb⟩))
    all_goals go_wp2
    all_goals go_ret
    all_goals exact ⟨by rw [HHs.out]; rfl, below_then HBW.out HBW.out.size (And.left (by assumption))⟩
  · have HHs0 := Aside0.mk hs
    clear hs
    have hpx := hpr p (by simp)
    have hts : t.size ≤ 1099511627776 := hks t (by simp)
    go_enter Tryz.func27, Tryz.ntmps27
    go_wp2_with (first | (go_at_call 66; refine (HK.out _ (by have h1 := HW.out; repeat (first | exact h1 | apply below_alloc | (refine Below.setCell ?_ h1.size _)))).mono ?_; rintro e w3 ⟨v0, rfl, ho, hb3⟩; obtain ⟨B1, d1, rfl, hle1, hr1⟩ := Kd.R_reads ho; obtain ⟨k0, k1, k2, k3⟩ := box_cells4 _ _ _ _ _ _ _ _ w3 hb3; (try rw [hf] at k0); have HR1 := Aside0.mk hr1; have HBW := Aside0.mk (box_below _ _ w3 hb3); clear ho hb3 hr1))
    have hs := HHs0.out
    have HW3 := Aside0.mk (below_then HW.out HW.out.size HBW.out)
    obtain ⟨ae, hB1, hxe0⟩ := Kd.at_int HR1.out 0 (by omega) (by simp)
    subst hB1
    have hxe0 : w3.cell? ae = some (.int .i64 p) := by rw [← CondT.add_zero ae]; exact hxe0
    obtain ⟨adx, hAx, kx, _⟩ := at_T56 (Kd.C_below hr00 HW3.out) p hpx.1.1 hpx.1.2
    obtain rfl := Option.some.inj hAx
    have HRecx := Aside0.mk (fun (W : World) (hb : Below w3.heap.size w3 W) => IH.out 0 p t rfl rfl W (below_then HW3.out HW3.out.size hb))
    obtain ⟨x, hx⟩ : ∃ x, (rd_T56 l p).f0 = x := ⟨_, rfl⟩
    rw [hx] at kx hpx hs
    have HBk := Aside0.mk (fun (m : Bool) (W : World) => weirref13_bracketed.calls t m (brk t m) W (brk_r t m (by omega)))
    have hbs := brk_size t (x != 2)
    have hl1 : ¬ 9223372036854775807 < 1 + (brk t (x != 2)).size := by omega
    have hp0 := hpx.1.1
    have hp1 := hpx.1.2
    have HHs := Aside0.mk hs
    clear hs hpr hks hx hpx hr00 hG0 hAx HR1
    go_region_held3 (fun W => Below w3.heap.size w3 W ∧ W.cell? ae = some (.int .i64 p) ∧ W.cell? (ad.add (p.toNat * 6)) = some (.int .u8 x))
      (first | exact start3 hxe0 kx | assumption | exact keep3 (by assumption) hb)
      (first
        | (go_at_call 27; refine (HRecx.out _ (And.left (by assumption))).mono ?_; rintro e w' ⟨rfl, hb⟩)
        | (go_at_call 69; refine (HBk.out _ _).mono ?_; rintro e w' ⟨rfl, hd⟩; have hb := hd.below))
    all_goals go_wp2
    all_goals go_ret
    all_goals exact ⟨by rw [HHs.out]; rfl, below_then HBW.out HBW.out.size (And.left (by assumption))⟩
  · have HHs0 := Aside0.mk hs
    clear hs
    have hpx := hpr p (by simp)
    have hpy := hpr q (by simp)
    have hts : t.size ≤ 1099511627776 := hks t (by simp)
    have hus : u.size ≤ 1099511627776 := hks u (by simp)
    have hn1 : (n.f0 == 1) = false := by simp; omega
    have hn2 : (n.f0 == 2) = false := by simp; omega
    have hn3 : (n.f0 == 3) = false := by simp; omega
    go_enter Tryz.func27, Tryz.ntmps27
    go_wp2_with (first | (go_at_call 66; refine (HK.out _ (by have h1 := HW.out; repeat (first | exact h1 | apply below_alloc | (refine Below.setCell ?_ h1.size _)))).mono ?_; rintro e w3 ⟨v0, rfl, ho, hb3⟩; obtain ⟨B1, d1, rfl, hle1, hr1⟩ := Kd.R_reads ho; obtain ⟨k0, k1, k2, k3⟩ := box_cells4 _ _ _ _ _ _ _ _ w3 hb3; (try rw [hf] at k0); have HR1 := Aside0.mk hr1; have HBW := Aside0.mk (box_below _ _ w3 hb3); clear ho hb3 hr1))
    have hs := HHs0.out
    have HW3 := Aside0.mk (below_then HW.out HW.out.size HBW.out)
    obtain ⟨ae, hB1, hxe0⟩ := Kd.at_int HR1.out 0 (by omega) (by simp)
    subst hB1
    have hxe0 : w3.cell? ae = some (.int .i64 p) := by rw [← CondT.add_zero ae]; exact hxe0
    obtain ⟨adx, hAx, kx, _⟩ := at_T56 (Kd.C_below hr00 HW3.out) p hpx.1.1 hpx.1.2
    obtain rfl := Option.some.inj hAx
    have HRecx := Aside0.mk (fun (W : World) (hb : Below w3.heap.size w3 W) => IH.out 0 p t rfl rfl W (below_then HW3.out HW3.out.size hb))
    obtain ⟨x, hx⟩ : ∃ x, (rd_T56 l p).f0 = x := ⟨_, rfl⟩
    rw [hx] at kx hpx hs
    obtain ⟨be, hB1, hxe1⟩ := Kd.at_int HR1.out 1 (by omega) (by simp)
    obtain rfl := Option.some.inj hB1
    replace hxe1 : w3.cell? ⟨ae.block, ae.off + 1, none⟩ = some (.int .i64 q) := hxe1
    obtain ⟨ady, hAy, ky, _⟩ := at_T56 (Kd.C_below hr00 HW3.out) q hpy.1.1 hpy.1.2
    obtain rfl := Option.some.inj hAy
    have HRecy := Aside0.mk (fun (W : World) (hb : Below w3.heap.size w3 W) => IH.out 1 q u rfl rfl W (below_then HW3.out HW3.out.size hb))
    obtain ⟨y, hy⟩ : ∃ x, (rd_T56 l q).f0 = x := ⟨_, rfl⟩
    rw [hy] at ky hpy hs
    have hbt := brk_size t (decide (bindS x < bindS n.f0))
    have hbu := brk_size u (decide (bindS y ≤ bindS n.f0))
    have e1 : (⟨#[32]⟩ : ByteArray).size = 1 := rfl
    obtain ⟨T, hT⟩ : ∃ T, brk t (decide (bindS x < bindS n.f0)) = T := ⟨_, rfl⟩
    obtain ⟨U, hU⟩ : ∃ U, brk u (decide (bindS y ≤ bindS n.f0)) = U := ⟨_, rfl⟩
    rw [hT] at hs hbt
    rw [hU] at hs hbu
    obtain ⟨G, hGG⟩ : ∃ G, (⟨#[32]⟩ : ByteArray) ++ g ++ (⟨#[32]⟩ : ByteArray) = G := ⟨_, rfl⟩
    have hGs : G.size ≤ 3 := by rw [← hGG]; simp only [ByteArray.size_append]; omega
    replace hs : s = T ++ G ++ U := by rw [hs, ← hGG]; simp only [ByteArray.append_assoc]
    have HBx := Aside0.mk (fun (W : World) => weirref13_binds.calls 9 x (bindQ x) W (bindq_at x hpx.2.1 hpx.2.2))
    have HBy := Aside0.mk (fun (W : World) => weirref13_binds.calls 9 y (bindQ y) W (bindq_at y hpy.2.1 hpy.2.2))
    have HBo := Aside0.mk (fun (W : World) => weirref13_binds.calls 9 n.f0 (bindQ n.f0) W (bindq_at n.f0 (by omega) hf1))
    have HBt := Aside0.mk (fun (W : World) => weirref13_bracketed.calls t (decide (bindQ x < bindQ n.f0)) T W (by rw [bind_lt x _ hpx.2.1 hpx.2.2 hf0 hf1, ← hT]; exact brk_r t _ (by omega)))
    have HBu := Aside0.mk (fun (W : World) => weirref13_bracketed.calls u (decide (bindQ y ≤ bindQ n.f0)) U W (by rw [bind_le y _ hpy.2.1 hpy.2.2 hf0 hf1, ← hU]; exact brk_r u _ (by omega)))
    have HSg := Aside0.mk (fun (W : World) => weirref13_sign.calls n.f0 G W (by rw [← hGG]; exact sgn_at n.f0 g hf0 hf1 hg))
    have hl1 : ¬ 9223372036854775807 < T.size + G.size := by omega
    have hl2 : ¬ 9223372036854775807 < T.size + G.size + U.size := by omega
    have hp0 := hpx.1.1
    have hp1 := hpx.1.2
    have hq0 := hpy.1.1
    have hq1 := hpy.1.2
    have HHs := Aside0.mk hs
    clear hs hpr hks hx hy hpx hpy hr00 hG0 hAx hAy HR1 hT hU hg HHs0 hGG
    have HS4 := keep6 (a := ae) (b := ad.add (p.toNat * 6)) (c := ⟨ae.block, ae.off + 1, none⟩) (d := ad.add (q.toNat * 6)) (e := ⟨w.heap.size, 0, none⟩) ⟨Below.refl _ w3, hxe0, kx, hxe1, ky, k0⟩ (Below.refl _ w3)
    clear hxe0 kx hxe1 ky k0 k1 k2 k3
    go_region_held3 (fun W => Below w3.heap.size w3 W ∧ W.cell? ae = some (.int .i64 p) ∧ W.cell? (ad.add (p.toNat * 6)) = some (.int .u8 x) ∧ W.cell? ⟨ae.block, ae.off + 1, none⟩ = some (.int .i64 q) ∧ W.cell? (ad.add (q.toNat * 6)) = some (.int .u8 y) ∧ W.cell? ⟨w.heap.size, 0, none⟩ = some (.int .u8 n.f0))
      (first | exact drew6 HS4 | assumption | exact keep6 (by assumption) hb)
      (fail)
    all_goals go_wp2
    refine start_ (n := 30) (S := (fun W => Below w3.heap.size w3 W ∧ W.cell? ae = some (.int .i64 p) ∧ W.cell? (ad.add (p.toNat * 6)) = some (.int .u8 x) ∧ W.cell? ⟨ae.block, ae.off + 1, none⟩ = some (.int .i64 q) ∧ W.cell? (ad.add (q.toNat * 6)) = some (.int .u8 y) ∧ W.cell? ⟨w.heap.size, 0, none⟩ = some (.int .u8 n.f0))) (ds := []) #[false, false, false, false, false, false, false, false, false, false, false, false, false, false, false, false, false, false, false, false, false, false, false, false, false, false, false, false, false, false] (by kernel_rfl) rfl rfl (drew6 (by assumption)) (fun hHeld => ?_)
    refine with_tabW r11.tab r11.bits (fun HT_ HW_ => ?_)
    refine pP 0 65 ?_
    refine pP 1 66 ?_
    refine pP 2 67 ?_
    refine pT 3 68 ?_
    refine pP 5 70 ?_
    refine pP 7 72 ?_
    refine pT 8 73 ?_
    refine pP 12 77 ?_
    refine pT 13 78 ?_
    refine pP 16 81 ?_
    refine pP 17 82 ?_
    refine pP 18 83 ?_
    refine pT 19 84 ?_
    refine pP 21 86 ?_
    refine pP 23 88 ?_
    refine pT 24 89 ?_
    refine pO 4 69 (fun K hK => ?_)
    refine goes_ Tryz.func27 (by kernel_rfl) rfl #[.slice (some ad) l.length c, .int .i64 p] (by rfl) rfl rfl (by first | rfl | (simp only [q4, q5, q6]; rfl)) ?_
    refine (HRecx.out _ hHeld.1).mono ?_
    rintro e w6 ⟨rfl, hb⟩
    refine ⟨_, rfl, ?_⟩
    refine hK.out _ _ (keep6 hHeld hb) (fun hHeld => ?_)
    clear hK K
    refine norm_ (a' := ?_) ?_ ?_
    rotate_left
    · show Act.put _ (some 69) _ = _
      simp only [Act.put, q1, q2, q3, i64_w, i32_w]
      rfl
    refine pO 6 71 (fun K hK => ?_)
    refine goes_ Tryz.func70 (by kernel_rfl) rfl #[.int .u8 x] (by rfl) rfl rfl (by first | rfl | (simp only [q4, q5, q6]; rfl)) ?_
    refine (HBx.out _).mono ?_
    rintro e w5 ⟨rfl, hd⟩
    have hb := hd.below
    refine ⟨_, rfl, ?_⟩
    refine hK.out _ _ (keep6 hHeld hb) (fun hHeld => ?_)
    clear hK K
    refine norm_ (a' := ?_) ?_ ?_
    rotate_left
    · show Act.put _ (some 71) _ = _
      simp only [Act.put, q1, q2, q3, i64_w, i32_w]
      rfl
    refine pO 9 74 (fun K hK => ?_)
    refine goes_ Tryz.func70 (by kernel_rfl) rfl #[.int .u8 n.f0] (by rfl) rfl rfl (by first | rfl | (simp only [q4, q5, q6]; rfl)) ?_
    refine (HBo.out _).mono ?_
    rintro e w5 ⟨rfl, hd⟩
    have hb := hd.below
    refine ⟨_, rfl, ?_⟩
    refine hK.out _ _ (keep6 hHeld hb) (fun hHeld => ?_)
    clear hK K
    refine norm_ (a' := ?_) ?_ ?_
    rotate_left
    · show Act.put _ (some 74) _ = _
      simp only [Act.put, q1, q2, q3, i64_w, i32_w]
      rfl
    refine pP 10 75 ?_
    refine pO 11 76 (fun K hK => ?_)
    refine goes_ Tryz.func69 (by kernel_rfl) rfl #[.string t, .bool (decide (bindQ x < bindQ n.f0))] (by rfl) rfl rfl (by first | rfl | (simp only [q4, q5, q6]; rfl)) ?_
    refine (HBt.out _).mono ?_
    rintro e w5 ⟨rfl, hd⟩
    have hb := hd.below
    refine ⟨_, rfl, ?_⟩
    refine hK.out _ _ (keep6 hHeld hb) (fun hHeld => ?_)
    clear hK K
    refine norm_ (a' := ?_) ?_ ?_
    rotate_left
    · show Act.put _ (some 76) _ = _
      simp only [Act.put, q1, q2, q3, i64_w, i32_w]
      rfl
    refine pO 14 79 (fun K hK => ?_)
    refine goes_ Tryz.func71 (by kernel_rfl) rfl #[.int .u8 n.f0] (by rfl) rfl rfl (by first | rfl | (simp only [q4, q5, q6]; rfl)) ?_
    refine (HSg.out _).mono ?_
    rintro e w5 ⟨rfl, hd⟩
    have hb := hd.below
    refine ⟨_, rfl, ?_⟩
    refine hK.out _ _ (keep6 hHeld hb) (fun hHeld => ?_)
    clear hK K
    refine norm_ (a' := ?_) ?_ ?_
    rotate_left
    · show Act.put _ (some 79) _ = _
      simp only [Act.put, q1, q2, q3, i64_w, i32_w]
      rfl
    refine pP 15 80 ?_
    refine pO 20 85 (fun K hK => ?_)
    refine goes_ Tryz.func27 (by kernel_rfl) rfl #[.slice (some ad) l.length c, .int .i64 q] (by rfl) rfl rfl (by first | rfl | (simp only [q4, q5, q6]; rfl)) ?_
    refine (HRecy.out _ hHeld.1).mono ?_
    rintro e w6 ⟨rfl, hb⟩
    refine ⟨_, rfl, ?_⟩
    refine hK.out _ _ (keep6 hHeld hb) (fun hHeld => ?_)
    clear hK K
    refine norm_ (a' := ?_) ?_ ?_
    rotate_left
    · show Act.put _ (some 85) _ = _
      simp only [Act.put, q1, q2, q3, i64_w, i32_w]
      rfl
    refine pO 22 87 (fun K hK => ?_)
    refine goes_ Tryz.func70 (by kernel_rfl) rfl #[.int .u8 y] (by rfl) rfl rfl (by first | rfl | (simp only [q4, q5, q6]; rfl)) ?_
    refine (HBy.out _).mono ?_
    rintro e w5 ⟨rfl, hd⟩
    have hb := hd.below
    refine ⟨_, rfl, ?_⟩
    refine hK.out _ _ (keep6 hHeld hb) (fun hHeld => ?_)
    clear hK K
    refine norm_ (a' := ?_) ?_ ?_
    rotate_left
    · show Act.put _ (some 87) _ = _
      simp only [Act.put, q1, q2, q3, i64_w, i32_w]
      rfl
    refine pO 25 90 (fun K hK => ?_)
    refine goes_ Tryz.func70 (by kernel_rfl) rfl #[.int .u8 n.f0] (by rfl) rfl rfl (by first | rfl | (simp only [q4, q5, q6]; rfl)) ?_
    refine (HBo.out _).mono ?_
    rintro e w5 ⟨rfl, hd⟩
    have hb := hd.below
    refine ⟨_, rfl, ?_⟩
    refine hK.out _ _ (keep6 hHeld hb) (fun hHeld => ?_)
    clear hK K
    refine norm_ (a' := ?_) ?_ ?_
    rotate_left
    · show Act.put _ (some 90) _ = _
      simp only [Act.put, q1, q2, q3, i64_w, i32_w]
      rfl
    refine pP 26 91 ?_
    refine pO 27 92 (fun K hK => ?_)
    refine goes_ Tryz.func69 (by kernel_rfl) rfl #[.string u, .bool (decide (bindQ y ≤ bindQ n.f0))] (by rfl) rfl rfl (by first | rfl | (simp only [q4, q5, q6]; rfl)) ?_
    refine (HBu.out _).mono ?_
    rintro e w5 ⟨rfl, hd⟩
    have hb := hd.below
    refine ⟨_, rfl, ?_⟩
    refine hK.out _ _ (keep6 hHeld hb) (fun hHeld => ?_)
    clear hK K
    refine norm_ (a' := ?_) ?_ ?_
    rotate_left
    · show Act.put _ (some 92) _ = _
      simp only [Act.put, q1, q2, q3, i64_w, i32_w]
      rfl
    refine pP 28 93 ?_
    refine pP 29 4 ?_
    refine done_ (done_of HT_.out (by kernel_rfl)) ?_
    go_wp2
    go_ret
    exact ⟨by rw [HHs.out]; rfl, below_then HBW.out HBW.out.size hHeld.1⟩
end Go.Proofs.YtlbjfomcgbiagaaGreatDoor.SumT
