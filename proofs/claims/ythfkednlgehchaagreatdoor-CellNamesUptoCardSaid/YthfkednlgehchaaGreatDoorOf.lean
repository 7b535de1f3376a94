/- cell.Of and weirref23.Of: their contracts. -/
import Derived.Test.YthfkednlgehchaaGreatDoorOfPure
import Derived.Test.YthfkednlgehchaaGreatDoorParse2
import Derived.Test.YthfkednlgehchaaGreatDoorRefParse
set_option linter.unusedVariables false
set_option linter.unusedSimpArgs false
namespace Go.Proofs.YthfkednlgehchaaGreatDoor.Of
open Go Go.RowKit Go.Proofs Go.Am Go.Proofs.YthfkednlgehchaaGreatDoor.Base Go.Proofs.YthfkednlgehchaaGreatDoor.Name Go.Joins
open Go.Proofs.YthfkednlgehchaaGreatDoor.RefEsc (fine badOf)

/-! ### numbers -/
/-- A value is told, nothing older is touched. -/
def Ret (v : Value) (w : World) (e : Ending) (w' : World) : Prop := e = .returned v ∧ Below w.heap.size w w'
theorem Ret.of {P : Program} {f : FuncId} {args : Array Value} {w : World} {v : Value} (h : Calls P f args w fun e w' => e = .returned v ∧ w = w') : Calls P f args w (Ret v w) := h.mono fun e w' ⟨he, hw⟩ => ⟨he, hw ▸ Below.refl _ _⟩
theorem num_new (c : Int) (hc : c ≠ 0) (w : World) : Calls Tryz.prog 13 #[.int .i64 c] w fun r w' => r = .returned (.iface 32 (.int .i64 c)) ∧ w = w' := by
  have h0 : (c == 0) = false := by simpa using hc
  go_enter Tryz.func13, Tryz.ntmps13
  go_wp2
  go_ret
  exact ⟨rfl, rfl⟩
theorem ref_new (c : Int) (w : World) : Calls Tryz.prog 16 #[.int .i64 c] w fun r w' => r = .returned (badOf c) ∧ Below w.heap.size w w' := by
  go_enter Tryz.func16, Tryz.ntmps16
  go_wp2
  refine bodyPost_ret (v := badOf c) (by simp [results, Tryz.results16, go_sem]) rfl ?_
  exact ⟨rfl, (Below.refl _ w).alloc (Nat.le_refl _) _⟩
theorem num_mod (t e : Int) (ht : I64 t) (he : 1 ≤ e) (he2 : e ≤ 288230376151711744) (w : World) : Calls Tryz.prog 31 #[.int .i64 t, .int .i64 e] w fun r w' => r = .returned (.tuple #[.int .i64 (t % e), .nilIface]) ∧ w = w' := by
  have g0 : (e == 0) = false := by simp; omega
  have g1 : (e == -1) = false := by simp; omega
  have g2 : decide (e < 0) = false := by simp; omega
  obtain ⟨b1, b2⟩ := tmod_bounds t he
  have hm := tmod_mod t he
  rw [hm]
  by_cases h : t.tmod e < 0
  · rw [if_pos h]
    have k0 : (t.tmod e != 0) = true := by simp; omega
    have k1 : decide (t.tmod e < 0) = true := by simp; omega
    clear hm
    go_enter Tryz.func31, Tryz.ntmps31
    go_wp2
    go_ret2
    exact ⟨rfl, rfl⟩
  · rw [if_neg h]
    have k1 : decide (t.tmod e < 0) = false := by simp; omega
    clear hm
    by_cases hz : t.tmod e = 0
    · have k0 : (t.tmod e != 0) = false := by simp [hz]
      rw [hz] at k0 k1
      go_enter Tryz.func31, Tryz.ntmps31
      go_wp2
      go_ret2
      exact ⟨rfl, rfl⟩
    · have k0 : (t.tmod e != 0) = true := by simp [hz]
      go_enter Tryz.func31, Tryz.ntmps31
      go_wp2
      go_ret2
      exact ⟨rfl, rfl⟩
theorem ref_mod (t e : Int) (ht : I64 t) (he : 1 ≤ e) (he2 : e ≤ 288230376151711744) (w : World) : Calls Tryz.prog 34 #[.int .i64 t, .int .i64 e] w fun r w' => r = .returned (.tuple #[.int .i64 (t % e), fine]) ∧ Below w.heap.size w w' := by
  have g0 : (e == 0) = false := by simp; omega
  have g1 : (e == -1) = false := by simp; omega
  have g2 : decide (e < 0) = false := by simp; omega
  obtain ⟨b1, b2⟩ := tmod_bounds t he
  have hm := tmod_mod t he
  rw [hm]
  by_cases h : t.tmod e < 0
  · rw [if_pos h]
    have k0 : (t.tmod e != 0) = true := by simp; omega
    have k1 : decide (t.tmod e < 0) = true := by simp; omega
    clear hm
    go_enter Tryz.func34, Tryz.ntmps34
    go_wp2
    refine bodyPost_ret (v := .tuple #[.int .i64 (t.tmod e + e), fine]) (by simp [results, Tryz.results34, go_sem]) rfl ?_
    exact ⟨rfl, (Below.refl _ w).alloc (Nat.le_refl _) _⟩
  · rw [if_neg h]
    have k1 : decide (t.tmod e < 0) = false := by simp; omega
    clear hm
    by_cases hz : t.tmod e = 0
    · have k0 : (t.tmod e != 0) = false := by simp [hz]
      rw [hz] at k0 k1
      go_enter Tryz.func34, Tryz.ntmps34
      go_wp2
      refine bodyPost_ret (v := .tuple #[.int .i64 (0), fine]) (by simp [results, Tryz.results34, go_sem]) rfl ?_
      exact ⟨rfl, (Below.refl _ w).alloc (Nat.le_refl _) _⟩
    · have k0 : (t.tmod e != 0) = true := by simp [hz]
      go_enter Tryz.func34, Tryz.ntmps34
      go_wp2
      refine bodyPost_ret (v := .tuple #[.int .i64 (t.tmod e), fine]) (by simp [results, Tryz.results34, go_sem]) rfl ?_
      exact ⟨rfl, (Below.refl _ w).alloc (Nat.le_refl _) _⟩
theorem num_modR (t e : Int) (ht : I64 t) (he : 1 ≤ e) (he2 : e ≤ 288230376151711744) (w : World) : Calls Tryz.prog 31 #[.int .i64 t, .int .i64 e] w (Ret (.tuple #[.int .i64 (t % e), .nilIface]) w) := Ret.of (num_mod t e ht he he2 w)
theorem ref_modR (t e : Int) (ht : I64 t) (he : 1 ≤ e) (he2 : e ≤ 288230376151711744) (w : World) : Calls Tryz.prog 34 #[.int .i64 t, .int .i64 e] w (Ret (.tuple #[.int .i64 (t % e), fine]) w) := ref_mod t e ht he he2 w
theorem num_newR (c : Int) (hc : c ≠ 0) (w : World) : Calls Tryz.prog 13 #[.int .i64 c] w (Ret (.iface 32 (.int .i64 c)) w) := Ret.of (num_new c hc w)
theorem ref_newR (c : Int) (w : World) : Calls Tryz.prog 16 #[.int .i64 c] w (Ret (badOf c) w) := ref_new c w
/-- What a difference is: none, where it is outside int64. -/
def subP (t r : Int) : Option Int := if t - r < -9223372036854775808 then none else some (t - r)
def SubPost (t r : Int) (w : World) (e : Ending) (w' : World) : Prop := Below w.heap.size w w' ∧ match subP t r with
  | some d => e = .returned (.tuple #[.int .i64 d, .nilIface])
  | none => ∃ v, e = .returned (.tuple #[.int .i64 0, .iface 32 v])
theorem wrap_out {n : Int} (h : n < -9223372036854775808) (h2 : -18446744073709551616 ≤ n) : wrap64 n = n + 18446744073709551616 := by
  simp [wrap64]; omega
theorem num_sub (t r : Int) (ht : I64 t) (h0 : 0 ≤ r) (h1 : r ≤ 288230376151711744) (w : World) : Calls Tryz.prog 32 #[.int .i64 t, .int .i64 r] w (SubPost t r w) := by
  obtain ⟨t1, t2⟩ := ht
  unfold SubPost subP
  by_cases h : t - r < -9223372036854775808
  · rw [if_pos h]
    have hw := wrap_out h (by omega)
    have k0 : ¬ (t - r + 18446744073709551616 < t) := by omega
    have k1 : decide (r > 0) = true := by simp; omega
    go_enter Tryz.func32, Tryz.ntmps32
    go_wp2_with (go_at_call 13; refine (num_new 20 (by decide) _).mono ?_)
    go_ret2
    exact ⟨Below.refl _ _, _, rfl⟩
  · rw [if_neg h]
    by_cases hz : r = 0
    · subst hz
      go_enter Tryz.func32, Tryz.ntmps32
      go_wp2
      go_ret2
      exact ⟨Below.refl _ _, by simp⟩
    · have k0 : decide (t - r < t) = true := by simp; omega
      have k1 : decide (r > 0) = true := by simp; omega
      go_enter Tryz.func32, Tryz.ntmps32
      go_wp2
      go_ret2
      exact ⟨Below.refl _ _, rfl⟩

/-- The document's difference. -/
def RefSubPost (t r : Int) (w : World) (e : Ending) (w' : World) : Prop := Below w.heap.size w w' ∧ match subP t r with
  | some d => e = .returned (.tuple #[.int .i64 d, fine])
  | none => e = .returned (.tuple #[.int .i64 0, badOf 20])
/-- The cells of no error. -/
def BadBox (w : World) (b : Nat) : Prop := w.heap[b]? = some (.cells #[.int .i64 0, .int .i64 0, .int .i64 0, .bool false, .bool false] 34 (0, 0))
theorem BadBox.below {w w' : World} {b : Nat} (h : BadBox w b) (hb : Below w.heap.size w w') : BadBox w' b := (hb.block b (Array.getElem?_eq_some_iff.1 h).1).trans h
theorem BadBox.new (w : World) : BadBox (w.alloc (.cells #[.int .i64 0, .int .i64 0, .int .i64 0, .bool false, .bool false] 34)) w.heap.size := Parse.alloc_new _ _
theorem BadBox.facts {w : World} {b : Nat} (h : BadBox w b) :
    w.cell? ⟨b, 0, none⟩ = some (.int .i64 0) ∧ w.cell? ⟨b, 1, none⟩ = some (.int .i64 0) ∧ w.cell? ⟨b, 2, none⟩ = some (.int .i64 0) ∧ w.cell? ⟨b, 3, none⟩ = some (.bool false) ∧ w.cell? ⟨b, 4, none⟩ = some (.bool false) ∧
    w.frozen? ⟨b, 0, none⟩ = false ∧ w.frozen? ⟨b, 1, none⟩ = false ∧ w.frozen? ⟨b, 2, none⟩ = false ∧ w.frozen? ⟨b, 3, none⟩ = false ∧ w.frozen? ⟨b, 4, none⟩ = false :=
  ⟨by rw [Lib.cell_of_heap h]; rfl, by rw [Lib.cell_of_heap h]; rfl, by rw [Lib.cell_of_heap h]; rfl, by rw [Lib.cell_of_heap h]; rfl, by rw [Lib.cell_of_heap h]; rfl,
    Lib.frozen_of_heap h 0, Lib.frozen_of_heap h 1, Lib.frozen_of_heap h 2, Lib.frozen_of_heap h 3, Lib.frozen_of_heap h 4⟩
theorem five {w0 w : World} {b : Nat} (h : Below w0.heap.size w0 w) (hb : w0.heap.size ≤ b) (u0 u1 u2 u3 u4 : Value) :
    Below w0.heap.size w0 (((((w.setCell ⟨b, 0, none⟩ u0).setCell ⟨b, 1, none⟩ u1).setCell ⟨b, 2, none⟩ u2).setCell ⟨b, 3, none⟩ u3).setCell ⟨b, 4, none⟩ u4) :=
  ((((h.setCell (p := ⟨b, 0, none⟩) hb _).setCell (p := ⟨b, 1, none⟩) hb _).setCell (p := ⟨b, 2, none⟩) hb _).setCell (p := ⟨b, 3, none⟩) hb _).setCell (p := ⟨b, 4, none⟩) hb _

set_option maxHeartbeats 4000000 in
theorem ref_sub (t r : Int) (ht : I64 t) (h0 : 0 ≤ r) (h1 : r ≤ 288230376151711744) (w : World) : Calls Tryz.prog 35 #[.int .i64 t, .int .i64 r] w (RefSubPost t r w) := by
  obtain ⟨t1, t2⟩ := ht
  unfold RefSubPost subP
  have HB := Lib.hid ((Below.refl _ w).alloc (Nat.le_refl _) (.cells #[.int .i64 0, .int .i64 0, .int .i64 0, .bool false, .bool false] 34))
  by_cases h : t - r < -9223372036854775808
  · rw [if_pos h]
    have hw := wrap_out h (by omega)
    have k0 : decide (t - r + 18446744073709551616 > t) = true := by simp; omega
    have k1 : decide (r > 0) = true := by simp; omega
    have hbb := Lib.hid (BadBox.new w)
    go_enter Tryz.func35, Tryz.ntmps35
    go_wp2_with (go_at_call 16; refine (ref_newR 20 _).mono ?_)
    rintro e w' hret
    obtain ⟨rfl, hb⟩ := hret
    obtain ⟨s0, s1, s2, s3, s4, q0, q1, q2, q3, q4⟩ := (hbb.out.below hb).facts
    have HB2 := Lib.hid (HB.out.trans (hb.mono HB.out.size))
    clear hb
    go_wp2
    refine bodyPost_ret (v := .tuple #[.int .i64 0, badOf 20]) (by simp [results, Tryz.results35, go_sem, s0, s1, s2, s3, s4]) rfl ?_
    exact ⟨five HB2.out (Nat.le_refl _) _ _ _ _ _, rfl⟩
  · rw [if_neg h]
    have k2 : decide (r < 0) = false := by simp; omega
    by_cases hz : r = 0
    · subst hz
      go_enter Tryz.func35, Tryz.ntmps35
      go_wp2
      refine bodyPost_ret (v := .tuple #[.int .i64 t, fine]) (by simp [results, Tryz.results35, go_sem]) rfl ?_
      exact ⟨HB.out, by simp⟩
    · have k0 : decide (t - r > t) = false := by simp; omega
      have k1 : decide (r > 0) = true := by simp; omega
      go_enter Tryz.func35, Tryz.ntmps35
      go_wp2
      refine bodyPost_ret (v := .tuple #[.int .i64 (t - r), fine]) (by simp [results, Tryz.results35, go_sem]) rfl ?_
      exact ⟨HB.out, rfl⟩

set_option maxHeartbeats 4000000 in
theorem num_win (t e o : Int) (ht : I64 t) (he : 1 ≤ e) (he2 : e ≤ 288230376151711744) (ho : 0 ≤ o) (hoe : o < e) (w : World) : Calls Tryz.prog 14 #[.int .i64 t, .int .i64 e, .int .i64 o] w (SubPost t (back t e o) w) := by
  have g0 : decide (e < 1) = false := by simp; omega
  have g1 : decide (o < 0) = false := by simp; omega
  have g2 : decide (o ≥ e) = false := by simp; omega
  obtain ⟨m0, m1⟩ := mod_bounds t he
  obtain ⟨b0, b1⟩ := back_bounds t he ho hoe
  by_cases h : t % e - o < 0
  · have hb : back t e o = t % e - o + e := if_pos h
    have k0 : decide (t % e - o < 0) = true := by simp; omega
    rw [hb] at b0 b1 ⊢
    have HS := Lib.hid (num_sub t (t % e - o + e) ht b0 (by omega))
    clear hb
    go_enter Tryz.func14, Tryz.ntmps14
    go_wp2_with (go_at_call 31; refine (num_modR t e ht he he2 _).mono ?_)
    rintro e1 w2 hret
    obtain ⟨rfl, hb2⟩ := hret
    go_wp2_with (go_at_call 32; refine (HS.out _).mono ?_)
    rintro e1 w3 hret
    obtain ⟨hb3, hm⟩ := hret
    cases hs : subP t (t % e - o + e) with
    | none =>
      rw [hs] at hm
      obtain ⟨v, rfl⟩ := hm
      go_wp2
      go_ret2
      exact ⟨hb2.trans (hb3.mono hb2.size), by rw [hs]; exact ⟨v, rfl⟩⟩
    | some d =>
      rw [hs] at hm
      simp only at hm
      subst hm
      go_wp2
      go_ret2
      exact ⟨hb2.trans (hb3.mono hb2.size), by rw [hs]; rfl⟩
  · have hb : back t e o = t % e - o := if_neg h
    have k0 : decide (t % e - o < 0) = false := by simp; omega
    rw [hb] at b0 b1 ⊢
    have HS := Lib.hid (num_sub t (t % e - o) ht b0 (by omega))
    clear hb
    go_enter Tryz.func14, Tryz.ntmps14
    go_wp2_with (go_at_call 31; refine (num_modR t e ht he he2 _).mono ?_)
    rintro e1 w2 hret
    obtain ⟨rfl, hb2⟩ := hret
    go_wp2_with (go_at_call 32; refine (HS.out _).mono ?_)
    rintro e1 w3 hret
    obtain ⟨hb3, hm⟩ := hret
    cases hs : subP t (t % e - o) with
    | none =>
      rw [hs] at hm
      obtain ⟨v, rfl⟩ := hm
      go_wp2
      go_ret2
      exact ⟨hb2.trans (hb3.mono hb2.size), by rw [hs]; exact ⟨v, rfl⟩⟩
    | some d =>
      rw [hs] at hm
      simp only at hm
      subst hm
      go_wp2
      go_ret2
      exact ⟨hb2.trans (hb3.mono hb2.size), by rw [hs]; rfl⟩

set_option maxHeartbeats 4000000 in
theorem ref_win (t e o : Int) (ht : I64 t) (he : 1 ≤ e) (he2 : e ≤ 288230376151711744) (ho : 0 ≤ o) (hoe : o < e) (w : World) : Calls Tryz.prog 17 #[.int .i64 t, .int .i64 e, .int .i64 o] w (RefSubPost t (back t e o) w) := by
  have g0 : decide (e < 1) = false := by simp; omega
  have g1 : decide (o < 0) = false := by simp; omega
  have g2 : decide (o ≥ e) = false := by simp; omega
  obtain ⟨m0, m1⟩ := mod_bounds t he
  obtain ⟨b0, b1⟩ := back_bounds t he ho hoe
  by_cases h : t % e - o < 0
  · have hb : back t e o = t % e - o + e := if_pos h
    have k0 : decide (t % e - o < 0) = true := by simp; omega
    rw [hb] at b0 b1 ⊢
    have HS := Lib.hid (ref_sub t (t % e - o + e) ht b0 (by omega))
    have HBB := Lib.hid (BadBox.new w)
    have HB := Lib.hid ((Below.refl _ w).alloc (Nat.le_refl _) (.cells #[.int .i64 0, .int .i64 0, .int .i64 0, .bool false, .bool false] 34))
    clear hb
    go_enter Tryz.func17, Tryz.ntmps17
    go_wp2_with (go_at_call 34; refine (ref_modR t e ht he he2 _).mono ?_)
    rintro e1 w2 hret
    obtain ⟨rfl, hb2⟩ := hret
    have HBB2 := Lib.hid ((HBB.out.below hb2).below ((Below.refl _ w2).alloc (Nat.le_refl _) (.cells #[.int .i64 0, .int .i64 0, .int .i64 0, .bool false, .bool false] 34)))
    have HB2 := Lib.hid ((HB.out.trans (hb2.mono HB.out.size)).alloc (by have := hb2.size; simp at this; omega) (.cells #[.int .i64 0, .int .i64 0, .int .i64 0, .bool false, .bool false] 34))
    clear hb2
    go_wp2_with (go_at_call 35; refine (HS.out _).mono ?_)
    rintro e1 w3 hret
    obtain ⟨hb3, hm⟩ := hret
    have HBB3 := Lib.hid (HBB2.out.below hb3)
    have HB3 := Lib.hid (HB2.out.trans (hb3.mono HB2.out.size))
    obtain ⟨s0, s1, s2, s3, s4, q0, q1, q2, q3, q4⟩ := HBB3.out.facts
    clear hb3
    cases hs : subP t (t % e - o + e) with
    | none =>
      rw [hs] at hm
      simp only at hm
      subst hm
      go_wp2
      refine bodyPost_ret (v := .tuple #[.int .i64 0, badOf 20]) (by simp [results, Tryz.results17, go_sem, s0, s1, s2, s3, s4]) rfl ?_
      exact ⟨five HB3.out (Nat.le_refl _) _ _ _ _ _, by rw [hs]⟩
    | some d =>
      rw [hs] at hm
      simp only at hm
      subst hm
      go_wp2
      refine bodyPost_ret (v := .tuple #[.int .i64 d, fine]) (by simp [results, Tryz.results17, go_sem, s0, s1, s2, s3, s4]) rfl ?_
      exact ⟨five HB3.out (Nat.le_refl _) _ _ _ _ _, by rw [hs]⟩
  · have hb : back t e o = t % e - o := if_neg h
    have k0 : decide (t % e - o < 0) = false := by simp; omega
    rw [hb] at b0 b1 ⊢
    have HS := Lib.hid (ref_sub t (t % e - o) ht b0 (by omega))
    have HBB := Lib.hid (BadBox.new w)
    have HB := Lib.hid ((Below.refl _ w).alloc (Nat.le_refl _) (.cells #[.int .i64 0, .int .i64 0, .int .i64 0, .bool false, .bool false] 34))
    clear hb
    go_enter Tryz.func17, Tryz.ntmps17
    go_wp2_with (go_at_call 34; refine (ref_modR t e ht he he2 _).mono ?_)
    rintro e1 w2 hret
    obtain ⟨rfl, hb2⟩ := hret
    have HBB2 := Lib.hid ((HBB.out.below hb2).below ((Below.refl _ w2).alloc (Nat.le_refl _) (.cells #[.int .i64 0, .int .i64 0, .int .i64 0, .bool false, .bool false] 34)))
    have HB2 := Lib.hid ((HB.out.trans (hb2.mono HB.out.size)).alloc (by have := hb2.size; simp at this; omega) (.cells #[.int .i64 0, .int .i64 0, .int .i64 0, .bool false, .bool false] 34))
    clear hb2
    go_wp2_with (go_at_call 35; refine (HS.out _).mono ?_)
    rintro e1 w3 hret
    obtain ⟨hb3, hm⟩ := hret
    have HBB3 := Lib.hid (HBB2.out.below hb3)
    have HB3 := Lib.hid (HB2.out.trans (hb3.mono HB2.out.size))
    obtain ⟨s0, s1, s2, s3, s4, q0, q1, q2, q3, q4⟩ := HBB3.out.facts
    clear hb3
    cases hs : subP t (t % e - o) with
    | none =>
      rw [hs] at hm
      simp only at hm
      subst hm
      go_wp2
      refine bodyPost_ret (v := .tuple #[.int .i64 0, badOf 20]) (by simp [results, Tryz.results17, go_sem, s0, s1, s2, s3, s4]) rfl ?_
      exact ⟨five HB3.out (Nat.le_refl _) _ _ _ _ _, by rw [hs]⟩
    | some d =>
      rw [hs] at hm
      simp only at hm
      subst hm
      go_wp2
      refine bodyPost_ret (v := .tuple #[.int .i64 d, fine]) (by simp [results, Tryz.results17, go_sem, s0, s1, s2, s3, s4]) rfl ?_
      exact ⟨five HB3.out (Nat.le_refl _) _ _ _ _ _, by rw [hs]⟩
end Go.Proofs.YthfkednlgehchaaGreatDoor.Of
