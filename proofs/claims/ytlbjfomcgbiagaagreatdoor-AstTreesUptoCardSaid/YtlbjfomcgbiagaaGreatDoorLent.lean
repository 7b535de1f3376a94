/- lent and kept: a list in memory of its own, a marked node behind it. -/
import Derived.Test.YtlbjfomcgbiagaaGreatDoorCondT
namespace Go.Proofs.YtlbjfomcgbiagaaGreatDoor.Walks
open Go.RowKit Go.Proofs.YtlbjfomcgbiagaaGreatDoorW.PrintWords Go.Proofs.YtlbjfomcgbiagaaGreatDoorW.PrintLast Go.Proofs Go.Proofs.YtlbjfomcgbiagaaGreatDoor Go.Proofs.YtlbjfomcgbiagaaGreatDoor.Base Go.Proofs.YtlbjfomcgbiagaaGreatDoorW.PrintMore Go.Proofs.YtlbjfomcgbiagaaGreatDoor.Print
attribute [local go_sem] max2_int min2_int max_two min_two max_three min_three max_four min_four
set_option linter.unusedVariables false
set_option linter.unusedSimpArgs false

theorem infoN : (Tryz.prog.info? 56).map (fun i => (i.zero, i.size, i.bytes)) = some (some (.agg #[(.int .u8 0), (.int .u8 0), (.string ⟨#[]⟩), (.int .i64 0), (.int .i64 0), (.int .i64 0)]), 6, 48) := by kernel_rfl
/-- The node behind what is lent. -/
def mark77 : S56 := ⟨77, 0, (⟨#[]⟩ : ByteArray), 0, 0, 0⟩
set_option maxHeartbeats 8000000 in
set_option maxRecDepth 100000 in
theorem lent_calls (A0 : Option Addr) (c0 : Nat) (l0 : List (S56)) (w : World) (hr0 : Kd.C k56 w A0 l0.length l0) (hc0 : l0.length ≤ c0) (hlt : l0.length < 2932031007400) :
    Calls Tryz.prog 7 #[.slice A0 l0.length c0] w fun e w' => ∃ (A : Option Addr) (c : Nat), e = .returned (.slice A l0.length c) ∧ l0.length + 1 ≤ c ∧ Kd.C k56 w' A (l0.length + 1) (l0 ++ [mark77]) ∧ Below w.heap.size w w' := by
  have hu35 := Tryz.underlying56
  have HR0 := Aside0.mk hr0
  have HC0 := Aside0.mk hc0
  have LMc2 : Aside0 (([] : List (S56)).length + l0.length < 2932031007402) := ⟨by simp; omega⟩
  have LMc3 : Aside0 ((([] : List (S56)) ++ l0).length < 2932031007402) := ⟨by simp; omega⟩
  have hq0 : (decide ((0 : Int) ≤ (l0.length : Int))) = true := decide_eq_true (by omega)
  clear hr0 hc0 hlt
  have HB := Aside0.mk (Below.refl w.heap.size w)
  go_enter Tryz.func7, Tryz.ntmps7
  go_wp2_with (first | ((with_reducible refine gate_builtin (b := .append) (xs := #[.tmp 4, .tmp 5]) rfl ?_); at_builtin; refine Kd.R_append_rows k56 (w0 := w) w.heap.size rfl (.tmp 4) (.tmp 5) 22 56 (.agg #[(.int .u8 0), (.int .u8 0), (.string ⟨#[]⟩), (.int .i64 0), (.int .i64 0), (.int .i64 0)]) 48 rfl Tryz.underlying22 infoN rfl (by decide) (by omega) (.slice none 0 0) ([] : List (S56)) l0 _ _ _ (fun _ => True) (fun _ => False) rfl rfl ?aO ?aR (fun _ _ h => h) (fun _ h => h.elim) ?aF ?aB ?aS ?aL ?_; (case aR => repeat (first | exact HR0.out | (with_reducible refine Kd.C_alloc ?_ _) | (with_reducible refine Kd.C_drewN ?_ _) | (with_reducible refine Kd.C_drew ?_))); (case aB => exact (by repeat (first | (with_reducible first | exact HB.out | apply below_alloc | apply pw_below_drewN | apply below_drew1) | exact HB.out))); (case aF => exact (fun _ _ => trivial)); (case aO => exact ((Kd.R_nil _ _ _ _ (fun _ => True)))); (case aS => exact (below_size (by repeat (first | (with_reducible first | exact HB.out | apply below_alloc | apply pw_below_drewN | apply below_drew1) | exact HB.out)))); (case aL => have := LMc2.out; omega); intro v102 w6 ho hb hg hat; have n0_ := Aside0.mk (hb); have n1_ := Aside0.mk (ho); clear HB; have HB := n0_; have HO103 := n1_; clear n0_ n1_; clear ho hb hg hat) | ((with_reducible refine gate_builtin (b := .append) (xs := #[.tmp 7, .tmp 9]) rfl ?_); at_builtin; refine Kd.R_append k56 (w0 := w) w.heap.size rfl (.tmp 7) (.tmp 9) 22 56 (.agg #[(.int .u8 0), (.int .u8 0), (.string ⟨#[]⟩), (.int .i64 0), (.int .i64 0), (.int .i64 0)]) 48 rfl Tryz.underlying22 infoN rfl (by decide) (by omega) v102 (([] : List (S56)) ++ l0) mark77 [.int .u8 77, .int .u8 0, .string (⟨#[]⟩ : ByteArray), .int .i64 0, .int .i64 0, .int .i64 0] (fun _ => True) (fun _ => False) rfl rfl ?aP (fun _ hk => hk.elim) ?aF ?aO ?aB ?aS ?aL ?_; (case aP => exact k56_mkM _ _ _ mark77); (case aB => exact (by repeat (first | (with_reducible first | exact HB.out | apply below_alloc | apply pw_below_drewN | apply below_drew1) | exact HB.out))); (case aF => exact (fun _ _ => trivial)); (case aO => exact (by (with_reducible repeat (first | apply Kd.R_alloc | apply Kd.R_drewN | apply Kd.R_drew)); exact HO103.out)); (case aS => exact (below_size (by repeat (first | (with_reducible first | exact HB.out | apply below_alloc | apply pw_below_drewN | apply below_drew1) | exact HB.out)))); (case aL => have := LMc3.out; omega); intro v105 w7 ho hb hg hat; have n0_ := Aside0.mk (hb); have n1_ := Aside0.mk (ho); clear HB; clear HO103; have HB := n0_; have HO106 := n1_; clear n0_ n1_; clear ho hb hg hat; obtain ⟨Ao8, co8, eo8⟩ := Kd.R_slice HO106.out; subst eo8; have hl10 : (([] : List (S56)) ++ l0 ++ [mark77]).length = l0.length + 1 := (by simp); have q9 : ((l0.length : Int) : Int) ≤ (((([] : List (S56)) ++ l0 ++ [mark77]).length : Int) : Int) := (by rw [hl10]; omega); obtain ⟨i09, hi09, _, hsz9, _⟩ := info_parts infoN; have hcut9 := cut_to (P := Tryz.prog) 22 56 .i64 Tryz.underlying22 hi09 Ao8 (([] : List (S56)) ++ l0 ++ [mark77]).length co8 (l0.length : Int) (by omega) q9 (Kd.R_reads' HO106.out).2.1; rw [hl10, Int.toNat_natCast] at hcut9; rw [hl10] at q9; have hcap9 : l0.length ≤ co8 := (by have h_ := (Kd.R_reads' HO106.out).2.1; rw [hl10] at h_; omega); have hcap8 : (l0.length ≤ co8) = True := eq_true hcap9; clear hi09 hsz9; replace q9 := eq_true q9))
  go_ret
  have hfin := Kd.R_reads' HO106.out
  refine ⟨Ao8, co8, rfl, ?_, ?_, by repeat (first | (with_reducible first | exact HB.out | apply below_alloc | apply pw_below_drewN | apply below_drew1) | exact HB.out)⟩
  · have h1 := hfin.2.1
    rw [hl10] at h1
    exact h1
  · have h2 := hfin.2.2
    rw [hl10] at h2
    exact h2
set_option maxHeartbeats 4000000 in
set_option maxRecDepth 100000 in
theorem kept_calls (A : Option Addr) (c : Nat) (l : List (S56)) (A1 : Option Addr) (c1 : Nat) (w : World) (hr0 : Kd.C k56 w A (l.length + 1) (l ++ [mark77])) (hc0 : l.length + 1 ≤ c) (hr1 : Kd.C k56 w A1 l.length l) :
    Calls Tryz.prog 18 #[.slice A l.length c, .slice A1 l.length c1] w fun e w' => e = .returned (.bool true) ∧ Below w.heap.size w w' := by
  have hm0 := Kd.C_max hr0
  have HR0 := Aside0.mk hr0
  have HR1 := Aside0.mk hr1
  have HC0 := Aside0.mk hc0
  clear hr0 hr1 hc0
  go_enter Tryz.func18, Tryz.ntmps18
  go_wp2
  go_loopw [5] (fun i wr => ∃ k : Nat, k ≤ l.length ∧ i = .int .i64 k ∧ Aside0 (Below w.heap.size w wr)) (fun i _ => l.length - (intOf i).toNat)
  case atStart => exact ⟨0, Nat.zero_le _, rfl, ⟨Below.refl _ _⟩⟩
  case round =>
    obtain ⟨k, hk, rfl, HB⟩ := hrel
    by_cases hlt : k < l.length
    · obtain ⟨ad, rfl, hx0, hx1, hx2, hx3, hx4, hx5⟩ := at_T56 (Kd.C_below HR0.out HB.out) (k : Int) (by omega) (by omega)
      obtain ⟨bd, rfl, hy0, hy1, hy2, hy3, hy4, hy5⟩ := at_T56 (Kd.C_below HR1.out HB.out) (k : Int) (by omega) (by omega)
      simp only [Int.toNat_natCast] at hx0 hx1 hx2 hx3 hx4 hx5 hy0 hy1 hy2 hy3 hy4 hy5
      have hs : rd_T56 (l ++ [mark77]) (k : Int) = rd_T56 l (k : Int) := by
        simp [rd_T56, List.getD_eq_getElem?_getD, List.getElem?_append_left hlt]
      rw [hs] at hx0 hx1 hx2 hx3 hx4 hx5
      obtain ⟨x, hx⟩ : ∃ n, rd_T56 l (k : Int) = n := ⟨_, rfl⟩
      rw [hx] at hx0 hx1 hx2 hx3 hx4 hx5 hy0 hy1 hy2 hy3 hy4 hy5
      clear hs hx
      go_wp2
      go_region
      all_goals go_wp2
      go_roundw
      case rel => exact ⟨k + 1, by omega, by go_num, ⟨by repeat (first | exact HB.out | apply below_alloc | apply below_drew1 | apply pw_below_drewN)⟩⟩
      case measure => simp [intOf]; omega
    · obtain rfl : k = l.length := by omega
      obtain ⟨ad, rfl, hx0, hx1, hx2, hx3, hx4, hx5⟩ := at_T56 (Kd.C_below HR0.out HB.out) (l.length : Int) (by omega) (by omega)
      simp only [Int.toNat_natCast] at hx0
      have hs : rd_T56 (l ++ [mark77]) (l.length : Int) = mark77 := by simp [rd_T56, List.getD_eq_getElem?_getD]
      rw [hs] at hx0
      clear hx1 hx2 hx3 hx4 hx5 hs
      have hwr : wrap64 ((l.length : Int) + 1) = (l.length : Int) + 1 := by unfold wrap64; omega
      go_wp2
      all_goals first
        | (go_ret
           exact ⟨rfl, HB.out⟩)
        | (exfalso
           have h1 := HC0.out
           rename_i h2
           exact h2 (by omega))
theorem C_init {A : Option Addr} {w : World} {l : List S56} {m : S56} (h : Kd.C k56 w A (l.length + 1) (l ++ [m])) : Kd.C k56 w A l.length l := by
  obtain ⟨_, h1, h2⟩ := h
  refine ⟨rfl, by omega, fun hp => ?_⟩
  obtain ⟨ad, e, hc⟩ := h2 (by omega)
  exact ⟨ad, e, fun j p hj => hc j p (by rw [List.getElem?_append_left (List.getElem?_eq_some_iff.1 hj).1]; exact hj)⟩
end Go.Proofs.YtlbjfomcgbiagaaGreatDoor.Walks
