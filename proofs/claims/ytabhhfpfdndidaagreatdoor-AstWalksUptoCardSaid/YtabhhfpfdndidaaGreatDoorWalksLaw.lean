/- AstWalks: the walk of lent, kept and of the law itself. -/
import Derived.Test.YtabhhfpfdndidaaGreatDoorPrint0
import Derived.Test.YtabhhfpfdndidaaGreatDoorPrint8
import Derived.Test.YtabhhfpfdndidaaGreatDoorPrint14
import Derived.Test.YtabhhfpfdndidaaGreatDoorPrint15
namespace Go.Proofs.YtabhhfpfdndidaaGreatDoor.Walks
open Go.RowKit Go.Proofs.YtabhhfpfdndidaaGreatDoorW.PrintWords Go.Proofs.YtabhhfpfdndidaaGreatDoorW.PrintLast Go.Proofs Go.Proofs.YtabhhfpfdndidaaGreatDoor Go.Proofs.YtabhhfpfdndidaaGreatDoor.Base Go.Proofs.YtabhhfpfdndidaaGreatDoorW.PrintMore Go.Proofs.YtabhhfpfdndidaaGreatDoor.Print
attribute [local go_sem] max2_int min2_int max_two min_two max_three min_three max_four min_four
set_option linter.unusedVariables false
set_option linter.unusedSimpArgs false

/-- The node behind what is lent. -/
def mark77 : S35 := ⟨77, 0, (⟨#[]⟩ : ByteArray), 0, 0, 0⟩
set_option maxHeartbeats 8000000 in
set_option maxRecDepth 100000 in
theorem lent_calls (A0 : Option Addr) (c0 : Nat) (l0 : List (S35)) (w : World) (hr0 : Kd.C k35 w A0 l0.length l0) (hc0 : l0.length ≤ c0) (hlt : l0.length < 2932031007400) :
    Calls Tryz.prog 13 #[.slice A0 l0.length c0] w fun e w' => ∃ (A : Option Addr) (c : Nat), e = .returned (.slice A l0.length c) ∧ l0.length + 1 ≤ c ∧ Kd.C k35 w' A (l0.length + 1) (l0 ++ [mark77]) ∧ Below w.heap.size w w' := by
  have hu35 := Tryz.underlying35
  have HR0 := Aside0.mk hr0
  have HC0 := Aside0.mk hc0
  have LMc2 : Aside0 (([] : List (S35)).length + l0.length < 2932031007402) := ⟨by simp; omega⟩
  have LMc3 : Aside0 ((([] : List (S35)) ++ l0).length < 2932031007402) := ⟨by simp; omega⟩
  have hq0 : (decide ((0 : Int) ≤ (l0.length : Int))) = true := decide_eq_true (by omega)
  clear hr0 hc0 hlt
  have HB := Aside0.mk (Below.refl w.heap.size w)
  go_enter Tryz.func13, Tryz.ntmps13
  go_wp2_with (first | ((with_reducible refine gate_builtin (b := .append) (xs := #[.tmp 4, .tmp 5]) rfl ?_); at_builtin; refine Kd.R_append_rows k35 (w0 := w) w.heap.size rfl (.tmp 4) (.tmp 5) 22 35 (.agg #[(.int .u8 0), (.int .u8 0), (.string ⟨#[]⟩), (.int .i64 0), (.int .i64 0), (.int .i64 0)]) 48 rfl Tryz.underlying22 info35 rfl (by decide) (by omega) (.slice none 0 0) ([] : List (S35)) l0 _ _ _ (fun _ => True) (fun _ => False) rfl rfl ?aO ?aR (fun _ _ h => h) (fun _ h => h.elim) ?aF ?aB ?aS ?aL ?_; (case aR => repeat (first | exact HR0.out | (with_reducible refine Kd.C_alloc ?_ _) | (with_reducible refine Kd.C_drewN ?_ _) | (with_reducible refine Kd.C_drew ?_))); (case aB => exact (by repeat (first | (with_reducible first | exact HB.out | apply below_alloc | apply pw_below_drewN | apply below_drew1) | exact HB.out))); (case aF => exact (fun _ _ => trivial)); (case aO => exact ((Kd.R_nil _ _ _ _ (fun _ => True)))); (case aS => exact (below_size (by repeat (first | (with_reducible first | exact HB.out | apply below_alloc | apply pw_below_drewN | apply below_drew1) | exact HB.out)))); (case aL => have := LMc2.out; omega); intro v102 w6 ho hb hg hat; have n0_ := Aside0.mk (hb); have n1_ := Aside0.mk (ho); clear HB; have HB := n0_; have HO103 := n1_; clear n0_ n1_; clear ho hb hg hat) | ((with_reducible refine gate_builtin (b := .append) (xs := #[.tmp 7, .tmp 9]) rfl ?_); at_builtin; refine Kd.R_append k35 (w0 := w) w.heap.size rfl (.tmp 7) (.tmp 9) 22 35 (.agg #[(.int .u8 0), (.int .u8 0), (.string ⟨#[]⟩), (.int .i64 0), (.int .i64 0), (.int .i64 0)]) 48 rfl Tryz.underlying22 info35 rfl (by decide) (by omega) v102 (([] : List (S35)) ++ l0) mark77 [.int .u8 77, .int .u8 0, .string (⟨#[]⟩ : ByteArray), .int .i64 0, .int .i64 0, .int .i64 0] (fun _ => True) (fun _ => False) rfl rfl ?aP (fun _ hk => hk.elim) ?aF ?aO ?aB ?aS ?aL ?_; (case aP => exact k35_mkM _ _ _ mark77); (case aB => exact (by repeat (first | (with_reducible first | exact HB.out | apply below_alloc | apply pw_below_drewN | apply below_drew1) | exact HB.out))); (case aF => exact (fun _ _ => trivial)); (case aO => exact (by (with_reducible repeat (first | apply Kd.R_alloc | apply Kd.R_drewN | apply Kd.R_drew)); exact HO103.out)); (case aS => exact (below_size (by repeat (first | (with_reducible first | exact HB.out | apply below_alloc | apply pw_below_drewN | apply below_drew1) | exact HB.out)))); (case aL => have := LMc3.out; omega); intro v105 w7 ho hb hg hat; have n0_ := Aside0.mk (hb); have n1_ := Aside0.mk (ho); clear HB; clear HO103; have HB := n0_; have HO106 := n1_; clear n0_ n1_; clear ho hb hg hat; obtain ⟨Ao8, co8, eo8⟩ := Kd.R_slice HO106.out; subst eo8; have hl10 : (([] : List (S35)) ++ l0 ++ [mark77]).length = l0.length + 1 := (by simp); have q9 : ((l0.length : Int) : Int) ≤ (((([] : List (S35)) ++ l0 ++ [mark77]).length : Int) : Int) := (by rw [hl10]; omega); obtain ⟨i09, hi09, _, hsz9, _⟩ := info_parts info35; have hcut9 := cut_to (P := Tryz.prog) 22 35 .i64 Tryz.underlying22 hi09 Ao8 (([] : List (S35)) ++ l0 ++ [mark77]).length co8 (l0.length : Int) (by omega) q9 (Kd.R_reads' HO106.out).2.1; rw [hl10, Int.toNat_natCast] at hcut9; rw [hl10] at q9; have hcap9 : l0.length ≤ co8 := (by have h_ := (Kd.R_reads' HO106.out).2.1; rw [hl10] at h_; omega); have hcap8 : (l0.length ≤ co8) = True := eq_true hcap9; clear hi09 hsz9; replace q9 := eq_true q9))
  go_ret
  have hfin := Kd.R_reads' HO106.out
  refine ⟨Ao8, co8, rfl, ?_, ?_, by repeat (first | (with_reducible first | exact HB.out | apply below_alloc | apply pw_below_drewN | apply below_drew1) | exact HB.out)⟩
  · have h1 := hfin.2.1
    rw [hl10] at h1
    exact h1
  · have h2 := hfin.2.2
    rw [hl10] at h2
    exact h2
set_option maxHeartbeats 4000000 in
set_option maxRecDepth 100000 in
theorem kept_calls (A : Option Addr) (c : Nat) (l : List (S35)) (A1 : Option Addr) (c1 : Nat) (w : World) (hr0 : Kd.C k35 w A (l.length + 1) (l ++ [mark77])) (hc0 : l.length + 1 ≤ c) (hr1 : Kd.C k35 w A1 l.length l) :
    Calls Tryz.prog 22 #[.slice A l.length c, .slice A1 l.length c1] w fun e w' => e = .returned (.bool true) ∧ Below w.heap.size w w' := by
  have hm0 := Kd.C_max hr0
  have HR0 := Aside0.mk hr0
  have HR1 := Aside0.mk hr1
  have HC0 := Aside0.mk hc0
  clear hr0 hr1 hc0
  go_enter Tryz.func22, Tryz.ntmps22
  go_wp2
  go_loopw [5] (fun i wr => ∃ k : Nat, k ≤ l.length ∧ i = .int .i64 k ∧ Aside0 (Below w.heap.size w wr)) (fun i _ => l.length - (intOf i).toNat)
  case atStart => exact ⟨0, Nat.zero_le _, rfl, ⟨Below.refl _ _⟩⟩
  case round =>
    obtain ⟨k, hk, rfl, HB⟩ := hrel
    by_cases hlt : k < l.length
    · obtain ⟨ad, rfl, hx0, hx1, hx2, hx3, hx4, hx5⟩ := at_T35 (Kd.C_below HR0.out HB.out) (k : Int) (by omega) (by omega)
      obtain ⟨bd, rfl, hy0, hy1, hy2, hy3, hy4, hy5⟩ := at_T35 (Kd.C_below HR1.out HB.out) (k : Int) (by omega) (by omega)
      simp only [Int.toNat_natCast] at hx0 hx1 hx2 hx3 hx4 hx5 hy0 hy1 hy2 hy3 hy4 hy5
      have hs : rd_T35 (l ++ [mark77]) (k : Int) = rd_T35 l (k : Int) := by
        simp [rd_T35, List.getD_eq_getElem?_getD, List.getElem?_append_left hlt]
      rw [hs] at hx0 hx1 hx2 hx3 hx4 hx5
      obtain ⟨x, hx⟩ : ∃ n, rd_T35 l (k : Int) = n := ⟨_, rfl⟩
      rw [hx] at hx0 hx1 hx2 hx3 hx4 hx5 hy0 hy1 hy2 hy3 hy4 hy5
      clear hs hx
      go_wp2
      go_region
      all_goals go_wp2
      go_roundw
      case rel => exact ⟨k + 1, by omega, by go_num, ⟨by repeat (first | exact HB.out | apply below_alloc | apply below_drew1 | apply pw_below_drewN)⟩⟩
      case measure => simp [intOf]; omega
    · obtain rfl : k = l.length := by omega
      obtain ⟨ad, rfl, hx0, hx1, hx2, hx3, hx4, hx5⟩ := at_T35 (Kd.C_below HR0.out HB.out) (l.length : Int) (by omega) (by omega)
      simp only [Int.toNat_natCast] at hx0
      have hs : rd_T35 (l ++ [mark77]) (l.length : Int) = mark77 := by simp [rd_T35, List.getD_eq_getElem?_getD]
      rw [hs] at hx0
      clear hx1 hx2 hx3 hx4 hx5 hs
      have hwr : wrap64 ((l.length : Int) + 1) = (l.length : Int) + 1 := by unfold wrap64; omega
      go_wp2
      all_goals first
        | (go_ret
           exact ⟨rfl, HB.out⟩)
        | (exfalso
           have h1 := HC0.out
           rename_i h2
           exact h2 (by omega))
theorem C_init {A : Option Addr} {w : World} {l : List S35} {m : S35} (h : Kd.C k35 w A (l.length + 1) (l ++ [m])) : Kd.C k35 w A l.length l := by
  obtain ⟨_, h1, h2⟩ := h
  refine ⟨rfl, by omega, fun hp => ?_⟩
  obtain ⟨ad, e, hc⟩ := h2 (by omega)
  exact ⟨ad, e, fun j p hj => hc j p (by rw [List.getElem?_append_left (List.getElem?_eq_some_iff.1 hj).1]; exact hj)⟩
set_option maxHeartbeats 4000000 in
set_option maxRecDepth 100000 in
theorem walks_calls (K : Nat) (A0 : Option Addr) (c0 : Nat) (l : List S35) (a1 : Int) (ks : Int → List Int) (en : Int → Int) (d : Int) (w : World) (hr0 : Kd.C k35 w A0 l.length l) (hc0 : l.length ≤ c0) (hlt : l.length < 2932031007400) (hG : Globs w)
    (hK : ∀ i : Int, (-1 ≤ i ∧ i ≤ l.length) ∨ i = a1 → ast_Kids.f K l i = some (ks i) ∧ weirtree_Kids.f K l i = some (ks i) ∧ ast_End.f K l i = some (en i) ∧ weirtree_End.f K l i = some (en i) ∧ weirmem_SameInts.f K (ks i) (ks i) = some true)
    (hd1 : ast_Depth.f K l = some d) (hd2 : weirtree_Depth.f K l = some d) (hlive : weirlaw13_live.f K = some true) :
    Calls Tryz.prog 3 #[.slice A0 l.length c0, .int .i64 a1] w fun e w' => e = .returned (.bool true) ∧ Below w.heap.size w w' := by
  have hm0 := Kd.C_max hr0
  have hL := lent_calls A0 c0 l w hr0 hc0 hlt
  have HR0 := Aside0.mk hr0
  have HC0 := Aside0.mk hc0
  have HG := Aside0.mk hG
  have HK := Aside0.mk hK
  have HL := Aside0.mk hL
  clear hr0 hc0 hG hK hL
  go_enter Tryz.func3, Tryz.ntmps3
  go_wp2_with (go_at_call 13; refine HL.out.mono ?_; rintro e w1 ⟨A, c, rfl, hc, ho, hb1⟩; have HO := Aside0.mk ho; have HC := Aside0.mk hc; have HB0 := Aside0.mk hb1; clear ho hc hb1)
  have hOwn := Aside0.mk (fun (W : World) (hW : Below w1.heap.size w1 W) => Kd.C_below (C_init HO.out) hW)
  have hOwn2 := Aside0.mk (fun (W : World) (hW : Below w1.heap.size w1 W) => Kd.C_below HO.out hW)
  have hArg := Aside0.mk (fun (W : World) (hW : Below w1.heap.size w1 W) => Kd.C_below (Kd.C_below HR0.out HB0.out) hW)
  have hGl := Aside0.mk (fun (W : World) (hW : Below w1.heap.size w1 W) => Globs.below (Globs.below HG.out HB0.out) hW)
  go_loopw [6] (fun i wr => ∃ k : Int, -1 ≤ k ∧ k ≤ l.length + 1 ∧ i = .int .i64 k ∧ Aside0 (Below w1.heap.size w1 wr)) (fun i _ => (l.length + 2 - intOf i).toNat)
  case atStart => exact ⟨-1, by omega, by omega, rfl, ⟨Below.refl _ _⟩⟩
  case round =>
    obtain ⟨k, hk0, hk1, rfl, HB⟩ := hrel
    by_cases hle : k ≤ (l.length : Int)
    · obtain ⟨f1, f2, f3, f4, f5⟩ := HK.out k (.inl ⟨hk0, hle⟩)
      go_wp2_with (first
        | (go_at_call 15; refine (ast_Kids.calls K A c l k (ks k) _ (hOwn.out _ HB.out) (Nat.le_of_succ_le HC.out) f1).mono ?_; rintro e w2 ⟨v, rfl, ho, hb⟩; obtain ⟨B1, d1, rfl, hle1, hr1⟩ := Kd.R_reads ho; have HB2 := Aside0.mk (below_then HB.out HB.out.size hb); have H1 := Aside0.mk hr1; have HE1 := Aside0.mk hle1; clear ho hb hr1 hle1)
        | (go_at_call 16; refine (weirtree_Kids.calls K A0 c0 l k (ks k) _ (hArg.out _ HB2.out) HC0.out f2).mono ?_; rintro e w3 ⟨v, rfl, ho, hb⟩; obtain ⟨B2, d2, rfl, hle2, hr2⟩ := Kd.R_reads ho; have HB3 := Aside0.mk (below_then HB2.out HB2.out.size hb); have H2 := Aside0.mk hr2; have HE2 := Aside0.mk hle2; have H1b := Aside0.mk (Kd.C_below H1.out hb); clear ho hb hr2 hle2)
        | (go_at_call 14; refine (weirmem_SameInts.calls K B1 d1 (ks k) B2 d2 (ks k) true _ H1b.out HE1.out H2.out HE2.out f5).mono ?_; rintro e w4 ⟨rfl, ⟨nd, rfl⟩⟩)
        | (go_at_call 17; refine (ast_End.calls K A c l k (en k) _ (hOwn.out _ (by repeat (first | exact HB3.out | apply pw_below_drewN))) (Nat.le_of_succ_le HC.out) f3).mono ?_; rintro e w5 ⟨rfl, ⟨nd2, rfl⟩⟩)
        | (go_at_call 18; refine (weirtree_End.calls K A0 c0 l k (en k) _ (hArg.out _ (by repeat (first | exact HB3.out | apply pw_below_drewN))) HC0.out f4).mono ?_; rintro e w6 ⟨rfl, ⟨nd3, rfl⟩⟩))
      go_roundw
      case rel => exact ⟨k + 1, by omega, by omega, by go_num, ⟨(by repeat (first | exact HB3.out | apply pw_below_drewN))⟩⟩
      case measure => simp [intOf]; omega
    · obtain rfl : k = (l.length : Int) + 1 := by omega
      obtain ⟨f1, f2, f3, f4, f5⟩ := HK.out a1 (.inr rfl)
      go_wp2_with (first
        | (go_at_call 19; refine (weirlaw13_live.calls K true _ (hGl.out _ HB.out) hlive).mono ?_; rintro e w2 ⟨rfl, hb⟩; have HB1 := Aside0.mk (below_then HB.out HB.out.size hb); clear hb)
        | (go_at_call 15; refine (ast_Kids.calls K A c l a1 (ks a1) _ (hOwn.out _ HB1.out) (Nat.le_of_succ_le HC.out) f1).mono ?_; rintro e w2 ⟨v, rfl, ho, hb⟩; obtain ⟨B1, d1, rfl, hle1, hr1⟩ := Kd.R_reads ho; have HB2 := Aside0.mk (below_then HB1.out HB1.out.size hb); have H1 := Aside0.mk hr1; have HE1 := Aside0.mk hle1; clear ho hb hr1 hle1)
        | (go_at_call 16; refine (weirtree_Kids.calls K A0 c0 l a1 (ks a1) _ (hArg.out _ HB2.out) HC0.out f2).mono ?_; rintro e w3 ⟨v, rfl, ho, hb⟩; obtain ⟨B2, d2, rfl, hle2, hr2⟩ := Kd.R_reads ho; have HB3 := Aside0.mk (below_then HB2.out HB2.out.size hb); have H2 := Aside0.mk hr2; have HE2 := Aside0.mk hle2; have H1b := Aside0.mk (Kd.C_below H1.out hb); clear ho hb hr2 hle2)
        | (go_at_call 14; refine (weirmem_SameInts.calls K B1 d1 (ks a1) B2 d2 (ks a1) true _ H1b.out HE1.out H2.out HE2.out f5).mono ?_; rintro e w4 ⟨rfl, ⟨nd, rfl⟩⟩)
        | (go_at_call 17; refine (ast_End.calls K A c l a1 (en a1) _ (hOwn.out _ (by repeat (first | exact HB3.out | apply pw_below_drewN))) (Nat.le_of_succ_le HC.out) f3).mono ?_; rintro e w5 ⟨rfl, ⟨nd2, rfl⟩⟩)
        | (go_at_call 18; refine (weirtree_End.calls K A0 c0 l a1 (en a1) _ (hArg.out _ (by repeat (first | exact HB3.out | apply pw_below_drewN))) HC0.out f4).mono ?_; rintro e w6 ⟨rfl, ⟨nd3, rfl⟩⟩; have HB4 := Aside0.mk (show Below w1.heap.size w1 _ from (by repeat (first | exact HB3.out | apply pw_below_drewN))))
        | (go_at_call 20; refine (ast_Depth.calls K A c l d _ (hOwn.out _ (by repeat (first | exact HB3.out | apply pw_below_drewN))) (Nat.le_of_succ_le HC.out) hd1).mono ?_; rintro e w7 ⟨rfl, hb⟩; have HB5 := Aside0.mk (below_then (show Below w1.heap.size w1 _ from (by repeat (first | exact HB3.out | apply pw_below_drewN))) (Below.size (show Below w1.heap.size w1 _ from (by repeat (first | exact HB3.out | apply pw_below_drewN)))) hb); clear hb)
        | (go_at_call 21; refine (weirtree_Depth.calls K A0 c0 l d _ (hArg.out _ HB5.out) HC0.out hd2).mono ?_; rintro e w8 ⟨rfl, hb⟩; have HB6 := Aside0.mk (below_then HB5.out HB5.out.size hb); clear hb)
        | (go_at_call 22; refine (kept_calls A c l A0 c0 _ (hOwn2.out _ HB6.out) HC.out (hArg.out _ HB6.out)).mono ?_; rintro e w9 ⟨rfl, hb⟩; have HB7 := Aside0.mk (below_then HB6.out HB6.out.size hb); clear hb))
      go_ret
      exact ⟨rfl, below_then HB0.out HB0.out.size HB7.out⟩
end Go.Proofs.YtabhhfpfdndidaaGreatDoor.Walks
