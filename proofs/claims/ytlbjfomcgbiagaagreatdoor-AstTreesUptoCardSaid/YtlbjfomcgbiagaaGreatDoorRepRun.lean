/- (*strings.byteStringReplacer).Replace, (*strings.Replacer).Replace, lex.inQuotes: a text in quotes. -/
import Derived.Test.YtlbjfomcgbiagaaGreatDoorRepOnce
import Derived.Test.YtlbjfomcgbiagaaGreatDoorShelf
import Derived.Lib.Strings
set_option linter.unusedVariables false
set_option linter.unusedSimpArgs false
namespace Go.Proofs.YtlbjfomcgbiagaaGreatDoor.Rep
open Go Go.RowKit Go.Proofs.YtlbjfomcgbiagaaGreatDoorW.PrintWords Go.Proofs

/-- A text, each quote and each backslash behind a backslash. -/
def esc (q : UInt8) : List UInt8 → List UInt8
  | [] => []
  | b :: l => if b = q ∨ b = 92 then 92 :: b :: esc q l else b :: esc q l
/-- How many there are. -/
def cnt (q : UInt8) : List UInt8 → Nat
  | [] => 0
  | b :: l => if b = q ∨ b = 92 then cnt q l + 1 else cnt q l
theorem esc_length (q : UInt8) : ∀ l, (esc q l).length = l.length + cnt q l
  | [] => rfl
  | b :: l => by unfold esc cnt; split <;> simp [esc_length q l] <;> omega
theorem cnt_le (q : UInt8) : ∀ l, cnt q l ≤ l.length
  | [] => Nat.le_refl _
  | b :: l => by unfold cnt; have := cnt_le q l; split <;> simp <;> omega
theorem esc_none (q : UInt8) : ∀ l, cnt q l = 0 → esc q l = l
  | [], _ => rfl
  | b :: l, h => by
    unfold cnt at h
    split at h
    · omega
    · rename_i hb; unfold esc; rw [if_neg hb, esc_none q l h]
theorem cnt_append (q : UInt8) : ∀ a b, cnt q (a ++ b) = cnt q a + cnt q b
  | [], b => by simp [cnt]
  | x :: a, b => by rw [List.cons_append, cnt, cnt, cnt_append q a b]; split <;> omega
theorem esc_append (q : UInt8) : ∀ a b, esc q (a ++ b) = esc q a ++ esc q b
  | [], b => by simp [esc]
  | x :: a, b => by rw [List.cons_append, esc, esc, esc_append q a b]; split <;> simp
theorem cnt_two (q : UInt8) (hq : q ≠ 92) : ∀ l, (Lib.countByte l q : Int) + Lib.countByte l 92 = cnt q l := by
  intro l
  unfold Lib.countByte
  induction l with
  | nil => rfl
  | cons b l ih =>
    rw [List.count_cons, List.count_cons, cnt]
    by_cases e1 : b = q
    · subst e1
      have e2 : (b == (92 : UInt8)) = false := by simpa using hq
      simp only [beq_self_eq_true, if_true, e2, true_or, Bool.false_eq_true, if_false]
      omega
    · have e1' : (b == q) = false := by simpa using e1
      by_cases e2 : b = 92
      · subst e2
        simp only [beq_self_eq_true, if_true, e1', or_true, Bool.false_eq_true, if_false]
        omega
      · have e2' : (b == (92 : UInt8)) = false := by simpa using e2
        simp only [e1', e2', e1, e2, or_self, Bool.false_eq_true, if_false]
        omega

def slot (q : UInt8) (cQ cS Q S : Nat) (b : UInt8) : Value := if b = q then .slice (some ⟨Q, 0, none⟩) 2 cQ else if b = 92 then .slice (some ⟨S, 0, none⟩) 2 cS else .slice none 0 0
theorem Tab.at {q : UInt8} {w : World} {R T Q S cT cQ cS : Nat} (h : Tab q w R T Q S cT cQ cS) (b : UInt8) : w.cell? ⟨R, b.toNat, none⟩ = some (slot q cQ cS Q S b) := by
  rw [h.tab b.toNat b.toNat_lt]
  unfold slot
  by_cases e : b = q
  · subst e; simp
  · have e1 : ¬ b.toNat = q.toNat := fun e2 => e (UInt8.toNat_inj.1 e2)
    rw [if_neg e, if_neg e1]
    by_cases e3 : b = 92
    · subst e3; rfl
    · have e4 : ¬ b.toNat = 92 := fun e5 => e3 (UInt8.toNat_inj.1 e5)
      rw [if_neg e3, if_neg e4]

/-- The buffer, as far as it has been filled. -/
structure Bf (w W : World) (U n : Nat) (l : List UInt8) : Prop where
  bel : Below w.heap.size w W
  ge : w.heap.size ≤ U
  lt : U < W.heap.size
  old : ∀ j, j < n → (W.cell? ⟨U, j, none⟩).isSome = true
  cells : ∀ j b, l[j]? = some b → W.cell? ⟨U, j, none⟩ = some (.int .u8 (b.toNat : Int))
  fr : ∀ j, W.frozen? ⟨U, j, none⟩ = false
theorem Bf.put {w W : World} {U n : Nat} {l : List UInt8} (h : Bf w W U n l) (hn : l.length < n) (b : UInt8) : Bf w (W.setCell ⟨U, l.length, none⟩ (.int .u8 (b.toNat : Int))) U n (l ++ [b]) := {
  bel := h.bel.setCell h.ge _
  ge := h.ge
  lt := by simpa using h.lt
  old := fun j hj => by
    by_cases e : j = l.length
    · subst e
      obtain ⟨u, hu⟩ := Option.isSome_iff_exists.1 (h.old _ hj)
      rw [World.cell?_setCell_same _ _ _ hu]; rfl
    · rw [World.cell?_setCell_other _ _ _ _ (by simp <;> omega)]; exact h.old j hj
  cells := fun j c hj => by
    by_cases e : j = l.length
    · subst e
      rw [List.getElem?_append_right (Nat.le_refl _)] at hj
      simp at hj
      subst hj
      obtain ⟨u, hu⟩ := Option.isSome_iff_exists.1 (h.old _ hn)
      exact World.cell?_setCell_same _ _ _ hu
    · have hlt : j < l.length := by
        have := (List.getElem?_eq_some_iff.1 hj).1
        simp at this
        omega
      rw [List.getElem?_append_left hlt] at hj
      rw [World.cell?_setCell_other _ _ _ _ (by simp <;> omega)]; exact h.cells j c hj
  fr := fun j => by rw [World.frozen?_setCell]; exact h.fr j }
theorem Bf.drew {w W : World} {U n : Nat} {l : List UInt8} (h : Bf w W U n l) : Bf w W.drew U n l :=
  ⟨below_drew1 h.bel, h.ge, by simpa using h.lt, fun j hj => by rw [World.cell?_drew]; exact h.old j hj, fun j b hb => by rw [World.cell?_drew]; exact h.cells j b hb, fun j => by rw [World.frozen?_drew]; exact h.fr j⟩
theorem mk_buf (w W : World) (hb : Below w.heap.size w W) (n : Nat) (hn : n ≤ 140737488355328) : ∃ w2, (Instr.makeSlice 124 (.int .i64 (n : Int)) (.int .i64 (n : Int))).run Tryz.prog W = .ok (.slice (some ⟨W.heap.size, 0, none⟩) n n) w2 ∧ Bf w w2 W.heap.size n [] := by
  obtain ⟨i0, hi, hz0, hz1, hz2⟩ := info_parts (P := Tryz.prog) (e := 5) (z := .int .u8 0) (size := 1) (bytes := 1) (by kernel_rfl)
  have hr := run_make (P := Tryz.prog) W 124 5 i0 (.int .u8 0) Tryz.underlying124 hi hz0 .i64 .i64 n n (by omega) (by omega) (by rw [hz2]; omega) (by omega)
  rw [Int.toNat_natCast] at hr
  refine ⟨_, hr, ⟨below_alloc hb _, hb.size, by simp, fun j hj => ?_, fun j b hj => by simp at hj, fun j => new_fr _ rfl⟩⟩
  rw [new_cell _ none rfl, Array.getElem?_eq_getElem (by rw [size_madeCells, hz1]; omega)]
  rfl
theorem take_snoc (s : ByteArray) (k : Nat) (h : k < s.size) : s.data.toList.take (k + 1) = s.data.toList.take k ++ [s[k]] := by
  rw [List.take_add_one, List.getElem?_eq_getElem (by simpa using h)]
  rfl

set_option maxRecDepth 100000 in
set_option maxHeartbeats 8000000 in
theorem run_any (q : UInt8) (hq : q ≠ 92) (s : ByteArray) (hs : s.size ≤ 70368744177664) (w : World) (R T Q S cT cQ cS : Nat) (hT : Tab q w R T Q S cT cQ cS) :
    Calls Tryz.prog 232 #[.pointer (some ⟨R, 0, none⟩), .string s] w fun e w' => e = .returned (.string ⟨(esc q s.data.toList).toArray⟩) ∧ Below w.heap.size w w' := by
  have hrow := hT.row
  have ht0 := hT.t0
  have ht1 := hT.t1
  have HT := Aside0.mk hT
  have hC1 := fun W : World => Tryz.strings_Count_one s q W
  have hC2 := fun W : World => Tryz.strings_Count_one s 92 W
  obtain ⟨c1, hc1⟩ : ∃ c : Nat, Lib.countByte s.data.toList q = c := ⟨_, rfl⟩
  obtain ⟨c2, hc2⟩ : ∃ c : Nat, Lib.countByte s.data.toList 92 = c := ⟨_, rfl⟩
  have hcc := cnt_two q hq s.data.toList
  have hcl := cnt_le q s.data.toList
  have hsz : s.data.toList.length = s.size := Lib.size_eq s
  simp only [hc1] at hC1 hcc
  simp only [hc2] at hC2 hcc
  rw [hsz] at hcl
  have HC1 := Aside0.mk hC1
  have HC2 := Aside0.mk hC2
  have HCC := Aside0.mk hcc
  have HCL := Aside0.mk hcl
  clear hT hC1 hC2 hcc hcl hc1 hc2
  by_cases h16 : 16 ≤ s.size
  · have h16' : (16 : Int) ≤ s.size := by omega
    go_enter Tryz.func232, Tryz.ntmps232
    go_wp2
    go_loopw [5, 6, 32] (fun n a i wr => Aside0 (Below w.heap.size w wr) ∧ ((i = .int .i64 0 ∧ n = .int .i64 s.size ∧ a = .bool false) ∨ (i = .int .i64 1 ∧ n = .int .i64 ((s.size : Int) + c1) ∧ a = .bool (c1 != 0)) ∨ (i = .int .i64 2 ∧ n = .int .i64 ((s.size : Int) + c1 + c2) ∧ a = .bool (c1 != 0 || c2 != 0)))) (fun _ _ i _ => 2 - (intOf i).toNat)
    case atStart => exact ⟨⟨Below.refl _ _⟩, .inl ⟨rfl, rfl, rfl⟩⟩
    case round =>
      clear hrow ht0 ht1
      obtain ⟨HBw, hr⟩ := hrel
      have hT2 := HT.out.below HBw.out HT.out.lt HBw.out.size
      have hrow := hT2.row
      have ht0 := hT2.t0
      have ht1 := hT2.t1
      have HT2 := Aside0.mk hT2
      clear hT2
      rcases hr with ⟨rfl, rfl, rfl⟩ | ⟨rfl, rfl, rfl⟩ | ⟨rfl, rfl, rfl⟩
      · by_cases hz : c1 = 0
        · subst hz
          go_wp2_with (go_at_call 234; refine (HC1.out _).mono ?_; rintro e w' ⟨rfl, rfl⟩)
          go_roundw
          case rel => exact ⟨HBw, .inr (.inl ⟨rfl, by simp, by simp⟩)⟩
          case measure => decide
        · have hz' : ((c1 : Int) == 0) = false := by simp [hz]
          have hz2 : ((c1 : Int) != 0) = true := by simp [hz]
          have k1 := HT2.out.at q
          have k2 : slot q cQ cS Q S q = .slice (some ⟨Q, 0, none⟩) 2 cQ := if_pos rfl
          rw [k2] at k1
          have hq1 : ∀ h, ((⟨#[q]⟩ : ByteArray)[0]'h).toNat = q.toNat := fun _ => rfl
          have hq2 : ((q.toNat : Int) < 256) := by have := q.toNat_lt; omega
          have hw1 : wrap64 (c1 : Int) = c1 := by have := HCC.out; have := HCL.out; unfold wrap64; omega
          have hw2 : wrap64 ((s.size : Int) + c1) = (s.size : Int) + c1 := by have := HCC.out; have := HCL.out; unfold wrap64; omega
          go_wp2_with (go_at_call 234; refine (HC1.out _).mono ?_; rintro e w' ⟨rfl, rfl⟩)
          go_region
          all_goals go_wp2
          go_roundw
          case rel => exact ⟨⟨below_drew1 HBw.out⟩, .inr (.inl ⟨rfl, by rw [hw2], by simp [hz]⟩)⟩
          case measure => decide
      · by_cases hz : c2 = 0
        · subst hz
          go_wp2_with (go_at_call 234; refine (HC2.out _).mono ?_; rintro e w' ⟨rfl, rfl⟩)
          go_roundw
          case rel => exact ⟨HBw, .inr (.inr ⟨rfl, by simp, by simp⟩)⟩
          case measure => decide
        · have hz' : ((c2 : Int) == 0) = false := by simp [hz]
          have hz2 : ((c2 : Int) != 0) = true := by simp [hz]
          have k1 : wr.cell? ⟨R, 92, none⟩ = some (slot q cQ cS Q S 92) := HT2.out.at 92
          have k2 : slot q cQ cS Q S 92 = .slice (some ⟨S, 0, none⟩) 2 cS := by unfold slot; rw [if_neg (fun e => hq e.symm), if_pos rfl]
          rw [k2] at k1
          have hq1 : ∀ h, ((⟨#[92]⟩ : ByteArray)[0]'h).toNat = 92 := fun _ => rfl
          have hw1 : wrap64 (c2 : Int) = c2 := by have := HCC.out; have := HCL.out; unfold wrap64; omega
          have hw2 : wrap64 ((s.size : Int) + c1 + c2) = (s.size : Int) + c1 + c2 := by have := HCC.out; have := HCL.out; unfold wrap64; omega
          go_wp2_with (go_at_call 234; refine (HC2.out _).mono ?_; rintro e w' ⟨rfl, rfl⟩)
          go_region
          all_goals go_wp2
          go_roundw
          case rel => exact ⟨⟨below_drew1 HBw.out⟩, .inr (.inr ⟨rfl, by rw [hw2], by simp [hz]⟩)⟩
          case measure => decide
      · have hcc := HCC.out
        have hn : ((s.size : Int) + c1 + c2) = ((s.size + cnt q s.data.toList : Nat) : Int) := by omega
        rw [hn]
        clear hn
        by_cases hz0 : cnt q s.data.toList = 0
        · have z1 : c1 = 0 := by omega
          have z2 : c2 = 0 := by omega
          subst z1 z2
          have HE := Aside0.mk (esc_none q s.data.toList hz0)
          clear hcc
          go_wp2
          go_ret
          exact ⟨by rw [HE.out]; rfl, HBw.out⟩
        · have z1 : (c1 != 0 || c2 != 0) = true := by
            by_cases e : c1 = 0
            · have : c2 ≠ 0 := by omega
              simp [this]
            · simp [e]
          rw [z1]
          clear z1 hcc
          obtain ⟨n, hn⟩ : ∃ n, n = s.size + cnt q s.data.toList := ⟨_, rfl⟩
          rw [← hn]
          obtain ⟨w2, hmk, hbf⟩ := mk_buf w wr HBw.out n (by have := HCL.out; omega)
          have HBf := Aside0.mk hbf
          have HN := Aside0.mk hn
          obtain ⟨U, hU⟩ : ∃ U, U = wr.heap.size := ⟨_, rfl⟩
          rw [← hU] at hmk HBf
          have hs1 := some_ne
          have hs2 := nil_ne
          clear hbf hn hU hrow ht0 ht1
          go_wp2
          clear hmk
          go_loopw [13, 14] (fun j i W => ∃ k : Nat, k ≤ s.size ∧ i = .int .i64 k ∧ j = .int .i64 ((esc q (s.data.toList.take k)).length : Nat) ∧ Aside0 (Bf w W U n (esc q (s.data.toList.take k)))) (fun _ i _ => s.size - (intOf i).toNat)
          case atStart => exact ⟨0, Nat.zero_le _, rfl, rfl, HBf⟩
          case round =>
            clear HBf HT2 HBw
            obtain ⟨k, hk, rfl, rfl, HBf⟩ := hrel
            by_cases hlt : k < s.size
            · have hT3 := HT.out.below HBf.out.bel HT.out.lt HBf.out.bel.size
              have k1 := hT3.at s[k]
              have hb8 : ((s[k].toNat : Nat) : Int) < 256 := by have := s[k].toNat_lt; omega
              have HK := Aside0.mk (take_snoc s k hlt)
              have hle : (esc q (s.data.toList.take k)).length + (esc q [s[k]]).length ≤ n := by
                have h1 := esc_length q (s.data.toList.take (k + 1))
                rw [HK.out, esc_append, List.length_append] at h1
                have h2 : cnt q (s.data.toList.take k ++ [s[k]]) ≤ cnt q s.data.toList := by
                  rw [← HK.out]
                  have := cnt_append q (s.data.toList.take (k + 1)) (s.data.toList.drop (k + 1))
                  rw [List.take_append_drop] at this
                  omega
                have h3 : (s.data.toList.take k ++ [s[k]]).length ≤ s.size := by
                  rw [← HK.out, List.length_take]; have := hsz; omega
                have := HN.out
                omega
              have HT3 := Aside0.mk hT3
              clear hT3
              by_cases hsp : s[k] = q ∨ s[k] = 92
              · obtain ⟨B, c, k2, b0, b1⟩ : ∃ B c, slot q cQ cS Q S s[k] = .slice (some ⟨B, 0, none⟩) 2 c ∧ wr.cell? ⟨B, 0, none⟩ = some (.int .u8 92) ∧ wr.cell? ⟨B, 1, none⟩ = some (.int .u8 (s[k].toNat : Int)) := by
                  by_cases e : s[k] = q
                  · exact ⟨Q, cQ, by unfold slot; rw [if_pos e], HT3.out.q0, by rw [e]; exact HT3.out.q1⟩
                  · have e2 : s[k] = 92 := hsp.resolve_left e
                    exact ⟨S, cS, by unfold slot; rw [if_neg e, if_pos e2], HT3.out.s0, by rw [e2]; exact HT3.out.s1⟩
                rw [k2] at k1
                have he1 : esc q [s[k]] = [92, s[k]] := by unfold esc; rw [if_pos hsp]; rfl
                rw [he1] at hle
                obtain ⟨J, hJ⟩ : ∃ J, J = (esc q (s.data.toList.take k)).length := ⟨_, rfl⟩
                rw [← hJ]
                have hJn : (J : Int) ≤ (n : Int) := by simp at hle; omega
                have hJ0 : (0 : Int) ≤ (J : Int) := by omega
                have hJ2 : J + 2 ≤ n := by simp at hle; omega
                have hnJ : ¬ n = J := by omega
                have hw3 : wrap64 ((J : Int) + 2) = (J : Int) + 2 := by have := HN.out; have := HCL.out; unfold wrap64; omega
                have hbd := HBf.out.drew
                have hcp : (Builtin.copy_ #[124, 124] 3 #[.slice (some ⟨U, J, none⟩) (n - J) (n - J), .slice (some ⟨B, 0, none⟩) 2 c]).run Tryz.prog wr.drew = .ok (.int .i64 2) ((wr.drew.setCell ⟨U, J, none⟩ (.int .u8 92)).setCell ⟨U, J + 1, none⟩ (.int .u8 (s[k].toNat : Int))) := by
                  refine run_copy_cells wr.drew 124 124 3 5 U J (n - J) (n - J) ⟨B, 0, none⟩ 2 c [.int .u8 92, .int .u8 (s[k].toNat : Int)] Tryz.underlying124 (by kernel_rfl) ?_ ?_ ?_ ?_ ?_
                  · exact (Nat.min_eq_left (show 2 ≤ n - J by omega)).symm
                  · intro j v hj
                    rcases j with _ | _ | j
                    · cases hj; rw [World.cell?_drew]; exact b0
                    · cases hj; rw [World.cell?_drew]; exact b1
                    · simp at hj
                  · intro j hj; simp at hj; exact hbd.old (J + j) (by omega)
                  · intro j hj; exact hbd.fr (J + j)
                  · intro v hv; simp at hv; rcases hv with rfl | rfl <;> rfl
                have HBd := Aside0.mk hbd
                clear hbd
                have HJ := Aside0.mk hJ
                have HE := Aside0.mk he1
                have HLE := Aside0.mk hle
                clear hJ he1 hle
                go_wp2
                go_region
                all_goals go_wp2
                go_roundw
                case rel =>
                  have hp := HBd.out.put (by rw [← HJ.out]; omega) 92
                  rw [← HJ.out] at hp
                  have hp2 := hp.put (by rw [List.length_append, ← HJ.out]; simp; omega) s[k]
                  rw [List.length_append, ← HJ.out] at hp2
                  refine ⟨k + 1, by omega, by go_num, ?_, ⟨?_⟩⟩
                  · rw [hw3, HK.out, esc_append, HE.out, List.length_append, ← HJ.out]; simp
                  · rw [HK.out, esc_append, HE.out]
                    rw [List.append_assoc] at hp2
                    exact hp2
                case measure => simp [intOf]; omega
              · have k2 : slot q cQ cS Q S s[k] = .slice none 0 0 := by unfold slot; rw [if_neg (fun e => hsp (Or.inl e)), if_neg (fun e => hsp (Or.inr e))]
                rw [k2] at k1
                have he1 : esc q [s[k]] = [s[k]] := by unfold esc; rw [if_neg hsp]; rfl
                rw [he1] at hle
                obtain ⟨J, hJ⟩ : ∃ J, J = (esc q (s.data.toList.take k)).length := ⟨_, rfl⟩
                rw [← hJ]
                have hJn : (J : Int) < (n : Int) := by simp at hle; omega
                obtain ⟨u, hu⟩ := Option.isSome_iff_exists.1 (HBf.out.old J (by omega))
                have hfr := HBf.out.fr J
                have hw3 : wrap64 ((J : Int) + 1) = (J : Int) + 1 := by have := HN.out; have := HCL.out; unfold wrap64; omega
                have HJ := Aside0.mk hJ
                have HE := Aside0.mk he1
                have HLE := Aside0.mk hle
                clear hJ he1 hle
                go_wp2
                go_roundw
                case rel =>
                  have hp := HBf.out.put (by have := HLE.out; simp at this; omega) s[k]
                  rw [← HJ.out] at hp
                  refine ⟨k + 1, by omega, by go_num, ?_, ⟨?_⟩⟩
                  · rw [hw3, HK.out, esc_append, HE.out, List.length_append, ← HJ.out]; simp
                  · rw [HK.out, esc_append, HE.out]; exact hp
                case measure => simp [intOf]; omega
            · obtain rfl : k = s.size := by omega
              have htk : s.data.toList.take s.size = s.data.toList := List.take_of_length_le (by rw [hsz]; exact Nat.le_refl _)
              have hb := HBf.out
              rw [htk] at hb
              have hln : (esc q s.data.toList).length = n := by rw [esc_length, hsz]; exact HN.out.symm
              have hcv2 := run_convert_bytes_arg wr 124 5 Tryz.underlying124 Tryz.underlying5 U 0 n n ((esc q s.data.toList).map fun c => (c.toNat : Int)) (by simpa using hln) (fun i hi => by
                have hi2 : i < (esc q s.data.toList).length := by omega
                have := hb.cells i _ (List.getElem?_eq_getElem hi2)
                rw [Nat.zero_add, this]
                simp [hi2]) 9 Tryz.underlying9
              have hst : strOfNums ((esc q s.data.toList).map fun c => (c.toNat : Int)) = ⟨(esc q s.data.toList).toArray⟩ := by
                unfold strOfNums
                rw [List.map_map]
                congr 2
                refine (List.map_congr_left fun c _ => ?_).trans (List.map_id _)
                simp
              rw [hst] at hcv2
              have HB2 := Aside0.mk hb.bel
              clear hst hb hln htk HBf
              go_wp2
              go_ret
              exact ⟨rfl, HB2.out⟩
  · have h16' : ¬ (16 : Int) ≤ s.size := by omega
    have hs1 := some_ne
    have hs2 := nil_ne
    go_enter Tryz.func232, Tryz.ntmps232
    go_wp2
    go_loopw [5, 6, 10] (fun n a i wr => Aside0 (Below w.heap.size w wr) ∧ ∃ k : Nat, k ≤ s.size ∧ i = .int .i64 k ∧ n = .int .i64 ((s.size + cnt q (s.data.toList.take k) : Nat) : Int) ∧ a = .bool (cnt q (s.data.toList.take k) != 0)) (fun _ _ i _ => s.size - (intOf i).toNat)
    case atStart => exact ⟨⟨Below.refl _ _⟩, 0, Nat.zero_le _, rfl, rfl, rfl⟩
    case round =>
      clear hrow ht0 ht1
      obtain ⟨HBw, k, hk, rfl, rfl, rfl⟩ := hrel
      have hT2 := HT.out.below HBw.out HT.out.lt HBw.out.size
      have hrow := hT2.row
      have ht0 := hT2.t0
      have ht1 := hT2.t1
      have HT2 := Aside0.mk hT2
      clear hT2
      by_cases hlt : k < s.size
      · have k1 := HT2.out.at s[k]
        have hb8 : ((s[k].toNat : Nat) : Int) < 256 := by have := s[k].toNat_lt; omega
        have HK := Aside0.mk (take_snoc s k hlt)
        obtain ⟨C, hC⟩ : ∃ C, C = cnt q (s.data.toList.take k) := ⟨_, rfl⟩
        obtain ⟨n, hn⟩ : ∃ n, n = s.size + C := ⟨_, rfl⟩
        rw [← hC, ← hn]
        have hCl : C ≤ s.size := by
          have := cnt_le q (s.data.toList.take k)
          rw [List.length_take, hsz] at this
          omega
        by_cases hsp : s[k] = q ∨ s[k] = 92
        · obtain ⟨B, c, k2⟩ : ∃ B c, slot q cQ cS Q S s[k] = .slice (some ⟨B, 0, none⟩) 2 c := by
            by_cases e : s[k] = q
            · exact ⟨Q, cQ, by unfold slot; rw [if_pos e]⟩
            · exact ⟨S, cS, by unfold slot; rw [if_neg e, if_pos (hsp.resolve_left e)]⟩
          rw [k2] at k1
          have he1 : cnt q [s[k]] = 1 := by unfold cnt; rw [if_pos hsp]; rfl
          have hw3 : wrap64 ((n : Int) + 1) = (n : Int) + 1 := by unfold wrap64; omega
          have HE := Aside0.mk he1
          have HC := Aside0.mk hC
          have HN := Aside0.mk hn
          clear he1 hC hn
          go_wp2
          go_roundw
          case rel =>
            have e3 : cnt q (s.data.toList.take (k + 1)) = C + 1 := by rw [HK.out, cnt_append, HE.out, HC.out]
            exact ⟨HBw, k + 1, by omega, by go_num, by rw [hw3, e3, HN.out]; simp; omega, by rw [e3]; simp⟩
          case measure => simp [intOf]; omega
        · have k2 : slot q cQ cS Q S s[k] = .slice none 0 0 := by unfold slot; rw [if_neg (fun e => hsp (Or.inl e)), if_neg (fun e => hsp (Or.inr e))]
          rw [k2] at k1
          have he1 : cnt q [s[k]] = 0 := by unfold cnt; rw [if_neg hsp]; rfl
          have HE := Aside0.mk he1
          have HC := Aside0.mk hC
          have HN := Aside0.mk hn
          clear he1 hC hn
          go_wp2
          go_roundw
          case rel =>
            have e3 : cnt q (s.data.toList.take (k + 1)) = C := by rw [HK.out, cnt_append, HE.out, HC.out]; rfl
            exact ⟨HBw, k + 1, by omega, by go_num, by rw [e3, HN.out], by rw [e3]⟩
          case measure => simp [intOf]; omega
      · obtain rfl : k = s.size := by omega
        have htk : s.data.toList.take s.size = s.data.toList := List.take_of_length_le (by rw [hsz]; exact Nat.le_refl _)
        rw [htk]
        clear htk
        by_cases hz0 : cnt q s.data.toList = 0
        · have HE := Aside0.mk (esc_none q s.data.toList hz0)
          rw [hz0]
          go_wp2
          go_ret
          exact ⟨by rw [HE.out]; rfl, HBw.out⟩
        · have z1 : (cnt q s.data.toList != 0) = true := by simp [hz0]
          rw [z1]
          clear z1
          obtain ⟨n, hn⟩ : ∃ n, n = s.size + cnt q s.data.toList := ⟨_, rfl⟩
          rw [← hn]
          obtain ⟨w2, hmk, hbf⟩ := mk_buf w wr HBw.out n (by have := HCL.out; omega)
          have HBf := Aside0.mk hbf
          have HN := Aside0.mk hn
          obtain ⟨U, hU⟩ : ∃ U, U = wr.heap.size := ⟨_, rfl⟩
          rw [← hU] at hmk HBf
          have hs1 := some_ne
          have hs2 := nil_ne
          clear hbf hn hU hrow ht0 ht1
          go_wp2
          clear hmk
          go_loopw [13, 14] (fun j i W => ∃ k : Nat, k ≤ s.size ∧ i = .int .i64 k ∧ j = .int .i64 ((esc q (s.data.toList.take k)).length : Nat) ∧ Aside0 (Bf w W U n (esc q (s.data.toList.take k)))) (fun _ i _ => s.size - (intOf i).toNat)
          case atStart => exact ⟨0, Nat.zero_le _, rfl, rfl, HBf⟩
          case round =>
            clear HBf HT2 HBw
            obtain ⟨k, hk, rfl, rfl, HBf⟩ := hrel
            by_cases hlt : k < s.size
            · have hT3 := HT.out.below HBf.out.bel HT.out.lt HBf.out.bel.size
              have k1 := hT3.at s[k]
              have hb8 : ((s[k].toNat : Nat) : Int) < 256 := by have := s[k].toNat_lt; omega
              have HK := Aside0.mk (take_snoc s k hlt)
              have hle : (esc q (s.data.toList.take k)).length + (esc q [s[k]]).length ≤ n := by
                have h1 := esc_length q (s.data.toList.take (k + 1))
                rw [HK.out, esc_append, List.length_append] at h1
                have h2 : cnt q (s.data.toList.take k ++ [s[k]]) ≤ cnt q s.data.toList := by
                  rw [← HK.out]
                  have := cnt_append q (s.data.toList.take (k + 1)) (s.data.toList.drop (k + 1))
                  rw [List.take_append_drop] at this
                  omega
                have h3 : (s.data.toList.take k ++ [s[k]]).length ≤ s.size := by
                  rw [← HK.out, List.length_take]; have := hsz; omega
                have := HN.out
                omega
              have HT3 := Aside0.mk hT3
              clear hT3
              by_cases hsp : s[k] = q ∨ s[k] = 92
              · obtain ⟨B, c, k2, b0, b1⟩ : ∃ B c, slot q cQ cS Q S s[k] = .slice (some ⟨B, 0, none⟩) 2 c ∧ wr.cell? ⟨B, 0, none⟩ = some (.int .u8 92) ∧ wr.cell? ⟨B, 1, none⟩ = some (.int .u8 (s[k].toNat : Int)) := by
                  by_cases e : s[k] = q
                  · exact ⟨Q, cQ, by unfold slot; rw [if_pos e], HT3.out.q0, by rw [e]; exact HT3.out.q1⟩
                  · have e2 : s[k] = 92 := hsp.resolve_left e
                    exact ⟨S, cS, by unfold slot; rw [if_neg e, if_pos e2], HT3.out.s0, by rw [e2]; exact HT3.out.s1⟩
                rw [k2] at k1
                have he1 : esc q [s[k]] = [92, s[k]] := by unfold esc; rw [if_pos hsp]; rfl
                rw [he1] at hle
                obtain ⟨J, hJ⟩ : ∃ J, J = (esc q (s.data.toList.take k)).length := ⟨_, rfl⟩
                rw [← hJ]
                have hJn : (J : Int) ≤ (n : Int) := by simp at hle; omega
                have hJ0 : (0 : Int) ≤ (J : Int) := by omega
                have hJ2 : J + 2 ≤ n := by simp at hle; omega
                have hnJ : ¬ n = J := by omega
                have hw3 : wrap64 ((J : Int) + 2) = (J : Int) + 2 := by have := HN.out; have := HCL.out; unfold wrap64; omega
                have hbd := HBf.out.drew
                have hcp : (Builtin.copy_ #[124, 124] 3 #[.slice (some ⟨U, J, none⟩) (n - J) (n - J), .slice (some ⟨B, 0, none⟩) 2 c]).run Tryz.prog wr.drew = .ok (.int .i64 2) ((wr.drew.setCell ⟨U, J, none⟩ (.int .u8 92)).setCell ⟨U, J + 1, none⟩ (.int .u8 (s[k].toNat : Int))) := by
                  refine run_copy_cells wr.drew 124 124 3 5 U J (n - J) (n - J) ⟨B, 0, none⟩ 2 c [.int .u8 92, .int .u8 (s[k].toNat : Int)] Tryz.underlying124 (by kernel_rfl) ?_ ?_ ?_ ?_ ?_
                  · exact (Nat.min_eq_left (show 2 ≤ n - J by omega)).symm
                  · intro j v hj
                    rcases j with _ | _ | j
                    · cases hj; rw [World.cell?_drew]; exact b0
                    · cases hj; rw [World.cell?_drew]; exact b1
                    · simp at hj
                  · intro j hj; simp at hj; exact hbd.old (J + j) (by omega)
                  · intro j hj; exact hbd.fr (J + j)
                  · intro v hv; simp at hv; rcases hv with rfl | rfl <;> rfl
                have HBd := Aside0.mk hbd
                clear hbd
                have HJ := Aside0.mk hJ
                have HE := Aside0.mk he1
                have HLE := Aside0.mk hle
                clear hJ he1 hle
                go_wp2
                go_region
                all_goals go_wp2
                go_roundw
                case rel =>
                  have hp := HBd.out.put (by rw [← HJ.out]; omega) 92
                  rw [← HJ.out] at hp
                  have hp2 := hp.put (by rw [List.length_append, ← HJ.out]; simp; omega) s[k]
                  rw [List.length_append, ← HJ.out] at hp2
                  refine ⟨k + 1, by omega, by go_num, ?_, ⟨?_⟩⟩
                  · rw [hw3, HK.out, esc_append, HE.out, List.length_append, ← HJ.out]; simp
                  · rw [HK.out, esc_append, HE.out]
                    rw [List.append_assoc] at hp2
                    exact hp2
                case measure => simp [intOf]; omega
              · have k2 : slot q cQ cS Q S s[k] = .slice none 0 0 := by unfold slot; rw [if_neg (fun e => hsp (Or.inl e)), if_neg (fun e => hsp (Or.inr e))]
                rw [k2] at k1
                have he1 : esc q [s[k]] = [s[k]] := by unfold esc; rw [if_neg hsp]; rfl
                rw [he1] at hle
                obtain ⟨J, hJ⟩ : ∃ J, J = (esc q (s.data.toList.take k)).length := ⟨_, rfl⟩
                rw [← hJ]
                have hJn : (J : Int) < (n : Int) := by simp at hle; omega
                obtain ⟨u, hu⟩ := Option.isSome_iff_exists.1 (HBf.out.old J (by omega))
                have hfr := HBf.out.fr J
                have hw3 : wrap64 ((J : Int) + 1) = (J : Int) + 1 := by have := HN.out; have := HCL.out; unfold wrap64; omega
                have HJ := Aside0.mk hJ
                have HE := Aside0.mk he1
                have HLE := Aside0.mk hle
                clear hJ he1 hle
                go_wp2
                go_roundw
                case rel =>
                  have hp := HBf.out.put (by have := HLE.out; simp at this; omega) s[k]
                  rw [← HJ.out] at hp
                  refine ⟨k + 1, by omega, by go_num, ?_, ⟨?_⟩⟩
                  · rw [hw3, HK.out, esc_append, HE.out, List.length_append, ← HJ.out]; simp
                  · rw [HK.out, esc_append, HE.out]; exact hp
                case measure => simp [intOf]; omega
            · obtain rfl : k = s.size := by omega
              have htk : s.data.toList.take s.size = s.data.toList := List.take_of_length_le (by rw [hsz]; exact Nat.le_refl _)
              have hb := HBf.out
              rw [htk] at hb
              have hln : (esc q s.data.toList).length = n := by rw [esc_length, hsz]; exact HN.out.symm
              have hcv2 := run_convert_bytes_arg wr 124 5 Tryz.underlying124 Tryz.underlying5 U 0 n n ((esc q s.data.toList).map fun c => (c.toNat : Int)) (by simpa using hln) (fun i hi => by
                have hi2 : i < (esc q s.data.toList).length := by omega
                have := hb.cells i _ (List.getElem?_eq_getElem hi2)
                rw [Nat.zero_add, this]
                simp [hi2]) 9 Tryz.underlying9
              have hst : strOfNums ((esc q s.data.toList).map fun c => (c.toNat : Int)) = ⟨(esc q s.data.toList).toArray⟩ := by
                unfold strOfNums
                rw [List.map_map]
                congr 2
                refine (List.map_congr_left fun c _ => ?_).trans (List.map_id _)
                simp
              rw [hst] at hcv2
              have HB2 := Aside0.mk hb.bel
              clear hst hb hln htk HBf
              go_wp2
              go_ret
              exact ⟨rfl, HB2.out⟩
end Go.Proofs.YtlbjfomcgbiagaaGreatDoor.Rep
