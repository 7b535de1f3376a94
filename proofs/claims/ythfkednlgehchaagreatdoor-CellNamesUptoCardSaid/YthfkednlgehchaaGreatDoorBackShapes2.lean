/- An argument of type api.Cell: out of its reading as data, what its cells hold and how much there is of it. -/
import Derived.Test.YthfkednlgehchaaGreatDoorRows
import Derived.Test.YthfkednlgehchaaGreatDoorParse2
import Derived.Test.YthfkednlgehchaaGreatDoorBulk
import Derived.Deep.Slices
import Derived.Deep.Fields
import Derived.ChangeSame
import Derived.ProofKit
import Derived.OpenShut
import Derived.ChangeMaps5
set_option linter.unusedSimpArgs false
set_option linter.unusedVariables false
namespace Go.Proofs.YthfkednlgehchaaGreatDoor.Shapes
open Go Go.Proofs Go.ChangeShapes Go.WideShapes Go.ChangeAt Go.RowKit Go.Deep Go.Proofs.YthfkednlgehchaaGreatDoor Go.Am Go.Proofs.YthfkednlgehchaaGreatDoor.Name
variable {H : Type} {enc : TypeId × Value → H} {W : World} {base : Nat} {spare : Nat → Bool} {held : Bool} {B : Nat}

theorem fields_at {P : Program} {t : TypeId} {fs : Array Field} {fuel : Nat} {cs : List Value} {x : DataW H × List MemPlace} (ht : P.underlying t = some (.struct fs)) (h : DataW.trod enc P W base spare held fuel t cs = some x) (hB : Rows.uptoBulk x.1 ≤ B) :
    ∃ n, cs.length = P.cellsOf t ∧ ∀ (i : Nat) (f : Field) (ft : TypeId) (o k : Nat) (piece : List Value), fs[i]? = some f → f.type = ft → f.offset = o → P.cellsOf ft = k → List.take k (List.drop o cs) = piece → ∃ y, DataW.trod enc P W base spare held n ft piece = some y ∧ Rows.uptoBulk y.1 ≤ B := by
  obtain ⟨xs, n, _, hx, hl, hlen, hf⟩ := DataW.trod_struct ht h
  refine ⟨n, hl, fun i f ft o k piece h1 h2 h3 h4 h5 => ?_⟩
  have h6 := hf i f h1
  subst h2 h3 h4 h5
  have hi : i < xs.length := by
    rw [hlen]
    exact (Array.getElem?_eq_some_iff.1 h1).1
  refine ⟨_, h6.trans (List.getElem?_eq_getElem hi), ?_⟩
  have hp := bulks.part_le (H := H) (d := (xs[i]).1) (l := xs.map (·.1)) (List.mem_map.2 ⟨xs[i], List.getElem_mem hi, rfl⟩)
  subst hx
  simp only [Rows.uptoBulk] at hB
  omega

theorem cells_strings : Tryz.prog.cellsOf 22 = 1 := by kernel_rfl
theorem cells_string : Tryz.prog.cellsOf 9 = 1 := by kernel_rfl
theorem cells_int64 : Tryz.prog.cellsOf 2 = 1 := by kernel_rfl
theorem cells_cell : Tryz.prog.cellsOf 27 = 2 := by kernel_rfl

theorem bulk_sum {D : Nat → DataW H} {N : Nat → ByteArray} : ∀ l : List Nat, (∀ i ∈ l, D i = .lit (.string (N i).data.toList)) → Rows.uptoBulkAll (l.map D) = (l.map fun i => (N i).data.toList.length + 1).sum
  | [], _ => rfl
  | i :: l, h => by
    simp only [List.map_cons, Rows.uptoBulkAll, List.sum_cons]
    rw [bulk_sum l fun j hj => h j (by simp [hj]), h i (by simp)]
    rfl
theorem tail_sum (gs : List ByteArray) : (tailB (bytesOf gs)).length ≤ 2 * (gs.map fun g => g.data.toList.length + 1).sum := by
  induction gs with
  | nil => exact Nat.zero_le _
  | cons g gs ih =>
    have := esc_len g.data.toList
    show (tailB (g.data.toList :: bytesOf gs)).length ≤ 2 * ((g.data.toList.length + 1) :: gs.map fun g => g.data.toList.length + 1).sum
    rw [tail_cons, List.sum_cons]
    simp only [List.length_cons, List.length_append]
    omega

theorem strings_at {fuel : Nat} {v : Value} {y : DataW H × List MemPlace} (h : DataW.trod enc Tryz.prog W base spare held fuel 22 [v] = some y) (hB : Rows.uptoBulk y.1 ≤ B) : ∃ gs : List ByteArray, Strs W v gs ∧ (tailB (bytesOf gs)).length ≤ 2 * B := by
  rcases open_slice1 Tryz.underlying22 cells_string h with ⟨hcs, _⟩ | ⟨a, len, cap, m, n, V, D, Pl, hcs, _, hl, hm, hmm, hyy, hi⟩
  · simp only [List.cons.injEq, and_true] at hcs
    exact ⟨[], ⟨0, 0, 0, Nat.le_refl _, .inl ⟨rfl, none, hcs, fun _ => rfl⟩⟩, Nat.zero_le _⟩
  · simp only [List.cons.injEq, and_true] at hcs
    subst hcs
    have hlm : len ≤ m := by rw [hmm]; split <;> omega
    have key : ∀ i, i < len → ∃ s : ByteArray, W.cell? (a.add i) = some (.string s) ∧ D i = .lit (.string s.data.toList) := by
      intro i hil
      obtain ⟨h1, h2⟩ := hi i (by omega)
      obtain ⟨s, e1, e2, _⟩ := DataW.trod_string Tryz.underlying9 h2
      simp only [List.cons.injEq, and_true] at e1
      rw [e1] at h1
      exact ⟨s, h1, (Prod.mk.inj e2).1⟩
    obtain ⟨N, hN⟩ := choose_lt key
    have hsum : (((List.range len).map N).map fun g => g.data.toList.length + 1).sum ≤ B := by
      rw [List.map_map]
      have h1 := bulks.slice_elems ((List.range len).map D) ((List.range (m - len)).map fun j => D (len + j)) (H := H)
      have h2 := bulk_sum (H := H) (D := D) (N := N) (List.range len) (fun i hi => (hN i (List.mem_range.1 hi)).2)
      rw [h2] at h1
      subst hyy
      have h3 := hB
      simp only at h3
      exact Nat.le_trans (Nat.le_succ _) (Nat.le_trans h1 h3)
    refine ⟨(List.range len).map N, ?_, Nat.le_trans (tail_sum _) (by omega)⟩
    rcases Nat.eq_zero_or_pos len with h0 | h0
    · subst h0
      exact ⟨0, 0, cap, by simp, .inl ⟨rfl, some a, rfl, fun e => by cases e⟩⟩
    · have hs := World.cell?_spot (hN 0 h0).1
      obtain ⟨ab, ao, asp⟩ := a
      have : asp = none := by simpa [Addr.add] using hs
      subst this
      refine ⟨ab, ao, cap, by simpa using hl, .inr ⟨by simp, ?_, fun i g hg => ?_⟩⟩
      · have := Base.cell_lt (hN 0 h0).1
        simpa [Addr.add_lit] using this
      · have hil : i < len := by
          have := (List.getElem?_eq_some_iff.1 hg).1
          simpa using this
        obtain rfl : N i = g := by simpa [hil] using hg
        have := (hN i hil).1
        rw [Addr.add_lit] at this
        exact this

/-- DOWN: an api.Cell. -/
theorem cell_at {cs : Array Value} {d : DataW H} {p : List MemPlace} (h : DataW.Trod enc Tryz.prog W base spare held 27 (.agg cs) d p) (hB : Rows.uptoBulk d ≤ 1048576) :
    ∃ (n : Int) (gs : List ByteArray) (sl : Value), cs = #[.int .i64 n, sl] ∧ -9223372036854775808 ≤ n ∧ n ≤ 9223372036854775807 ∧ Strs W sl gs ∧ (nameB n (bytesOf gs)).length ≤ 16777216 := by
  obtain ⟨fuel, hf0⟩ := h
  obtain ⟨cl⟩ := cs
  simp only [Value.cells] at hf0
  obtain ⟨n, hl, hf⟩ := fields_at Tryz.underlying27 hf0 hB
  rw [cells_cell] at hl
  obtain ⟨v0, v1, rfl⟩ : ∃ a b, cl = [a, b] := by
    match cl, hl with
    | [a, b], _ => exact ⟨a, b, rfl⟩
  obtain ⟨y0, h0, _⟩ := hf 0 _ 2 0 1 [v0] rfl rfl rfl cells_int64 rfl
  obtain ⟨y1, h1, b1⟩ := hf 1 _ 22 1 1 [v1] rfl rfl rfl cells_strings rfl
  obtain ⟨n0, e0, _, hw⟩ := DataW.trod_int Tryz.underlying2 h0
  obtain ⟨gs, hs, hlen⟩ := strings_at h1 b1
  simp only [List.cons.injEq, and_true] at e0
  subst e0
  have hr : -9223372036854775808 ≤ n0 ∧ n0 ≤ 9223372036854775807 := by
    have := hw
    simp [Lit.wf, IntKind.min, IntKind.max, IntKind.signed, IntKind.bits] at this
    omega
  refine ⟨n0, gs, v1, rfl, hr.1, hr.2, hs, ?_⟩
  unfold nameB
  have := Parse.itoa_len n0 hr.1 hr.2
  rw [List.length_append]
  omega
end Go.Proofs.YthfkednlgehchaaGreatDoor.Shapes
