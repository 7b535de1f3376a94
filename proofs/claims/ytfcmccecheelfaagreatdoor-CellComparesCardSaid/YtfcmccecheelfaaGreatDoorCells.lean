/- Arguments of type api.Cell: out of their reading as data, what their cells hold, in the print's words. -/
import Derived.Test.YtfcmccecheelfaaGreatDoorRows
import Derived.Test.YtfcmccecheelfaaGreatDoorPrint0
import Derived.Deep.Slices
import Derived.Deep.Fields
import Derived.ChangeSame
import Derived.ProofKit
import Derived.OpenShut
set_option linter.unusedSimpArgs false
set_option linter.unusedVariables false
namespace Go.Proofs.YtfcmccecheelfaaGreatDoor.Cells
open Go.ChangeShapes Go.WideShapes Go.ChangeAt Go.RowKit Go.Deep Go.Proofs.YtfcmccecheelfaaGreatDoorW.PrintWords Go.Proofs.YtfcmccecheelfaaGreatDoor.Print
variable {H : Type} {enc : TypeId × Value → H} {W : World} {base : Nat} {spare : Nat → Bool} {held : Bool}

/-- A struct's fields, each with its cells. -/
theorem open_fields {P : Program} {t : TypeId} {fs : Array Field} {fuel : Nat} {cs : List Value} {x : DataW H × List MemPlace} (ht : P.underlying t = some (.struct fs)) (h : DataW.trod enc P W base spare held fuel t cs = some x) :
    ∃ n, cs.length = P.cellsOf t ∧ ∀ (i : Nat) (f : Field) (ft : TypeId) (o k : Nat) (piece : List Value), fs[i]? = some f → f.type = ft → f.offset = o → P.cellsOf ft = k → List.take k (List.drop o cs) = piece → ∃ y, DataW.trod enc P W base spare held n ft piece = some y := by
  obtain ⟨xs, n, _, _, hl, hlen, hf⟩ := DataW.trod_struct ht h
  refine ⟨n, hl, fun i f ft o k piece h1 h2 h3 h4 h5 => ?_⟩
  have h6 := hf i f h1
  subst h2 h3 h4 h5
  have hi : i < xs.length := by
    rw [hlen]
    exact (Array.getElem?_eq_some_iff.1 h1).1
  exact ⟨_, h6.trans (List.getElem?_eq_getElem hi)⟩

/-- A slice of values of a kind, out of what each element's cells tell. -/
theorem rows_at {α : Type} [Inhabited α] (k : Kd α) {t e : TypeId} {fuel : Nat} {v : Value} {y : DataW H × List MemPlace} (ht : Tryz.prog.underlying t = some (.slice e)) (hsz : k.sz = Tryz.prog.cellsOf e)
    (each : ∀ (n : Nat) (cs : List Value) (z : DataW H × List MemPlace), DataW.trod enc Tryz.prog W base spare held n e cs = some z → ∃ x : α, k.K W x cs)
    (h : DataW.trod enc Tryz.prog W base spare held fuel t [v] = some y) : ∃ (A : Option Addr) (c : Nat) (l : List α), v = .slice A l.length c ∧ l.length ≤ c ∧ Kd.C k W A l.length l := by
  rcases open_slice ht h with ⟨hcs, _⟩ | ⟨a, len, cap, m, n, D, Pl, hcs, _, hl, hm, hmm, _, hi⟩
  · simp only [List.cons.injEq, and_true] at hcs
    exact ⟨none, 0, [], hcs, Nat.le_refl _, Kd.C_nil _ _⟩
  · simp only [List.cons.injEq, and_true] at hcs
    have hlm : len ≤ m := by rw [hmm]; split <;> omega
    have key : ∀ i, i < len → ∃ x : α, ∃ cs', cs'.length = k.sz ∧ k.K W x cs' ∧ ∀ j u, cs'[j]? = some u → W.cell? (a.add (i * k.sz + j)) = some u := by
      intro i hil
      obtain ⟨cs', hc, ht'⟩ := hi i (by omega)
      obtain ⟨x, hx⟩ := each _ _ _ ht'
      obtain ⟨_, hcl, hat⟩ := World.cells?_some hc
      refine ⟨x, cs', hcl.trans hsz.symm, hx, fun j u hu => ?_⟩
      have hj : j < Tryz.prog.cellsOf e := by
        rw [← hcl]
        exact (List.getElem?_eq_some_iff.1 hu).1
      rw [hsz, ← Go.Deep.add_add, hat j hj, hu]
    obtain ⟨N, hN⟩ := choose_lt key
    refine ⟨some a, cap, (List.range len).map N, by simp [hcs], by simpa using hl, ?_⟩
    refine ⟨rfl, ?_, fun _ => ⟨a, rfl, fun j p hj => ?_⟩⟩
    · simp only [List.length_map, List.length_range]; unfold maxLen at hm; omega
    · have hjl : j < len := by
        have := (List.getElem?_eq_some_iff.1 hj).1
        simpa using this
      obtain rfl : N j = p := by simpa [hjl] using hj
      obtain ⟨cs', hcl, hK, hat⟩ := hN j hjl
      exact ⟨cs', hcl, hK, hat⟩

theorem len2 {α : Type} {l : List α} (h : l.length = 2) : ∃ a b, l = [a, b] := by
  match l, h with
  | [a, b], _ => exact ⟨a, b, rfl⟩
theorem cells_strings : Tryz.prog.cellsOf 22 = 1 := by kernel_rfl
theorem cells_string : Tryz.prog.cellsOf 9 = 1 := by kernel_rfl
theorem cells_int64 : Tryz.prog.cellsOf 2 = 1 := by kernel_rfl
theorem cells_cell : Tryz.prog.cellsOf 24 = 2 := by kernel_rfl

theorem strings_at {fuel : Nat} {v : Value} {y : DataW H × List MemPlace} (h : DataW.trod enc Tryz.prog W base spare held fuel 22 [v] = some y) : ∃ (A : Option Addr) (c : Nat) (l : List ByteArray), v = .slice A l.length c ∧ l.length ≤ c ∧ Kd.C Kd.string W A l.length l :=
  rows_at Kd.string Tryz.underlying22 cells_string.symm (fun n cs z hz => by
    obtain ⟨x, e, _, _⟩ := DataW.trod_string Tryz.underlying9 hz
    exact ⟨x, e⟩) h

/-- DOWN: an api.Cell. -/
theorem open_cell {cs : Array Value} {d : DataW H} {p : List MemPlace} (h : DataW.Trod enc Tryz.prog W base spare held 24 (.agg cs) d p) :
    ∃ (n0 : Int) (A1 : Option Addr) (c1 : Nat) (l1 : List ByteArray), cs = #[.int .i64 n0, .slice A1 l1.length c1] ∧ Kd.C Kd.string W A1 l1.length l1 ∧ l1.length ≤ c1 := by
  obtain ⟨fuel, hf0⟩ := h
  obtain ⟨cl⟩ := cs
  simp only [Value.cells] at hf0
  obtain ⟨n, hl, hf⟩ := open_fields Tryz.underlying24 hf0
  rw [cells_cell] at hl
  obtain ⟨v0, v1, rfl⟩ := len2 hl
  obtain ⟨y0, h0⟩ := hf 0 _ 2 0 1 [v0] rfl rfl rfl cells_int64 rfl
  obtain ⟨y1, h1⟩ := hf 1 _ 22 1 1 [v1] rfl rfl rfl cells_strings rfl
  obtain ⟨n0, e0, _, _⟩ := DataW.trod_int Tryz.underlying2 h0
  obtain ⟨A1, c1, l1, rfl, hc1, hr1⟩ := strings_at h1
  simp only [List.cons.injEq, and_true] at e0
  subst e0
  exact ⟨n0, A1, c1, l1, rfl, hr1, hc1⟩
end Go.Proofs.YtfcmccecheelfaaGreatDoor.Cells
