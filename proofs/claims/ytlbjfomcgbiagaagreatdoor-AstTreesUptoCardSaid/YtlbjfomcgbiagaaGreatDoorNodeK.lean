/- One node in a box of its own: what a walk over its tests asks for. -/
import Derived.Test.YtlbjfomcgbiagaaGreatDoorRepIn
import Derived.Test.YtlbjfomcgbiagaaGreatDoorSq
import Derived.Test.YtlbjfomcgbiagaaGreatDoorWAll
set_option linter.unusedVariables false
set_option linter.unusedSimpArgs false
namespace Go.Proofs.YtlbjfomcgbiagaaGreatDoor.Base
open Go Go.RowKit Go.Proofs.YtlbjfomcgbiagaaGreatDoorW.PrintWords Go.Proofs.YtlbjfomcgbiagaaGreatDoorW.PrintLast Go.Proofs Go.Proofs.YtlbjfomcgbiagaaGreatDoor Go.Proofs.YtlbjfomcgbiagaaGreatDoorW.PrintMore
section
variable {w W : World} {g : Nat} {x0 x1 x2 x3 x4 x5 : Value} {t : TypeId}
theorem cell_in {b : Nat} {cs : Array Value} {fz : Nat × Nat} (h : W.heap[b]? = some (.cells cs t fz)) (j : Nat) : W.cell? ⟨b, j, none⟩ = cs[j]? := by
  show (match W.heap[b]? with | some (.cells c _ _) => c[j]? | _ => none) = _
  rw [h]
theorem box6 (hb : Below w.heap.size w W) (h : W.heap[g]? = some (.cells #[x0, x1, x2, x3, x4, x5] t (0, 0))) : Below w.heap.size w W ∧ W.cell? ⟨g, 0, none⟩ = some x0 ∧ W.cell? ⟨g, 1, none⟩ = some x1 ∧ W.cell? ⟨g, 2, none⟩ = some x2 ∧ W.cell? ⟨g, 3, none⟩ = some x3 ∧ W.cell? ⟨g, 4, none⟩ = some x4 ∧ W.cell? ⟨g, 5, none⟩ = some x5 :=
  ⟨hb, cell_in h 0, cell_in h 1, cell_in h 2, cell_in h 3, cell_in h 4, cell_in h 5⟩
theorem box7 (hb : Below w.heap.size w W) (h : W.heap[g]? = some (.cells #[x0, x1, x2, x3, x4, x5] t (0, 0))) : Below w.heap.size w W.drew ∧ W.drew.cell? ⟨g, 0, none⟩ = some x0 ∧ W.drew.cell? ⟨g, 1, none⟩ = some x1 ∧ W.drew.cell? ⟨g, 2, none⟩ = some x2 ∧ W.drew.cell? ⟨g, 3, none⟩ = some x3 ∧ W.drew.cell? ⟨g, 4, none⟩ = some x4 ∧ W.drew.cell? ⟨g, 5, none⟩ = some x5 := by
  simp only [World.cell?_drew]
  exact ⟨below_drew1 hb, cell_in h 0, cell_in h 1, cell_in h 2, cell_in h 3, cell_in h 4, cell_in h 5⟩
theorem keep7 {W' : World} (h : Below w.heap.size w W ∧ W.cell? ⟨g, 0, none⟩ = some x0 ∧ W.cell? ⟨g, 1, none⟩ = some x1 ∧ W.cell? ⟨g, 2, none⟩ = some x2 ∧ W.cell? ⟨g, 3, none⟩ = some x3 ∧ W.cell? ⟨g, 4, none⟩ = some x4 ∧ W.cell? ⟨g, 5, none⟩ = some x5) (hb : Below W.heap.size W W') :
    Below w.heap.size w W' ∧ W'.cell? ⟨g, 0, none⟩ = some x0 ∧ W'.cell? ⟨g, 1, none⟩ = some x1 ∧ W'.cell? ⟨g, 2, none⟩ = some x2 ∧ W'.cell? ⟨g, 3, none⟩ = some x3 ∧ W'.cell? ⟨g, 4, none⟩ = some x4 ∧ W'.cell? ⟨g, 5, none⟩ = some x5 := by
  obtain ⟨h0, h1, h2, h3, h4, h5, h6⟩ := h
  exact ⟨below_then h0 h0.size hb, (hb.cell (Rep.lt_of_cell? h1)).trans h1, (hb.cell (Rep.lt_of_cell? h2)).trans h2, (hb.cell (Rep.lt_of_cell? h3)).trans h3, (hb.cell (Rep.lt_of_cell? h4)).trans h4, (hb.cell (Rep.lt_of_cell? h5)).trans h5, (hb.cell (Rep.lt_of_cell? h6)).trans h6⟩
theorem box6i (hb : Below w.heap.size w W) (h0 : W.cell? ⟨g, 0, none⟩ = some x0) (h1 : W.cell? ⟨g, 1, none⟩ = some x1) (h2 : W.cell? ⟨g, 2, none⟩ = some x2) (h3 : W.cell? ⟨g, 3, none⟩ = some x3) (h4 : W.cell? ⟨g, 4, none⟩ = some x4) (h5 : W.cell? ⟨g, 5, none⟩ = some x5) :
    Below w.heap.size w W ∧ W.cell? ⟨g, 0, none⟩ = some x0 ∧ W.cell? ⟨g, 1, none⟩ = some x1 ∧ W.cell? ⟨g, 2, none⟩ = some x2 ∧ W.cell? ⟨g, 3, none⟩ = some x3 ∧ W.cell? ⟨g, 4, none⟩ = some x4 ∧ W.cell? ⟨g, 5, none⟩ = some x5 := ⟨hb, h0, h1, h2, h3, h4, h5⟩
end
theorem eqA56 (d : Nat) (w : World) (x0 y0 : Int) (x1 y1 : Int) (x2 y2 : ByteArray) (x3 y3 : Int) (x4 y4 : Int) (x5 y5 : Int) :
    (Op.equalIn (d + 2) 56 (.agg #[.int .u8 x0, .int .u8 x1, .string x2, .int .i64 x3, .int .i64 x4, .int .i64 x5]) (.agg #[.int .u8 y0, .int .u8 y1, .string y2, .int .i64 y3, .int .i64 y4, .int .i64 y5])).run Tryz.prog w = .ok (x0 == y0 && (x1 == y1 && (x2.toList == y2.toList && (x3 == y3 && (x4 == y4 && (x5 == y5)))))) w := by
  refine eqA_of Tryz.underlying56 (by kernel_rfl) ?_
  refine eqf_cons (by rfl) (by go_simp; rfl) (by go_simp; rfl) (by go_simp) ?_
  refine eqf_cons (by rfl) (by go_simp; rfl) (by go_simp; rfl) (by go_simp) ?_
  refine eqf_cons (by rfl) (by go_simp; rfl) (by go_simp; rfl) (by go_simp) ?_
  refine eqf_cons (by rfl) (by go_simp; rfl) (by go_simp; rfl) (by go_simp) ?_
  refine eqf_cons (by rfl) (by go_simp; rfl) (by go_simp; rfl) (by go_simp) ?_
  exact eqf_last (by rfl) (by go_simp; rfl) (by go_simp; rfl) (by go_simp)
end Go.Proofs.YtlbjfomcgbiagaaGreatDoor.Base
