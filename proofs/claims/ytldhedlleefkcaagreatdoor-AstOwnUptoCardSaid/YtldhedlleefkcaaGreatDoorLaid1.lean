/- The listed package-level variables: a world that holds them (for the rows' witnesses), and what the rows' condition gives a walk ('Globs'). -/
import Derived.Test.YtldhedlleefkcaaGreatDoorRows
import Derived.Test.YtldhedlleefkcaaGreatDoorBase1
import Derived.PinnedBridge
import Derived.Lib.LaidTab
import Derived.LaidHandle
import Derived.LaidLaws
import Derived.OpenShut
set_option linter.unusedSimpArgs false
set_option linter.unusedVariables false
namespace Go.Proofs.YtldhedlleefkcaaGreatDoor.Laid
open Go Go.Lib Go.RowKit

/-- A datum's cells. -/
def litV : Lit → Value
  | .int k n => .int k n
  | .string b => .string ⟨b.toArray⟩
  | .bool b => .bool b
  | _ => .nilIface
mutual
def cellsD : DataW Unit → List Value
  | .lit l => [litV l]
  | .agg l => cellsDs l
  | _ => []
def cellsDs : List (DataW Unit) → List Value
  | [] => []
  | d :: l => cellsD d ++ cellsDs l
end
def put (h : Array Obj) (g : Nat) (cs : List Value) : Array Obj := h.modify g fun
  | .cells _ t frozen => .cells cs.toArray t frozen
  | o => o
/-- The settled world, the variables holding what they are listed with. -/
noncomputable def laidWorld (os : Os) : World :=
  let w0 := World.holding Tryz.prog os ⟨#[], #[], []⟩
  let h := put w0.heap 0 [.iface 194 (.agg #[.pointer (some ⟨7, 83, none⟩)])]
  let h := put h 2 (cellsD Rows.laid_unicode_utf8_first)
  let h := put h 3 (cellsD Rows.laid_unicode_utf8_acceptRanges)
  let h := put h 1 (cellsD Rows.laid_internal_strconv_uint64pow10)
  let h := put h 4 (cellsD Rows.laid_math_bits_deBruijn32tab)
  let h := put h 5 (cellsD Rows.laid_math_bits_deBruijn64tab)
  { w0 with heap := h }

def listA : List (String × DataW Unit) := [("math/bits.deBruijn32tab", Rows.laid_math_bits_deBruijn32tab), ("math/bits.deBruijn64tab", Rows.laid_math_bits_deBruijn64tab), ("internal/strconv.uint64pow10", Rows.laid_internal_strconv_uint64pow10), ("unicode/utf8.acceptRanges", Rows.laid_unicode_utf8_acceptRanges), ("errors.errorType", Rows.laid_errors_errorType), ("unicode/utf8.first", Rows.laid_unicode_utf8_first)]

set_option maxRecDepth 100000 in
theorem listA_met (os : Os) (args : Array Value) : laidMetH Tryz.prog listA ((laidWorld os).forCall (fun _ _ => 0) ⟨#[], args, []⟩).memory :=
  laidMetH_of_parts (laidMet_of_run' 8 (by kernel_rfl) (by kernel_rfl)) (by kernel_rfl)

/-! ### what the condition gives -/
theorem rt : (Tryz.prog.cutTypes.find? (·.1 == "internal/reflectlite.rtype")).map (·.2) = some 194 := by kernel_rfl
theorem nTypes : Tryz.prog.types.size = 352 := by kernel_rfl
theorem oneRow : ((List.range 352).filter fun t => Tryz.prog.rowNamed t [101, 114, 114, 111, 114]) = [83] := by kernel_rfl

theorem err_of {l : List (String × DataW Unit)} {W : World} (h : laidMetH Tryz.prog l W) (hm : ("errors.errorType", Rows.laid_errors_errorType) ∈ l) : W.cell? ⟨0, 0, none⟩ = some (.iface 194 (.agg #[.pointer (some ⟨7, 83, none⟩)])) := by
  have hin : ("errors.errorType", Rows.laid_errors_errorType) ∈ l.filter (fun x => x.2.handleName?.isSome) := List.mem_filter.2 ⟨hm, by kernel_rfl⟩
  have h' : handlesMet Tryz.prog (l.filter fun x => x.2.handleName?.isSome) W := by
    unfold laidMetH at h
    split at h
    · rename_i e; rw [e] at hin; cases hin
    · rename_i e; rw [e]; exact h.2
  obtain ⟨name, u, ty, e1, e2, e3, e4, e5⟩ := h' _ hin
  have en : name = [101, 114, 114, 111, 114] := (Option.some.inj e1).symm
  subst en
  obtain rfl := Option.some.inj (rt.symm.trans e2)
  have hm : ty ∈ (List.range 352).filter fun t => Tryz.prog.rowNamed t [101, 114, 114, 111, 114] := List.mem_filter.2 ⟨List.mem_range.2 (by rw [← nTypes]; exact e3), e4⟩
  rw [oneRow] at hm
  obtain rfl := List.mem_singleton.1 hm
  have hh : typeHandle Tryz.prog 83 = .pointer (some ⟨7, 83, none⟩) := by kernel_rfl
  rw [hh] at e5
  have hg : Tryz.prog.globalNamed "errors.errorType" = some 0 := by kernel_rfl
  simpa using World.var?_cell hg e5 0

/-- What is no handle reads as it is listed. -/
theorem reads_of {l : List (String × DataW Unit)} {W : World} (h : laidMetH Tryz.prog l W) {n : String} {d : DataW Unit} (hm : (n, d) ∈ l) (hd : d.handleName?.isSome = false) : VarReads Tryz.prog W n d := by
  have hin : (n, d) ∈ l.filter (fun x => x.2.handleName?.isNone) := List.mem_filter.2 ⟨hm, by simp only [Option.isSome_eq_false_iff] at hd; exact hd⟩
  unfold laidMetH at h
  split at h
  · exact Lib.laidMet.reads h hm
  · exact Lib.laidMet.reads h.1 hin

theorem size_of {W : World} (h : W.ShapedOpen Tryz.prog) : 7 ≤ W.heap.size := by
  have hs : (((begin Tryz.prog (fun _ _ => 0) default).world.heap[7 - 1]?).bind Obj.row?).isSome = true := by kernel_rfl
  obtain ⟨⟨z, t⟩, hz⟩ := Option.isSome_iff_exists.1 hs
  obtain ⟨cs, hc, _⟩ := h.1 (7 - 1) z t (show 7 - 1 < Tryz.prog.globals.size from by decide +kernel) hz
  have := (Array.getElem?_eq_some_iff.1 hc).1
  omega

theorem globs_of {l : List (String × DataW Unit)} {W : World} (h : laidMetH Tryz.prog l W) (hW : W.ShapedOpen Tryz.prog) (m1 : ("errors.errorType", Rows.laid_errors_errorType) ∈ l) : Base.Globs W :=
  ⟨size_of hW, err_of h m1⟩
end Go.Proofs.YtldhedlleefkcaaGreatDoor.Laid
