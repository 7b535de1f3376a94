/- The listed package-level variables: a world that holds them (for the rows' witnesses), and what the rows' condition gives a walk ('Globs'). -/
import Derived.Test.YtlbjfomcgbiagaaGreatDoorRows
import Derived.Test.YtlbjfomcgbiagaaGreatDoorBase
import Derived.Test.YtlbjfomcgbiagaaGreatDoorShelf
import Derived.PinnedBridge
import Derived.Lib.LaidU8T
import Derived.Lib.LaidTab
import Derived.LaidHandle
import Derived.LaidLaws
set_option linter.unusedSimpArgs false
set_option linter.unusedVariables false
namespace Go.Proofs.YtlbjfomcgbiagaaGreatDoor.Laid
open Go Go.Lib Go.RowKit

/-- A datum's cells. -/
def litV : Lit → Value
  | .int k n => .int k n
  | .string b => .string ⟨b.toArray⟩
  | .bool b => .bool b
  | _ => .nilIface
mutual
def cellsD : DataW Unit → List Value
  | .lit l => [litV l]
  | .agg l => cellsDs l
  | _ => []
def cellsDs : List (DataW Unit) → List Value
  | [] => []
  | d :: l => cellsD d ++ cellsDs l
end
def put (h : Array Obj) (g : Nat) (cs : List Value) : Array Obj := h.modify g fun
  | .cells _ t frozen => .cells cs.toArray t frozen
  | o => o
/-- The settled world, the variables holding what they are listed with. -/
noncomputable def laidWorld (os : Os) : World :=
  let w0 := World.holding Tryz.prog os ⟨#[], #[], []⟩
  let h := put w0.heap 0 [.iface 132 (.agg #[.pointer (some ⟨8, 25, none⟩)])]
  let h := put h 2 (cellsD Rows.laid_unicode_utf8_first)
  let h := put h 3 (cellsD Rows.laid_unicode_utf8_acceptRanges)
  let h := put h 4 (cellsD Rows.laid_internal_strconv_uint64pow10)
  let h := put h 6 (cellsD Rows.laid_math_bits_deBruijn32tab)
  let h := put h 7 (cellsD Rows.laid_math_bits_deBruijn64tab)
  let h := put h 1 (cellsD Rows.laid_weir_span_units)
  { w0 with heap := h }

def listA : List (String × DataW Unit) := [("math/bits.deBruijn32tab", Rows.laid_math_bits_deBruijn32tab), ("math/bits.deBruijn64tab", Rows.laid_math_bits_deBruijn64tab), ("internal/strconv.uint64pow10", Rows.laid_internal_strconv_uint64pow10), ("unicode/utf8.acceptRanges", Rows.laid_unicode_utf8_acceptRanges), ("errors.errorType", Rows.laid_errors_errorType), ("unicode/utf8.first", Rows.laid_unicode_utf8_first)]

set_option maxRecDepth 100000 in
theorem listA_met (os : Os) (args : Array Value) : laidMetH Tryz.prog listA ((laidWorld os).forCall (fun _ _ => 0) ⟨#[], args, []⟩).memory :=
  laidMetH_of_parts (laidMet_of_run' 8 (by kernel_rfl) (by kernel_rfl)) (by kernel_rfl)

/-! ### what the condition gives -/
theorem rt : (Tryz.prog.cutTypes.find? (·.1 == "internal/reflectlite.rtype")).map (·.2) = some 132 := by kernel_rfl
theorem nTypes : Tryz.prog.types.size = 289 := by kernel_rfl
theorem oneRow : ((List.range 289).filter fun t => Tryz.prog.rowNamed t [101, 114, 114, 111, 114]) = [25] := by kernel_rfl

theorem err_of {l : List (String × DataW Unit)} {W : World} (h : laidMetH Tryz.prog l W) (hm : ("errors.errorType", Rows.laid_errors_errorType) ∈ l) : W.cell? ⟨0, 0, none⟩ = some (.iface 132 (.agg #[.pointer (some ⟨8, 25, none⟩)])) := by
  have hin : ("errors.errorType", Rows.laid_errors_errorType) ∈ l.filter (fun x => x.2.handleName?.isSome) := List.mem_filter.2 ⟨hm, by kernel_rfl⟩
  have h' : handlesMet Tryz.prog (l.filter fun x => x.2.handleName?.isSome) W := by
    unfold laidMetH at h
    split at h
    · rename_i e; rw [e] at hin; cases hin
    · rename_i e; rw [e]; exact h.2
  obtain ⟨name, u, ty, e1, e2, e3, e4, e5⟩ := h' _ hin
  have en : name = [101, 114, 114, 111, 114] := (Option.some.inj e1).symm
  subst en
  obtain rfl := Option.some.inj (rt.symm.trans e2)
  have hm : ty ∈ (List.range 289).filter fun t => Tryz.prog.rowNamed t [101, 114, 114, 111, 114] := List.mem_filter.2 ⟨List.mem_range.2 (by rw [← nTypes]; exact e3), e4⟩
  rw [oneRow] at hm
  obtain rfl := List.mem_singleton.1 hm
  have hh : typeHandle Tryz.prog 25 = .pointer (some ⟨8, 25, none⟩) := by kernel_rfl
  rw [hh] at e5
  have hg : Tryz.prog.globalNamed "errors.errorType" = some 0 := by kernel_rfl
  simpa using World.var?_cell hg e5 0

/-- What is no handle reads as it is listed. -/
theorem reads_of {l : List (String × DataW Unit)} {W : World} (h : laidMetH Tryz.prog l W) {n : String} {d : DataW Unit} (hm : (n, d) ∈ l) (hd : d.handleName?.isSome = false) : VarReads Tryz.prog W n d := by
  have hin : (n, d) ∈ l.filter (fun x => x.2.handleName?.isNone) := List.mem_filter.2 ⟨hm, by simp only [Option.isSome_eq_false_iff] at hd; exact hd⟩
  unfold laidMetH at h
  split at h
  · exact Lib.laidMet.reads h hm
  · exact Lib.laidMet.reads h.1 hin

theorem pow_of {W : World} (h : VarReads Tryz.prog W "internal/strconv.uint64pow10" Rows.laid_internal_strconv_uint64pow10) : Lib.TabIs Tryz.prog W "internal/strconv.uint64pow10" .u64 Lib.pow10Tab := by
  obtain ⟨g, t, cs, fuel, p, hg, hty, hvar, hd⟩ := h
  have hd' : DataW.trod (fun _ => ()) Tryz.prog W 0 (fun _ => true) false fuel t cs.toList = some (tabData .u64 Lib.pow10Tab, p) := hd
  obtain rfl : 4 = g := Option.some.inj ((show Tryz.prog.globalNamed "internal/strconv.uint64pow10" = some 4 by kernel_rfl).symm.trans hg)
  obtain rfl : 175 = t := Option.some.inj ((show (Tryz.prog.globals[4]?).map (·.type) = some 175 by kernel_rfl).symm.trans hty)
  have hcs := cells_of_tab Tryz.underlying175 Tryz.underlying157 (by kernel_rfl) (by kernel_rfl) hd'
  unfold Lib.TabIs
  rw [hvar]
  congr 1
  rw [← hcs]

theorem utf_of {W : World} (h3 : VarReads Tryz.prog W "unicode/utf8.first" Rows.laid_unicode_utf8_first) (h4 : VarReads Tryz.prog W "unicode/utf8.acceptRanges" Rows.laid_unicode_utf8_acceptRanges) : Lib.Utf8Tabs 2 3 W := by
  have e3 : Rows.laid_unicode_utf8_first = firstData := Pinned.utf8First_eq
  have e4 : Rows.laid_unicode_utf8_acceptRanges = acceptData := by kernel_rfl
  rw [e3] at h3
  rw [e4] at h4
  exact utf8Tabs_of_readsT (U8Types.of196 Tryz.lays196) ⟨by kernel_rfl, by kernel_rfl, by kernel_rfl, by kernel_rfl, by kernel_rfl, by kernel_rfl, by kernel_rfl⟩ h3 h4

theorem globs_of {l : List (String × DataW Unit)} {W : World} (h : laidMetH Tryz.prog l W) (m1 : ("errors.errorType", Rows.laid_errors_errorType) ∈ l) (m2 : ("internal/strconv.uint64pow10", Rows.laid_internal_strconv_uint64pow10) ∈ l)
    (m3 : ("unicode/utf8.first", Rows.laid_unicode_utf8_first) ∈ l) (m4 : ("unicode/utf8.acceptRanges", Rows.laid_unicode_utf8_acceptRanges) ∈ l) : Base.Globs W :=
  ⟨err_of h m1, pow_of (reads_of h m2 (by kernel_rfl)), utf_of (reads_of h m3 (by kernel_rfl)) (reads_of h m4 (by kernel_rfl))⟩
end Go.Proofs.YtlbjfomcgbiagaaGreatDoor.Laid
