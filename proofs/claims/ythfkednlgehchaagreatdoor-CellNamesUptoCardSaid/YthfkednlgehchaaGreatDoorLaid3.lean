/- The listed package-level variables: a world that holds them (for the rows' witnesses), and what the rows' condition gives a walk ('Globs'). -/
import Derived.Test.YthfkednlgehchaaGreatDoorRows
import Derived.Test.YthfkednlgehchaaGreatDoorBase3
import Derived.Test.YthfkednlgehchaaGreatDoorShelf
import Derived.PinnedBridge
import Derived.Lib.LaidTab
import Derived.LaidHandle
import Derived.LaidLaws
import Derived.OpenShut
set_option linter.unusedSimpArgs false
set_option linter.unusedVariables false
namespace Go.Proofs.YthfkednlgehchaaGreatDoor.Laid
open Go Go.Lib Go.RowKit

/-- A datum's cells. -/
def litV : Lit → Value
  | .int k n => .int k n
  | .string b => .string ⟨b.toArray⟩
  | .bool b => .bool b
  | _ => .nilIface
mutual
def cellsD : DataW Unit → List Value
  | .lit l => [litV l]
  | .agg l => cellsDs l
  | _ => []
def cellsDs : List (DataW Unit) → List Value
  | [] => []
  | d :: l => cellsD d ++ cellsDs l
end
def put (h : Array Obj) (g : Nat) (cs : List Value) : Array Obj := h.modify g fun
  | .cells _ t frozen => .cells cs.toArray t frozen
  | o => o
/-- The settled world, the variables holding what they are listed with. -/
noncomputable def laidWorld (os : Os) : World :=
  let w0 := World.holding Tryz.prog os ⟨#[], #[], []⟩
  let h := put w0.heap 6 (cellsD Rows.laid_unicode_utf8_first)
  let h := put h 7 (cellsD Rows.laid_unicode_utf8_acceptRanges)
  let h := put h 4 (cellsD Rows.laid_internal_strconv_uint64pow10)
  let h := put h 8 (cellsD Rows.laid_math_bits_deBruijn32tab)
  let h := put h 9 (cellsD Rows.laid_math_bits_deBruijn64tab)
  let h := put h 5 (cellsD Rows.laid_weir_span_units)
  let n := h.size
  let h := put h 2 [.iface 242 (.pointer (some ⟨n, 0, none⟩))]
  let h := put h 3 [.iface 242 (.pointer (some ⟨n + 1, 0, none⟩))]
  let h := (h.push (.cells #[.string ⟨#[105, 110, 118, 97, 108, 105, 100, 32, 115, 121, 110, 116, 97, 120]⟩] 244)).push (.cells #[.string ⟨#[118, 97, 108, 117, 101, 32, 111, 117, 116, 32, 111, 102, 32, 114, 97, 110, 103, 101]⟩] 244)
  let h := put h 0 [.iface 178 (.agg #[.pointer (some ⟨12, 29, none⟩)])]
  { w0 with heap := h }

def listA : List (String × DataW Unit) := [("math/bits.deBruijn32tab", Rows.laid_math_bits_deBruijn32tab), ("math/bits.deBruijn64tab", Rows.laid_math_bits_deBruijn64tab), ("internal/strconv.uint64pow10", Rows.laid_internal_strconv_uint64pow10), ("unicode/utf8.acceptRanges", Rows.laid_unicode_utf8_acceptRanges), ("errors.errorType", Rows.laid_errors_errorType), ("strconv.ErrRange", Rows.laid_strconv_ErrRange), ("strconv.ErrSyntax", Rows.laid_strconv_ErrSyntax), ("weir/span.units", Rows.laid_weir_span_units), ("unicode/utf8.first", Rows.laid_unicode_utf8_first)]

set_option maxRecDepth 100000 in
theorem listA_met (os : Os) (args : Array Value) : laidMetH Tryz.prog listA ((laidWorld os).forCall (fun _ _ => 0) ⟨#[], args, []⟩).memory :=
  laidMetH_of_parts (laidMet_of_run' 8 (by kernel_rfl) (by kernel_rfl)) (by kernel_rfl)

/-! ### what the condition gives -/

/-- What is no handle reads as it is listed. -/
theorem reads_of {l : List (String × DataW Unit)} {W : World} (h : laidMetH Tryz.prog l W) {n : String} {d : DataW Unit} (hm : (n, d) ∈ l) (hd : d.handleName?.isSome = false) : VarReads Tryz.prog W n d := by
  have hin : (n, d) ∈ l.filter (fun x => x.2.handleName?.isNone) := List.mem_filter.2 ⟨hm, by simp only [Option.isSome_eq_false_iff] at hd; exact hd⟩
  unfold laidMetH at h
  split at h
  · exact Lib.laidMet.reads h hm
  · exact Lib.laidMet.reads h.1 hin

theorem rt : (Tryz.prog.cutTypes.find? (·.1 == "internal/reflectlite.rtype")).map (·.2) = some 178 := by kernel_rfl
theorem nTypes : Tryz.prog.types.size = 412 := by kernel_rfl
theorem oneRow : ((List.range 412).filter fun t => Tryz.prog.rowNamed t [101, 114, 114, 111, 114]) = [29] := by kernel_rfl

theorem err_of {l : List (String × DataW Unit)} {W : World} (h : laidMetH Tryz.prog l W) (hm : ("errors.errorType", Rows.laid_errors_errorType) ∈ l) : W.cell? ⟨0, 0, none⟩ = some (.iface 178 (.agg #[.pointer (some ⟨12, 29, none⟩)])) := by
  have hin : ("errors.errorType", Rows.laid_errors_errorType) ∈ l.filter (fun x => x.2.handleName?.isSome) := List.mem_filter.2 ⟨hm, by kernel_rfl⟩
  have h' : handlesMet Tryz.prog (l.filter fun x => x.2.handleName?.isSome) W := by
    unfold laidMetH at h
    split at h
    · rename_i e; rw [e] at hin; cases hin
    · rename_i e; rw [e]; exact h.2
  obtain ⟨name, u, ty, e1, e2, e3, e4, e5⟩ := h' _ hin
  have en : name = [101, 114, 114, 111, 114] := (Option.some.inj e1).symm
  subst en
  obtain rfl := Option.some.inj (rt.symm.trans e2)
  have hm : ty ∈ (List.range 412).filter fun t => Tryz.prog.rowNamed t [101, 114, 114, 111, 114] := List.mem_filter.2 ⟨List.mem_range.2 (by rw [← nTypes]; exact e3), e4⟩
  rw [oneRow] at hm
  obtain rfl := List.mem_singleton.1 hm
  have hh : typeHandle Tryz.prog 29 = .pointer (some ⟨12, 29, none⟩) := by kernel_rfl
  rw [hh] at e5
  have hg : Tryz.prog.globalNamed "errors.errorType" = some 0 := by kernel_rfl
  simpa using World.var?_cell hg e5 0

/-- Pairs of a text and a number, in a row. -/
def pairsD (l : List (List UInt8 × Int)) : DataW Unit := .agg (l.map fun x => .agg [.lit (.string x.1), .lit (.int .i64 x.2)])
def pairsV (l : List (List UInt8 × Int)) : List Value := l.flatMap fun x => [.string ⟨x.1.toArray⟩, .int .i64 x.2]

theorem pairsV_get : ∀ (l : List (List UInt8 × Int)) (i : Nat) (v : Value), (pairsV l)[i]? = some v → ∃ x, l[i / 2]? = some x ∧ ((i % 2 = 0 ∧ v = .string ⟨x.1.toArray⟩) ∨ (i % 2 = 1 ∧ v = .int .i64 x.2))
  | [], i, v, h => by simp [pairsV] at h
  | x :: l, 0, v, h => by simp [pairsV] at h; exact ⟨x, rfl, .inl ⟨rfl, h.symm⟩⟩
  | x :: l, 1, v, h => by simp [pairsV] at h; exact ⟨x, rfl, .inr ⟨rfl, h.symm⟩⟩
  | x :: l, i + 2, v, h => by
    have h' : (pairsV l)[i]? = some v := by simpa [pairsV] using h
    obtain ⟨y, hy, h2⟩ := pairsV_get l i v h'
    refine ⟨y, by rw [show (i + 2) / 2 = i / 2 + 1 by omega]; simpa using hy, ?_⟩
    rw [show (i + 2) % 2 = i % 2 by omega]; exact h2

theorem cells_of_pairs {w : World} {fuel : Nat} {cs : List Value} {l : List (List UInt8 × Int)} {p : List MemPlace}
    (h : DataW.trod (fun _ => ()) Tryz.prog w 0 (fun _ => true) false fuel 264 cs = some (pairsD l, p)) : ∀ (i : Nat) (v : Value), (pairsV l)[i]? = some v → cs[i]? = some v := by
  intro i v hi
  obtain ⟨x, hx, hv⟩ := pairsV_get l i v hi
  obtain ⟨xs, m, _, hxs, hlen, hn, hf⟩ := DataW.trod_array Tryz.underlying264 h
  simp only [Prod.mk.injEq, pairsD, DataW.agg.injEq] at hxs
  obtain ⟨hxs, _⟩ := hxs
  have hl : l.length = 8 := by have := congrArg List.length hxs; simp at this; omega
  have hq : i / 2 < 8 := by rw [← hl]; exact (List.getElem?_eq_some_iff.1 hx).1
  have c2 : Tryz.prog.cellsOf 263 = 2 := by kernel_rfl
  have h1 := hf (i / 2) hq
  rw [c2] at h1
  have hy : xs[i / 2]? = some (xs[i / 2]'(by omega)) := List.getElem?_eq_getElem (by omega)
  rw [hy] at h1
  obtain ⟨ys, m2, _, hys, hl2, hn2, hf2⟩ := DataW.trod_struct Tryz.underlying263 h1
  rw [c2] at hl2
  have hd : (xs[i / 2]'(by omega)).1 = .agg [.lit (.string x.1), .lit (.int .i64 x.2)] := by
    have h3 := congrArg (·[i / 2]?) hxs
    simp only [List.getElem?_map, hx, hy, Option.map_some, Option.some.injEq] at h3
    exact h3.symm
  rw [hys] at hd
  simp only [DataW.agg.injEq] at hd
  have cS : Tryz.prog.cellsOf 9 = 1 := by kernel_rfl
  have cI : Tryz.prog.cellsOf 2 = 1 := by kernel_rfl
  have k0 := hf2 0 ⟨ "name", 9, 0, false, "", "weir/span", 0⟩ rfl
  have k1 := hf2 1 ⟨ "n", 2, 1, false, "", "weir/span", 16⟩ rfl
  simp only [cS] at k0
  simp only [cI] at k1
  match ys, hd with
  | [y0, y1], hd =>
    simp only [List.map_cons, List.map_nil, List.cons.injEq, and_true] at hd
    obtain ⟨hd0, hd1⟩ := hd
    simp only [List.getElem?_cons_zero, List.getElem?_cons_succ] at k0 k1
    obtain ⟨s, e0, z0, _⟩ := DataW.trod_string Tryz.underlying9 k0
    obtain ⟨n, e1, z1, _⟩ := DataW.trod_int Tryz.underlying2 k1
    rw [z0] at hd0
    rw [z1] at hd1
    simp only [DataW.lit.injEq, Lit.string.injEq, Lit.int.injEq, true_and] at hd0 hd1
    rcases hv with ⟨hi2, rfl⟩ | ⟨hi2, rfl⟩
    · have h5 := congrArg (·[0]?) e0
      simp [List.getElem?_take, List.getElem?_drop] at h5
      rw [show i / 2 * 2 = i by omega] at h5
      rw [h5, ← hd0]
    · have h5 := congrArg (·[0]?) e1
      simp [List.getElem?_take, List.getElem?_drop] at h5
      rw [show i / 2 * 2 + 1 = i by omega] at h5
      rw [h5, hd1]

def unitList : List (List UInt8 × Int) := [([119], 604800000000000), ([100], 86400000000000), ([104], 3600000000000), ([109], 60000000000), ([115], 1000000000), ([109, 115], 1000000), ([117, 115], 1000), ([110, 115], 1)]
theorem units_of {W : World} (h : VarReads Tryz.prog W "weir/span.units" Rows.laid_weir_span_units) : ∀ (i : Nat) (v : Value), Base.unitRow[i]? = some v → W.cell? ⟨5, i, none⟩ = some v := by
  obtain ⟨g, t, cs, fuel, p, hg, hty, hvar, hd⟩ := h
  have hd' : DataW.trod (fun _ => ()) Tryz.prog W 0 (fun _ => true) false fuel t cs.toList = some (pairsD unitList, p) := hd
  obtain rfl : 5 = g := Option.some.inj ((show Tryz.prog.globalNamed "weir/span.units" = some 5 by kernel_rfl).symm.trans hg)
  obtain rfl : 264 = t := Option.some.inj ((show (Tryz.prog.globals[5]?).map (·.type) = some 264 by kernel_rfl).symm.trans hty)
  have hcs := cells_of_pairs hd'
  intro i v hi
  have h1 := hcs i v hi
  have h2 := World.var?_cell hg hvar i
  rw [h2]
  simpa using h1

theorem size_of {W : World} (h : W.ShapedOpen Tryz.prog) : 12 ≤ W.heap.size := by
  have hs : (((begin Tryz.prog (fun _ _ => 0) default).world.heap[12 - 1]?).bind Obj.row?).isSome = true := by kernel_rfl
  obtain ⟨⟨z, t⟩, hz⟩ := Option.isSome_iff_exists.1 hs
  obtain ⟨cs, hc, _⟩ := h.1 (12 - 1) z t (show 12 - 1 < Tryz.prog.globals.size from by decide +kernel) hz
  have := (Array.getElem?_eq_some_iff.1 hc).1
  omega

theorem pow_of {W : World} (h : VarReads Tryz.prog W "internal/strconv.uint64pow10" Rows.laid_internal_strconv_uint64pow10) : Lib.TabIs Tryz.prog W "internal/strconv.uint64pow10" .u64 Lib.pow10Tab := by
  obtain ⟨g, t, cs, fuel, p, hg, hty, hvar, hd⟩ := h
  have hd' : DataW.trod (fun _ => ()) Tryz.prog W 0 (fun _ => true) false fuel t cs.toList = some (tabData .u64 Lib.pow10Tab, p) := hd
  obtain rfl : 4 = g := Option.some.inj ((show Tryz.prog.globalNamed "internal/strconv.uint64pow10" = some 4 by kernel_rfl).symm.trans hg)
  obtain rfl : 238 = t := Option.some.inj ((show (Tryz.prog.globals[4]?).map (·.type) = some 238 by kernel_rfl).symm.trans hty)
  have hcs := cells_of_tab Tryz.underlying238 Tryz.underlying146 (by kernel_rfl) (by kernel_rfl) hd'
  unfold Lib.TabIs
  rw [hvar]
  congr 1
  rw [← hcs]

/-- A variable that is laid as an error holds one. -/
theorem err_shape {W : World} {n : String} {d : DataW Unit} {nm : String} {g : Nat} (h : VarReads Tryz.prog W n (.iface nm d)) (hg0 : Tryz.prog.globalNamed n = some g) (hty0 : (Tryz.prog.globals[g]?).map (·.type) = some 29) : ∃ tp p, W.var? Tryz.prog n = some #[.iface tp p] := by
  obtain ⟨g, t, cs, fuel, p, hg, hty, hvar, hd⟩ := h
  obtain rfl := Option.some.inj (hg0.symm.trans hg)
  obtain rfl := Option.some.inj (hty0.symm.trans hty)
  obtain ⟨_, u, v, hcs, _⟩ := iface_of_trod Tryz.underlying29 hd
  refine ⟨u, v, hvar.trans ?_⟩
  congr 1
  apply Array.ext'
  rw [hcs]
theorem globs_of {l : List (String × DataW Unit)} {W : World} (h : laidMetH Tryz.prog l W) (hW : W.ShapedOpen Tryz.prog) (m1 : ("weir/span.units", Rows.laid_weir_span_units) ∈ l) (m2 : ("internal/strconv.uint64pow10", Rows.laid_internal_strconv_uint64pow10) ∈ l)
    (m3 : ("strconv.ErrSyntax", Rows.laid_strconv_ErrSyntax) ∈ l) (m4 : ("strconv.ErrRange", Rows.laid_strconv_ErrRange) ∈ l) (m5 : ("errors.errorType", Rows.laid_errors_errorType) ∈ l) : Base.Globs W :=
  ⟨size_of hW, err_of h m5, units_of (reads_of h m1 (by kernel_rfl)), pow_of (reads_of h m2 (by kernel_rfl)), err_shape (g := 2) (reads_of h m3 (by kernel_rfl)) (by kernel_rfl) (by kernel_rfl), err_shape (g := 3) (reads_of h m4 (by kernel_rfl)) (by kernel_rfl) (by kernel_rfl), Tryz.laysM145.s1_3 W hW⟩
end Go.Proofs.YthfkednlgehchaaGreatDoor.Laid
