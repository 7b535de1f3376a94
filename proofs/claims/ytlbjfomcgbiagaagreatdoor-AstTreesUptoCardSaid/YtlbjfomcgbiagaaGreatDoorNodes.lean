/- An argument of type []api.Node: out of its reading as data, the list that its cells hold, in the print's words. -/
import Derived.Test.YtlbjfomcgbiagaaGreatDoorRows
import Derived.Test.YtlbjfomcgbiagaaGreatDoorPrint0
import Derived.Deep.Slices
import Derived.Deep.Fields
import Derived.ChangeSame
import Derived.ProofKit
import Derived.OpenShut
set_option linter.unusedSimpArgs false
set_option linter.unusedVariables false
namespace Go.Proofs.YtlbjfomcgbiagaaGreatDoor.Nodes
open Go.ChangeShapes Go.WideShapes Go.ChangeAt Go.RowKit Go.Deep Go.Proofs.YtlbjfomcgbiagaaGreatDoorW.PrintWords Go.Proofs.YtlbjfomcgbiagaaGreatDoor.Print

section
variable {H : Type} {enc : TypeId × Value → H} {P : Program} {w : World} {base : Nat} {spare : Nat → Bool} {held : Bool}
theorem open_slice_fields {t e : TypeId} {fs : Array Field} {fuel : Nat} {cs : List Value} {x : DataW H × List MemPlace} (ht : P.underlying t = some (.slice e)) (he : P.underlying e = some (.struct fs))
    (hone : oneCellFields P fs = true) (hC : P.cellsOf e = fs.size) (h : DataW.trod enc P w base spare held fuel t cs = some x) :
    (cs = [.slice none 0 0] ∧ x = (.nil, [])) ∨
    ∃ (a : Addr) (len cap m : Nat) (D : Nat → DataW H) (Pl : Nat → List MemPlace), cs = [.slice (some a) len cap] ∧ base ≤ a.block ∧ len ≤ cap ∧ cap ≤ maxLen ∧ m = (if spare a.block then cap else len) ∧
      x = (.slice ((List.range len).map D) ((List.range (m - len)).map fun j => D (len + j)), MemPlace.row a (m * fs.size) ++ (List.range m).flatMap Pl) ∧
      ∀ i, i < m → ∃ (ys : List (DataW H × List MemPlace)) (n : Nat), D i = .agg (ys.map (·.1)) ∧ Pl i = ys.flatMap (·.2) ∧ ys.length = fs.size ∧
        ∀ (j : Nat) (f : Field), fs[j]? = some f → ∃ (v : Value) (y : DataW H × List MemPlace), w.cell? (a.add (i * fs.size + j)) = some v ∧ ys[j]? = some y ∧ DataW.trod enc P w base spare held n f.type [v] = some y := by
  rcases open_slice ht h with h0 | ⟨a, len, cap, m, n, D, Pl, hcs, hb, hl, hm, hmm, hx, hi⟩
  · exact .inl h0
  · refine .inr ⟨a, len, cap, m, D, Pl, hcs, hb, hl, hm, hmm, by rw [hC] at hx; exact hx, fun i him => ?_⟩
    obtain ⟨cs', hc, ht'⟩ := hi i him
    rw [hC] at hc
    obtain ⟨ys, n', hn', hy, hlen, hyl, hf⟩ := DataW.trod_struct he ht'
    obtain ⟨_, hcl, hat⟩ := World.cells?_some hc
    simp only [Prod.mk.injEq] at hy
    refine ⟨ys, n', hy.1, hy.2, hyl, fun j f hj => ?_⟩
    obtain ⟨ho, hk⟩ := hone_of hone j f hj
    have hjl : j < fs.size := (Array.getElem?_eq_some_iff.1 hj).1
    have hcell := hat j hjl
    have hv : cs'[j]? = some (cs'[j]'(by omega)) := List.getElem?_eq_getElem (by omega)
    have h1 := hf j f hj
    rw [ho, hk] at h1
    have hone' : (cs'.drop j).take 1 = [cs'[j]'(by omega)] := by
      rw [List.drop_eq_getElem_cons (by omega)]
      rfl
    rw [hone'] at h1
    have hys : ys[j]? = some (ys[j]'(by omega)) := List.getElem?_eq_getElem (by omega)
    refine ⟨_, _, ?_, hys, h1.trans hys⟩
    rw [← Go.Deep.add_add, hcell, hv]
end

/-- A node whose numbers are of their kinds. -/
structure Fine (n : S56) : Prop where
  op : 0 ≤ n.f0 ∧ n.f0 ≤ 255
  fn : 0 ≤ n.f1 ∧ n.f1 ≤ 255
  num : -9223372036854775808 ≤ n.f3 ∧ n.f3 ≤ 9223372036854775807
  kids : -9223372036854775808 ≤ n.f4 ∧ n.f4 ≤ 9223372036854775807
  pos : -9223372036854775808 ≤ n.f5 ∧ n.f5 ≤ 9223372036854775807
def nodeD {H : Type} (n : S56) : DataW H := .agg [.lit (.int .u8 n.f0), .lit (.int .u8 n.f1), .lit (.string n.f2.data.toList), .lit (.int .i64 n.f3), .lit (.int .i64 n.f4), .lit (.int .i64 n.f5)]

theorem bd_u8 {n : Int} (h : (Lit.int .u8 n).wf = true) : 0 ≤ n ∧ n ≤ 255 := by
  have := bounds_u8 h
  omega
theorem bd_i64 {n : Int} (h : (Lit.int .i64 n).wf = true) : -9223372036854775808 ≤ n ∧ n ≤ 9223372036854775807 := by
  have := bounds_i64 h
  omega

theorem fields35 : Tryz.prog.underlying 56 = some (.struct #[⟨ "Op", 53, 0, false, "", "", 0⟩, ⟨ "Func", 54, 1, false, "", "", 1⟩, ⟨ "S", 9, 2, false, "", "", 8⟩, ⟨ "N", 2, 3, false, "", "", 24⟩, ⟨ "Kids", 3, 4, false, "", "", 32⟩, ⟨ "Pos", 3, 5, false, "", "", 40⟩]) := Tryz.underlying56

theorem node_at {H : Type} {enc : TypeId × Value → H} {W : World} {base : Nat} {spare : Nat → Bool} {held : Bool} {a : Addr} {i k : Nat} {ys : List (DataW H × List MemPlace)} (hl : ys.length = 6)
    (hf : ∀ (j : Nat) (f : Field), (#[⟨ "Op", 53, 0, false, "", "", 0⟩, ⟨ "Func", 54, 1, false, "", "", 1⟩, ⟨ "S", 9, 2, false, "", "", 8⟩, ⟨ "N", 2, 3, false, "", "", 24⟩, ⟨ "Kids", 3, 4, false, "", "", 32⟩, ⟨ "Pos", 3, 5, false, "", "", 40⟩] : Array Field)[j]? = some f → ∃ (v : Value) (y : DataW H × List MemPlace), W.cell? (a.add (i * 6 + j)) = some v ∧ ys[j]? = some y ∧ DataW.trod enc Tryz.prog W base spare held k f.type [v] = some y) :
    ∃ n : S56, Fine n ∧ n.f2.size ≤ maxLen ∧ ys.map (·.1) = [.lit (.int .u8 n.f0), .lit (.int .u8 n.f1), .lit (.string n.f2.data.toList), .lit (.int .i64 n.f3), .lit (.int .i64 n.f4), .lit (.int .i64 n.f5)] ∧
      ∀ j u, [Value.int .u8 n.f0, .int .u8 n.f1, .string n.f2, .int .i64 n.f3, .int .i64 n.f4, .int .i64 n.f5][j]? = some u → W.cell? (a.add (i * 6 + j)) = some u := by
  obtain ⟨v0, y0, c0, q0, t0⟩ := hf 0 _ rfl
  obtain ⟨v1, y1, c1, q1, t1⟩ := hf 1 _ rfl
  obtain ⟨v2, y2, c2, q2, t2⟩ := hf 2 _ rfl
  obtain ⟨v3, y3, c3, q3, t3⟩ := hf 3 _ rfl
  obtain ⟨v4, y4, c4, q4, t4⟩ := hf 4 _ rfl
  obtain ⟨v5, y5, c5, q5, t5⟩ := hf 5 _ rfl
  obtain ⟨x0, e0, rfl, w0⟩ := DataW.trod_int Tryz.underlying53 t0
  obtain ⟨x1, e1, rfl, w1⟩ := DataW.trod_int Tryz.underlying54 t1
  obtain ⟨x2, e2, rfl, w2⟩ := DataW.trod_string Tryz.underlying9 t2
  obtain ⟨x3, e3, rfl, w3⟩ := DataW.trod_int Tryz.underlying2 t3
  obtain ⟨x4, e4, rfl, w4⟩ := DataW.trod_int Tryz.underlying3 t4
  obtain ⟨x5, e5, rfl, w5⟩ := DataW.trod_int Tryz.underlying3 t5
  simp only [List.cons.injEq, and_true] at e0 e1 e2 e3 e4 e5
  subst e0 e1 e2 e3 e4 e5
  refine ⟨⟨x0, x1, x2, x3, x4, x5⟩, ⟨bd_u8 w0, bd_u8 w1, bd_i64 w3, bd_i64 w4, bd_i64 w5⟩, w2, ?_, ?_⟩
  · match ys, hl with
    | [z0, z1, z2, z3, z4, z5], _ =>
      simp only [List.getElem?_cons_zero, List.getElem?_cons_succ, Option.some.injEq] at q0 q1 q2 q3 q4 q5
      subst q0 q1 q2 q3 q4 q5
      rfl
  · intro j u hu
    match j, hu with
    | 0, hu => simp only [List.getElem?_cons_zero, Option.some.injEq] at hu; subst hu; exact c0
    | 1, hu => simp only [List.getElem?_cons_succ, List.getElem?_cons_zero, Option.some.injEq] at hu; subst hu; exact c1
    | 2, hu => simp only [List.getElem?_cons_succ, List.getElem?_cons_zero, Option.some.injEq] at hu; subst hu; exact c2
    | 3, hu => simp only [List.getElem?_cons_succ, List.getElem?_cons_zero, Option.some.injEq] at hu; subst hu; exact c3
    | 4, hu => simp only [List.getElem?_cons_succ, List.getElem?_cons_zero, Option.some.injEq] at hu; subst hu; exact c4
    | 5, hu => simp only [List.getElem?_cons_succ, List.getElem?_cons_zero, Option.some.injEq] at hu; subst hu; exact c5
    | j + 6, hu => simp at hu

/-- DOWN: a []api.Node. -/
theorem open_nodes {H : Type} {enc : TypeId × Value → H} {W : World} {base : Nat} {spare : Nat → Bool} {held : Bool} {a0 : Option Addr} {len cap : Nat} {d : DataW H} {p : List MemPlace} (h : DataW.Trod enc Tryz.prog W base spare held 22 (.slice a0 len cap) d p) :
    ∃ l : List S56, l.length = len ∧ len ≤ cap ∧ cap ≤ maxLen ∧ Kd.C k56 W a0 l.length l ∧ (∀ n ∈ l, Fine n ∧ n.f2.size ≤ maxLen) ∧
      ((d = .nil ∧ l = []) ∨ ∃ sp, d = .slice (l.map nodeD) sp) := by
  obtain ⟨fuel, hf⟩ := h
  rcases open_slice_fields Tryz.underlying22 fields35 (by kernel_rfl) (by kernel_rfl) hf with ⟨hcs, hx⟩ | ⟨a, len', cap', m, D, Pl, hcs, _, hl, hm, hmm, hx, hi⟩
  · simp only [Value.cells, List.cons.injEq, Value.slice.injEq, and_true] at hcs
    obtain ⟨rfl, rfl, rfl⟩ := hcs
    simp only [Prod.mk.injEq] at hx
    exact ⟨[], rfl, Nat.le_refl _, by unfold maxLen; omega, Kd.C_nil _ _, (fun n hn => by cases hn), .inl ⟨hx.1, rfl⟩⟩
  · simp only [Value.cells, List.cons.injEq, Value.slice.injEq, and_true] at hcs
    obtain ⟨rfl, rfl, rfl⟩ := hcs
    have hlm : len ≤ m := by rw [hmm]; split <;> omega
    have key : ∀ i, i < len → ∃ n : S56, Fine n ∧ n.f2.size ≤ maxLen ∧ D i = nodeD n ∧ ∀ j u, [Value.int .u8 n.f0, .int .u8 n.f1, .string n.f2, .int .i64 n.f3, .int .i64 n.f4, .int .i64 n.f5][j]? = some u → W.cell? (a.add (i * 6 + j)) = some u := by
      intro i hil
      obtain ⟨ys, k, hD, _, hyl, hf⟩ := hi i (by omega)
      obtain ⟨n, h1, h2, h3, h4⟩ := node_at hyl hf
      exact ⟨n, h1, h2, by rw [hD, h3]; rfl, h4⟩
    have inh : Inhabited S56 := ⟨z56⟩
    obtain ⟨N, hN⟩ := choose_lt key
    refine ⟨(List.range len).map N, by simp, hl, hm, ?_, ?_, .inr ⟨(List.range (m - len)).map fun j => D (len + j), ?_⟩⟩
    · refine ⟨rfl, ?_, fun _ => ⟨a, rfl, fun j p hj => ?_⟩⟩
      · simp only [List.length_map, List.length_range]; unfold maxLen at hm; omega
      · have hjl : j < len := by
          have := (List.getElem?_eq_some_iff.1 hj).1
          simpa using this
        obtain rfl : N j = p := by simpa [hjl] using hj
        exact ⟨_, rfl, k56_mk W (N j), fun i u hu => (hN j hjl).2.2.2 i u hu⟩
    · intro n hn
      obtain ⟨i, hi2, rfl⟩ := List.mem_map.1 hn
      exact ⟨(hN i (by simpa using hi2)).1, (hN i (by simpa using hi2)).2.1⟩
    · simp only [Prod.mk.injEq] at hx
      rw [hx.1, List.map_map]
      congr 1
      refine List.map_congr_left fun i hi2 => ?_
      exact (hN i (by simpa using hi2)).2.2.1
end Go.Proofs.YtlbjfomcgbiagaaGreatDoor.Nodes
