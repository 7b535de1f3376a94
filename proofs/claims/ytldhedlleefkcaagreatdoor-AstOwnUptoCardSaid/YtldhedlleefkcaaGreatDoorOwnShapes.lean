/- A []api.Node and an api.Query, read into the abstract machine's heap: their real cells, the bulk's bounds, the start. -/
import Derived.Test.YtldhedlleefkcaaGreatDoorRows
import Derived.Test.YtldhedlleefkcaaGreatDoorBase1
import Derived.Test.YtldhedlleefkcaaGreatDoorOZ
import Derived.Test.YtldhedlleefkcaaGreatDoorBulk
import Derived.Deep.Slices
import Derived.Deep.Fields
import Derived.ChangeSame
import Derived.ProofKit
import Derived.OpenShut
set_option linter.unusedSimpArgs false
set_option linter.unusedVariables false
namespace Go.Am
open Go Go.Proofs Go.ChangeShapes Go.WideShapes Go.ChangeAt Go.RowKit Go.Deep Go.Proofs.YtldhedlleefkcaaGreatDoor

/-- A slice's real cells. -/
def Row (W : World) (s : Nat) (v : Value) (xs : List (List Value)) : Prop :=
  ∃ A c, v = .slice A xs.length c ∧ xs.length ≤ c ∧ (A = none → xs = [] ∧ c = 0) ∧ (∀ x ∈ xs, x.length = s) ∧
    (xs ≠ [] → ∃ a, A = some a ∧ a.spot = none ∧ ∀ i x, xs[i]? = some x → ∀ j u, x[j]? = some u → W.cell? (a.add (i * s + j)) = some u)

section
variable {H : Type} {enc : TypeId × Value → H} {W : World} {base : Nat} {spare : Nat → Bool} {held : Bool} {B : Nat}

theorem fields_at {P : Program} {t : TypeId} {fs : Array Field} {fuel : Nat} {cs : List Value} {x : DataW H × List MemPlace} (ht : P.underlying t = some (.struct fs)) (h : DataW.trod enc P W base spare held fuel t cs = some x) (hB : Rows.uptoBulk x.1 ≤ B) :
    ∃ n, cs.length = P.cellsOf t ∧ ∀ (i : Nat) (f : Field) (ft : TypeId) (o k : Nat) (piece : List Value), fs[i]? = some f → f.type = ft → f.offset = o → P.cellsOf ft = k → List.take k (List.drop o cs) = piece → ∃ y, DataW.trod enc P W base spare held n ft piece = some y ∧ Rows.uptoBulk y.1 ≤ B := by
  obtain ⟨xs, n, _, hx, hl, hlen, hf⟩ := DataW.trod_struct ht h
  refine ⟨n, hl, fun i f ft o k piece h1 h2 h3 h4 h5 => ?_⟩
  have h6 := hf i f h1
  subst h2 h3 h4 h5
  have hi : i < xs.length := by
    rw [hlen]
    exact (Array.getElem?_eq_some_iff.1 h1).1
  refine ⟨_, h6.trans (List.getElem?_eq_getElem hi), ?_⟩
  have hp := bulks.part_le (H := H) (d := (xs[i]).1) (l := xs.map (·.1)) (List.mem_map.2 ⟨xs[i], List.getElem_mem hi, rfl⟩)
  subst hx
  simp only [Rows.uptoBulk] at hB
  omega

theorem rows_at {P : Program} {t e : TypeId} {s fuel : Nat} {v : Value} {y : DataW H × List MemPlace} (ht : P.underlying t = some (.slice e)) (hs : P.cellsOf e = s) (hs0 : 0 < s)
    (h : DataW.trod enc P W base spare held fuel t [v] = some y) (hB : Rows.uptoBulk y.1 ≤ B) :
    ∃ xs, Row W s v xs ∧ xs.length ≤ B ∧ ∀ x ∈ xs, ∃ n z, DataW.trod enc P W base spare held n e x = some z ∧ Rows.uptoBulk z.1 ≤ B := by
  rcases open_slice ht h with ⟨hcs, _⟩ | ⟨a, len, cap, m, n, D, Pl, hcs, _, hl, hm, hmm, hyy, hi⟩
  · simp only [List.cons.injEq, and_true] at hcs
    subst hcs
    exact ⟨[], ⟨none, 0, rfl, Nat.le_refl _, fun _ => ⟨rfl, rfl⟩, (fun x hx => by cases hx), fun h => (h rfl).elim⟩, Nat.zero_le _, fun x hx => by cases hx⟩
  · simp only [List.cons.injEq, and_true] at hcs
    subst hcs
    rw [hs] at hi
    have hlm : len ≤ m := by rw [hmm]; split <;> omega
    have hlB : len ≤ B := by
      have h1 := bulks.slice_le ((List.range len).map D) ((List.range (m - len)).map fun j => D (len + j)) (H := H)
      subst hyy
      simp only [List.length_map, List.length_range] at h1 hB
      omega
    have key : ∀ i, i < len → ∃ cs' : List Value, cs'.length = s ∧ (∀ j u, cs'[j]? = some u → W.cell? (a.add (i * s + j)) = some u) ∧ DataW.trod enc P W base spare held n e cs' = some (D i, Pl i) := by
      intro i hil
      obtain ⟨cs', hc, ht'⟩ := hi i (by omega)
      obtain ⟨_, hcl, hat⟩ := World.cells?_some hc
      refine ⟨cs', hcl, fun j u hu => ?_, ht'⟩
      have hj : j < s := by
        rw [← hcl]
        exact (List.getElem?_eq_some_iff.1 hu).1
      rw [← Go.Deep.add_add, hat j hj, hu]
    have inh : Inhabited (List Value) := ⟨[]⟩
    obtain ⟨N, hN⟩ := choose_lt key
    refine ⟨(List.range len).map N, ⟨some a, cap, by simp, by simpa using hl, (fun h => by cases h), ?_, fun hne => ⟨a, rfl, ?_, fun i x hx j u hu => ?_⟩⟩, by simpa using hlB, fun x hx => ?_⟩
    · intro x hx
      obtain ⟨i, hi2, rfl⟩ := List.mem_map.1 hx
      exact (hN i (by simpa using hi2)).1
    · have h0 : 0 < len := by
        rcases Nat.eq_zero_or_pos len with h | h
        · subst h; exact (hne rfl).elim
        · exact h
      obtain ⟨g1, g2, _⟩ := hN 0 h0
      have := World.cell?_spot (g2 0 _ (List.getElem?_eq_getElem (by omega)))
      simpa [Addr.add] using this
    · have hjl : i < len := by
        have := (List.getElem?_eq_some_iff.1 hx).1
        simpa using this
      obtain rfl : N i = x := by simpa [hjl] using hx
      exact (hN i hjl).2.1 j u hu
    · obtain ⟨i, hi2, rfl⟩ := List.mem_map.1 hx
      have hil : i < len := by simpa using hi2
      refine ⟨n, _, (hN i hil).2.2, ?_⟩
      have h1 := bulks.slice_elems ((List.range len).map D) ((List.range (m - len)).map fun j => D (len + j)) (H := H)
      have h2 := bulks.part_le (H := H) (d := D i) (l := (List.range len).map D) (List.mem_map.2 ⟨i, hi2, rfl⟩)
      subst hyy
      simp only at hB
      simp only
      have h3 := hB
      omega

theorem len2 {α : Type} {l : List α} (h : l.length = 2) : ∃ a b, l = [a, b] := by
  match l, h with
  | [a, b], _ => exact ⟨a, b, rfl⟩
theorem len4 {α : Type} {l : List α} (h : l.length = 4) : ∃ a b c d, l = [a, b, c, d] := by
  match l, h with
  | [a, b, c, d], _ => exact ⟨a, b, c, d, rfl⟩
theorem len6 {α : Type} {l : List α} (h : l.length = 6) : ∃ a b c d e f, l = [a, b, c, d, e, f] := by
  match l, h with
  | [a, b, c, d, e, f], _ => exact ⟨a, b, c, d, e, f, rfl⟩
theorem len13 {α : Type} {l : List α} (h : l.length = 13) : ∃ v0 v1 v2 v3 v4 v5 v6 v7 v8 v9 v10 v11 v12, l = [v0, v1, v2, v3, v4, v5, v6, v7, v8, v9, v10, v11, v12] := by
  match l, h with
  | [v0, v1, v2, v3, v4, v5, v6, v7, v8, v9, v10, v11, v12], _ => exact ⟨v0, v1, v2, v3, v4, v5, v6, v7, v8, v9, v10, v11, v12, rfl⟩

theorem cells_nodes : Tryz.prog.cellsOf 22 = 1 := by kernel_rfl
theorem cells_items : Tryz.prog.cellsOf 23 = 1 := by kernel_rfl
theorem cells_labels : Tryz.prog.cellsOf 26 = 1 := by kernel_rfl
theorem cells_label : Tryz.prog.cellsOf 25 = 2 := by kernel_rfl
theorem cells_item : Tryz.prog.cellsOf 80 = 4 := by kernel_rfl
theorem cells_node : Tryz.prog.cellsOf 73 = 6 := by kernel_rfl
theorem cells_query : Tryz.prog.cellsOf 29 = 13 := by kernel_rfl
theorem cells_string : Tryz.prog.cellsOf 9 = 1 := by kernel_rfl
theorem cells_int : Tryz.prog.cellsOf 3 = 1 := by kernel_rfl
theorem cells_int64 : Tryz.prog.cellsOf 2 = 1 := by kernel_rfl
theorem cells_fill : Tryz.prog.cellsOf 27 = 1 := by kernel_rfl
theorem cells_op : Tryz.prog.cellsOf 70 = 1 := by kernel_rfl
theorem cells_func : Tryz.prog.cellsOf 71 = 1 := by kernel_rfl

theorem node_at {fuel : Nat} {cs : List Value} {y : DataW H × List MemPlace} (h : DataW.trod enc Tryz.prog W base spare held fuel 73 cs = some y) (hB : Rows.uptoBulk y.1 ≤ B) : ∃ a f s n k p, cs = nd a f s n k p := by
  obtain ⟨n, hl, hf⟩ := fields_at Tryz.underlying73 h hB
  rw [cells_node] at hl
  obtain ⟨v0, v1, v2, v3, v4, v5, rfl⟩ := len6 hl
  obtain ⟨y0, h0, _⟩ := hf 0 _ 70 0 1 [v0] rfl rfl rfl cells_op rfl
  obtain ⟨y1, h1, _⟩ := hf 1 _ 71 1 1 [v1] rfl rfl rfl cells_func rfl
  obtain ⟨y2, h2, _⟩ := hf 2 _ 9 2 1 [v2] rfl rfl rfl cells_string rfl
  obtain ⟨y3, h3, _⟩ := hf 3 _ 2 3 1 [v3] rfl rfl rfl cells_int64 rfl
  obtain ⟨y4, h4, _⟩ := hf 4 _ 3 4 1 [v4] rfl rfl rfl cells_int rfl
  obtain ⟨y5, h5, _⟩ := hf 5 _ 3 5 1 [v5] rfl rfl rfl cells_int rfl
  obtain ⟨x0, e0, _, _⟩ := DataW.trod_int Tryz.underlying70 h0
  obtain ⟨x1, e1, _, _⟩ := DataW.trod_int Tryz.underlying71 h1
  obtain ⟨x2, e2, _, _⟩ := DataW.trod_string Tryz.underlying9 h2
  obtain ⟨x3, e3, _, _⟩ := DataW.trod_int Tryz.underlying2 h3
  obtain ⟨x4, e4, _, _⟩ := DataW.trod_int Tryz.underlying3 h4
  obtain ⟨x5, e5, _, _⟩ := DataW.trod_int Tryz.underlying3 h5
  simp only [List.cons.injEq, and_true] at e0 e1 e2 e3 e4 e5
  subst e0 e1 e2 e3 e4 e5
  exact ⟨_, _, _, _, _, _, rfl⟩

theorem label_at {fuel : Nat} {cs : List Value} {y : DataW H × List MemPlace} (h : DataW.trod enc Tryz.prog W base spare held fuel 25 cs = some y) (hB : Rows.uptoBulk y.1 ≤ B) : ∃ s p, cs = lb s p := by
  obtain ⟨n, hl, hf⟩ := fields_at Tryz.underlying25 h hB
  rw [cells_label] at hl
  obtain ⟨v0, v1, rfl⟩ := len2 hl
  obtain ⟨y0, h0, _⟩ := hf 0 _ 9 0 1 [v0] rfl rfl rfl cells_string rfl
  obtain ⟨y1, h1, _⟩ := hf 1 _ 3 1 1 [v1] rfl rfl rfl cells_int rfl
  obtain ⟨x0, e0, _, _⟩ := DataW.trod_string Tryz.underlying9 h0
  obtain ⟨x1, e1, _, _⟩ := DataW.trod_int Tryz.underlying3 h1
  simp only [List.cons.injEq, and_true] at e0 e1
  subst e0 e1
  exact ⟨_, _, rfl⟩

theorem nodes_at {fuel : Nat} {v : Value} {y : DataW H × List MemPlace} (h : DataW.trod enc Tryz.prog W base spare held fuel 22 [v] = some y) (hB : Rows.uptoBulk y.1 ≤ B) : ∃ xs, Row W 6 v xs ∧ xs.length ≤ B ∧ Nodes xs := by
  obtain ⟨xs, h1, h2, h3⟩ := rows_at Tryz.underlying22 cells_node (by decide) h hB
  exact ⟨xs, h1, h2, fun x hx => let ⟨_, _, g1, g2⟩ := h3 x hx; node_at g1 g2⟩
theorem labels_at {fuel : Nat} {v : Value} {y : DataW H × List MemPlace} (h : DataW.trod enc Tryz.prog W base spare held fuel 26 [v] = some y) (hB : Rows.uptoBulk y.1 ≤ B) : ∃ xs, Row W 2 v xs ∧ xs.length ≤ B ∧ Labels xs := by
  obtain ⟨xs, h1, h2, h3⟩ := rows_at Tryz.underlying26 cells_label (by decide) h hB
  exact ⟨xs, h1, h2, fun x hx => let ⟨_, _, g1, g2⟩ := h3 x hx; label_at g1 g2⟩

/-- An item: its tree's value, and what it is made of. -/
abbrev It := Value × (List (List Value) × ByteArray × Int × Int)
abbrev It.cells (p : It) : List Value := im p.1 p.2.2.1 p.2.2.2.1 p.2.2.2.2

theorem item_at {fuel : Nat} {cs : List Value} {y : DataW H × List MemPlace} (h : DataW.trod enc Tryz.prog W base spare held fuel 80 cs = some y) (hB : Rows.uptoBulk y.1 ≤ B) :
    ∃ p : It, cs = p.cells ∧ Row W 6 p.1 p.2.1 ∧ p.2.1.length ≤ B ∧ Nodes p.2.1 := by
  obtain ⟨n, hl, hf⟩ := fields_at Tryz.underlying80 h hB
  rw [cells_item] at hl
  obtain ⟨v0, v1, v2, v3, rfl⟩ := len4 hl
  obtain ⟨y0, h0, b0⟩ := hf 0 _ 22 0 1 [v0] rfl rfl rfl cells_nodes rfl
  obtain ⟨y1, h1, b1⟩ := hf 1 _ 25 1 2 [v1, v2] rfl rfl rfl cells_label rfl
  obtain ⟨y2, h2, _⟩ := hf 2 _ 3 3 1 [v3] rfl rfl rfl cells_int rfl
  obtain ⟨xs, g1, g2, g3⟩ := nodes_at h0 b0
  obtain ⟨s, p, ex⟩ := label_at h1 b1
  obtain ⟨x2, e2, _, _⟩ := DataW.trod_int Tryz.underlying3 h2
  simp only [List.cons.injEq, and_true] at ex e2
  obtain ⟨rfl, rfl⟩ := ex
  subst e2
  exact ⟨(v0, xs, s, p, x2), rfl, g1, g2, g3⟩

theorem pick {α β : Type} {p : α → β → Prop} : ∀ (xs : List α), (∀ x ∈ xs, ∃ y, p x y) → ∃ ys : List β, xs.length = ys.length ∧ ∀ (i : Nat) (x : α) (y : β), xs[i]? = some x → ys[i]? = some y → p x y
  | [], _ => ⟨[], rfl, fun i x y h => by simp at h⟩
  | x :: xs, h => by
    obtain ⟨y, hy⟩ := h x (by simp)
    obtain ⟨ys, h1, h2⟩ := pick xs (fun z hz => h z (by simp [hz]))
    refine ⟨y :: ys, by simp [h1], fun i a b ha hb => ?_⟩
    cases i with
    | zero => simp only [List.getElem?_cons_zero, Option.some.injEq] at ha hb; subst ha hb; exact hy
    | succ i => simp only [List.getElem?_cons_succ] at ha hb; exact h2 i a b ha hb

theorem items_at {fuel : Nat} {v : Value} {y : DataW H × List MemPlace} (h : DataW.trod enc Tryz.prog W base spare held fuel 23 [v] = some y) (hB : Rows.uptoBulk y.1 ≤ B) :
    ∃ ps : List It, Row W 4 v (ps.map It.cells) ∧ ps.length ≤ B ∧ ∀ p ∈ ps, Row W 6 p.1 p.2.1 ∧ p.2.1.length ≤ B ∧ Nodes p.2.1 := by
  obtain ⟨xs, h1, h2, h3⟩ := rows_at Tryz.underlying23 cells_item (by decide) h hB
  obtain ⟨ps, g1, g2⟩ := pick (p := fun (x : List Value) (p : It) => x = p.cells ∧ Row W 6 p.1 p.2.1 ∧ p.2.1.length ≤ B ∧ Nodes p.2.1) xs (fun x hx => let ⟨_, _, k1, k2⟩ := h3 x hx; item_at k1 k2)
  have e : xs = ps.map It.cells := by
    refine List.ext_getElem? fun i => ?_
    rw [List.getElem?_map]
    rcases Nat.lt_or_ge i xs.length with hi | hi
    · have a := List.getElem?_eq_getElem hi
      have b := List.getElem?_eq_getElem (l := ps) (i := i) (by omega)
      rw [a, b, (g2 i _ _ a b).1]; rfl
    · rw [List.getElem?_eq_none hi, List.getElem?_eq_none (by omega)]; rfl
  refine ⟨ps, e ▸ h1, by omega, fun p hp => ?_⟩
  obtain ⟨i, hi, rfl⟩ := List.mem_iff_getElem.1 hp
  exact (g2 i _ _ (List.getElem?_eq_getElem (by omega)) (List.getElem?_eq_getElem hi)).2

/-- DOWN: an api.Query. -/
theorem query_at {cs : Array Value} {d : DataW H} {p : List MemPlace} (h : DataW.Trod enc Tryz.prog W base spare held 29 (.agg cs) d p) (hB : Rows.uptoBulk d ≤ 1048576) :
    ∃ (Q : Qd) (ps : List It) (vi vw vg : Value), cs = (qc Q vi vw vg).toArray ∧ Q.Ok ∧ Q.its = ps.map (·.2) ∧ Row W 4 vi (ps.map It.cells) ∧ (∀ p ∈ ps, Row W 6 p.1 p.2.1 ∧ Nodes p.2.1) ∧ Row W 6 vw Q.wh ∧ Row W 2 vg Q.gr := by
  obtain ⟨fuel, hf0⟩ := h
  obtain ⟨cl⟩ := cs
  simp only [Value.cells] at hf0
  obtain ⟨n, hl, hf⟩ := fields_at Tryz.underlying29 hf0 hB
  rw [cells_query] at hl
  obtain ⟨v0, v1, v2, v3, v4, v5, v6, v7, v8, v9, v10, v11, v12, rfl⟩ := len13 hl
  obtain ⟨y0, h0, b0⟩ := hf 0 _ 23 0 1 [v0] rfl rfl rfl cells_items rfl
  obtain ⟨y1, h1, b1⟩ := hf 1 _ 25 1 2 [v1, v2] rfl rfl rfl cells_label rfl
  obtain ⟨y2, h2, b2⟩ := hf 2 _ 25 3 2 [v3, v4] rfl rfl rfl cells_label rfl
  obtain ⟨y3, h3, b3⟩ := hf 3 _ 22 5 1 [v5] rfl rfl rfl cells_nodes rfl
  obtain ⟨y4, h4, _⟩ := hf 4 _ 2 6 1 [v6] rfl rfl rfl cells_int64 rfl
  obtain ⟨y5, h5, _⟩ := hf 5 _ 2 7 1 [v7] rfl rfl rfl cells_int64 rfl
  obtain ⟨y6, h6, _⟩ := hf 6 _ 3 8 1 [v8] rfl rfl rfl cells_int rfl
  obtain ⟨y7, h7, b7⟩ := hf 7 _ 26 9 1 [v9] rfl rfl rfl cells_labels rfl
  obtain ⟨y8, h8, _⟩ := hf 8 _ 27 10 1 [v10] rfl rfl rfl cells_fill rfl
  obtain ⟨y9, h9, _⟩ := hf 9 _ 2 11 1 [v11] rfl rfl rfl cells_int64 rfl
  obtain ⟨y10, h10, _⟩ := hf 10 _ 3 12 1 [v12] rfl rfl rfl cells_int rfl
  obtain ⟨ps, hi, hil, hip⟩ := items_at h0 b0
  obtain ⟨s1, p1, e1⟩ := label_at h1 b1
  obtain ⟨s2, p2, e2⟩ := label_at h2 b2
  obtain ⟨wh, hw, hwl, hwn⟩ := nodes_at h3 b3
  obtain ⟨gr, hg, hgl, hgn⟩ := labels_at h7 b7
  obtain ⟨n6, e6, _, _⟩ := DataW.trod_int Tryz.underlying2 h4
  obtain ⟨n7, e7, _, _⟩ := DataW.trod_int Tryz.underlying2 h5
  obtain ⟨n8, e8, _, _⟩ := DataW.trod_int Tryz.underlying3 h6
  obtain ⟨n10, e10, _, _⟩ := DataW.trod_int Tryz.underlying27 h8
  obtain ⟨n11, e11, _, _⟩ := DataW.trod_int Tryz.underlying2 h9
  obtain ⟨n12, e12, _, _⟩ := DataW.trod_int Tryz.underlying3 h10
  simp only [List.cons.injEq, and_true] at e1 e2 e6 e7 e8 e10 e11 e12
  obtain ⟨rfl, rfl⟩ := e1
  obtain ⟨rfl, rfl⟩ := e2
  subst e6 e7 e8 e10 e11 e12
  refine ⟨⟨ps.map (·.2), s1, p1, s2, p2, wh, n6, n7, n8, gr, n10, n11, n12⟩, ps, v0, v5, v9, rfl, ⟨?_, by simpa using hil, hwn, hwl, hgn, hgl⟩, rfl, hi, fun p hp => ⟨(hip p hp).1, (hip p hp).2.2⟩, hw, hg⟩
  intro it hit
  obtain ⟨p, hp, rfl⟩ := List.mem_map.1 hit
  exact ⟨(hip p hp).2.2, (hip p hp).2.1⟩
end

/-! ### the start's heap -/
/-- Rows, laid one behind the other. -/
def lay : Nat → List (List Value) → T Blk → T Blk
  | _, [], t => t
  | n, c :: l, t => lay (n + 1) l (t.set n (.cells c 0 .ext))
theorem lay_get : ∀ (l : List (List Value)) (n : Nat) (t : T Blk) (b : Nat), (lay n l t).get b = if n ≤ b ∧ b < n + l.length then (l[b - n]?).map (fun c => .cells c 0 .ext) else t.get b
  | [], n, t, b => by
    unfold lay
    rw [if_neg (by simp only [List.length_nil]; omega)]
  | c :: l, n, t, b => by
    unfold lay
    rw [lay_get l (n + 1) _ b]
    by_cases h : b = n
    · subst h
      rw [if_neg (by omega), if_pos (by simp only [List.length_cons]; omega), T.get_set_same, Nat.sub_self]
      rfl
    · by_cases h2 : n + 1 ≤ b ∧ b < n + 1 + l.length
      · rw [if_pos h2, if_pos (by simp only [List.length_cons]; omega), show b - n = (b - (n + 1)) + 1 from by omega, List.getElem?_cons_succ]
      · rw [if_neg h2, if_neg (by simp only [List.length_cons]; omega), T.get_set_ne _ _ (fun e => h e.symm)]

def heapOf (l : List (List Value)) : AH := { blk := lay 7 l (T.nil.set 0 (.cells YtldhedlleefkcaaGreatDoor.Am.errRow 1 .ext)), fam := .nil, next := 7 + l.length, base := 7 + l.length }
def rhoOf (As : List (Option Addr)) : Rho := fun b => if b < 7 then some ⟨b, 0, 0, 1⟩ else match As[b - 7]? with
  | some (some a) => some ⟨a.block, a.off, 0, 0⟩
  | _ => none

/-- A row's value in the machine; where it lies in the world. -/
def amv (b : Nat) (v : Value) (xs : List (List Value)) : Value := match xs with
  | [] => match v with
    | .slice none _ _ => .slice none 0 0
    | _ => .slice (some somewhere) 0 0
  | _ :: _ => .slice (some ⟨b, 0, none⟩) xs.length xs.length
def adr (v : Value) (xs : List (List Value)) : Option Addr := match xs with
  | [] => none
  | _ :: _ => match v with
    | .slice A _ _ => A
    | _ => none

theorem amv_vr {W : World} {s b : Nat} {v : Value} {xs : List (List Value)} {ρ : Rho} (h : Row W s v xs) (hρ : ∀ a, adr v xs = some a → ρ b = some ⟨a.block, a.off, 0, 0⟩) : VR ρ (amv b v xs) v := by
  obtain ⟨A, c, rfl, hc, hn, _, hne⟩ := h
  cases xs with
  | nil =>
    cases A with
    | none => obtain ⟨_, rfl⟩ := hn rfl; exact .snil
    | some a => exact .smt a c
  | cons x xs =>
    obtain ⟨a, rfl, hs, _⟩ := hne (by simp)
    obtain ⟨ab, ao, asp⟩ := a
    simp only at hs
    subst hs
    exact .sl (m := ⟨ab, ao, 0, 0⟩) 0 _ _ c (hρ _ rfl) hc (Nat.le_refl _) (.inl rfl)

theorem flat_take {s : Nat} : ∀ {xs : List (List Value)}, (∀ x ∈ xs, x.length = s) → ∀ {i : Nat} {x : List Value}, xs[i]? = some x → i * s + s ≤ xs.flatten.length ∧ (xs.flatten.drop (i * s)).take s = x
  | [], _, i, x, h => by simp at h
  | y :: ys, hs, 0, x, h => by
    simp only [List.getElem?_cons_zero, Option.some.injEq] at h
    subst h
    have hl := hs y (by simp)
    simp only [List.flatten_cons, Nat.zero_mul, List.drop_zero, List.length_append]
    refine ⟨by omega, ?_⟩
    rw [List.take_append_of_le_length (by omega), ← hl, List.take_length]
  | y :: ys, hs, i + 1, x, h => by
    simp only [List.getElem?_cons_succ] at h
    obtain ⟨h1, h2⟩ := flat_take (fun z hz => hs z (by simp [hz])) h
    have hl := hs y (by simp)
    simp only [List.flatten_cons, List.length_append, Nat.add_mul, Nat.one_mul]
    refine ⟨by omega, ?_⟩
    rw [show i * s + s = y.length + i * s from by omega, ← List.drop_drop, List.drop_left]
    exact h2
theorem flat_cell {s : Nat} : ∀ {xs : List (List Value)}, (∀ x ∈ xs, x.length = s) → ∀ {i : Nat} {u : Value}, xs.flatten[i]? = some u → ∃ j k x, xs[j]? = some x ∧ x[k]? = some u ∧ i = j * s + k
  | [], _, i, u, h => by simp at h
  | y :: ys, hs, i, u, h => by
    have hl := hs y (by simp)
    simp only [List.flatten_cons] at h
    rcases Nat.lt_or_ge i y.length with hi | hi
    · rw [List.getElem?_append_left hi] at h
      exact ⟨0, i, y, rfl, h, by omega⟩
    · rw [List.getElem?_append_right hi] at h
      obtain ⟨j, k, x, h1, h2, h3⟩ := flat_cell (fun z hz => hs z (by simp [hz])) h
      exact ⟨j + 1, k, x, by simpa using h1, h2, by rw [Nat.add_mul]; omega⟩

theorem amv_rd {H : AH} {s b : Nat} {v : Value} {xs : List (List Value)} (hs : ∀ x ∈ xs, x.length = s) (hb : b < H.next) (hk : H.blk.get b = some (.cells xs.flatten 0 .ext)) : Rd H s (amv b v xs) xs := by
  cases xs with
  | nil =>
    unfold amv
    split
    · rename_i h; cases h
      split
      · exact ⟨none, 0, rfl, .inl rfl⟩
      · exact ⟨_, 0, rfl, .inl rfl⟩
    · rename_i h; cases h
  | cons x xs =>
    refine ⟨some ⟨b, 0, none⟩, (x :: xs).length, rfl, .inr ⟨b, 0, _, 0, .ext, rfl, hb, hk, trivial, fun i y hi => ?_⟩⟩
    obtain ⟨h1, h2⟩ := flat_take hs hi
    exact ⟨hs y (List.mem_of_getElem? hi), by omega, by rw [Nat.zero_add]; exact h2⟩

/-- What a laid row stands for. -/
def Lies (W : World) (ρ : Rho) (c : List Value) (A : Option Addr) : Prop :=
  ∀ a, A = some a → a.spot = none ∧ c ≠ [] ∧ ∀ i x, c[i]? = some x → ∃ y, W.cell? (a.add i) = some y ∧ VR ρ x y

theorem start_of {W : World} (hG : Base.Globs W) {cs : List (List Value)} {As : List (Option Addr)} (hl : As.length = cs.length) (hc : ∀ (i : Nat) (c : List Value) (A : Option Addr), cs[i]? = some c → As[i]? = some A → Lies W (rhoOf As) c A) :
    (heapOf cs).Read ∧ WR Tryz.prog (heapOf cs) (rhoOf As) W.heap := by
  have hr : (heapOf cs).Read := ⟨by simp only [heapOf]; omega, Nat.le_refl _, fun b k h => by
    simp only [heapOf] at h ⊢
    rw [lay_get] at h
    split at h
    · rename_i hb
      cases hx : cs[b - 7]? with
      | none => rw [hx] at h; cases h
      | some c => rw [hx] at h; cases h; exact ⟨hb.2, _, _, rfl⟩
    · rw [T.get_set] at h
      split at h
      · rename_i e; subst e; cases h; exact ⟨by omega, _, _, rfl⟩
      · cases h⟩
  have hat : ∀ (b : Nat) (m : Pl), rhoOf As b = some m → (b < 7 ∧ m = ⟨b, 0, 0, 1⟩) ∨ (7 ≤ b ∧ b - 7 < cs.length ∧ ∃ a c, As[b - 7]? = some (some a) ∧ cs[b - 7]? = some c ∧ m = ⟨a.block, a.off, 0, 0⟩) := by
    intro b m h
    unfold rhoOf at h
    split at h
    · cases h; exact .inl ⟨by assumption, rfl⟩
    · split at h
      · rename_i a ha
        cases h
        have : b - 7 < As.length := (List.getElem?_eq_some_iff.1 ha).1
        exact .inr ⟨by omega, by omega, a, _, ha, List.getElem?_eq_getElem (by omega), rfl⟩
      · cases h
  have hcell : ∀ (b : Nat) (a : Addr) (c : List Value), As[b - 7]? = some (some a) → cs[b - 7]? = some c → ∃ C ty fz, W.heap[a.block]? = some (.cells C ty fz) ∧ CR (rhoOf As) c C a.off := by
    intro b a c h1 h2
    obtain ⟨hs, hne, hx⟩ := hc _ c _ h2 h1 a rfl
    obtain ⟨ab, ao, asp⟩ := a
    simp only at hs
    subst hs
    obtain ⟨u, hu⟩ : ∃ u, c[0]? = some u := by
      cases c with
      | nil => exact (hne rfl).elim
      | cons u c => exact ⟨u, rfl⟩
    obtain ⟨y, hy, _⟩ := hx 0 u hu
    simp only [Addr.add_lit, World.cell?] at hy hx
    cases ho : W.heap[ab]? with
    | none => rw [ho] at hy; cases hy
    | some ob =>
      rw [ho] at hy hx
      cases ob with
      | cells C ty fz => exact ⟨C, ty, fz, rfl, fun i x hi => by simpa using hx i x hi⟩
      | _ => cases hy
  refine ⟨hr, WR.start hr ?_ ?_ ?_ ?_⟩
  · intro b m h
    simp only [heapOf]
    rcases hat b m h with ⟨h1, _⟩ | ⟨h1, h2, _⟩ <;> omega
  · intro g hg
    have : Tryz.prog.globals.size = 7 := by decide +kernel
    exact ⟨⟨g, 0, 0, 1⟩, by unfold rhoOf; rw [if_pos (by omega)], rfl, rfl⟩
  · intro b m h
    rcases hat b m h with ⟨h1, rfl⟩ | ⟨h1, h2, a, c, h3, h4, rfl⟩
    · have := hG.size; simp only; omega
    · obtain ⟨C, ty, fz, hC, _⟩ := hcell b a c h3 h4
      exact (Array.getElem?_eq_some_iff.1 hC).1
  · intro b m c e h hb
    simp only [heapOf] at hb
    rw [lay_get] at hb
    rcases hat b m h with ⟨h1, rfl⟩ | ⟨h1, h2, a, c', h3, h4, rfl⟩
    · rw [if_neg (by omega), T.get_set] at hb
      split at hb
      · rename_i e0; subst e0; cases hb
        refine ⟨rfl, ?_⟩
        have hE := hG.err
        unfold World.cell? at hE
        simp only at hE ⊢
        cases ho : W.heap[0]? with
        | none => rw [ho] at hE; cases hE
        | some ob =>
          rw [ho] at hE
          cases ob with
          | cells C ty fz =>
            refine ⟨C, ty, fz, rfl, fun i x hx => ?_⟩
            simp only at hE
            match i, hx with
            | 0, hx =>
              cases hx
              exact ⟨_, hE, .iface _ (.agg rfl fun i x y hx hy => by
                match i, hx, hy with
                | 0, hx, hy => cases hx; cases hy; exact .opq 7 83)⟩
          | _ => cases hE
      · cases hb
    · rw [if_pos ⟨h1, by omega⟩, h4] at hb
      cases hb
      exact ⟨rfl, hcell b a c h3 h4⟩

/-- A row of plain cells lies where its address says. -/
theorem lies_plain {W : World} {s : Nat} {v : Value} {xs : List (List Value)} {ρ : Rho} (h : Row W s v xs) (hs0 : 0 < s) (hp : ∀ x ∈ xs, ∀ u ∈ x, VR ρ u u) : Lies W ρ xs.flatten (adr v xs) := by
  obtain ⟨A, c, rfl, hc, hn, hs, hne⟩ := h
  intro a ha
  cases xs with
  | nil => cases ha
  | cons x xs =>
    obtain ⟨a', rfl, g1, g2⟩ := hne (by simp)
    cases ha
    refine ⟨g1, ?_, fun i u hu => ?_⟩
    · intro e
      have := hs x (by simp)
      have hx : x = [] := by
        rw [List.flatten_cons] at e
        exact (List.append_eq_nil_iff.1 e).1
      subst hx
      simp at this
      omega
    · obtain ⟨j, k, z, h1, h2, rfl⟩ := flat_cell hs hu
      exact ⟨u, g2 j z h1 k u h2, hp z (List.mem_of_getElem? h1) u (List.mem_of_getElem? h2)⟩
theorem nodes_plain {xs : List (List Value)} (h : Nodes xs) (ρ : Rho) : ∀ x ∈ xs, ∀ u ∈ x, VR ρ u u := by
  intro x hx u hu
  obtain ⟨a, f, s, n, k, p, rfl⟩ := h x hx
  simp only [List.mem_cons, List.not_mem_nil, or_false] at hu
  rcases hu with rfl | rfl | rfl | rfl | rfl | rfl <;> constructor
theorem labels_plain {xs : List (List Value)} (h : Labels xs) (ρ : Rho) : ∀ x ∈ xs, ∀ u ∈ x, VR ρ u u := by
  intro x hx u hu
  obtain ⟨s, p, rfl⟩ := h x hx
  simp only [List.mem_cons, List.not_mem_nil, or_false] at hu
  rcases hu with rfl | rfl <;> constructor

/-- A list of nodes and a query, read into the machine's heap. -/
theorem own_start {W : World} (hG : Base.Globs W) (vl : Value) (xs : List (List Value)) (hl : Row W 6 vl xs) (hx : Nodes xs) (Q : Qd) (ps : List It) (vi vw vg : Value) (hq : Q.Ok) (hQ : Q.its = ps.map (·.2)) (hi : Row W 4 vi (ps.map It.cells)) (hp : ∀ p ∈ ps, Row W 6 p.1 p.2.1 ∧ Nodes p.2.1) (hw : Row W 6 vw Q.wh) (hg : Row W 2 vg Q.gr) :
    ∃ H ρ ul ui uw ug, H.Read ∧ H.base ≤ H.next ∧ H.blk.get 0 = some (.cells YtldhedlleefkcaaGreatDoor.Am.errRow 1 .ext) ∧ 0 < H.next ∧ WR Tryz.prog H ρ W.heap ∧ Rd H 6 ul xs ∧ VR ρ ul vl ∧ IR H ui Q.its ∧ Rd H 6 uw Q.wh ∧ Rd H 2 ug Q.gr ∧ LR ρ (qc Q ui uw ug) (qc Q vi vw vg) := by
  let mine : List (List Value) := ps.mapIdx fun i p => It.cells (amv (7 + 4 + i) p.1 p.2.1, p.2)
  let cs : List (List Value) := xs.flatten :: Q.wh.flatten :: Q.gr.flatten :: mine.flatten :: ps.map fun p => p.2.1.flatten
  let As : List (Option Addr) := adr vl xs :: adr vw Q.wh :: adr vg Q.gr :: adr vi (ps.map It.cells) :: ps.map fun p => adr p.1 p.2.1
  have hlen : As.length = cs.length := by simp [As, cs]
  have hml : mine.length = ps.length := by simp [mine]
  have hms : ∀ x ∈ mine, x.length = 4 := by
    intro x hx
    obtain ⟨i, hi2, rfl⟩ := List.mem_iff_getElem.1 hx
    simp [mine]
  have hat : ∀ (i : Nat) (p : It), ps[i]? = some p → mine[i]? = some (It.cells (amv (7 + 4 + i) p.1 p.2.1, p.2)) := by
    intro i p hx
    simp only [mine, List.getElem?_mapIdx, hx, Option.map_some]
  have hrho : ∀ (k : Nat) (A : Option Addr) (a : Addr), As[k]? = some A → A = some a → rhoOf As (7 + k) = some ⟨a.block, a.off, 0, 0⟩ := by
    intro k A a h1 h2
    subst h2
    unfold rhoOf
    rw [if_neg (by omega), Nat.add_sub_cancel_left, h1]
  have hpv : ∀ (i : Nat) (p : It), ps[i]? = some p → VR (rhoOf As) (amv (7 + 4 + i) p.1 p.2.1) p.1 := by
    intro i p hx
    refine amv_vr (hp p (List.mem_of_getElem? hx)).1 fun a ha => ?_
    rw [Nat.add_assoc]
    refine hrho (4 + i) _ a ?_ ha
    rw [show 4 + i = i + 1 + 1 + 1 + 1 from by omega]
    simp only [As, List.getElem?_cons_succ, List.getElem?_map, hx, Option.map_some]
  have hcells : ∀ (i : Nat) (c : List Value) (A : Option Addr), cs[i]? = some c → As[i]? = some A → Lies W (rhoOf As) c A := by
    intro i c A h1 h2
    match i, h1, h2 with
    | 0, h1, h2 =>
      simp only [cs, As, List.getElem?_cons_zero, Option.some.injEq] at h1 h2
      rw [← h1, ← h2]
      exact lies_plain hl (by decide) (nodes_plain hx _)
    | 1, h1, h2 =>
      simp only [cs, As, List.getElem?_cons_succ, List.getElem?_cons_zero, Option.some.injEq] at h1 h2
      rw [← h1, ← h2]
      exact lies_plain hw (by decide) (nodes_plain hq.wh _)
    | 2, h1, h2 =>
      simp only [cs, As, List.getElem?_cons_succ, List.getElem?_cons_zero, Option.some.injEq] at h1 h2
      rw [← h1, ← h2]
      exact lies_plain hg (by decide) (labels_plain hq.gr _)
    | 3, h1, h2 =>
      simp only [cs, As, List.getElem?_cons_succ, List.getElem?_cons_zero, Option.some.injEq] at h1 h2
      rw [← h1, ← h2]
      obtain ⟨A', cc, rfl, hc, hn, hs, hne⟩ := hi
      intro a ha
      cases ps with
      | nil => cases ha
      | cons p0 ps0 =>
        obtain ⟨a', rfl, g1, g2⟩ := hne (by simp)
        cases ha
        refine ⟨g1, ?_, fun k u hu => ?_⟩
        · intro e
          have h0 := hat 0 p0 rfl
          have h5 := (flat_take hms h0).1
          rw [e] at h5
          simp at h5
        · obtain ⟨j, l, z, k1, k2, rfl⟩ := flat_cell hms hu
          have hjl : j < (p0 :: ps0).length := by rw [← hml]; exact (List.getElem?_eq_some_iff.1 k1).1
          have hj := List.getElem?_eq_getElem hjl
          have hz := hat j _ hj
          rw [k1] at hz
          obtain rfl := Option.some.inj hz
          have hv := hpv j _ hj
          have hreal := g2 j (It.cells (p0 :: ps0)[j]) (by rw [List.getElem?_map, hj]; rfl)
          match l, k2 with
          | 0, k2 => cases k2; exact ⟨_, hreal 0 _ rfl, hv⟩
          | 1, k2 => cases k2; exact ⟨_, hreal 1 _ rfl, .string _⟩
          | 2, k2 => cases k2; exact ⟨_, hreal 2 _ rfl, .int _ _⟩
          | 3, k2 => cases k2; exact ⟨_, hreal 3 _ rfl, .int _ _⟩
          | l + 4, k2 => simp at k2
    | i + 4, h1, h2 =>
      simp only [cs, As, List.getElem?_cons_succ, List.getElem?_map] at h1 h2
      cases hx : ps[i]? with
      | none => rw [hx] at h1; cases h1
      | some p =>
        rw [hx] at h1 h2
        cases h1; cases h2
        obtain ⟨q1, q2⟩ := hp p (List.mem_of_getElem? hx)
        exact lies_plain q1 (by decide) (nodes_plain q2 _)
  obtain ⟨hR, hW⟩ := start_of hG hlen hcells
  have hblk : ∀ (k : Nat) (c : List Value), cs[k]? = some c → (heapOf cs).blk.get (7 + k) = some (.cells c 0 .ext) := by
    intro k c hk
    have : k < cs.length := (List.getElem?_eq_some_iff.1 hk).1
    simp only [heapOf]
    rw [lay_get, if_pos (by omega), Nat.add_sub_cancel_left, hk]; rfl
  have hnx : ∀ (k : Nat) (c : List Value), cs[k]? = some c → 7 + k < (heapOf cs).next := by
    intro k c hk
    have : k < cs.length := (List.getElem?_eq_some_iff.1 hk).1
    simp only [heapOf]; omega
  have xl : ∀ x ∈ xs, x.length = 6 := by obtain ⟨_, _, _, _, _, h, _⟩ := hl; exact h
  have wl : ∀ x ∈ Q.wh, x.length = 6 := by obtain ⟨_, _, _, _, _, h, _⟩ := hw; exact h
  have gl : ∀ x ∈ Q.gr, x.length = 2 := by obtain ⟨_, _, _, _, _, h, _⟩ := hg; exact h
  have hmine : Rd (heapOf cs) 4 (amv (7 + 3) vi mine) mine := amv_rd hms (hnx 3 _ rfl) (hblk 3 _ rfl)
  have hav : amv (7 + 3) vi mine = amv (7 + 3) vi (ps.map It.cells) := by
    have hl2 : mine.length = (ps.map It.cells).length := by rw [hml, List.length_map]
    cases h1 : mine with
    | nil => 
      rw [h1] at hl2
      rw [List.eq_nil_of_length_eq_zero hl2.symm]
    | cons x xs =>
      cases h2 : ps.map It.cells with
      | nil => rw [h1, h2] at hl2; simp at hl2
      | cons y ys =>
        rw [h1, h2] at hl2
        simp only [amv, hl2]
  refine ⟨heapOf cs, rhoOf As, amv 7 vl xs, amv (7 + 3) vi mine, amv (7 + 1) vw Q.wh, amv (7 + 2) vg Q.gr, hR, Nat.le_refl _, ?_, ?_, hW, amv_rd xl (hnx 0 _ rfl) (hblk 0 _ rfl), amv_vr hl fun a ha => hrho 0 _ a rfl ha, ⟨mine, hmine, by rw [hQ, List.length_map, hml], ?_⟩, amv_rd wl (hnx 1 _ rfl) (hblk 1 _ rfl), amv_rd gl (hnx 2 _ rfl) (hblk 2 _ rfl), ?_⟩
  · simp only [heapOf]
    rw [lay_get, if_neg (by omega), T.get_set, if_pos rfl]
  · simp only [heapOf]; omega
  · intro i it hit
    rw [hQ, List.getElem?_map] at hit
    cases hx : ps[i]? with
    | none => rw [hx] at hit; cases hit
    | some p =>
      rw [hx] at hit
      cases hit
      refine ⟨_, hat i p hx, ?_⟩
      obtain ⟨⟨_, _, _, _, _, h, _⟩, _⟩ := hp p (List.mem_of_getElem? hx)
      have hk : cs[4 + i]? = some p.2.1.flatten := by
        rw [show 4 + i = i + 1 + 1 + 1 + 1 from by omega]
        simp only [cs, List.getElem?_cons_succ, List.getElem?_map, hx, Option.map_some]
      rw [Nat.add_assoc]
      exact amv_rd h (hnx _ _ hk) (hblk _ _ hk)
  · rw [hav]
    have v1 : VR (rhoOf As) (amv (7 + 3) vi (ps.map It.cells)) vi := amv_vr hi fun a ha => hrho 3 _ a rfl ha
    have v2 : VR (rhoOf As) (amv (7 + 1) vw Q.wh) vw := amv_vr hw fun a ha => hrho 1 _ a rfl ha
    have v3 : VR (rhoOf As) (amv (7 + 2) vg Q.gr) vg := amv_vr hg fun a ha => hrho 2 _ a rfl ha
    exact .cons v1 (.cons (.string _) (.cons (.int _ _) (.cons (.string _) (.cons (.int _ _) (.cons v2 (.cons (.int _ _) (.cons (.int _ _) (.cons (.int _ _) (.cons v3 (.cons (.int _ _) (.cons (.int _ _) (.cons (.int _ _) .nil))))))))))))

/-- THE LAW'S CALL. -/
theorem law_calls {W : World} (hG : Base.Globs W) (vl : Value) (xs : List (List Value)) (hl : Row W 6 vl xs) (hx : Nodes xs) (hxl : xs.length ≤ 1048576) (Q : Qd) (ps : List It) (vi vw vg : Value) (hq : Q.Ok) (hQ : Q.its = ps.map (·.2)) (hi : Row W 4 vi (ps.map It.cells)) (hp : ∀ p ∈ ps, Row W 6 p.1 p.2.1 ∧ Nodes p.2.1) (hw : Row W 6 vw Q.wh) (hg : Row W 2 vg Q.gr) :
    Calls Tryz.prog 3 #[vl, .agg (qc Q vi vw vg).toArray] W fun e W' => e = .returned (.bool true) ∧ Below W.heap.size W W' := by
  obtain ⟨H, ρ, ul, ui, uw, ug, hR, hb, hE, h0, hW, gl, gv, g1, g2, g3, g4⟩ := own_start hG vl xs hl hx Q ps vi vw vg hq hQ hi hp hw hg
  refine (Wf.told cfg_ok ⟨Tryz.f3, Tryz.func3, by decide, by kernel_rfl⟩ (law_wf H hb hE h0 ul xs gl hx hxl Q hq ui uw ug g1 g2 g3) hR hW (.cons gv (.cons (VR.agg_of (by simpa using g4)) .nil))).mono fun e w' ⟨v, H', v', ρ', hv, he, hr, hbl⟩ => ?_
  subst hv
  cases hr
  exact ⟨he, hbl⟩
#print axioms law_calls
end Go.Am
