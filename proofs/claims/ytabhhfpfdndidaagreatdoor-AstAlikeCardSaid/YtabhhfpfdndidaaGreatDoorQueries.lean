/- An argument of type api.Query: out of its reading as data, what its cells hold, in the print's words. -/
import Derived.Test.YtabhhfpfdndidaaGreatDoorNodes
namespace Go.Proofs.YtabhhfpfdndidaaGreatDoor.Queries
open Go.ChangeShapes Go.WideShapes Go.ChangeAt Go.RowKit Go.Deep Go.Proofs.YtabhhfpfdndidaaGreatDoorW.PrintWords Go.Proofs.YtabhhfpfdndidaaGreatDoor.Print Go.Proofs.YtabhhfpfdndidaaGreatDoor.Nodes
variable {H : Type} {enc : TypeId × Value → H} {W : World} {base : Nat} {spare : Nat → Bool} {held : Bool}

/-- A struct's fields, each with its cells. -/
theorem open_fields {P : Program} {t : TypeId} {fs : Array Field} {fuel : Nat} {cs : List Value} {x : DataW H × List MemPlace} (ht : P.underlying t = some (.struct fs)) (h : DataW.trod enc P W base spare held fuel t cs = some x) :
    ∃ n, cs.length = P.cellsOf t ∧ ∀ (i : Nat) (f : Field) (ft : TypeId) (o k : Nat) (piece : List Value), fs[i]? = some f → f.type = ft → f.offset = o → P.cellsOf ft = k → List.take k (List.drop o cs) = piece → ∃ y, DataW.trod enc P W base spare held n ft piece = some y := by
  obtain ⟨xs, n, _, _, hl, hlen, hf⟩ := DataW.trod_struct ht h
  refine ⟨n, hl, fun i f ft o k piece h1 h2 h3 h4 h5 => ?_⟩
  have h6 := hf i f h1
  subst h2 h3 h4 h5
  have hi : i < xs.length := by
    rw [hlen]
    exact (Array.getElem?_eq_some_iff.1 h1).1
  exact ⟨_, h6.trans (List.getElem?_eq_getElem hi)⟩

theorem len2 {α : Type} {l : List α} (h : l.length = 2) : ∃ a b, l = [a, b] := by
  match l, h with
  | [a, b], _ => exact ⟨a, b, rfl⟩
theorem len4 {α : Type} {l : List α} (h : l.length = 4) : ∃ a b c d, l = [a, b, c, d] := by
  match l, h with
  | [a, b, c, d], _ => exact ⟨a, b, c, d, rfl⟩
theorem len13 {α : Type} {l : List α} (h : l.length = 13) : ∃ v0 v1 v2 v3 v4 v5 v6 v7 v8 v9 v10 v11 v12, l = [v0, v1, v2, v3, v4, v5, v6, v7, v8, v9, v10, v11, v12] := by
  match l, h with
  | [v0, v1, v2, v3, v4, v5, v6, v7, v8, v9, v10, v11, v12], _ => exact ⟨v0, v1, v2, v3, v4, v5, v6, v7, v8, v9, v10, v11, v12, rfl⟩

theorem cells_nodes : Tryz.prog.cellsOf 22 = 1 := by kernel_rfl
theorem cells_items : Tryz.prog.cellsOf 37 = 1 := by kernel_rfl
theorem cells_labels : Tryz.prog.cellsOf 40 = 1 := by kernel_rfl
theorem cells_label : Tryz.prog.cellsOf 39 = 2 := by kernel_rfl
theorem cells_item : Tryz.prog.cellsOf 81 = 4 := by kernel_rfl
theorem cells_query : Tryz.prog.cellsOf 43 = 13 := by kernel_rfl
theorem cells_string : Tryz.prog.cellsOf 9 = 1 := by kernel_rfl
theorem cells_int : Tryz.prog.cellsOf 3 = 1 := by kernel_rfl
theorem cells_int64 : Tryz.prog.cellsOf 2 = 1 := by kernel_rfl
theorem cells_fill : Tryz.prog.cellsOf 41 = 1 := by kernel_rfl

theorem label_at {fuel : Nat} {cs : List Value} {y : DataW H × List MemPlace} (h : DataW.trod enc Tryz.prog W base spare held fuel 39 cs = some y) : ∃ x : S39, cs = [.string x.f0, .int .i64 x.f1] := by
  obtain ⟨n, hl, hf⟩ := open_fields Tryz.underlying39 h
  rw [cells_label] at hl
  obtain ⟨v0, v1, rfl⟩ := len2 hl
  obtain ⟨y0, h0⟩ := hf 0 _ 9 0 1 [v0] rfl rfl rfl cells_string rfl
  obtain ⟨y1, h1⟩ := hf 1 _ 3 1 1 [v1] rfl rfl rfl cells_int rfl
  obtain ⟨x0, e0, _, _⟩ := DataW.trod_string Tryz.underlying9 h0
  obtain ⟨x1, e1, _, _⟩ := DataW.trod_int Tryz.underlying3 h1
  simp only [List.cons.injEq, and_true] at e0 e1
  subst e0 e1
  exact ⟨⟨x0, x1⟩, rfl⟩

theorem nodes_at {fuel : Nat} {v : Value} {y : DataW H × List MemPlace} (h : DataW.trod enc Tryz.prog W base spare held fuel 22 [v] = some y) : ∃ (A : Option Addr) (c : Nat) (l : List S35), v = .slice A l.length c ∧ l.length ≤ c ∧ Kd.C k35 W A l.length l := by
  have hs : ∃ A len c, v = .slice A len c := by
    rcases open_slice Tryz.underlying22 h with ⟨hcs, _⟩ | ⟨a, len, cap, m, n, D, Pl, hcs, _⟩
    · simp only [List.cons.injEq, and_true] at hcs
      exact ⟨_, _, _, hcs⟩
    · simp only [List.cons.injEq, and_true] at hcs
      exact ⟨_, _, _, hcs⟩
  obtain ⟨A, len, c, rfl⟩ := hs
  obtain ⟨l, rfl, hc, _, hr, _, _⟩ := open_nodes (enc := enc) (W := W) (base := base) (spare := spare) (held := held) (d := y.1) (p := y.2) ⟨fuel, h⟩
  exact ⟨A, c, l, rfl, hc, hr⟩

theorem item_at {fuel : Nat} {cs : List Value} {y : DataW H × List MemPlace} (h : DataW.trod enc Tryz.prog W base spare held fuel 81 cs = some y) :
    ∃ (x : S81) (A : Option Addr) (c : Nat), cs = [.slice A x.f0.length c, .string x.f1.f0, .int .i64 x.f1.f1, .int .i64 x.f2] ∧ x.f0.length ≤ c ∧ Kd.C k35 W A x.f0.length x.f0 := by
  obtain ⟨n, hl, hf⟩ := open_fields Tryz.underlying81 h
  rw [cells_item] at hl
  obtain ⟨v0, v1, v2, v3, rfl⟩ := len4 hl
  obtain ⟨y0, h0⟩ := hf 0 _ 22 0 1 [v0] rfl rfl rfl cells_nodes rfl
  obtain ⟨y1, h1⟩ := hf 1 _ 39 1 2 [v1, v2] rfl rfl rfl cells_label rfl
  obtain ⟨y2, h2⟩ := hf 2 _ 3 3 1 [v3] rfl rfl rfl cells_int rfl
  obtain ⟨A, c, l, rfl, hc, hr⟩ := nodes_at h0
  obtain ⟨x, ex⟩ := label_at h1
  obtain ⟨x2, e2, _, _⟩ := DataW.trod_int Tryz.underlying3 h2
  simp only [List.cons.injEq, and_true] at ex e2
  obtain ⟨rfl, rfl⟩ := ex
  subst e2
  exact ⟨⟨l, x, x2⟩, A, c, rfl, hc, hr⟩

/-- A slice of values of a kind, out of what each element's cells tell. -/
theorem rows_at {α : Type} [Inhabited α] (k : Kd α) {t e : TypeId} {fuel : Nat} {v : Value} {y : DataW H × List MemPlace} (ht : Tryz.prog.underlying t = some (.slice e)) (hsz : k.sz = Tryz.prog.cellsOf e)
    (each : ∀ (n : Nat) (cs : List Value) (z : DataW H × List MemPlace), DataW.trod enc Tryz.prog W base spare held n e cs = some z → ∃ x : α, k.K W x cs)
    (h : DataW.trod enc Tryz.prog W base spare held fuel t [v] = some y) : ∃ (A : Option Addr) (c : Nat) (l : List α), v = .slice A l.length c ∧ l.length ≤ c ∧ Kd.C k W A l.length l := by
  rcases open_slice ht h with ⟨hcs, _⟩ | ⟨a, len, cap, m, n, D, Pl, hcs, _, hl, hm, hmm, _, hi⟩
  · simp only [List.cons.injEq, and_true] at hcs
    exact ⟨none, 0, [], hcs, Nat.le_refl _, Kd.C_nil _ _⟩
  · simp only [List.cons.injEq, and_true] at hcs
    have hlm : len ≤ m := by rw [hmm]; split <;> omega
    have key : ∀ i, i < len → ∃ x : α, ∃ cs', cs'.length = k.sz ∧ k.K W x cs' ∧ ∀ j u, cs'[j]? = some u → W.cell? (a.add (i * k.sz + j)) = some u := by
      intro i hil
      obtain ⟨cs', hc, ht'⟩ := hi i (by omega)
      obtain ⟨x, hx⟩ := each _ _ _ ht'
      obtain ⟨_, hcl, hat⟩ := World.cells?_some hc
      refine ⟨x, cs', hcl.trans hsz.symm, hx, fun j u hu => ?_⟩
      have hj : j < Tryz.prog.cellsOf e := by
        rw [← hcl]
        exact (List.getElem?_eq_some_iff.1 hu).1
      rw [hsz, ← Go.Deep.add_add, hat j hj, hu]
    obtain ⟨N, hN⟩ := choose_lt key
    refine ⟨some a, cap, (List.range len).map N, by simp [hcs], by simpa using hl, ?_⟩
    refine ⟨rfl, ?_, fun _ => ⟨a, rfl, fun j p hj => ?_⟩⟩
    · simp only [List.length_map, List.length_range]; unfold maxLen at hm; omega
    · have hjl : j < len := by
        have := (List.getElem?_eq_some_iff.1 hj).1
        simpa using this
      obtain rfl : N j = p := by simpa [hjl] using hj
      obtain ⟨cs', hcl, hK, hat⟩ := hN j hjl
      exact ⟨cs', hcl, hK, hat⟩
instance : Inhabited S81 := ⟨z81⟩
instance : Inhabited S39 := ⟨z39⟩
theorem items_at {fuel : Nat} {v : Value} {y : DataW H × List MemPlace} (h : DataW.trod enc Tryz.prog W base spare held fuel 37 [v] = some y) : ∃ (A : Option Addr) (c : Nat) (l : List S81), v = .slice A l.length c ∧ l.length ≤ c ∧ Kd.C k81 W A l.length l :=
  rows_at k81 Tryz.underlying37 cells_item.symm (fun n cs z hz => by
    obtain ⟨x, A, c, rfl, hc, hr⟩ := item_at hz
    exact ⟨x, k81_mk W x hc hr⟩) h
theorem labels_at {fuel : Nat} {v : Value} {y : DataW H × List MemPlace} (h : DataW.trod enc Tryz.prog W base spare held fuel 40 [v] = some y) : ∃ (A : Option Addr) (c : Nat) (l : List S39), v = .slice A l.length c ∧ l.length ≤ c ∧ Kd.C k39 W A l.length l :=
  rows_at k39 Tryz.underlying40 cells_label.symm (fun n cs z hz => by
    obtain ⟨x, rfl⟩ := label_at hz
    exact ⟨x, k39_mk W x⟩) h

/-- DOWN: an api.Query. -/
theorem open_query {cs : Array Value} {d : DataW H} {p : List MemPlace} (h : DataW.Trod enc Tryz.prog W base spare held 43 (.agg cs) d p) :
    ∃ (A0 : Option Addr) (c0 : Nat) (l0 : List S81) (s1 : ByteArray) (n2 : Int) (s3 : ByteArray) (n4 : Int) (A5 : Option Addr) (c5 : Nat) (l5 : List S35) (n6 n7 n8 : Int) (A9 : Option Addr) (c9 : Nat) (l9 : List S39) (n10 n11 n12 : Int),
      cs = #[.slice A0 l0.length c0, .string s1, .int .i64 n2, .string s3, .int .i64 n4, .slice A5 l5.length c5, .int .i64 n6, .int .i64 n7, .int .i64 n8, .slice A9 l9.length c9, .int .u8 n10, .int .i64 n11, .int .i64 n12] ∧
      Kd.C k81 W A0 l0.length l0 ∧ l0.length ≤ c0 ∧ Kd.C k35 W A5 l5.length l5 ∧ l5.length ≤ c5 ∧ Kd.C k39 W A9 l9.length l9 ∧ l9.length ≤ c9 := by
  obtain ⟨fuel, hf0⟩ := h
  obtain ⟨cl⟩ := cs
  simp only [Value.cells] at hf0
  obtain ⟨n, hl, hf⟩ := open_fields Tryz.underlying43 hf0
  rw [cells_query] at hl
  obtain ⟨v0, v1, v2, v3, v4, v5, v6, v7, v8, v9, v10, v11, v12, rfl⟩ := len13 hl
  obtain ⟨y0, h0⟩ := hf 0 _ 37 0 1 [v0] rfl rfl rfl cells_items rfl
  obtain ⟨y1, h1⟩ := hf 1 _ 39 1 2 [v1, v2] rfl rfl rfl cells_label rfl
  obtain ⟨y2, h2⟩ := hf 2 _ 39 3 2 [v3, v4] rfl rfl rfl cells_label rfl
  obtain ⟨y3, h3⟩ := hf 3 _ 22 5 1 [v5] rfl rfl rfl cells_nodes rfl
  obtain ⟨y4, h4⟩ := hf 4 _ 2 6 1 [v6] rfl rfl rfl cells_int64 rfl
  obtain ⟨y5, h5⟩ := hf 5 _ 2 7 1 [v7] rfl rfl rfl cells_int64 rfl
  obtain ⟨y6, h6⟩ := hf 6 _ 3 8 1 [v8] rfl rfl rfl cells_int rfl
  obtain ⟨y7, h7⟩ := hf 7 _ 40 9 1 [v9] rfl rfl rfl cells_labels rfl
  obtain ⟨y8, h8⟩ := hf 8 _ 41 10 1 [v10] rfl rfl rfl cells_fill rfl
  obtain ⟨y9, h9⟩ := hf 9 _ 2 11 1 [v11] rfl rfl rfl cells_int64 rfl
  obtain ⟨y10, h10⟩ := hf 10 _ 3 12 1 [v12] rfl rfl rfl cells_int rfl
  obtain ⟨A0, c0, l0, rfl, hc0, hr0⟩ := items_at h0
  obtain ⟨x1, e1⟩ := label_at h1
  obtain ⟨x2, e2⟩ := label_at h2
  obtain ⟨A5, c5, l5, rfl, hc5, hr5⟩ := nodes_at h3
  obtain ⟨n6, e6, _, _⟩ := DataW.trod_int Tryz.underlying2 h4
  obtain ⟨n7, e7, _, _⟩ := DataW.trod_int Tryz.underlying2 h5
  obtain ⟨n8, e8, _, _⟩ := DataW.trod_int Tryz.underlying3 h6
  obtain ⟨A9, c9, l9, rfl, hc9, hr9⟩ := labels_at h7
  obtain ⟨n10, e10, _, _⟩ := DataW.trod_int Tryz.underlying41 h8
  obtain ⟨n11, e11, _, _⟩ := DataW.trod_int Tryz.underlying2 h9
  obtain ⟨n12, e12, _, _⟩ := DataW.trod_int Tryz.underlying3 h10
  simp only [List.cons.injEq, and_true] at e1 e2 e6 e7 e8 e10 e11 e12
  obtain ⟨rfl, rfl⟩ := e1
  obtain ⟨rfl, rfl⟩ := e2
  subst e6 e7 e8 e10 e11 e12
  exact ⟨A0, c0, l0, x1.f0, x1.f1, x2.f0, x2.f1, A5, c5, l5, n6, n7, n8, A9, c9, l9, n10, n11, n12, rfl, hr0, hc0, hr5, hc5, hr9, hc9⟩
end Go.Proofs.YtabhhfpfdndidaaGreatDoor.Queries
