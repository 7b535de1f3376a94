/- An argument of type api.Plan: out of its reading as data, what its cells hold, in the print's words. -/
import Derived.Test.YtiooajpbpffcnaaGreatDoorNodes
namespace Go.Proofs.YtiooajpbpffcnaaGreatDoor.Plans
open Go.ChangeShapes Go.WideShapes Go.ChangeAt Go.RowKit Go.Deep Go.Proofs.YtiooajpbpffcnaaGreatDoorW.PrintWords Go.Proofs.YtiooajpbpffcnaaGreatDoor.Print Go.Proofs.YtiooajpbpffcnaaGreatDoor.Nodes
variable {H : Type} {enc : TypeId × Value → H} {W : World} {base : Nat} {spare : Nat → Bool} {held : Bool}

/-- A struct's fields, each with its cells. -/
theorem open_fields {P : Program} {t : TypeId} {fs : Array Field} {fuel : Nat} {cs : List Value} {x : DataW H × List MemPlace} (ht : P.underlying t = some (.struct fs)) (h : DataW.trod enc P W base spare held fuel t cs = some x) :
    ∃ n, cs.length = P.cellsOf t ∧ ∀ (i : Nat) (f : Field) (ft : TypeId) (o k : Nat) (piece : List Value), fs[i]? = some f → f.type = ft → f.offset = o → P.cellsOf ft = k → List.take k (List.drop o cs) = piece → ∃ y, DataW.trod enc P W base spare held n ft piece = some y := by
  obtain ⟨xs, n, _, _, hl, hlen, hf⟩ := DataW.trod_struct ht h
  refine ⟨n, hl, fun i f ft o k piece h1 h2 h3 h4 h5 => ?_⟩
  have h6 := hf i f h1
  subst h2 h3 h4 h5
  have hi : i < xs.length := by
    rw [hlen]
    exact (Array.getElem?_eq_some_iff.1 h1).1
  exact ⟨_, h6.trans (List.getElem?_eq_getElem hi)⟩

theorem len1 {α : Type} {l : List α} (h : l.length = 1) : ∃ a, l = [a] := by
  match l, h with
  | [a], _ => exact ⟨a, rfl⟩
theorem len2 {α : Type} {l : List α} (h : l.length = 2) : ∃ a b, l = [a, b] := by
  match l, h with
  | [a, b], _ => exact ⟨a, b, rfl⟩
theorem len8 {α : Type} {l : List α} (h : l.length = 8) : ∃ v0 v1 v2 v3 v4 v5 v6 v7, l = [v0, v1, v2, v3, v4, v5, v6, v7] := by
  match l, h with
  | [v0, v1, v2, v3, v4, v5, v6, v7], _ => exact ⟨v0, v1, v2, v3, v4, v5, v6, v7, rfl⟩

theorem cells_nodes : Tryz.prog.cellsOf 23 = 1 := by kernel_rfl
theorem cells_strings : Tryz.prog.cellsOf 22 = 1 := by kernel_rfl
theorem cells_accs : Tryz.prog.cellsOf 24 = 1 := by kernel_rfl
theorem cells_outs : Tryz.prog.cellsOf 25 = 1 := by kernel_rfl
theorem cells_acc : Tryz.prog.cellsOf 48 = 2 := by kernel_rfl
theorem cells_out : Tryz.prog.cellsOf 51 = 2 := by kernel_rfl
theorem cells_plan : Tryz.prog.cellsOf 27 = 8 := by kernel_rfl
theorem cells_string : Tryz.prog.cellsOf 9 = 1 := by kernel_rfl
theorem cells_func : Tryz.prog.cellsOf 31 = 1 := by kernel_rfl
theorem cells_int64 : Tryz.prog.cellsOf 2 = 1 := by kernel_rfl

theorem nodes_at {fuel : Nat} {v : Value} {y : DataW H × List MemPlace} (h : DataW.trod enc Tryz.prog W base spare held fuel 23 [v] = some y) : ∃ (A : Option Addr) (c : Nat) (l : List S33), v = .slice A l.length c ∧ l.length ≤ c ∧ Kd.C k33 W A l.length l := by
  have hs : ∃ A len c, v = .slice A len c := by
    rcases open_slice Tryz.underlying23 h with ⟨hcs, _⟩ | ⟨a, len, cap, m, n, D, Pl, hcs, _⟩
    · simp only [List.cons.injEq, and_true] at hcs
      exact ⟨_, _, _, hcs⟩
    · simp only [List.cons.injEq, and_true] at hcs
      exact ⟨_, _, _, hcs⟩
  obtain ⟨A, len, c, rfl⟩ := hs
  obtain ⟨l, rfl, hc, _, hr, _, _⟩ := open_nodes (enc := enc) (W := W) (base := base) (spare := spare) (held := held) (d := y.1) (p := y.2) ⟨fuel, h⟩
  exact ⟨A, c, l, rfl, hc, hr⟩

/-- A slice of values of a kind, out of what each element's cells tell. -/
theorem rows_at {α : Type} [Inhabited α] (k : Kd α) {t e : TypeId} {fuel : Nat} {v : Value} {y : DataW H × List MemPlace} (ht : Tryz.prog.underlying t = some (.slice e)) (hsz : k.sz = Tryz.prog.cellsOf e)
    (each : ∀ (n : Nat) (cs : List Value) (z : DataW H × List MemPlace), DataW.trod enc Tryz.prog W base spare held n e cs = some z → ∃ x : α, k.K W x cs)
    (h : DataW.trod enc Tryz.prog W base spare held fuel t [v] = some y) : ∃ (A : Option Addr) (c : Nat) (l : List α), v = .slice A l.length c ∧ l.length ≤ c ∧ Kd.C k W A l.length l := by
  rcases open_slice ht h with ⟨hcs, _⟩ | ⟨a, len, cap, m, n, D, Pl, hcs, _, hl, hm, hmm, _, hi⟩
  · simp only [List.cons.injEq, and_true] at hcs
    exact ⟨none, 0, [], hcs, Nat.le_refl _, Kd.C_nil _ _⟩
  · simp only [List.cons.injEq, and_true] at hcs
    have hlm : len ≤ m := by rw [hmm]; split <;> omega
    have key : ∀ i, i < len → ∃ x : α, ∃ cs', cs'.length = k.sz ∧ k.K W x cs' ∧ ∀ j u, cs'[j]? = some u → W.cell? (a.add (i * k.sz + j)) = some u := by
      intro i hil
      obtain ⟨cs', hc, ht'⟩ := hi i (by omega)
      obtain ⟨x, hx⟩ := each _ _ _ ht'
      obtain ⟨_, hcl, hat⟩ := World.cells?_some hc
      refine ⟨x, cs', hcl.trans hsz.symm, hx, fun j u hu => ?_⟩
      have hj : j < Tryz.prog.cellsOf e := by
        rw [← hcl]
        exact (List.getElem?_eq_some_iff.1 hu).1
      rw [hsz, ← Go.Deep.add_add, hat j hj, hu]
    obtain ⟨N, hN⟩ := choose_lt key
    refine ⟨some a, cap, (List.range len).map N, by simp [hcs], by simpa using hl, ?_⟩
    refine ⟨rfl, ?_, fun _ => ⟨a, rfl, fun j p hj => ?_⟩⟩
    · simp only [List.length_map, List.length_range]; unfold maxLen at hm; omega
    · have hjl : j < len := by
        have := (List.getElem?_eq_some_iff.1 hj).1
        simpa using this
      obtain rfl : N j = p := by simpa [hjl] using hj
      obtain ⟨cs', hcl, hK, hat⟩ := hN j hjl
      exact ⟨cs', hcl, hK, hat⟩
instance : Inhabited S48 := ⟨z48⟩
instance : Inhabited S51 := ⟨z51⟩

theorem acc_at {fuel : Nat} {cs : List Value} {y : DataW H × List MemPlace} (h : DataW.trod enc Tryz.prog W base spare held fuel 48 cs = some y) : ∃ x : S48, cs = [.int .u8 x.f0, .string x.f1] := by
  obtain ⟨n, hl, hf⟩ := open_fields Tryz.underlying48 h
  rw [cells_acc] at hl
  obtain ⟨v0, v1, rfl⟩ := len2 hl
  obtain ⟨y0, h0⟩ := hf 0 _ 31 0 1 [v0] rfl rfl rfl cells_func rfl
  obtain ⟨y1, h1⟩ := hf 1 _ 9 1 1 [v1] rfl rfl rfl cells_string rfl
  obtain ⟨x0, e0, _, _⟩ := DataW.trod_int Tryz.underlying31 h0
  obtain ⟨x1, e1, _, _⟩ := DataW.trod_string Tryz.underlying9 h1
  simp only [List.cons.injEq, and_true] at e0 e1
  subst e0 e1
  exact ⟨⟨x0, x1⟩, rfl⟩

theorem out_at {fuel : Nat} {cs : List Value} {y : DataW H × List MemPlace} (h : DataW.trod enc Tryz.prog W base spare held fuel 51 cs = some y) :
    ∃ (x : S51) (A : Option Addr) (c : Nat), cs = [.string x.f0, .slice A x.f1.length c] ∧ x.f1.length ≤ c ∧ Kd.C k33 W A x.f1.length x.f1 := by
  obtain ⟨n, hl, hf⟩ := open_fields Tryz.underlying51 h
  rw [cells_out] at hl
  obtain ⟨v0, v1, rfl⟩ := len2 hl
  obtain ⟨y0, h0⟩ := hf 0 _ 9 0 1 [v0] rfl rfl rfl cells_string rfl
  obtain ⟨y1, h1⟩ := hf 1 _ 23 1 1 [v1] rfl rfl rfl cells_nodes rfl
  obtain ⟨x0, e0, _, _⟩ := DataW.trod_string Tryz.underlying9 h0
  obtain ⟨A, c, l, rfl, hc, hr⟩ := nodes_at h1
  simp only [List.cons.injEq, and_true] at e0
  subst e0
  exact ⟨⟨x0, l⟩, A, c, rfl, hc, hr⟩

theorem strings_at {fuel : Nat} {v : Value} {y : DataW H × List MemPlace} (h : DataW.trod enc Tryz.prog W base spare held fuel 22 [v] = some y) : ∃ (A : Option Addr) (c : Nat) (l : List ByteArray), v = .slice A l.length c ∧ l.length ≤ c ∧ Kd.C Kd.string W A l.length l :=
  rows_at Kd.string Tryz.underlying22 cells_string.symm (fun n cs z hz => by
    obtain ⟨x, e, _, _⟩ := DataW.trod_string Tryz.underlying9 hz
    exact ⟨x, e⟩) h
theorem accs_at {fuel : Nat} {v : Value} {y : DataW H × List MemPlace} (h : DataW.trod enc Tryz.prog W base spare held fuel 24 [v] = some y) : ∃ (A : Option Addr) (c : Nat) (l : List S48), v = .slice A l.length c ∧ l.length ≤ c ∧ Kd.C k48 W A l.length l :=
  rows_at k48 Tryz.underlying24 cells_acc.symm (fun n cs z hz => by
    obtain ⟨x, rfl⟩ := acc_at hz
    exact ⟨x, k48_mk W x⟩) h
theorem outs_at {fuel : Nat} {v : Value} {y : DataW H × List MemPlace} (h : DataW.trod enc Tryz.prog W base spare held fuel 25 [v] = some y) : ∃ (A : Option Addr) (c : Nat) (l : List S51), v = .slice A l.length c ∧ l.length ≤ c ∧ Kd.C k51 W A l.length l :=
  rows_at k51 Tryz.underlying25 cells_out.symm (fun n cs z hz => by
    obtain ⟨x, A, c, rfl, hc, hr⟩ := out_at hz
    exact ⟨x, k51_mk W x hc hr⟩) h

/-- DOWN: an api.Plan. -/
theorem open_plan {cs : Array Value} {d : DataW H} {p : List MemPlace} (h : DataW.Trod enc Tryz.prog W base spare held 27 (.agg cs) d p) :
    ∃ (s0 s1 : ByteArray) (n2 n3 : Int) (A4 : Option Addr) (c4 : Nat) (l4 : List ByteArray) (A5 : Option Addr) (c5 : Nat) (l5 : List S33) (A6 : Option Addr) (c6 : Nat) (l6 : List S48) (A7 : Option Addr) (c7 : Nat) (l7 : List S51),
      cs = #[.string s0, .string s1, .int .i64 n2, .int .i64 n3, .slice A4 l4.length c4, .slice A5 l5.length c5, .slice A6 l6.length c6, .slice A7 l7.length c7] ∧
      Kd.C Kd.string W A4 l4.length l4 ∧ l4.length ≤ c4 ∧ Kd.C k33 W A5 l5.length l5 ∧ l5.length ≤ c5 ∧ Kd.C k48 W A6 l6.length l6 ∧ l6.length ≤ c6 ∧ Kd.C k51 W A7 l7.length l7 ∧ l7.length ≤ c7 := by
  obtain ⟨fuel, hf0⟩ := h
  obtain ⟨cl⟩ := cs
  simp only [Value.cells] at hf0
  obtain ⟨n, hl, hf⟩ := open_fields Tryz.underlying27 hf0
  rw [cells_plan] at hl
  obtain ⟨v0, v1, v2, v3, v4, v5, v6, v7, rfl⟩ := len8 hl
  obtain ⟨y0, h0⟩ := hf 0 _ 9 0 1 [v0] rfl rfl rfl cells_string rfl
  obtain ⟨y1, h1⟩ := hf 1 _ 9 1 1 [v1] rfl rfl rfl cells_string rfl
  obtain ⟨y2, h2⟩ := hf 2 _ 2 2 1 [v2] rfl rfl rfl cells_int64 rfl
  obtain ⟨y3, h3⟩ := hf 3 _ 2 3 1 [v3] rfl rfl rfl cells_int64 rfl
  obtain ⟨y4, h4⟩ := hf 4 _ 22 4 1 [v4] rfl rfl rfl cells_strings rfl
  obtain ⟨y5, h5⟩ := hf 5 _ 23 5 1 [v5] rfl rfl rfl cells_nodes rfl
  obtain ⟨y6, h6⟩ := hf 6 _ 24 6 1 [v6] rfl rfl rfl cells_accs rfl
  obtain ⟨y7, h7⟩ := hf 7 _ 25 7 1 [v7] rfl rfl rfl cells_outs rfl
  obtain ⟨s0, e0, _, _⟩ := DataW.trod_string Tryz.underlying9 h0
  obtain ⟨s1, e1, _, _⟩ := DataW.trod_string Tryz.underlying9 h1
  obtain ⟨n2, e2, _, _⟩ := DataW.trod_int Tryz.underlying2 h2
  obtain ⟨n3, e3, _, _⟩ := DataW.trod_int Tryz.underlying2 h3
  obtain ⟨A4, c4, l4, rfl, hc4, hr4⟩ := strings_at h4
  obtain ⟨A5, c5, l5, rfl, hc5, hr5⟩ := nodes_at h5
  obtain ⟨A6, c6, l6, rfl, hc6, hr6⟩ := accs_at h6
  obtain ⟨A7, c7, l7, rfl, hc7, hr7⟩ := outs_at h7
  simp only [List.cons.injEq, and_true] at e0 e1 e2 e3
  subst e0 e1 e2 e3
  exact ⟨s0, s1, n2, n3, A4, c4, l4, A5, c5, l5, A6, c6, l6, A7, c7, l7, rfl, hr4, hc4, hr5, hc5, hr6, hc6, hr7, hc7⟩
end Go.Proofs.YtiooajpbpffcnaaGreatDoor.Plans
