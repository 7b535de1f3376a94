/- An argument of type weirlaw23.Five: out of its reading as data, what its cells hold. -/
import Derived.Test.YthfkednlgehchaaGreatDoorOfPure
import Derived.Test.YthfkednlgehchaaGreatDoorBackShapes2
set_option linter.unusedSimpArgs false
set_option linter.unusedVariables false
namespace Go.Proofs.YthfkednlgehchaaGreatDoor.Shapes
open Go Go.Proofs Go.ChangeShapes Go.WideShapes Go.ChangeAt Go.RowKit Go.Deep Go.Proofs.YthfkednlgehchaaGreatDoor Go.Am Go.Proofs.YthfkednlgehchaaGreatDoor.Name Go.Proofs.YthfkednlgehchaaGreatDoor.Of
variable {H : Type} {enc : TypeId × Value → H} {W : World} {base : Nat} {spare : Nat → Bool} {held : Bool} {B : Nat}

section
variable {P : Program}
theorem open_slice_fields {t e : TypeId} {fs : Array Field} {fuel : Nat} {cs : List Value} {x : DataW H × List MemPlace} (ht : P.underlying t = some (.slice e)) (he : P.underlying e = some (.struct fs))
    (hone : oneCellFields P fs = true) (hC : P.cellsOf e = fs.size) (h : DataW.trod enc P W base spare held fuel t cs = some x) :
    (cs = [.slice none 0 0] ∧ x = (.nil, [])) ∨
    ∃ (a : Addr) (len cap m : Nat) (D : Nat → DataW H) (Pl : Nat → List MemPlace), cs = [.slice (some a) len cap] ∧ base ≤ a.block ∧ len ≤ cap ∧ cap ≤ maxLen ∧ m = (if spare a.block then cap else len) ∧
      x = (.slice ((List.range len).map D) ((List.range (m - len)).map fun j => D (len + j)), MemPlace.row a (m * fs.size) ++ (List.range m).flatMap Pl) ∧
      ∀ i, i < m → ∃ (ys : List (DataW H × List MemPlace)) (n : Nat), D i = .agg (ys.map (·.1)) ∧ Pl i = ys.flatMap (·.2) ∧ ys.length = fs.size ∧
        ∀ (j : Nat) (f : Field), fs[j]? = some f → ∃ (v : Value) (y : DataW H × List MemPlace), W.cell? (a.add (i * fs.size + j)) = some v ∧ ys[j]? = some y ∧ DataW.trod enc P W base spare held n f.type [v] = some y := by
  rcases open_slice ht h with h0 | ⟨a, len, cap, m, n, D, Pl, hcs, hb, hl, hm, hmm, hx, hi⟩
  · exact .inl h0
  · refine .inr ⟨a, len, cap, m, D, Pl, hcs, hb, hl, hm, hmm, by rw [hC] at hx; exact hx, fun i him => ?_⟩
    obtain ⟨cs', hc, ht'⟩ := hi i him
    rw [hC] at hc
    obtain ⟨ys, n', hn', hy, hlen, hyl, hf⟩ := DataW.trod_struct he ht'
    obtain ⟨_, hcl, hat⟩ := World.cells?_some hc
    simp only [Prod.mk.injEq] at hy
    refine ⟨ys, n', hy.1, hy.2, hyl, fun j f hj => ?_⟩
    obtain ⟨ho, hk⟩ := hone_of hone j f hj
    have hjl : j < fs.size := (Array.getElem?_eq_some_iff.1 hj).1
    have hcell := hat j hjl
    have hv : cs'[j]? = some (cs'[j]'(by omega)) := List.getElem?_eq_getElem (by omega)
    have h1 := hf j f hj
    rw [ho, hk] at h1
    have hone' : (cs'.drop j).take 1 = [cs'[j]'(by omega)] := by
      rw [List.drop_eq_getElem_cons (by omega)]
      rfl
    rw [hone'] at h1
    have hys : ys[j]? = some (ys[j]'(by omega)) := List.getElem?_eq_getElem (by omega)
    refine ⟨_, _, ?_, hys, h1.trans hys⟩
    rw [← Go.Deep.add_add, hcell, hv]
end

theorem fieldsTag : Tryz.prog.underlying 143 = some (.struct #[⟨ "Key", 9, 0, false, "", "", 0⟩, ⟨ "Value", 9, 1, false, "", "", 16⟩]) := Tryz.underlying143
theorem tags_at {fuel : Nat} {v : Value} {y : DataW H × List MemPlace} (h : DataW.trod enc Tryz.prog W base spare held fuel 23 [v] = some y) : ∃ ts : List (ByteArray × ByteArray), Tags W v ts ∧ ts.length ≤ 9223372036854775807 := by
  rcases open_slice_fields Tryz.underlying23 fieldsTag (by kernel_rfl) (by kernel_rfl) h with ⟨hcs, _⟩ | ⟨a, len, cap, m, D, Pl, hcs, _, hl, hm, hmm, hx, hi⟩
  · simp only [List.cons.injEq, and_true] at hcs
    exact ⟨[], ⟨0, 0, 0, Nat.le_refl _, .inl ⟨rfl, none, hcs⟩⟩, Nat.zero_le _⟩
  · simp only [List.cons.injEq, and_true] at hcs
    subst hcs
    have hlm : len ≤ m := by rw [hmm]; split <;> omega
    have key : ∀ i, i < len → ∃ s : ByteArray × ByteArray, W.cell? (a.add (i * 2 + 0)) = some (.string s.1) ∧ W.cell? (a.add (i * 2 + 1)) = some (.string s.2) := by
      intro i hil
      obtain ⟨ys, n, _, _, hy, hf⟩ := hi i (by omega)
      obtain ⟨v0, y0, c0, q0, t0⟩ := hf 0 _ rfl
      obtain ⟨v1, y1, c1, q1, t1⟩ := hf 1 _ rfl
      obtain ⟨x0, e0, _, w0⟩ := DataW.trod_string Tryz.underlying9 t0
      obtain ⟨x1, e1, _, w1⟩ := DataW.trod_string Tryz.underlying9 t1
      simp only [List.cons.injEq, and_true] at e0 e1
      subst e0 e1
      exact ⟨(x0, x1), c0, c1⟩
    obtain ⟨N, hN⟩ := choose_lt key
    have hml : len ≤ 9223372036854775807 := by unfold maxLen at hm; omega
    refine ⟨(List.range len).map N, ?_, by simpa using hml⟩
    rcases Nat.eq_zero_or_pos len with h0 | h0
    · subst h0
      exact ⟨0, 0, cap, by simp, .inl ⟨rfl, some a, rfl⟩⟩
    · have hs := World.cell?_spot (hN 0 h0).1
      obtain ⟨ab, ao, asp⟩ := a
      have : asp = none := by simpa [Addr.add] using hs
      subst this
      refine ⟨ab, ao, cap, by simpa using hl, .inr ⟨by simp, ?_, fun i g hg => ?_⟩⟩
      · have := Base.cell_lt (hN 0 h0).1
        simpa [Addr.add_lit] using this
      · have hil : i < len := by
          have := (List.getElem?_eq_some_iff.1 hg).1
          simpa using this
        obtain rfl : N i = g := by simpa [hil] using hg
        obtain ⟨k0, k1⟩ := hN i hil
        rw [Addr.add_lit] at k0 k1
        exact ⟨k0, by rw [show ao + i * 2 + 1 = ao + (i * 2 + 1) from by omega]; exact k1⟩

theorem cells_tags : Tryz.prog.cellsOf 23 = 1 := by kernel_rfl
theorem cells_five : Tryz.prog.cellsOf 25 = 5 := by kernel_rfl
theorem int_at {fuel : Nat} {v : Value} {y : DataW H × List MemPlace} (h : DataW.trod enc Tryz.prog W base spare held fuel 2 [v] = some y) : ∃ n : Int, v = .int .i64 n ∧ -9223372036854775808 ≤ n ∧ n ≤ 9223372036854775807 := by
  obtain ⟨n0, e0, _, hw⟩ := DataW.trod_int Tryz.underlying2 h
  simp only [List.cons.injEq, and_true] at e0
  subst e0
  have := hw
  simp [Lit.wf, IntKind.min, IntKind.max, IntKind.signed, IntKind.bits] at this
  exact ⟨n0, rfl, by omega, by omega⟩
/-- DOWN: a weirlaw23.Five. -/
theorem five_at {cs : Array Value} {d : DataW H} {p : List MemPlace} (h : DataW.Trod enc Tryz.prog W base spare held 25 (.agg cs) d p) (hB : Rows.uptoBulk d ≤ 1048576) :
    ∃ (e o t : Int) (gs : List ByteArray) (ts : List (ByteArray × ByteArray)) (sg st : Value), cs = #[.int .i64 e, .int .i64 o, sg, st, .int .i64 t] ∧ I64 e ∧ I64 o ∧ I64 t ∧ Strs W sg gs ∧ gs.length ≤ 2097152 ∧ Tags W st ts ∧ ts.length ≤ 9223372036854775807 := by
  obtain ⟨fuel, hf0⟩ := h
  obtain ⟨cl⟩ := cs
  simp only [Value.cells] at hf0
  obtain ⟨n, hl, hf⟩ := fields_at Tryz.underlying25 hf0 hB
  rw [cells_five] at hl
  obtain ⟨v0, v1, v2, v3, v4, rfl⟩ : ∃ a b c d e, cl = [a, b, c, d, e] := by
    match cl, hl with
    | [a, b, c, d, e], _ => exact ⟨a, b, c, d, e, rfl⟩
  obtain ⟨y0, h0, _⟩ := hf 0 _ 2 0 1 [v0] rfl rfl rfl cells_int64 rfl
  obtain ⟨y1, h1, _⟩ := hf 1 _ 2 1 1 [v1] rfl rfl rfl cells_int64 rfl
  obtain ⟨y2, h2, b2⟩ := hf 2 _ 22 2 1 [v2] rfl rfl rfl cells_strings rfl
  obtain ⟨y3, h3, _⟩ := hf 3 _ 23 3 1 [v3] rfl rfl rfl cells_tags rfl
  obtain ⟨y4, h4, _⟩ := hf 4 _ 2 4 1 [v4] rfl rfl rfl cells_int64 rfl
  obtain ⟨e, rfl, e1, e2⟩ := int_at h0
  obtain ⟨o, rfl, o1, o2⟩ := int_at h1
  obtain ⟨t, rfl, t1, t2⟩ := int_at h4
  obtain ⟨gs, hg, hlen⟩ := strings_at h2 b2
  obtain ⟨ts, hts, htl⟩ := tags_at h3
  refine ⟨e, o, t, gs, ts, v2, v3, rfl, ⟨e1, e2⟩, ⟨o1, o2⟩, ⟨t1, t2⟩, hg, ?_, hts, htl⟩
  have := tail_len (bytesOf gs)
  rw [List.length_map] at this
  omega
end Go.Proofs.YthfkednlgehchaaGreatDoor.Shapes
