import Derived.Test.YtldhedlleefkcaaGreatDoorAm4
import Derived.Test.YtldhedlleefkcaaGreatDoorAmSeat
set_option linter.unusedVariables false
set_option linter.unusedSimpArgs false
namespace Go.Am
open Go.Proofs Go
/-- live, where errors.As's variable is told. -/
def liveOrc : Callf := fun f args H => match f.beq 11 with
  | true => match args with
    | [] => match YtldhedlleefkcaaGreatDoor.Am.errTold H with
      | true => some (.bool true, H)
      | false => none
    | _ => none
  | false => none
theorem live_ok : CallOk Tryz.prog liveOrc := by
  intro f args H v H' h ρ w args' hW ha
  unfold liveOrc at h
  split at h
  · rename_i hf
    obtain rfl := Nat.eq_of_beq_eq_true hf
    split at h
    · split at h
      · rename_i hE
        cases h
        cases ha
        have hs : 7 ≤ w.heap.size := by
          obtain ⟨m, h1, h2, _⟩ := hW.glob (7 - 1) (show 7 - 1 < Tryz.prog.globals.size from by decide +kernel)
          have := hW.real _ m h1
          omega
        exact CallsN.quiet hW ⟨Tryz.f11, Tryz.func11, by decide, by kernel_rfl⟩ (YtldhedlleefkcaaGreatDoor.Am.live_calls w hs (YtldhedlleefkcaaGreatDoor.Am.err_cell hW hE)) (.bool true)
      · cases h
    · cases h
  · cases h
def fnsC : List Nat := [3, 4, 5, 6, 7, 8, 9, 10, 12, 13, 14, 15, 16, 17, 18, 19, 23, 24, 25, 26, 27, 28, 29, 30, 31, 32, 33, 34, 35, 36, 37, 38, 39, 40, 41, 42, 43, 44, 45, 46, 47, 48, 49, 50, 59]
noncomputable def fnC (f : Nat) : Option Func := match fnsC.any fun g => g.beq f with
  | true => Tryz.prog.funcs[f]?
  | false => none
theorem fnsC_ok : (fnsC.all fun f => match Tryz.prog.funcs[f]? with | some fn => fnOk Tryz.prog fn | none => false) = true := by kernel_rfl
theorem fnC_ok (f : Nat) (fn : Func) (h : fnC f = some fn) : Tryz.prog.funcs[f]? = some fn ∧ fnOk Tryz.prog fn = true := by
  unfold fnC at h
  split at h
  · rename_i hc
    obtain ⟨g, hg, hb⟩ := List.any_eq_true.1 hc
    obtain rfl := Nat.eq_of_beq_eq_true hb
    have := List.all_eq_true.1 fnsC_ok g hg
    rw [h] at this
    exact ⟨h, this⟩
  · cases h
noncomputable def cfg : Cfg := { P := Tryz.prog, fn := fnC, orc := liveOrc }
theorem cfg_ok : cfg.Ok := ⟨YtldhedlleefkcaaGreatDoor.Am.zok, YtldhedlleefkcaaGreatDoor.Am.mixed, fnC_ok, live_ok⟩
theorem cfg_P : cfg.P = Tryz.prog := rfl
theorem sz3 : szT Tryz.prog 3 = some 1 := by kernel_rfl
theorem sz38 : szT Tryz.prog 73 = some 6 := by kernel_rfl
theorem agg3 : aggT Tryz.prog 3 = some false := by kernel_rfl
theorem agg38 : aggT Tryz.prog 73 = some true := by kernel_rfl
theorem und25 : undT Tryz.prog 22 = some (.slice 73) := by kernel_rfl
theorem fld38_4 : fieldT Tryz.prog 73 4 = some (4, 3) := by kernel_rfl
theorem fld38_5 : fieldT Tryz.prog 73 5 = some (5, 3) := by kernel_rfl
theorem zero38 : zeroT Tryz.prog 73 = some (.agg #[.int .u8 0, .int .u8 0, .string ⟨#[]⟩, .int .i64 0, .int .i64 0, .int .i64 0]) := by kernel_rfl
theorem u35 : Tryz.prog.underlying 70 = some (.int .u8) := by kernel_rfl
theorem u36 : Tryz.prog.underlying 71 = some (.int .u8) := by kernel_rfl
theorem u9 : Tryz.prog.underlying 9 = some .string := by kernel_rfl
theorem u2 : Tryz.prog.underlying 2 = some (.int .i64) := by kernel_rfl
theorem u3 : Tryz.prog.underlying 3 = some (.int .i64) := by kernel_rfl
theorem a35 : aggT Tryz.prog 70 = some false := by kernel_rfl
theorem a36 : aggT Tryz.prog 71 = some false := by kernel_rfl
theorem a9 : aggT Tryz.prog 9 = some false := by kernel_rfl
theorem a2 : aggT Tryz.prog 2 = some false := by kernel_rfl

/-- A node's cells. -/
abbrev nd (a f : Int) (s : ByteArray) (n k p : Int) : List Value := [.int .u8 a, .int .u8 f, .string s, .int .i64 n, .int .i64 k, .int .i64 p]

theorem und26 : undT Tryz.prog 26 = some (.slice 25) := by kernel_rfl
theorem sz24 : szT Tryz.prog 25 = some 2 := by kernel_rfl
theorem sz9 : szT Tryz.prog 9 = some 1 := by kernel_rfl
theorem agg24 : aggT Tryz.prog 25 = some true := by kernel_rfl
theorem fld24_0 : fieldT Tryz.prog 25 0 = some (0, 9) := by kernel_rfl
theorem fld24_1 : fieldT Tryz.prog 25 1 = some (1, 3) := by kernel_rfl
abbrev lb (s : ByteArray) (p : Int) : List Value := [.string s, .int .i64 p]
def Labels (xs : List (List Value)) : Prop := ∀ x ∈ xs, ∃ s p, x = lb s p
/-- What nodes are: cells of their kinds. -/
def Nodes (xs : List (List Value)) : Prop := ∀ x ∈ xs, ∃ a f s n k p, x = nd a f s n k p
theorem f29_0 : fieldT Tryz.prog 29 0 = some (0, 23) := by kernel_rfl
theorem f29_1 : fieldT Tryz.prog 29 1 = some (1, 25) := by kernel_rfl
theorem f29_2 : fieldT Tryz.prog 29 2 = some (3, 25) := by kernel_rfl
theorem f29_3 : fieldT Tryz.prog 29 3 = some (5, 22) := by kernel_rfl
theorem f29_4 : fieldT Tryz.prog 29 4 = some (6, 2) := by kernel_rfl
theorem f29_5 : fieldT Tryz.prog 29 5 = some (7, 2) := by kernel_rfl
theorem f29_6 : fieldT Tryz.prog 29 6 = some (8, 3) := by kernel_rfl
theorem f29_7 : fieldT Tryz.prog 29 7 = some (9, 26) := by kernel_rfl
theorem f29_8 : fieldT Tryz.prog 29 8 = some (10, 27) := by kernel_rfl
theorem f29_9 : fieldT Tryz.prog 29 9 = some (11, 2) := by kernel_rfl
theorem f29_10 : fieldT Tryz.prog 29 10 = some (12, 3) := by kernel_rfl
theorem f33_0 : fieldT Tryz.prog 80 0 = some (0, 22) := by kernel_rfl
theorem f33_1 : fieldT Tryz.prog 80 1 = some (1, 25) := by kernel_rfl
theorem f33_2 : fieldT Tryz.prog 80 2 = some (3, 3) := by kernel_rfl
theorem s22 : szT Tryz.prog 23 = some 1 := by kernel_rfl
theorem s25 : szT Tryz.prog 22 = some 1 := by kernel_rfl
theorem s26 : szT Tryz.prog 26 = some 1 := by kernel_rfl
theorem s27 : szT Tryz.prog 27 = some 1 := by kernel_rfl
theorem s2 : szT Tryz.prog 2 = some 1 := by kernel_rfl
theorem s29 : szT Tryz.prog 29 = some 13 := by kernel_rfl
theorem g22 : aggT Tryz.prog 23 = some false := by kernel_rfl
theorem g25 : aggT Tryz.prog 22 = some false := by kernel_rfl
theorem g26 : aggT Tryz.prog 26 = some false := by kernel_rfl
theorem g27 : aggT Tryz.prog 27 = some false := by kernel_rfl
theorem g29 : aggT Tryz.prog 29 = some true := by kernel_rfl
theorem g33 : aggT Tryz.prog 80 = some true := by kernel_rfl
theorem zero29 : zeroT Tryz.prog 29 = some (.agg #[.slice none 0 0, .string ⟨#[]⟩, .int .i64 0, .string ⟨#[]⟩, .int .i64 0, .slice none 0 0, .int .i64 0, .int .i64 0, .int .i64 0, .slice none 0 0, .int .u8 0, .int .i64 0, .int .i64 0]) := by kernel_rfl
theorem zero33 : zeroT Tryz.prog 80 = some (.agg #[.slice none 0 0, .string ⟨#[]⟩, .int .i64 0, .int .i64 0]) := by kernel_rfl
theorem sz33 : szT Tryz.prog 80 = some 4 := by kernel_rfl
theorem el25 : El Tryz.prog 22 6 48 := ⟨⟨73, _, by kernel_rfl, by kernel_rfl, by kernel_rfl, und25, rfl⟩, by decide, by decide⟩
theorem el26 : El Tryz.prog 26 2 24 := ⟨⟨25, _, by kernel_rfl, by kernel_rfl, by kernel_rfl, und26, rfl⟩, by decide, by decide⟩
theorem und22 : undT Tryz.prog 23 = some (.slice 80) := by kernel_rfl
theorem el22 : El Tryz.prog 23 4 56 := ⟨⟨80, _, by kernel_rfl, by kernel_rfl, by kernel_rfl, und22, rfl⟩, by decide, by decide⟩
theorem fld38_0 : fieldT Tryz.prog 73 0 = some (0, 70) := by kernel_rfl
theorem sz35 : szT Tryz.prog 70 = some 1 := by kernel_rfl
theorem nd_one (a f n k p : Int) (s : ByteArray) : (nd a f s n k p).all oneCell = true := rfl
theorem nodes_one {xs : List (List Value)} (h : Nodes xs) : xs.flatten.all oneCell = true := by
  rw [List.all_eq_true]
  intro v hv
  obtain ⟨x, hx, hv⟩ := List.mem_flatten.1 hv
  obtain ⟨a, f, s, n, k, p, rfl⟩ := h x hx
  exact List.all_eq_true.1 (nd_one a f n k p s) v hv
theorem labels_one {xs : List (List Value)} (h : Labels xs) : xs.flatten.all oneCell = true := by
  rw [List.all_eq_true]
  intro v hv
  obtain ⟨x, hx, hv⟩ := List.mem_flatten.1 hv
  obtain ⟨s, p, rfl⟩ := h x hx
  have : (lb s p).all oneCell = true := rfl
  exact List.all_eq_true.1 this v hv
theorem nodes_len {xs : List (List Value)} (h : Nodes xs) : ∀ x ∈ xs, x.length = 6 := by
  intro x hx; obtain ⟨a, f, s, n, k, p, rfl⟩ := h x hx; rfl
theorem labels_len {xs : List (List Value)} (h : Labels xs) : ∀ x ∈ xs, x.length = 2 := by
  intro x hx; obtain ⟨s, p, rfl⟩ := h x hx; rfl

theorem Rd.one {H : AH} {s : Nat} {c : List Value} (hc : c.length = s) : Rd (H.new (.cells c s .solo)) s (.slice (some ⟨H.next, 0, none⟩) 1 1) [c] := by
  refine ⟨_, _, rfl, .inr ⟨H.next, 0, c, s, .solo, rfl, Nat.lt_succ_self _, get_new_eq rfl, trivial, fun i x hi => ?_⟩⟩
  cases i with
  | zero =>
    simp only [List.getElem?_cons_zero, Option.some.injEq] at hi
    subst hi
    refine ⟨hc, by omega, ?_⟩
    simp [← hc]
  | succ i => simp at hi

/-- What items are: a tree's slice, a text, two numbers. -/
abbrev im (tv : Value) (s : ByteArray) (p q : Int) : List Value := [tv, .string s, .int .i64 p, .int .i64 q]
def Items (xs : List (List Value)) : Prop := ∀ x ∈ xs, ∃ tv s p q, x = im tv s p q ∧ oneCell tv = true
theorem items_one {xs : List (List Value)} (h : Items xs) : xs.flatten.all oneCell = true := by
  rw [List.all_eq_true]
  intro v hv
  obtain ⟨x, hx, hv⟩ := List.mem_flatten.1 hv
  obtain ⟨tv, s, p, q, rfl, ht⟩ := h x hx
  have : (im tv s p q).all oneCell = true := by simp only [List.all_cons, List.all_nil, ht]; rfl
  exact List.all_eq_true.1 this v hv
theorem items_len {xs : List (List Value)} (h : Items xs) : ∀ x ∈ xs, x.length = 4 := by
  intro x hx; obtain ⟨tv, s, p, q, rfl, _⟩ := h x hx; rfl
theorem gr_zero (H : AH) (s : Nat) : Gr (H.new (.cells [] s .solo)) H.next s (.slice (some ⟨H.next, 0, none⟩) 0 0) [] :=
  .inr ⟨H.next, .solo, rfl, Nat.le_refl _, Nat.lt_succ_self _, get_new_eq rfl, by simp, .inl rfl⟩
abbrev z29 : List Value := [.slice none 0 0, .string ⟨#[]⟩, .int .i64 0, .string ⟨#[]⟩, .int .i64 0, .slice none 0 0, .int .i64 0, .int .i64 0, .int .i64 0, .slice none 0 0, .int .u8 0, .int .i64 0, .int .i64 0]
/-- A query's parts. -/
structure Qd where
  its : List (List (List Value) × ByteArray × Int × Int)
  s1 : ByteArray
  p1 : Int
  s2 : ByteArray
  p2 : Int
  wh : List (List Value)
  e : Int
  o : Int
  ep : Int
  gr : List (List Value)
  fl : Int
  fn : Int
  fp : Int
structure Qd.Ok (Q : Qd) : Prop where
  its : ∀ it ∈ Q.its, Nodes it.1 ∧ it.1.length ≤ 1048576
  len : Q.its.length ≤ 1048576
  wh : Nodes Q.wh
  whl : Q.wh.length ≤ 1048576
  gr : Labels Q.gr
  grl : Q.gr.length ≤ 1048576
abbrev qc (Q : Qd) (vi vw vg : Value) : List Value := [vi, .string Q.s1, .int .i64 Q.p1, .string Q.s2, .int .i64 Q.p2, vw, .int .i64 Q.e, .int .i64 Q.o, .int .i64 Q.ep, vg, .int .u8 Q.fl, .int .i64 Q.fn, .int .i64 Q.fp]
/-- its items, in a heap -/
def IR (H : AH) (v : Value) (its : List (List (List Value) × ByteArray × Int × Int)) : Prop :=
  ∃ xs, Rd H 4 v xs ∧ xs.length = its.length ∧ ∀ (i : Nat) (it : List (List Value) × ByteArray × Int × Int), its[i]? = some it → ∃ tv, xs[i]? = some (im tv it.2.1 it.2.2.1 it.2.2.2) ∧ Rd H 6 tv it.1
theorem IR.mono {H H' : AH} (hx : Ext H H') {v : Value} {its : List (List (List Value) × ByteArray × Int × Int)} (h : IR H v its) : IR H' v its := by
  obtain ⟨xs, h1, h2, h3⟩ := h
  exact ⟨xs, h1.mono hx, h2, fun i it hi => let ⟨tv, a, b⟩ := h3 i it hi; ⟨tv, a, b.mono hx⟩⟩
/-- An item, at its place. -/
theorem IR.at {H : AH} {v : Value} {its : List (List (List Value) × ByteArray × Int × Int)} (h : IR H v its) {i : Nat} {it : List (List Value) × ByteArray × Int × Int} (hi : its[i]? = some it) :
    ∃ b o cap tv, v = .slice (some ⟨b, o, none⟩) its.length cap ∧ b < H.next ∧ Rd H 6 tv it.1 ∧ H.loads b (o + i * 4) 4 = some (im tv it.2.1 it.2.2.1 it.2.2.2) ∧
      H.cell b (o + i * 4) = some tv ∧ H.cell b (o + i * 4 + 1) = some (.string it.2.1) ∧ H.cell b (o + i * 4 + 2) = some (.int .i64 it.2.2.1) ∧ H.cell b (o + i * 4 + 3) = some (.int .i64 it.2.2.2) := by
  obtain ⟨xs, h1, h2, h3⟩ := h
  obtain ⟨tv, h4, h5⟩ := h3 i it hi
  obtain ⟨b, o, cap, h6, h7, _, h8, h9⟩ := h1.at h4
  exact ⟨b, o, cap, tv, by rw [← h2]; exact h6, h7, h5, h8, h9 0 (by omega), h9 1 (by omega), h9 2 (by omega), h9 3 (by omega)⟩
theorem IR.len {H : AH} {v : Value} {its : List (List (List Value) × ByteArray × Int × Int)} (h : IR H v its) : ∃ a cap, v = .slice a its.length cap := by
  obtain ⟨xs, ⟨a, cap, h1, _⟩, h2, _⟩ := h
  exact ⟨a, cap, by rw [← h2]; exact h1⟩

theorem zero24 : zeroT Tryz.prog 25 = some (.agg #[.string ⟨#[]⟩, .int .i64 0]) := by kernel_rfl
end Go.Am
