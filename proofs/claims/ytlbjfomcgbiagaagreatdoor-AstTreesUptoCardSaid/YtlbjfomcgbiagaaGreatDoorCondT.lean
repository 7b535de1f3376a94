/- ast.condText: the text of a condition's tree. -/
import Derived.Test.YtlbjfomcgbiagaaGreatDoorPrint5
import Derived.Test.YtlbjfomcgbiagaaGreatDoorPrint6
import Derived.Test.YtlbjfomcgbiagaaGreatDoorRep
import Derived.Test.YtlbjfomcgbiagaaGreatDoorSq
import Derived.Lib.OwnKind
import Derived.Deep.OwnRows
import Derived.Maps.AppendAt
set_option linter.unusedVariables false
set_option linter.unusedSimpArgs false
namespace Go.Proofs.YtlbjfomcgbiagaaGreatDoor.CondT
open Go Go.RowKit Go.Proofs.YtlbjfomcgbiagaaGreatDoorW.PrintWords Go.Proofs.YtlbjfomcgbiagaaGreatDoorW.PrintLast Go.Proofs Go.Proofs.YtlbjfomcgbiagaaGreatDoor Go.Proofs.YtlbjfomcgbiagaaGreatDoor.Base Go.Proofs.YtlbjfomcgbiagaaGreatDoorW.PrintMore Go.Proofs.YtlbjfomcgbiagaaGreatDoor.Print
attribute [local go_sem] max2_int min2_int max_two min_two max_three min_three max_four min_four

abbrev ND := S56
/-- And, or. -/
def rowOp (x : Int) : Bool := x == 14 || x == 15
def brk (t : ByteArray) (m : Bool) : ByteArray := if m = true then (⟨#[40]⟩ : ByteArray) ++ t ++ (⟨#[41]⟩ : ByteArray) else t
theorem brk_f (t : ByteArray) (m : Bool) (h : t.size ≤ 4611686018427387904) : ast_bracketed.f t m = some (brk t m) := by
  unfold ast_bracketed.f brk
  cases m <;> simp [h]
theorem text_any (s r : ByteArray) (h : lex_inQuotes.f s ⟨#[39]⟩ = some r) (w : World) : Calls Tryz.prog 73 #[.string s] w fun e w' => e = .returned (.string r) ∧ Below w.heap.size w w' := by
  have HQ := Aside0.mk (lex_inQuotes.calls s ⟨#[39]⟩ r w h)
  clear h
  go_enter Tryz.func73, Tryz.ntmps73
  go_wp2_with (go_at_call 104; refine HQ.out.mono ?_; rintro e w1 ⟨rfl, hb⟩)
  go_ret
  exact ⟨rfl, hb⟩
theorem brk_size (t : ByteArray) (m : Bool) : (brk t m).size ≤ t.size + 2 := by
  unfold brk
  cases m
  · simp
  · simp only [if_true, ByteArray.size_append]
    show 1 + t.size + 1 ≤ _
    omega
/-- What a node's text is of its kids' texts. -/
def Body (l : List ND) (a : Int) (places : List Int) (ks : List ByteArray) (s : ByteArray) : Prop :=
  places.length ≤ 1048576 ∧ (∀ t ∈ ks, t.size ≤ 1099511627776) ∧ s.size ≤ 1099511627776 ∧ (∀ p ∈ places, 0 ≤ p ∧ p < l.length) ∧
  (((rd_T56 l a).f0 = 11 ∧ s = ⟨#[84, 82, 85, 69]⟩) ∨
   ((rd_T56 l a).f0 = 12 ∧ s = ⟨#[70, 65, 76, 83, 69]⟩) ∨
   ((rd_T56 l a).f0 = 23 ∧ ∃ k, lex_Quote.f k (rd_T56 l a).f2 = some s) ∨
   ((rd_T56 l a).f0 = 24 ∧ lex_inQuotes.f (rd_T56 l a).f2 ⟨#[39]⟩ = some s) ∨
   ((rd_T56 l a).f0 = 25 ∧ s = ⟨#[116, 105, 109, 101]⟩) ∨
   ((rd_T56 l a).f0 = 26 ∧ strconv_FormatInt.f (rd_T56 l a).f3 10 = some s) ∨
   ((rd_T56 l a).f0 = 13 ∧ ∃ p t, places = [p] ∧ ks = [t] ∧ s = (⟨#[78, 79, 84, 32]⟩ : ByteArray) ++ brk t (rowOp (rd_T56 l p).f0)) ∨
   ((rd_T56 l a).f0 = 22 ∧ ∃ t r, r ≠ [] ∧ ks = t :: r ∧ s = t ++ (⟨#[32, 73, 78, 32, 40]⟩ : ByteArray) ++ ⟨(Lib.join (r.map (·.data.toList)) [44, 32]).toArray⟩ ++ (⟨#[41]⟩ : ByteArray)) ∨
   ((rd_T56 l a).f0 = 14 ∧ ks ≠ [] ∧ s = ⟨(Lib.join ((List.zipWith (fun (p : Int) (t : ByteArray) => brk t (rowOp (rd_T56 l p).f0)) places ks).map (·.data.toList)) [32, 65, 78, 68, 32]).toArray⟩) ∨
   ((rd_T56 l a).f0 = 15 ∧ ks ≠ [] ∧ s = ⟨(Lib.join ((List.zipWith (fun (p : Int) (t : ByteArray) => brk t ((rd_T56 l p).f0 == 15)) places ks).map (·.data.toList)) [32, 79, 82, 32]).toArray⟩) ∨
   ((16 ≤ (rd_T56 l a).f0 ∧ (rd_T56 l a).f0 ≤ 21) ∧ ∃ t u, ks = [t, u] ∧ ∃ g, ast_sign.f (rd_T56 l a).f0 = some g ∧ s = t ++ (⟨#[32]⟩ : ByteArray) ++ g ++ (⟨#[32]⟩ : ByteArray) ++ u))
/-- The condition at a place prints so. -/
inductive CT (l : List ND) : Int → ByteArray → Prop
  | mk (a : Int) (s : ByteArray) (places : List Int) (ks : List ByteArray) (h0 : 0 ≤ a) (h1 : a < l.length) (K : Nat) (hK : ast_Kids.f K l a = some places) (hl : ks.length = places.length)
      (hk : ∀ (j : Nat) (p : Int) (t : ByteArray), places[j]? = some p → ks[j]? = some t → CT l p t) (hb : Body l a places ks s) : CT l a s

/-- What lies in memory while the kids are told. -/
structure Hd (w W : World) (A : Option Addr) (len c : Nat) (n : ND) : Prop where
  bel : Below w.heap.size w W
  b0 : W.heap[w.heap.size]? = some (.cells #[.slice A len c] 22 (0, 0))
  b1 : W.heap[w.heap.size + 1]? = some (.cells #[.int .u8 n.f0, .int .u8 n.f1, .string n.f2, .int .i64 n.f3, .int .i64 n.f4, .int .i64 n.f5] 56 (0, 0))
theorem Hd.lt {w W : World} {A : Option Addr} {len c : Nat} {n : ND} (h : Hd w W A len c n) : w.heap.size + 1 < W.heap.size := (Array.getElem?_eq_some_iff.1 h.b1).1
theorem Hd.more {w W W' : World} {A : Option Addr} {len c : Nat} {n : ND} (h : Hd w W A len c n) (hb : Below W.heap.size W W') : Hd w W' A len c n :=
  ⟨below_then h.bel h.bel.size hb, (hb.block _ (by have := h.lt; omega)).trans h.b0, (hb.block _ h.lt).trans h.b1⟩

theorem own_below {w w' : World} {base : Nat} {e : TypeId} {size : Nat} {v : Value} {n : Nat} {xs : List Value} (h : w.ownsRow base e size v n xs) (hb : Below w.heap.size w w') : w'.ownsRow base e size v n xs := by
  obtain ⟨h1, h2⟩ := h
  refine ⟨h1, ?_⟩
  rcases h2 with h2 | ⟨g, cap, cur, h2, h3, h4, h5⟩
  · exact .inl h2
  · have hlt : g < w.heap.size := (Array.getElem?_eq_some_iff.1 h4).1
    exact .inr ⟨g, cap, cur, h2, h3, (hb.block g hlt).trans h4, h5⟩
theorem hd_start (w : World) (A : Option Addr) (len c : Nat) (n : ND) : Hd w ((w.alloc (.cells #[.slice A len c] 22)).alloc (.cells #[.int .u8 n.f0, .int .u8 n.f1, .string n.f2, .int .i64 n.f3, .int .i64 n.f4, .int .i64 n.f5] 56)) A len c n := {
  bel := below_alloc (below_alloc (Below.refl _ _) _) _
  b0 := by
    have h1 := Rep.alloc_new w (.cells #[.slice A len c] 22)
    have h2 : Below (w.heap.size + 1) (w.alloc (.cells #[.slice A len c] 22)) ((w.alloc (.cells #[.slice A len c] 22)).alloc (.cells #[.int .u8 n.f0, .int .u8 n.f1, .string n.f2, .int .i64 n.f3, .int .i64 n.f4, .int .i64 n.f5] 56)) := (Below.refl _ _).alloc (by simp) _
    exact (h2.block _ (by omega)).trans h1
  b1 := by
    have h1 := Rep.alloc_new (w.alloc (.cells #[.slice A len c] 22)) (.cells #[.int .u8 n.f0, .int .u8 n.f1, .string n.f2, .int .i64 n.f3, .int .i64 n.f4, .int .i64 n.f5] 56)
    have h2 : (w.alloc (.cells #[.slice A len c] 22)).heap.size = w.heap.size + 1 := by simp
    rw [h2] at h1
    exact h1 }
theorem cell_of {W : World} {b : Nat} {cs : Array Value} {t : TypeId} {fz : Nat × Nat} (h : W.heap[b]? = some (.cells cs t fz)) (j : Nat) : W.cell? ⟨b, j, none⟩ = cs[j]? := by
  show (match W.heap[b]? with | some (.cells c _ _) => c[j]? | _ => none) = _
  rw [h]
theorem rd_get (l : List Int) (j : Nat) (h : j < l.length) : rd l (j : Int) = l[j] := by
  simp [rd, h]

set_option maxRecDepth 100000 in
set_option maxHeartbeats 1000000 in
theorem row_any (A : Option Addr) (c : Nat) (l : List ND) (p : Int) (h0 : 0 ≤ p) (h1 : p < l.length) (b : Nat) (W : World) (hr : Kd.C k56 W A l.length l) (hb : W.cell? ⟨b, 0, none⟩ = some (.slice A l.length c)) :
    Calls Tryz.prog 72 #[.int .i64 p, .pointer (some ⟨b, 0, none⟩)] W fun e w' => e = .returned (.bool (rowOp (rd_T56 l p).f0)) ∧ W = w' := by
  obtain ⟨ad, rfl, hx0, _⟩ := at_T56 hr p h0 h1
  generalize (rd_T56 l p).f0 = x at hx0
  by_cases e1 : x = 14
  · subst e1
    go_enter Tryz.func72, Tryz.ntmps72
    go_wp2
    go_ret
    exact ⟨rfl, rfl⟩
  · have e1' : (x == 14) = false := by simpa using e1
    have hrow : rowOp x = (x == 15) := by simp [rowOp, e1']
    have HR := Aside0.mk hrow
    clear hrow
    go_enter Tryz.func72, Tryz.ntmps72
    go_wp2
    go_ret
    exact ⟨by rw [HR.out]; rfl, rfl⟩

theorem own_cap {w : World} {base : Nat} {e : TypeId} {n g cap : Nat} {xs : List Value} (h : w.ownsRow base e 1 (.slice (some ⟨g, 0, none⟩) n cap) n xs) : n ≤ cap := by
  rcases h.2 with ⟨h2, _⟩ | ⟨g2, cap2, cur, h2, _, _, h3, _⟩
  · cases h2
  · cases h2; exact h3
theorem keep4 {w0 W W' : World} {a b c : Addr} {x y z : Value} (h : Below w0.heap.size w0 W ∧ W.cell? a = some x ∧ W.cell? b = some y ∧ W.cell? c = some z) (hb : Below W.heap.size W W') : Below w0.heap.size w0 W' ∧ W'.cell? a = some x ∧ W'.cell? b = some y ∧ W'.cell? c = some z :=
  ⟨below_then h.1 h.1.size hb, (hb.cell (Rep.lt_of_cell? h.2.1)).trans h.2.1, (hb.cell (Rep.lt_of_cell? h.2.2.1)).trans h.2.2.1, (hb.cell (Rep.lt_of_cell? h.2.2.2)).trans h.2.2.2⟩
theorem start4 {w0 : World} {a b c : Addr} {x y z : Value} (h1 : w0.cell? a = some x) (h2 : w0.cell? b = some y) (h3 : w0.cell? c = some z) : Below w0.heap.size w0 w0.drew ∧ w0.drew.cell? a = some x ∧ w0.drew.cell? b = some y ∧ w0.drew.cell? c = some z :=
  ⟨below_drew1 (Below.refl _ _), by rw [World.cell?_drew]; exact h1, by rw [World.cell?_drew]; exact h2, by rw [World.cell?_drew]; exact h3⟩
theorem keep5 {w0 W W' : World} {a b c d : Addr} {x y z u : Value} (h : Below w0.heap.size w0 W ∧ W.cell? a = some x ∧ W.cell? b = some y ∧ W.cell? c = some z ∧ W.cell? d = some u) (hb : Below W.heap.size W W') : Below w0.heap.size w0 W' ∧ W'.cell? a = some x ∧ W'.cell? b = some y ∧ W'.cell? c = some z ∧ W'.cell? d = some u :=
  ⟨below_then h.1 h.1.size hb, (hb.cell (Rep.lt_of_cell? h.2.1)).trans h.2.1, (hb.cell (Rep.lt_of_cell? h.2.2.1)).trans h.2.2.1, (hb.cell (Rep.lt_of_cell? h.2.2.2.1)).trans h.2.2.2.1, (hb.cell (Rep.lt_of_cell? h.2.2.2.2)).trans h.2.2.2.2⟩
theorem start5 {w0 : World} {a b c d : Addr} {x y z u : Value} (h1 : w0.cell? a = some x) (h2 : w0.cell? b = some y) (h3 : w0.cell? c = some z) (h4 : w0.cell? d = some u) : Below w0.heap.size w0 w0.drew ∧ w0.drew.cell? a = some x ∧ w0.drew.cell? b = some y ∧ w0.drew.cell? c = some z ∧ w0.drew.cell? d = some u :=
  ⟨below_drew1 (Below.refl _ _), by rw [World.cell?_drew]; exact h1, by rw [World.cell?_drew]; exact h2, by rw [World.cell?_drew]; exact h3, by rw [World.cell?_drew]; exact h4⟩
theorem add_zero (a : Addr) : a.add 0 = a := by
  cases a with
  | mk b o s => cases s <;> simp [Addr.add]
theorem keep3 {w0 W W' : World} {a b : Addr} {x y : Value} (h : Below w0.heap.size w0 W ∧ W.cell? a = some x ∧ W.cell? b = some y) (hb : Below W.heap.size W W') : Below w0.heap.size w0 W' ∧ W'.cell? a = some x ∧ W'.cell? b = some y :=
  ⟨below_then h.1 h.1.size hb, (hb.cell (Rep.lt_of_cell? h.2.1)).trans h.2.1, (hb.cell (Rep.lt_of_cell? h.2.2)).trans h.2.2⟩
theorem start3 {w0 : World} {a b : Addr} {x y : Value} (h1 : w0.cell? a = some x) (h2 : w0.cell? b = some y) : Below w0.heap.size w0 w0.drew ∧ w0.drew.cell? a = some x ∧ w0.drew.cell? b = some y :=
  ⟨below_drew1 (Below.refl _ _), by rw [World.cell?_drew]; exact h1, by rw [World.cell?_drew]; exact h2⟩

def r32.T : Bool × List (List Nat × List Nat) := (true, [([], []), ([], []), ([], []), ([], []), ([2, 3], [2, 3]), ([4], [4]), ([], []), ([], []), ([6, 7], [6, 7]), ([8], [8]), ([9], [9]), ([10], [10]), ([11], [11]), ([12], [12]), ([13, 12], [12, 13]), ([14, 12], [12, 14]), ([15, 12, 12], [12, 15]), ([16], [16]), ([16], [16]), ([17, 18, 16, 16], [16, 17, 18]), ([16, 19, 12], [12, 16, 19]), ([12, 20], [12, 20]), ([5, 21, 19], [5, 21]), ([0, 1, 0, 1, 2, 3, 4, 5, 6, 7, 8, 9, 10, 11, 12, 13, 14, 15, 16, 17, 18, 19, 20, 21, 22], [0, 1]), ([23, 22, 22, 0, 1, 2, 3, 4, 5, 6, 7, 8, 9, 10, 11, 12, 13, 14, 15, 16, 17, 18, 19, 20, 21, 22], [22, 23])])
def r32.B : List Nat := [0, 0, 0, 0, 12, 28, 0, 0, 192, 448, 960, 1984, 4032, 8128, 16320, 32704, 65472, 131008, 131008, 524224, 1048512, 2097088, 4194300, 8388607, 16777215]
theorem r32.tab : rtab .any (opsOf Tryz.f28 32) = r32.T := by kernel_rfl
theorem r32.bits : waitsOk r32.T.2 r32.B = true := by kernel_rfl
theorem if_go {p x y : Prop} [Decidable p] (h : p) (hx : x) : if p then x else y := by rw [if_pos h]; exact hx
theorem row_step (Z K : List ByteArray) (j : Nat) (hZ : j < Z.length) (hK : j < K.length) : (Z.take j ++ K.drop j).set j Z[j] = Z.take (j + 1) ++ K.drop (j + 1) := by
  have hl : (Z.take j).length = j := by rw [List.length_take]; omega
  rw [List.set_append_right _ _ (by rw [hl]; exact Nat.le_refl _), hl, Nat.sub_self, List.drop_eq_getElem_cons hK, List.set_cons_zero, List.take_add_one, List.getElem?_eq_getElem hZ, List.append_assoc]
  rfl
theorem add_g (g i : Nat) : (⟨g, 0, none⟩ : Addr).add i = ⟨g, i, none⟩ := by
  unfold Addr.add
  split
  · rename_i e; subst e; rfl
  · simp
/-- The kids' texts in their row, the first of them in brackets where they must be. -/
structure Br (w3 W : World) (g : Nat) (L : List ByteArray) : Prop where
  bel : Below w3.heap.size w3 W
  ge : w3.heap.size ≤ g
  cells : ∀ (i : Nat) (x : ByteArray), L[i]? = some x → W.cell? ⟨g, i, none⟩ = some (.string x)
  fr : ∀ i, W.frozen? ⟨g, i, none⟩ = false
theorem Br.put {w3 W : World} {g : Nat} {L : List ByteArray} (h : Br w3 W g L) (j : Nat) (hj : j < L.length) (y : ByteArray) : Br w3 (W.setCell ⟨g, j, none⟩ (.string y)) g (L.set j y) := {
  bel := h.bel.setCell h.ge _
  ge := h.ge
  cells := fun i x hi => by
    rw [List.getElem?_set] at hi
    split at hi
    · rename_i e
      subst e
      cases hi
      exact World.cell?_setCell_same _ _ _ (h.cells j _ (List.getElem?_eq_getElem hj))
    · rename_i e
      rw [World.cell?_setCell_other _ _ _ _ (fun e2 => e (by cases e2; rfl))]
      exact h.cells i x hi
  fr := fun i => by rw [World.frozen?_setCell]; exact h.fr i }
theorem Br.more {w3 W W' : World} {g : Nat} {L : List ByteArray} (h : Br w3 W g L) (hb : Below W.heap.size W W') (hg : g < W.heap.size) : Br w3 W' g L :=
  ⟨below_then h.bel h.bel.size hb, h.ge, fun i x hi => (hb.cell hg).trans (h.cells i x hi), fun i => (World.frozen?_of_block (hb.block g hg)).trans (h.fr i)⟩
theorem own_br {w3 W : World} {g cap : Nat} {ks : List ByteArray} (hb : Below w3.heap.size w3 W) (h : W.ownsRow w3.heap.size 9 1 (.slice (some ⟨g, 0, none⟩) ks.length cap) ks.length (ks.map Value.string)) : Br w3 W g ks := {
  bel := hb
  ge := (h.lt g rfl).1
  cells := fun i x hi => by
    have := h.cells (g := g) rfl i (.string x) (by rw [List.getElem?_map, hi]; rfl)
    rw [add_g] at this
    exact this
  fr := fun i => by
    rcases h.2 with ⟨h2, _⟩ | ⟨g2, cap2, cur, h2, _, h3, _⟩
    · cases h2
    · cases h2; exact Lib.frozen_of_heap h3 i }

set_option maxRecDepth 100000 in
set_option maxHeartbeats 8000000 in
theorem cond_any (A : Option Addr) (c : Nat) (l : List ND) (hc : l.length ≤ c) (w00 : World) (hr00 : Kd.C k56 w00 A l.length l) (hG0 : Globs w00) : ∀ (a : Int) (s : ByteArray), CT l a s → ∀ w : World, Below w00.heap.size w00 w →
    Calls Tryz.prog 28 #[.slice A l.length c, .int .i64 a] w fun e w' => e = .returned (.string s) ∧ Below w.heap.size w w' := by
  intro a s h
  induction h with
  | mk a s places ks h0 h1 K hK hl hk hb ih =>
  intro w hw
  have hr := Kd.C_below hr00 hw
  have hG := hG0.below hw
  obtain ⟨n, hn⟩ : ∃ n, rd_T56 l a = n := ⟨_, rfl⟩
  obtain ⟨ad, hA, _⟩ := at_T56 hr a h0 h1
  subst hA
  obtain ⟨ad2, hA, hx0, hx1, hx2, hx3, hx4, hx5⟩ := at_T56 (Kd.C_below hr (below_alloc (Below.refl w.heap.size w) (.cells #[.slice (some ad) l.length c] 22))) a h0 h1
  obtain rfl := Option.some.inj hA
  clear hA
  rw [hn] at hx0 hx1 hx2 hx3 hx4 hx5
  have HK := Aside0.mk (fun (W : World) (hb : Below w00.heap.size w00 W) => ast_Kids.calls K (some ad) c l a places W (Kd.C_below hr00 hb) hc hK)
  have IH := Aside0.mk ih
  have hpl : places.length ≤ 1048576 := hb.1
  have HB := Aside0.mk hb
  have HW := Aside0.mk hw
  have HN := Aside0.mk hn
  have HL := Aside0.mk hl
  clear ih hk hb hw hn hK hl hr hG
  go_enter Tryz.func28, Tryz.ntmps28
  go_wp2_with (go_at_call 59; refine (HK.out _ (by have h1 := HW.out; repeat (first | exact h1 | apply below_alloc | (refine Below.setCell ?_ h1.size _)))).mono ?_; rintro e w3 ⟨v0, rfl, ho, hb3⟩; obtain ⟨B1, d1, rfl, hle1, hr1⟩ := Kd.R_reads ho; have HO := Aside0.mk ho; have HB3 := Aside0.mk hb3; have HR1 := Aside0.mk hr1; clear ho hb3 hr1)
  have hHd := (hd_start w (some ad) l.length c n).more HB3.out
  have hlen3 : w.heap.size + 2 ≤ w3.heap.size := hHd.lt
  have HH := Aside0.mk hHd
  have HW3 := Aside0.mk (below_then HW.out HW.out.size hHd.bel)
  obtain ⟨i0, hi, hz0, hz1, hz2⟩ := info_parts (P := Tryz.prog) (e := 9) (z := .string ByteArray.empty) (size := 1) (bytes := 16) (by kernel_rfl)
  clear hHd hx0 hx1 hx2 hx3 hx4 hx5 HO HB3 HK
  go_loopw [7, 23] (fun v i W => ∃ j : Nat, j ≤ places.length ∧ i = .int .i64 j ∧ Aside0 (Below w3.heap.size w3 W) ∧ Aside0 (W.ownsRow w3.heap.size 9 1 v j ((ks.take j).map Value.string))) (fun _ i _ => places.length - (intOf i).toNat)
  case atStart => exact ⟨0, Nat.zero_le _, rfl, ⟨Below.refl _ _⟩, ⟨World.ownsRow_nil _ _ _ _⟩⟩
  case round =>
    obtain ⟨j, hj, rfl, HBw, HO⟩ := hrel
    have hHd := HH.out.more HBw.out
    by_cases hlt : j < places.length
    · obtain ⟨ae, rfl, hxe⟩ := Kd.at_int (Kd.C_below HR1.out HBw.out) (j : Int) (by omega) (by omega)
      rw [rd_get places j hlt, Int.toNat_natCast] at hxe
      have k0 : wr.cell? ⟨w.heap.size, 0, none⟩ = some (.slice (some ad) l.length c) := cell_of hHd.b0 0
      obtain ⟨t, ht⟩ : ∃ t, ks[j]? = some t := ⟨_, List.getElem?_eq_getElem (by rw [HL.out]; exact hlt)⟩
      have HI := Aside0.mk (IH.out j places[j] t (List.getElem?_eq_getElem hlt) ht wr (below_then HW3.out HW3.out.size HBw.out))
      have HT := Aside0.mk ht
      clear ht hHd
      go_wp2_with (first
        | (go_at_call 28; refine HI.out.mono ?_; rintro e w4 ⟨rfl, hb⟩; have HB4 := Aside0.mk hb; clear hb)
        | (at_builtin; refine wpList_append_own _ rfl _ _ 93 rfl w3.heap.size 9 i0 (.string ByteArray.empty) 1 16 Tryz.underlying93 hi hz0 hz1 hz2 rfl (by decide) _ _ _ rfl ((own_below HO.out HB4.out).alloc _) ⟨w4.heap.size, 0, none⟩ 1 1 [.string t] rfl rfl (cell_one_new _ _ _) (fun x hx => by simp at hx; subst hx; rfl) (by unfold maxLen; omega) (by omega) (by have := HBw.out.size; have := HB4.out.size; simp; omega) ?_; intro v' w5 hown' hgrow _; have HO5 := Aside0.mk hown'; have HG5 := Aside0.mk hgrow; clear hown' hgrow))
      go_roundw
      case rel =>
        have e1 : ks.take (j + 1) = ks.take j ++ [t] := by
          rw [List.take_add_one, HT.out]; rfl
        refine ⟨j + 1, by omega, by go_num, ⟨?_⟩, ⟨?_⟩⟩
        · refine ((below_then HBw.out HBw.out.size HB4.out).alloc (by have := HBw.out.size; have := HB4.out.size; omega) _).grown HG5.out (by have := HBw.out.size; have := HB4.out.size; simp; omega) (fun b hb => (HO.out.lt b hb).1)
        · rw [e1, List.map_append]; exact HO5.out
      case measure => simp [intOf]; omega
    · obtain rfl : j = places.length := by omega
      have htk : ks.take places.length = ks := List.take_of_length_le (by rw [HL.out]; exact Nat.le_refl _)
      rw [htk] at HO
      clear htk
      obtain ⟨_, hks, hsz, hpr, hb⟩ := HB.out
      rw [HN.out] at hb
      have HBW := Aside0.mk hHd.bel
      have hGw := Aside0.mk (hG0.below (below_then HW3.out HW3.out.size HBw.out))
      have k0 : wr.cell? ⟨w.heap.size, 0, none⟩ = some (.slice (some ad) l.length c) := cell_of hHd.b0 0
      have k1 : wr.cell? ⟨w.heap.size + 1, 0, none⟩ = some (.int .u8 n.f0) := cell_of hHd.b1 0
      have k2 : wr.cell? ⟨w.heap.size + 1, 2, none⟩ = some (.string n.f2) := cell_of hHd.b1 2
      have k3 : wr.cell? ⟨w.heap.size + 1, 3, none⟩ = some (.int .i64 n.f3) := cell_of hHd.b1 3
      clear hHd
      rcases hb with ⟨hf, rfl⟩ | ⟨hf, rfl⟩ | ⟨hf, kq, hq⟩ | ⟨hf, hq⟩ | ⟨hf, rfl⟩ | ⟨hf, hq⟩ | ⟨hf, p, t, rfl, rfl, hs⟩ | ⟨hf, t, r, hrn, rfl, hs⟩ | ⟨hf, hk0, hs⟩ | ⟨hf, hk0, hs⟩ | ⟨hf, t, u, rfl, g, hg, hs⟩
      · rw [hf] at k1
        go_wp2
        go_ret
        exact ⟨rfl, HBW.out⟩
      · rw [hf] at k1
        go_wp2
        go_ret
        exact ⟨rfl, HBW.out⟩
      · rw [hf] at k1
        go_wp2_with (go_at_call 62; refine (lex_Quote.calls kq n.f2 s _ hq).mono ?_; rintro e w4 ⟨rfl, hb4⟩)
        go_ret
        exact ⟨rfl, below_then HBW.out HBW.out.size hb4⟩
      · rw [hf] at k1
        go_wp2_with (go_at_call 73; refine (text_any n.f2 s hq _).mono ?_; rintro e w4 ⟨rfl, hb4⟩)
        go_ret
        exact ⟨rfl, below_then HBW.out HBW.out.size hb4⟩
      · rw [hf] at k1
        go_wp2
        go_ret
        exact ⟨rfl, HBW.out⟩
      · rw [hf] at k1
        go_wp2_with (go_at_call 60; refine (strconv_FormatInt.calls n.f3 10 s _ hGw.out hq).mono ?_; rintro e w4 ⟨rfl, hb4⟩)
        go_ret
        exact ⟨rfl, below_then HBW.out HBW.out.size hb4⟩
      · rw [hf] at k1
        obtain ⟨g, cap, rfl, _, _⟩ := HO.out.form (by simp)
        have kg : wr.cell? ⟨g, 0, none⟩ = some (.string t) := HO.out.cells (g := g) rfl 0 _ rfl
        obtain ⟨ae, rfl, hxe⟩ := Kd.at_int (Kd.C_below HR1.out HBw.out) 0 (by omega) (by simp)
        have hxe : wr.cell? ae = some (.int .i64 p) := by rw [← add_zero ae]; exact hxe
        have hp := hpr p (by simp)
        have hts : t.size ≤ 1099511627776 := hks t (by simp)
        have HRow := Aside0.mk (fun (W : World) (hb : Below wr.heap.size wr W) => row_any (some ad) c l p hp.1 hp.2 w.heap.size W (Kd.C_below hr00 (below_then (below_then HW3.out HW3.out.size HBw.out) (by have := HBw.out.size; have := HW3.out.size; omega) hb)) ((hb.cell (Rep.lt_of_cell? k0)).trans k0))
        have HBk := Aside0.mk (fun (m : Bool) (W : World) => ast_bracketed.calls t m (brk t m) W (brk_f t m (by omega)))
        have hbs := brk_size t (rowOp (rd_T56 l p).f0)
        have hl1 : ¬ 9223372036854775807 < 4 + (brk t (rowOp (rd_T56 l p).f0)).size := by omega
        have hlen : ([p].length : Nat) = 1 := rfl
        go_wp2
        go_region_held3 (fun W => Below wr.heap.size wr W ∧ W.cell? ⟨g, 0, none⟩ = some (.string t) ∧ W.cell? ae = some (.int .i64 p))
          (first | exact start3 kg hxe | assumption | exact keep3 (by assumption) hb)
          (first
            | (go_at_call 72; refine (HRow.out _ (And.left (by assumption))).mono ?_; rintro e w' ⟨rfl, rfl⟩)
            | (go_at_call 63; refine (HBk.out _ _).mono ?_; rintro e w' ⟨rfl, hd⟩; have hb := hd.below))
        all_goals go_wp2
        all_goals go_ret
        all_goals exact ⟨by rw [hs]; rfl, below_then HBW.out HBW.out.size (And.left (by assumption))⟩
      · rw [hf] at k1
        obtain ⟨g, cap, rfl, _, _⟩ := HO.out.form (by have := HL.out; simp at this; omega)
        have kg : wr.cell? ⟨g, 0, none⟩ = some (.string t) := HO.out.cells (g := g) rfl 0 _ rfl
        have hts : t.size ≤ 1099511627776 := hks t (by simp)
        have hgl : g < wr.heap.size := Rep.lt_of_cell? kg
        have hrl : 0 < r.length := List.length_pos_iff.2 hrn
        have hcp : places.length ≤ cap := own_cap HO.out
        have hcp1 : ¬ cap = 1 := by have := HL.out; simp at this; omega
        have hpl1 : places.length = r.length + 1 := by have := HL.out; simp at this; omega
        have hss := congrArg ByteArray.size hs
        obtain ⟨J, hJ⟩ : ∃ J : ByteArray, J = ⟨(Lib.join (r.map (·.data.toList)) [44, 32]).toArray⟩ := ⟨_, rfl⟩
        rw [← hJ] at hs hss
        have hJl : (Lib.join (r.map (·.data.toList)) [44, 32]).length = J.size := by rw [hJ]; simp [ByteArray.size]
        simp only [ByteArray.size_append] at hss
        have e5 : (⟨#[32, 73, 78, 32, 40]⟩ : ByteArray).size = 5 := rfl
        have e1 : (⟨#[41]⟩ : ByteArray).size = 1 := rfl
        have hl1 : ¬ 9223372036854775807 < t.size + 5 := by omega
        have hl2 : ¬ 9223372036854775807 < t.size + 5 + J.size := by omega
        have hl3 : ¬ 9223372036854775807 < t.size + 5 + J.size + 1 := by omega
        have hJn : ∀ W : World, Below wr.heap.size wr W → Calls Tryz.prog 74 #[.slice (some ⟨g, 1, none⟩) r.length (cap - 1), .string ⟨#[44, 32]⟩] W fun e w' => e = .returned (.string J) ∧ Below W.heap.size W w' := fun W hb => by
          rw [hJ]
          exact Tryz.strings_Join g 1 (cap - 1) r ⟨#[44, 32]⟩ W (fun j x hx => (hb.cell hgl).trans (by
            have h1 := HO.out.cells (g := g) rfl (j + 1) (.string x) (by rw [List.map_cons, List.getElem?_cons_succ, List.getElem?_map, hx]; rfl)
            have h2 : (⟨g, 0, none⟩ : Addr).add (j + 1) = ⟨g, 1 + j, none⟩ := by simp [Addr.add]; omega
            rw [h2] at h1
            exact h1)) (Nat.lt_of_lt_of_le hgl hb.size) (by omega) (by omega) (by show (Lib.join _ [44, 32]).length ≤ _; omega)
        have HJn := Aside0.mk hJn
        clear hJn
        have hm0 : (0 : Int) < (places.length : Int) := by omega
        have hm3 : 0 < places.length := by omega
        have hm1 : (1 : Int) ≤ (places.length : Int) := by omega
        have hm2 : (places.length : Int) ≤ (cap : Int) := by omega
        have HP1 := Aside0.mk hpl1
        have hlr : r.length = places.length - 1 := by omega
        rw [hlr] at HJn
        have HSs := Aside0.mk hss
        have HHs := Aside0.mk hs
        clear hlr hpl1 hss hs hJ hJl hrl hpl hle1 hcp hlt hj hrn
        go_wp2
        go_region_held3 (fun W => Below wr.heap.size wr W ∧ W.cell? ⟨g, 0, none⟩ = some (.string t) ∧ W.cell? ⟨g, 0, none⟩ = some (.string t))
          (first | exact start3 kg kg | assumption | exact keep3 (by assumption) hb)
          (first | (go_at_call 74; refine (HJn.out _ (And.left (by assumption))).mono ?_; rintro e w' ⟨rfl, hb⟩))
        all_goals go_wp2
        all_goals go_ret
        all_goals exact ⟨by rw [HHs.out]; rfl, below_then HBW.out HBW.out.size (And.left (by assumption))⟩
      · rw [hf] at k1
        have hk1 : 0 < ks.length := List.length_pos_iff.2 hk0
        obtain ⟨g, cap, hu, hgl, _⟩ := HO.out.form (by have := HL.out; have := List.length_pos_iff.2 hk0; omega)
        subst hu
        have hB0 := own_br (g := g) (cap := cap) HBw.out (by rw [HL.out]; exact HO.out)
        have hcap := own_cap HO.out
        obtain ⟨Z, hZ⟩ : ∃ Z, Z = List.zipWith (fun (p : Int) (t : ByteArray) => brk t (rowOp (rd_T56 l p).f0)) places ks := ⟨_, rfl⟩
        have hZl : Z.length = places.length := by rw [hZ, List.length_zipWith, HL.out]; omega
        have hZj : ∀ (j : Nat) (h1 : j < Z.length) (h2 : j < places.length) (h3 : j < ks.length), Z[j] = (fun (p : Int) (t : ByteArray) => brk t (rowOp (rd_T56 l p).f0)) places[j] ks[j] := by
          intro j h1 h2 h3
          subst hZ
          rw [List.getElem_zipWith]
        rw [← hZ] at hs
        have HB0 := Aside0.mk hB0
        have HHs := Aside0.mk hs
        have HZl := Aside0.mk hZl
        have HZ := Aside0.mk hZj
        have HWr := Aside0.mk (And.intro HH.out (And.intro HBw.out HW3.out))
        clear hB0 hs k0 k2 k3 HBw hZ hZl hZj hk0
        go_wp2
        go_loopw [85] (fun i W => ∃ j : Nat, j ≤ places.length ∧ i = .int .i64 j ∧ Aside0 (Br w3 W g (Z.take j ++ ks.drop j))) (fun i _ => places.length - (intOf i).toNat)
        case atStart => exact ⟨0, Nat.zero_le _, rfl, by simpa using HB0⟩
        case round =>
          clear HB0
          obtain ⟨j, hj2, rfl, HBr⟩ := hrel
          have hHd := HWr.out.1.more HBr.out.bel
          have hL00 := below_then HWr.out.2.2 HWr.out.2.2.size HBr.out.bel
          clear k1
          by_cases hlt2 : j < places.length
          · obtain ⟨ae, hB1, hxe⟩ := Kd.at_int (Kd.C_below HR1.out HBr.out.bel) (j : Int) (by omega) (by omega)
            subst hB1
            rw [rd_get places j hlt2, Int.toNat_natCast] at hxe
            obtain ⟨p, hp⟩ : ∃ p, places[j] = p := ⟨_, rfl⟩
            have hpm : p ∈ places := by rw [← hp]; exact List.getElem_mem hlt2
            rw [hp] at hxe
            have hpr2 := hpr p hpm
            obtain ⟨ad2, hA2, kx, _⟩ := at_T56 (Kd.C_below hr00 hL00) p hpr2.1 hpr2.2
            obtain rfl := Option.some.inj hA2
            have hjk : j < ks.length := by rw [HL.out]; exact hlt2
            obtain ⟨t, ht⟩ : ∃ t, ks[j] = t := ⟨_, rfl⟩
            have hts := hks t (by rw [← ht]; exact List.getElem_mem hjk)
            have hzl : (Z.take j).length = j := by rw [List.length_take, HZl.out]; omega
            have kg : wr.cell? ⟨g, j, none⟩ = some (.string t) := HBr.out.cells j t (by
              rw [List.getElem?_append_right (by rw [hzl]; exact Nat.le_refl _), hzl, Nat.sub_self, List.getElem?_drop, Nat.add_zero, List.getElem?_eq_getElem hjk, ht])
            have k0 : wr.cell? ⟨w.heap.size, 0, none⟩ = some (.slice (some ad) l.length c) := cell_of hHd.b0 0
            have k1 : wr.cell? ⟨w.heap.size + 1, 0, none⟩ = some (.int .u8 14) := (cell_of hHd.b1 0).trans (by rw [hf]; rfl)
            have HRow := Aside0.mk (fun (W : World) (hb : Below wr.heap.size wr W) => row_any (some ad) c l p hpr2.1 hpr2.2 w.heap.size W (Kd.C_below hr00 (below_then hL00 hL00.size hb)) ((hb.cell (Rep.lt_of_cell? k0)).trans k0))
            have HBk := Aside0.mk (fun (m : Bool) (W : World) => ast_bracketed.calls t m (brk t m) W (brk_f t m (by omega)))
            have hzj := HZ.out j (by rw [HZl.out]; exact hlt2) hlt2 hjk
            simp only [hp, ht] at hzj
            obtain ⟨x, hx⟩ : ∃ x, (rd_T56 l p).f0 = x := ⟨_, rfl⟩
            rw [hx] at kx HRow
            have HX := Aside0.mk hx
            have HZj := Aside0.mk hzj
            have HTk := Aside0.mk hzl
            have hp0 := hpr2.1
            have hp1 := hpr2.2
            have hj0 : (0 : Int) ≤ (j : Int) := by omega
            have hj1 : (j : Int) < (places.length : Int) := by omega
            clear hx hp ht hHd hL00 hzl hpm hpr2 hr00 HR1 hzj
            by_cases e15 : x = 15
            · have q15 : (x == 15) = true := by simp [e15]
              go_wp2
              refine start_ (n := 25) (S := fun W => Below wr.heap.size wr W ∧ W.cell? ⟨g, j, none⟩ = some (.string t) ∧ W.cell? ⟨w.heap.size, 0, none⟩ = some (.slice (some ad) l.length c) ∧ W.cell? (ad.add (p.toNat * 6)) = some (.int .u8 x) ∧ W.cell? ⟨w.heap.size + 1, 0, none⟩ = some (.int .u8 14)) (ds := [24]) #[false, false, false, false, false, false, false, false, false, false, false, false, false, false, false, false, false, false, false, false, false, false, false, false, false] (by kernel_rfl) rfl rfl (start5 kg k0 kx k1) (fun hHeld => ?_)
              refine with_tabW r32.tab r32.bits (fun HT_ HW_ => ?_)
              refine pP 0 90 ?_
              refine pP 1 91 ?_
              refine pP 2 92 ?_
              refine pP 3 93 ?_
              refine pP 4 94 ?_
              refine pT 5 95 ?_
              refine pT 6 96 ?_
              refine pP 7 97 ?_
              refine pP 8 98 ?_
              refine pP 9 99 ?_
              refine pT 10 100 ?_
              refine pP 11 101 ?_
              refine pP 12 102 ?_
              refine pU 13 103 ?_
              refine pU 14 104 ?_
              refine pU 15 105 ?_
              refine pU 16 106 ?_
              refine pU 17 107 ?_
              refine pU 18 108 ?_
              refine pU 19 109 ?_
              refine pU 20 110 ?_
              refine pP 21 111 ?_
              refine pO 22 112 (fun K hK => ?_)
              refine goes_ Tryz.func63 (by kernel_rfl) rfl #[.string t, .bool true] (by rfl) rfl rfl (by first | rfl | (simp only [q4, q5, q6]; rfl)) ?_
              refine (HBk.out true _).mono ?_
              rintro e w5 ⟨rfl, hd⟩
              have hb := hd.below
              refine ⟨_, rfl, ?_⟩
              refine hK.out _ _ (keep5 hHeld hb) (fun hHeld => ?_)
              clear hK K
              refine norm_ (a' := ?_) ?_ ?_
              rotate_left
              · show Act.put _ (some 112) _ = _
                simp only [Act.put, q1, q2, q3, i64_w, i32_w]
                rfl
              refine pP 23 113 ?_
              refine pL 24 (fun K hK => ?_)
              refine if_go rfl ?_
              have hgw : g < wr.heap.size := Rep.lt_of_cell? kg
              have hB5 := (HBr.out.more (below_drew1 (Below.refl _ _)) hgw).more hb (by simpa using hgw)
              have kc := hHeld.2.1
              have kf := hB5.fr j
              have HB5 := Aside0.mk hB5
              clear hB5
              go_simp
              refine hK.out _ _ ?_
              clear hK K
              refine done_ (done_of HT_.out (by kernel_rfl)) ?_
              go_wp2
              go_roundw
              case rel =>
                have hz := HZj.out
                rw [HX.out] at hz
                have hp := HB5.out.put j (by rw [List.length_append, HTk.out, List.length_drop]; omega) (brk t true)
                refine ⟨j + 1, by omega, by go_num, ⟨?_⟩⟩
                rw [← row_step Z ks j (by rw [HZl.out]; exact hlt2) hjk, hz]
                exact (by rw [e15]; exact hp)
              case measure => simp [intOf]; omega
            · have q15 : (x == 15) = false := by simpa using e15
              go_wp2
              refine start_ (n := 25) (S := fun W => Below wr.heap.size wr W ∧ W.cell? ⟨g, j, none⟩ = some (.string t) ∧ W.cell? ⟨w.heap.size, 0, none⟩ = some (.slice (some ad) l.length c) ∧ W.cell? (ad.add (p.toNat * 6)) = some (.int .u8 x) ∧ W.cell? ⟨w.heap.size + 1, 0, none⟩ = some (.int .u8 14)) (ds := [24]) #[false, false, false, false, false, false, false, false, false, false, false, false, false, false, false, false, false, false, false, false, false, false, false, false, false] (by kernel_rfl) rfl rfl (start5 kg k0 kx k1) (fun hHeld => ?_)
              refine with_tabW r32.tab r32.bits (fun HT_ HW_ => ?_)
              refine pP 0 90 ?_
              refine pP 1 91 ?_
              refine pP 2 92 ?_
              refine pP 3 93 ?_
              refine pP 4 94 ?_
              refine pT 5 95 ?_
              refine pT 6 96 ?_
              refine pP 7 97 ?_
              refine pP 8 98 ?_
              refine pP 9 99 ?_
              refine pT 10 100 ?_
              refine pP 11 101 ?_
              refine pP 12 102 ?_
              refine pP 13 103 ?_
              refine pT 14 104 ?_
              refine pP 15 105 ?_
              refine pP 16 106 ?_
              refine pP 17 107 ?_
              refine pP 18 108 ?_
              refine pO 19 109 (fun K hK => ?_)
              refine call_ 72 #[.int .i64 p, .pointer (some ⟨w.heap.size, 0, none⟩)] rfl rfl (by go_simp) ?_
              refine (HRow.out _ hHeld.1).mono ?_
              rintro e w' ⟨rfl, rfl⟩
              have hb := Below.refl (wr.drew).heap.size wr.drew
              refine ⟨_, rfl, ?_⟩
              refine hK.out _ _ (keep5 hHeld hb) (fun hHeld => ?_)
              clear hK K
              refine norm_ (a' := ?_) ?_ ?_
              rotate_left
              · show Act.put _ (some 109) _ = _
                simp only [Act.put, q1, q2, q3, i64_w, i32_w]
                rfl
              refine pP 20 110 ?_
              refine pP 21 111 ?_
              refine pO 22 112 (fun K hK => ?_)
              refine goes_ Tryz.func63 (by kernel_rfl) rfl #[.string t, .bool (rowOp x)] (by rfl) rfl rfl (by first | rfl | (simp only [q4, q5, q6]; rfl)) ?_
              refine (HBk.out (rowOp x) _).mono ?_
              rintro e w5 ⟨rfl, hd⟩
              have hb := hd.below
              refine ⟨_, rfl, ?_⟩
              refine hK.out _ _ (keep5 hHeld hb) (fun hHeld => ?_)
              clear hK K
              refine norm_ (a' := ?_) ?_ ?_
              rotate_left
              · show Act.put _ (some 112) _ = _
                simp only [Act.put, q1, q2, q3, i64_w, i32_w]
                rfl
              refine pP 23 113 ?_
              refine pL 24 (fun K hK => ?_)
              refine if_go rfl ?_
              have hgw : g < wr.heap.size := Rep.lt_of_cell? kg
              have hB5 := (HBr.out.more (below_drew1 (Below.refl _ _)) hgw).more hb (by simpa using hgw)
              have kc := hHeld.2.1
              have kf := hB5.fr j
              have HB5 := Aside0.mk hB5
              clear hB5
              go_simp
              refine hK.out _ _ ?_
              clear hK K
              refine done_ (done_of HT_.out (by kernel_rfl)) ?_
              go_wp2
              go_roundw
              case rel =>
                have hz := HZj.out
                rw [HX.out] at hz
                have hp := HB5.out.put j (by rw [List.length_append, HTk.out, List.length_drop]; omega) (brk t (rowOp x))
                refine ⟨j + 1, by omega, by go_num, ⟨?_⟩⟩
                rw [← row_step Z ks j (by rw [HZl.out]; exact hlt2) hjk, hz]
                exact hp
              case measure => simp [intOf]; omega
          · obtain rfl : j = places.length := by omega
            have htk : Z.take places.length = Z := List.take_of_length_le (by rw [HZl.out]; exact Nat.le_refl _)
            have hdk : ks.drop places.length = [] := List.drop_eq_nil_of_le (by rw [HL.out]; exact Nat.le_refl _)
            rw [htk, hdk, List.append_nil] at HBr
            have k1 : wr.cell? ⟨w.heap.size + 1, 0, none⟩ = some (.int .u8 14) := (cell_of hHd.b1 0).trans (by rw [hf]; rfl)
            have hz0 : 0 < Z.length := by have h1 := HZl.out; have h2 := HL.out; have h3 := hk1; omega
            have hglt : g < wr.heap.size := Rep.lt_of_cell? (HBr.out.cells 0 _ (List.getElem?_eq_getElem hz0))
            have hjl : (Lib.join (Z.map (·.data.toList)) [32, 65, 78, 68, 32]).length ≤ 140737488355328 := by
              have h1 := congrArg ByteArray.size HHs.out
              have h2 : (⟨(Lib.join (Z.map (·.data.toList)) [32, 65, 78, 68, 32]).toArray⟩ : ByteArray).size = (Lib.join (Z.map (·.data.toList)) [32, 65, 78, 68, 32]).length := by simp [ByteArray.size]
              omega
            have hJn : Calls Tryz.prog 74 #[.slice (some ⟨g, 0, none⟩) places.length cap, .string ⟨#[32, 65, 78, 68, 32]⟩] wr fun e w' => e = .returned (.string s) ∧ Below wr.heap.size wr w' := by
              rw [HHs.out, ← HZl.out]
              exact Tryz.strings_Join g 0 cap Z ⟨#[32, 65, 78, 68, 32]⟩ wr (fun j x hx => by rw [Nat.zero_add]; exact HBr.out.cells j x hx) hglt (by have := HZl.out; omega) (by have := HZl.out; omega) hjl
            have HJn := Aside0.mk hJn
            have HBe := Aside0.mk hHd.bel
            clear hJn htk hdk hHd hL00 hjl
            go_wp2_with (go_at_call 74; refine HJn.out.mono ?_; rintro e w4 ⟨rfl, hb4⟩)
            go_ret
            exact ⟨rfl, below_then HBe.out HBe.out.size hb4⟩
      · rw [hf] at k1
        have hk1 : 0 < ks.length := List.length_pos_iff.2 hk0
        obtain ⟨g, cap, hu, hgl, _⟩ := HO.out.form (by have := HL.out; have := List.length_pos_iff.2 hk0; omega)
        subst hu
        have hB0 := own_br (g := g) (cap := cap) HBw.out (by rw [HL.out]; exact HO.out)
        have hcap := own_cap HO.out
        obtain ⟨Z, hZ⟩ : ∃ Z, Z = List.zipWith (fun (p : Int) (t : ByteArray) => brk t ((rd_T56 l p).f0 == 15)) places ks := ⟨_, rfl⟩
        have hZl : Z.length = places.length := by rw [hZ, List.length_zipWith, HL.out]; omega
        have hZj : ∀ (j : Nat) (h1 : j < Z.length) (h2 : j < places.length) (h3 : j < ks.length), Z[j] = (fun (p : Int) (t : ByteArray) => brk t ((rd_T56 l p).f0 == 15)) places[j] ks[j] := by
          intro j h1 h2 h3
          subst hZ
          rw [List.getElem_zipWith]
        rw [← hZ] at hs
        have HB0 := Aside0.mk hB0
        have HHs := Aside0.mk hs
        have HZl := Aside0.mk hZl
        have HZ := Aside0.mk hZj
        have HWr := Aside0.mk (And.intro HH.out (And.intro HBw.out HW3.out))
        clear hB0 hs k0 k2 k3 HBw hZ hZl hZj hk0
        go_wp2
        go_loopw [85] (fun i W => ∃ j : Nat, j ≤ places.length ∧ i = .int .i64 j ∧ Aside0 (Br w3 W g (Z.take j ++ ks.drop j))) (fun i _ => places.length - (intOf i).toNat)
        case atStart => exact ⟨0, Nat.zero_le _, rfl, by simpa using HB0⟩
        case round =>
          clear HB0
          obtain ⟨j, hj2, rfl, HBr⟩ := hrel
          have hHd := HWr.out.1.more HBr.out.bel
          have hL00 := below_then HWr.out.2.2 HWr.out.2.2.size HBr.out.bel
          clear k1
          by_cases hlt2 : j < places.length
          · obtain ⟨ae, hB1, hxe⟩ := Kd.at_int (Kd.C_below HR1.out HBr.out.bel) (j : Int) (by omega) (by omega)
            subst hB1
            rw [rd_get places j hlt2, Int.toNat_natCast] at hxe
            obtain ⟨p, hp⟩ : ∃ p, places[j] = p := ⟨_, rfl⟩
            have hpm : p ∈ places := by rw [← hp]; exact List.getElem_mem hlt2
            rw [hp] at hxe
            have hpr2 := hpr p hpm
            obtain ⟨ad2, hA2, kx, _⟩ := at_T56 (Kd.C_below hr00 hL00) p hpr2.1 hpr2.2
            obtain rfl := Option.some.inj hA2
            have hjk : j < ks.length := by rw [HL.out]; exact hlt2
            obtain ⟨t, ht⟩ : ∃ t, ks[j] = t := ⟨_, rfl⟩
            have hts := hks t (by rw [← ht]; exact List.getElem_mem hjk)
            have hzl : (Z.take j).length = j := by rw [List.length_take, HZl.out]; omega
            have kg : wr.cell? ⟨g, j, none⟩ = some (.string t) := HBr.out.cells j t (by
              rw [List.getElem?_append_right (by rw [hzl]; exact Nat.le_refl _), hzl, Nat.sub_self, List.getElem?_drop, Nat.add_zero, List.getElem?_eq_getElem hjk, ht])
            have k0 : wr.cell? ⟨w.heap.size, 0, none⟩ = some (.slice (some ad) l.length c) := cell_of hHd.b0 0
            have k1 : wr.cell? ⟨w.heap.size + 1, 0, none⟩ = some (.int .u8 15) := (cell_of hHd.b1 0).trans (by rw [hf]; rfl)
            have HRow := Aside0.mk (fun (W : World) (hb : Below wr.heap.size wr W) => row_any (some ad) c l p hpr2.1 hpr2.2 w.heap.size W (Kd.C_below hr00 (below_then hL00 hL00.size hb)) ((hb.cell (Rep.lt_of_cell? k0)).trans k0))
            have HBk := Aside0.mk (fun (m : Bool) (W : World) => ast_bracketed.calls t m (brk t m) W (brk_f t m (by omega)))
            have hzj := HZ.out j (by rw [HZl.out]; exact hlt2) hlt2 hjk
            simp only [hp, ht] at hzj
            obtain ⟨x, hx⟩ : ∃ x, (rd_T56 l p).f0 = x := ⟨_, rfl⟩
            rw [hx] at kx HRow
            have HX := Aside0.mk hx
            have HZj := Aside0.mk hzj
            have HTk := Aside0.mk hzl
            have hp0 := hpr2.1
            have hp1 := hpr2.2
            have hj0 : (0 : Int) ≤ (j : Int) := by omega
            have hj1 : (j : Int) < (places.length : Int) := by omega
            clear hx hp ht hHd hL00 hzl hpm hpr2 hr00 HR1 hzj
            by_cases e15 : x = 15
            · have q15 : (x == 15) = true := by simp [e15]
              go_wp2
              refine start_ (n := 25) (S := fun W => Below wr.heap.size wr W ∧ W.cell? ⟨g, j, none⟩ = some (.string t) ∧ W.cell? ⟨w.heap.size, 0, none⟩ = some (.slice (some ad) l.length c) ∧ W.cell? (ad.add (p.toNat * 6)) = some (.int .u8 x) ∧ W.cell? ⟨w.heap.size + 1, 0, none⟩ = some (.int .u8 15)) (ds := [24]) #[false, false, false, false, false, false, false, false, false, false, false, false, false, false, false, false, false, false, false, false, false, false, false, false, false] (by kernel_rfl) rfl rfl (start5 kg k0 kx k1) (fun hHeld => ?_)
              refine with_tabW r32.tab r32.bits (fun HT_ HW_ => ?_)
              refine pP 0 90 ?_
              refine pP 1 91 ?_
              refine pP 2 92 ?_
              refine pP 3 93 ?_
              refine pP 4 94 ?_
              refine pT 5 95 ?_
              refine pT 6 96 ?_
              refine pP 7 97 ?_
              refine pP 8 98 ?_
              refine pP 9 99 ?_
              refine pT 10 100 ?_
              refine pP 11 101 ?_
              refine pP 12 102 ?_
              refine pU 13 103 ?_
              refine pU 14 104 ?_
              refine pU 15 105 ?_
              refine pU 16 106 ?_
              refine pU 17 107 ?_
              refine pU 18 108 ?_
              refine pU 19 109 ?_
              refine pU 20 110 ?_
              refine pP 21 111 ?_
              refine pO 22 112 (fun K hK => ?_)
              refine goes_ Tryz.func63 (by kernel_rfl) rfl #[.string t, .bool true] (by rfl) rfl rfl (by first | rfl | (simp only [q4, q5, q6]; rfl)) ?_
              refine (HBk.out true _).mono ?_
              rintro e w5 ⟨rfl, hd⟩
              have hb := hd.below
              refine ⟨_, rfl, ?_⟩
              refine hK.out _ _ (keep5 hHeld hb) (fun hHeld => ?_)
              clear hK K
              refine norm_ (a' := ?_) ?_ ?_
              rotate_left
              · show Act.put _ (some 112) _ = _
                simp only [Act.put, q1, q2, q3, i64_w, i32_w]
                rfl
              refine pP 23 113 ?_
              refine pL 24 (fun K hK => ?_)
              refine if_go rfl ?_
              have hgw : g < wr.heap.size := Rep.lt_of_cell? kg
              have hB5 := (HBr.out.more (below_drew1 (Below.refl _ _)) hgw).more hb (by simpa using hgw)
              have kc := hHeld.2.1
              have kf := hB5.fr j
              have HB5 := Aside0.mk hB5
              clear hB5
              go_simp
              refine hK.out _ _ ?_
              clear hK K
              refine done_ (done_of HT_.out (by kernel_rfl)) ?_
              go_wp2
              go_roundw
              case rel =>
                have hz := HZj.out
                rw [HX.out] at hz
                have hp := HB5.out.put j (by rw [List.length_append, HTk.out, List.length_drop]; omega) (brk t true)
                refine ⟨j + 1, by omega, by go_num, ⟨?_⟩⟩
                rw [← row_step Z ks j (by rw [HZl.out]; exact hlt2) hjk, hz]
                exact (by rw [e15]; exact hp)
              case measure => simp [intOf]; omega
            · have q15 : (x == 15) = false := by simpa using e15
              go_wp2
              refine start_ (n := 25) (S := fun W => Below wr.heap.size wr W ∧ W.cell? ⟨g, j, none⟩ = some (.string t) ∧ W.cell? ⟨w.heap.size, 0, none⟩ = some (.slice (some ad) l.length c) ∧ W.cell? (ad.add (p.toNat * 6)) = some (.int .u8 x) ∧ W.cell? ⟨w.heap.size + 1, 0, none⟩ = some (.int .u8 15)) (ds := [24]) #[false, false, false, false, false, false, false, false, false, false, false, false, false, false, false, false, false, false, false, false, false, false, false, false, false] (by kernel_rfl) rfl rfl (start5 kg k0 kx k1) (fun hHeld => ?_)
              refine with_tabW r32.tab r32.bits (fun HT_ HW_ => ?_)
              refine pP 0 90 ?_
              refine pP 1 91 ?_
              refine pP 2 92 ?_
              refine pP 3 93 ?_
              refine pP 4 94 ?_
              refine pT 5 95 ?_
              refine pT 6 96 ?_
              refine pP 7 97 ?_
              refine pP 8 98 ?_
              refine pP 9 99 ?_
              refine pT 10 100 ?_
              refine pP 11 101 ?_
              refine pP 12 102 ?_
              refine pP 13 103 ?_
              refine pT 14 104 ?_
              refine pP 15 105 ?_
              refine pP 16 106 ?_
              refine pU 17 107 ?_
              refine pU 18 108 ?_
              refine pU 19 109 ?_
              refine pP 20 110 ?_
              refine pP 21 111 ?_
              refine pO 22 112 (fun K hK => ?_)
              refine goes_ Tryz.func63 (by kernel_rfl) rfl #[.string t, .bool false] (by rfl) rfl rfl (by first | rfl | (simp only [q4, q5, q6]; rfl)) ?_
              refine (HBk.out false _).mono ?_
              rintro e w5 ⟨rfl, hd⟩
              have hb := hd.below
              refine ⟨_, rfl, ?_⟩
              refine hK.out _ _ (keep5 hHeld hb) (fun hHeld => ?_)
              clear hK K
              refine norm_ (a' := ?_) ?_ ?_
              rotate_left
              · show Act.put _ (some 112) _ = _
                simp only [Act.put, q1, q2, q3, i64_w, i32_w]
                rfl
              refine pP 23 113 ?_
              refine pL 24 (fun K hK => ?_)
              refine if_go rfl ?_
              have hgw : g < wr.heap.size := Rep.lt_of_cell? kg
              have hB5 := (HBr.out.more (below_drew1 (Below.refl _ _)) hgw).more hb (by simpa using hgw)
              have kc := hHeld.2.1
              have kf := hB5.fr j
              have HB5 := Aside0.mk hB5
              clear hB5
              go_simp
              refine hK.out _ _ ?_
              clear hK K
              refine done_ (done_of HT_.out (by kernel_rfl)) ?_
              go_wp2
              go_roundw
              case rel =>
                have hz := HZj.out
                rw [HX.out] at hz
                have hp := HB5.out.put j (by rw [List.length_append, HTk.out, List.length_drop]; omega) (brk t false)
                refine ⟨j + 1, by omega, by go_num, ⟨?_⟩⟩
                rw [← row_step Z ks j (by rw [HZl.out]; exact hlt2) hjk, hz]
                exact (by rw [q15]; exact hp)
              case measure => simp [intOf]; omega
          · obtain rfl : j = places.length := by omega
            have htk : Z.take places.length = Z := List.take_of_length_le (by rw [HZl.out]; exact Nat.le_refl _)
            have hdk : ks.drop places.length = [] := List.drop_eq_nil_of_le (by rw [HL.out]; exact Nat.le_refl _)
            rw [htk, hdk, List.append_nil] at HBr
            have k1 : wr.cell? ⟨w.heap.size + 1, 0, none⟩ = some (.int .u8 15) := (cell_of hHd.b1 0).trans (by rw [hf]; rfl)
            have hz0 : 0 < Z.length := by have h1 := HZl.out; have h2 := HL.out; have h3 := hk1; omega
            have hglt : g < wr.heap.size := Rep.lt_of_cell? (HBr.out.cells 0 _ (List.getElem?_eq_getElem hz0))
            have hjl : (Lib.join (Z.map (·.data.toList)) [32, 79, 82, 32]).length ≤ 140737488355328 := by
              have h1 := congrArg ByteArray.size HHs.out
              have h2 : (⟨(Lib.join (Z.map (·.data.toList)) [32, 79, 82, 32]).toArray⟩ : ByteArray).size = (Lib.join (Z.map (·.data.toList)) [32, 79, 82, 32]).length := by simp [ByteArray.size]
              omega
            have hJn : Calls Tryz.prog 74 #[.slice (some ⟨g, 0, none⟩) places.length cap, .string ⟨#[32, 79, 82, 32]⟩] wr fun e w' => e = .returned (.string s) ∧ Below wr.heap.size wr w' := by
              rw [HHs.out, ← HZl.out]
              exact Tryz.strings_Join g 0 cap Z ⟨#[32, 79, 82, 32]⟩ wr (fun j x hx => by rw [Nat.zero_add]; exact HBr.out.cells j x hx) hglt (by have := HZl.out; omega) (by have := HZl.out; omega) hjl
            have HJn := Aside0.mk hJn
            have HBe := Aside0.mk hHd.bel
            clear hJn htk hdk hHd hL00 hjl
            go_wp2_with (go_at_call 74; refine HJn.out.mono ?_; rintro e w4 ⟨rfl, hb4⟩)
            go_ret
            exact ⟨rfl, below_then HBe.out HBe.out.size hb4⟩
      · obtain ⟨g', cap, rfl, _, _⟩ := HO.out.form (by have := HL.out; simp at this; omega)
        have kg : wr.cell? ⟨g', 0, none⟩ = some (.string t) := HO.out.cells (g := g') rfl 0 _ rfl
        have ku : wr.cell? ⟨g', 1, none⟩ = some (.string u) := HO.out.cells (g := g') rfl 1 _ rfl
        have hpl2 : places.length = 2 := by have := HL.out; simp at this; omega
        have hts : t.size ≤ 1099511627776 := hks t (by simp)
        have hus : u.size ≤ 1099511627776 := hks u (by simp)
        have hss := congrArg ByteArray.size hs
        simp only [ByteArray.size_append] at hss
        have e1 : (⟨#[32]⟩ : ByteArray).size = 1 := rfl
        have hl1 : ¬ 9223372036854775807 < t.size + 1 := by omega
        have hl2 : ¬ 9223372036854775807 < t.size + 1 + g.size := by omega
        have hl3 : ¬ 9223372036854775807 < t.size + 1 + g.size + 1 := by omega
        have hl4 : ¬ 9223372036854775807 < t.size + 1 + g.size + 1 + u.size := by omega
        have HSg := Aside0.mk (fun W : World => ast_sign.calls n.f0 g W hg)
        have HSs := Aside0.mk hss
        have HHs := Aside0.mk hs
        have q1 : (n.f0 == 11) = false := by rw [beq_eq_false_iff_ne]; omega
        have q2 : (n.f0 == 12) = false := by rw [beq_eq_false_iff_ne]; omega
        have q3 : (n.f0 == 23) = false := by rw [beq_eq_false_iff_ne]; omega
        have q4 : (n.f0 == 24) = false := by rw [beq_eq_false_iff_ne]; omega
        have q5 : (n.f0 == 25) = false := by rw [beq_eq_false_iff_ne]; omega
        have q6 : (n.f0 == 26) = false := by rw [beq_eq_false_iff_ne]; omega
        have q7 : (n.f0 == 13) = false := by rw [beq_eq_false_iff_ne]; omega
        have q8 : (n.f0 == 22) = false := by rw [beq_eq_false_iff_ne]; omega
        have q9 : (n.f0 == 14) = false := by rw [beq_eq_false_iff_ne]; omega
        have q10 : (n.f0 == 15) = false := by rw [beq_eq_false_iff_ne]; omega
        clear hss hs hf
        go_wp2
        go_region_held3 (fun W => Below wr.heap.size wr W ∧ W.cell? ⟨g', 0, none⟩ = some (.string t) ∧ W.cell? ⟨g', 1, none⟩ = some (.string u) ∧ W.cell? ⟨w.heap.size + 1, 0, none⟩ = some (.int .u8 n.f0))
          (first | exact start4 kg ku k1 | assumption | exact keep4 (by assumption) hb)
          (first | (go_at_call 65; refine (HSg.out _).mono ?_; rintro e w' ⟨rfl, hd⟩; have hb := hd.below))
        all_goals go_wp2
        all_goals go_ret
        all_goals exact ⟨by rw [HHs.out]; rfl, below_then HBW.out HBW.out.size (And.left (by assumption))⟩
end Go.Proofs.YtlbjfomcgbiagaaGreatDoor.CondT
