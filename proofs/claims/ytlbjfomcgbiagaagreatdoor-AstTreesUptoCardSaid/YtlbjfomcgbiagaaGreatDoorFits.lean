/- ast.fits: has a node of a condition the kids that it must have? -/
import Derived.Test.YtlbjfomcgbiagaaGreatDoorCondT
import Derived.Test.YtlbjfomcgbiagaaGreatDoorPrint4
set_option linter.unusedVariables false
set_option linter.unusedSimpArgs false
namespace Go.Proofs.YtlbjfomcgbiagaaGreatDoor.Fits
open Go Go.RowKit Go.Proofs.YtlbjfomcgbiagaaGreatDoorW.PrintWords Go.Proofs.YtlbjfomcgbiagaaGreatDoorW.PrintLast Go.Proofs Go.Proofs.YtlbjfomcgbiagaaGreatDoor Go.Proofs.YtlbjfomcgbiagaaGreatDoor.Base Go.Proofs.YtlbjfomcgbiagaaGreatDoorW.PrintMore Go.Proofs.YtlbjfomcgbiagaaGreatDoor.Print Go.Proofs.YtlbjfomcgbiagaaGreatDoor.CondT
attribute [local go_sem] max2_int min2_int max_two min_two max_three min_three max_four min_four

/-- A row of ints lies in memory. -/
def RowI (W : World) (A : Option Addr) (L : List Int) : Prop := ∀ (j : Nat) (x : Int), L[j]? = some x → ∃ a, A = some a ∧ W.cell? (a.add j) = some (.int .i64 x)
theorem RowI.below {W W' : World} {A : Option Addr} {L : List Int} {b : Nat} (h : RowI W A L) (hb : Below b W W') (hs : W.heap.size ≤ b) : RowI W' A L := by
  intro j x hj
  obtain ⟨a, e, hc⟩ := h j x hj
  exact ⟨a, e, ((hb.mono hs).cell (Rep.lt_of_cell? hc)).trans hc⟩
theorem drop_any (L : List Int) (p : Int → Bool) (k : Nat) (hk : k < L.length) : (L.drop k).any p = (p L[k] || (L.drop (k + 1)).any p) := by
  rw [List.drop_eq_getElem_cons hk, List.any_cons]

set_option maxHeartbeats 2000000 in
set_option maxRecDepth 100000 in
theorem sort_index (A : Option Addr) (c : Nat) (L : List Int) (p : Int → Bool) (cap : Value) (w : World) (hm : L.length ≤ 1048577) (hr : RowI w A L)
    (hc : ∀ x ∈ L, ∀ W : World, Below w.heap.size w W → Calls Tryz.prog 90 #[.int .i64 x, cap] W fun e w' => e = .returned (.bool (p x)) ∧ Below W.heap.size W w') :
    Calls Tryz.prog 117 #[.slice A L.length c, .func (.func 90) #[] #[cap]] w fun e w' => (∃ i : Int, e = .returned (.int .i64 i) ∧ decide (0 ≤ i) = L.any p) ∧ Below w.heap.size w w' := by
  have HR := Aside0.mk hr
  have HC := Aside0.mk hc
  clear hr hc
  go_enter Tryz.func117, Tryz.ntmps117
  go_wp2
  go_loopw [4, 5, 8] (fun _ _ i wr => ∃ k : Nat, k ≤ L.length ∧ i = .int .i64 k ∧ Aside0 ((L.drop k).any p = L.any p) ∧ Aside0 (Below w.heap.size w wr)) (fun _ _ i _ => L.length - (intOf i).toNat)
  case atStart => exact ⟨0, Nat.zero_le _, rfl, ⟨rfl⟩, ⟨Below.refl _ _⟩⟩
  case round =>
    obtain ⟨k, hk, rfl, HW, HB⟩ := hrel
    by_cases hlt : k < L.length
    · have hd := HW.out
      rw [drop_any L p k hlt] at hd
      obtain ⟨x, hx⟩ : ∃ x, L[k] = x := ⟨_, rfl⟩
      rw [hx] at hd
      obtain ⟨a, rfl, hxe⟩ := (HR.out.below HB.out (Nat.le_refl _)) k x (by rw [List.getElem?_eq_getElem hlt, hx])
      have HC2 := Aside0.mk (HC.out x (by rw [← hx]; exact List.getElem_mem hlt) wr HB.out)
      clear hx HW
      have h0 : (0 : Int) ≤ (k : Int) := by omega
      have h1 : (k : Int) < (L.length : Int) := by omega
      cases hp : p x with
      | true =>
        rw [hp] at hd HC2
        rw [Bool.true_or] at hd
        have HD := Aside0.mk hd
        clear hd hp
        go_wp2_with (go_at_call 90; refine HC2.out.mono ?_; rintro e w1 ⟨rfl, hb1⟩)
        go_ret
        exact ⟨⟨_, rfl, by rw [← HD.out]; simp⟩, below_then HB.out HB.out.size hb1⟩
      | false =>
        rw [hp] at hd HC2
        rw [Bool.false_or] at hd
        have HD := Aside0.mk hd
        clear hd hp
        go_wp2_with (go_at_call 90; refine HC2.out.mono ?_; rintro e w1 ⟨rfl, hb1⟩)
        go_roundw
        case rel => exact ⟨k + 1, by omega, by go_num, HD, ⟨below_then HB.out HB.out.size hb1⟩⟩
        case measure => simp [intOf]; omega
    · obtain rfl : k = L.length := by omega
      have hd := HW.out
      rw [List.drop_length, List.any_nil] at hd
      have HD := Aside0.mk hd
      clear hd HW
      go_wp2
      go_ret
      exact ⟨⟨_, rfl, by rw [← HD.out]; simp⟩, HB.out⟩
set_option maxHeartbeats 1000000 in
set_option maxRecDepth 100000 in
theorem sort_contains (A : Option Addr) (c : Nat) (L : List Int) (p : Int → Bool) (cap : Value) (w : World) (hm : L.length ≤ 1048577) (hr : RowI w A L)
    (hc : ∀ x ∈ L, ∀ W : World, Below w.heap.size w W → Calls Tryz.prog 90 #[.int .i64 x, cap] W fun e w' => e = .returned (.bool (p x)) ∧ Below W.heap.size W w') :
    Calls Tryz.prog 89 #[.slice A L.length c, .func (.func 90) #[] #[cap]] w fun e w' => e = .returned (.bool (L.any p)) ∧ Below w.heap.size w w' := by
  have HI := Aside0.mk (sort_index A c L p cap w hm hr hc)
  clear hr hc
  go_enter Tryz.func89, Tryz.ntmps89
  go_wp2_with (go_at_call 117; refine HI.out.mono ?_; rintro e w1 ⟨⟨i, rfl, hi⟩, hb1⟩; have HD := Aside0.mk hi; clear hi)
  go_ret
  exact ⟨by rw [← HD.out]; rfl, hb1⟩

set_option maxHeartbeats 2000000 in
set_option maxRecDepth 100000 in
theorem int_index (A : Option Addr) (c : Nat) (L : List Int) (p : Int → Bool) (cap : Value) (w : World) (hm : L.length ≤ 1048577) (hr : RowI w A L)
    (hc : ∀ x ∈ L, ∀ W : World, Below w.heap.size w W → Calls Tryz.prog 91 #[.int .i64 x, cap] W fun e w' => e = .returned (.bool (p x)) ∧ Below W.heap.size W w') :
    Calls Tryz.prog 118 #[.slice A L.length c, .func (.func 91) #[] #[cap]] w fun e w' => (∃ i : Int, e = .returned (.int .i64 i) ∧ decide (0 ≤ i) = L.any p) ∧ Below w.heap.size w w' := by
  have HR := Aside0.mk hr
  have HC := Aside0.mk hc
  clear hr hc
  go_enter Tryz.func118, Tryz.ntmps118
  go_wp2
  go_loopw [4, 5, 8] (fun _ _ i wr => ∃ k : Nat, k ≤ L.length ∧ i = .int .i64 k ∧ Aside0 ((L.drop k).any p = L.any p) ∧ Aside0 (Below w.heap.size w wr)) (fun _ _ i _ => L.length - (intOf i).toNat)
  case atStart => exact ⟨0, Nat.zero_le _, rfl, ⟨rfl⟩, ⟨Below.refl _ _⟩⟩
  case round =>
    obtain ⟨k, hk, rfl, HW, HB⟩ := hrel
    by_cases hlt : k < L.length
    · have hd := HW.out
      rw [drop_any L p k hlt] at hd
      obtain ⟨x, hx⟩ : ∃ x, L[k] = x := ⟨_, rfl⟩
      rw [hx] at hd
      obtain ⟨a, rfl, hxe⟩ := (HR.out.below HB.out (Nat.le_refl _)) k x (by rw [List.getElem?_eq_getElem hlt, hx])
      have HC2 := Aside0.mk (HC.out x (by rw [← hx]; exact List.getElem_mem hlt) wr HB.out)
      clear hx HW
      have h0 : (0 : Int) ≤ (k : Int) := by omega
      have h1 : (k : Int) < (L.length : Int) := by omega
      cases hp : p x with
      | true =>
        rw [hp] at hd HC2
        rw [Bool.true_or] at hd
        have HD := Aside0.mk hd
        clear hd hp
        go_wp2_with (go_at_call 91; refine HC2.out.mono ?_; rintro e w1 ⟨rfl, hb1⟩)
        go_ret
        exact ⟨⟨_, rfl, by rw [← HD.out]; simp⟩, below_then HB.out HB.out.size hb1⟩
      | false =>
        rw [hp] at hd HC2
        rw [Bool.false_or] at hd
        have HD := Aside0.mk hd
        clear hd hp
        go_wp2_with (go_at_call 91; refine HC2.out.mono ?_; rintro e w1 ⟨rfl, hb1⟩)
        go_roundw
        case rel => exact ⟨k + 1, by omega, by go_num, HD, ⟨below_then HB.out HB.out.size hb1⟩⟩
        case measure => simp [intOf]; omega
    · obtain rfl : k = L.length := by omega
      have hd := HW.out
      rw [List.drop_length, List.any_nil] at hd
      have HD := Aside0.mk hd
      clear hd HW
      go_wp2
      go_ret
      exact ⟨⟨_, rfl, by rw [← HD.out]; simp⟩, HB.out⟩
set_option maxHeartbeats 1000000 in
set_option maxRecDepth 100000 in
theorem int_contains (A : Option Addr) (c : Nat) (L : List Int) (p : Int → Bool) (cap : Value) (w : World) (hm : L.length ≤ 1048577) (hr : RowI w A L)
    (hc : ∀ x ∈ L, ∀ W : World, Below w.heap.size w W → Calls Tryz.prog 91 #[.int .i64 x, cap] W fun e w' => e = .returned (.bool (p x)) ∧ Below W.heap.size W w') :
    Calls Tryz.prog 92 #[.slice A L.length c, .func (.func 91) #[] #[cap]] w fun e w' => e = .returned (.bool (L.any p)) ∧ Below w.heap.size w w' := by
  have HI := Aside0.mk (int_index A c L p cap w hm hr hc)
  clear hr hc
  go_enter Tryz.func92, Tryz.ntmps92
  go_wp2_with (go_at_call 118; refine HI.out.mono ?_; rintro e w1 ⟨⟨i, rfl, hi⟩, hb1⟩; have HD := Aside0.mk hi; clear hi)
  go_ret
  exact ⟨by rw [← HD.out]; rfl, hb1⟩

set_option maxHeartbeats 1000000 in
set_option maxRecDepth 100000 in
/-- Not of that sort. -/
theorem clo_sort (x s : Int) (b : Nat) (W : World) (hb : W.cell? ⟨b, 0, none⟩ = some (.int .i64 s)) : Calls Tryz.prog 90 #[.int .i64 x, .pointer (some ⟨b, 0, none⟩)] W fun e w' => e = .returned (.bool (x != s)) ∧ Below W.heap.size W w' := by
  go_enter Tryz.func90, Tryz.ntmps90
  go_wp2
  go_ret
  exact ⟨rfl, Below.refl _ _⟩
set_option maxHeartbeats 1000000 in
set_option maxRecDepth 100000 in
/-- Are all kids of that sort? -/
theorem all_any (A : Option Addr) (c : Nat) (L : List Int) (s : Int) (b : Nat) (w : World) (hm : L.length ≤ 1048577) (hr : RowI w A L) (hb : w.cell? ⟨b, 0, none⟩ = some (.slice A L.length c)) :
    Calls Tryz.prog 88 #[.int .i64 s, .pointer (some ⟨b, 0, none⟩)] w fun e w' => e = .returned (.bool (L.all (· == s))) ∧ Below w.heap.size w w' := by
  have hlt := Rep.lt_of_cell? hb
  have h1 : (w.alloc (.cells #[.int .i64 s] 72)).cell? ⟨w.heap.size, 0, none⟩ = some (.int .i64 s) := by simp
  have hbA : Below w.heap.size w (w.alloc (.cells #[.int .i64 s] 72)) := below_alloc (Below.refl _ _) _
  have hc := sort_contains A c L (fun x => x != s) (.pointer (some ⟨w.heap.size, 0, none⟩)) (w.alloc (.cells #[.int .i64 s] 72)) hm (hr.below hbA (Nat.le_refl _))
    (fun x _ W hW => clo_sort x s w.heap.size W ((hW.cell (by simp)).trans h1))
  have HC := Aside0.mk hc
  have hk : (w.alloc (.cells #[.int .i64 s] 72)).cell? ⟨b, 0, none⟩ = some (.slice A L.length c) := (hbA.cell hlt).trans hb
  have HA := Aside0.mk hbA
  have hall : (!L.any fun x => x != s) = L.all (· == s) := by
    rw [List.not_any_eq_all_not]
    congr 1
    funext x
    simp [bne]
  have HL := Aside0.mk hall
  clear hc hr hbA hall
  go_enter Tryz.func88, Tryz.ntmps88
  go_wp2_with (go_at_call 89; refine HC.out.mono ?_; rintro e w1 ⟨rfl, hb1⟩)
  go_ret
  exact ⟨by rw [← HL.out]; rfl, below_then HA.out (by simp) hb1⟩
set_option maxHeartbeats 1000000 in
set_option maxRecDepth 100000 in
/-- Is a node a tag? -/
theorem clo_tag (A : Option Addr) (c : Nat) (l : List ND) (p : Int) (h0 : 0 ≤ p) (h1 : p < l.length) (b : Nat) (W : World) (hr : Kd.C k56 W A l.length l) (hb : W.cell? ⟨b, 0, none⟩ = some (.slice A l.length c)) :
    Calls Tryz.prog 91 #[.int .i64 p, .pointer (some ⟨b, 0, none⟩)] W fun e w' => e = .returned (.bool ((rd_T56 l p).f0 == 23)) ∧ Below W.heap.size W w' := by
  obtain ⟨ad, rfl, hx0, _⟩ := at_T56 hr p h0 h1
  generalize (rd_T56 l p).f0 = x at hx0
  go_enter Tryz.func91, Tryz.ntmps91
  go_wp2
  go_ret
  exact ⟨rfl, Below.refl _ _⟩

/-- What the kids must be. op: the node's own; ss: what its kids are; tg: is one of the kids behind the first a tag? -/
def fitsB (op : Int) (ss : List Int) (tg : Bool) : Bool :=
  if op = 11 ∨ op = 12 ∨ op = 23 ∨ op = 24 ∨ op = 25 ∨ op = 26 then ss.length == 0
  else if op = 13 then ss.length == 1 && ss.all (· == 1)
  else if op = 14 ∨ op = 15 then decide (2 ≤ ss.length) && ss.all (· == 1)
  else if op = 16 ∨ op = 17 then ss.length == 2 && (ss.all (· == 2) || ss.all (· == 3))
  else if op = 18 ∨ op = 19 ∨ op = 20 ∨ op = 21 then ss.length == 2 && ss.all (· == 3)
  else if op = 22 then decide (2 ≤ ss.length) && decide (ss.length ≤ 65) && ss.all (· == 2) && !tg
  else false
/-- What lies in memory while the kids are looked at: the list's own variable, the row's. -/
structure Fr (w w3 W : World) (A : Option Addr) (len c : Nat) (v : Value) : Prop where
  bel : Below w.heap.size w W
  b0 : W.heap[w.heap.size]? = some (.cells #[.slice A len c] 22 (0, 0))
  b1 : W.heap[w.heap.size + 1]? = some (.cells #[v] 110 (0, 0))
  mid : ∀ b, w.heap.size + 2 ≤ b → b < w3.heap.size → W.heap[b]? = w3.heap[b]?
  sz : w3.heap.size ≤ W.heap.size
  ge : w.heap.size + 2 ≤ w3.heap.size
section
variable {w w3 W W' : World} {A : Option Addr} {len c : Nat} {v : Value}
theorem Fr.lt (h : Fr w w3 W A len c v) : w.heap.size + 2 ≤ W.heap.size := Nat.le_trans h.ge h.sz
theorem Fr.more (h : Fr w w3 W A len c v) (hb : Below W.heap.size W W') : Fr w w3 W' A len c v :=
  ⟨below_then h.bel h.bel.size hb, (hb.block _ (by have := h.lt; omega)).trans h.b0, (hb.block _ (by have := h.lt; omega)).trans h.b1, fun b h1 h2 => (hb.block b (Nat.lt_of_lt_of_le h2 h.sz)).trans (h.mid b h1 h2), Nat.le_trans h.sz hb.size, h.ge⟩
theorem Fr.grown (h : Fr w w3 W A len c v) {row : Option Nat} (hg : W.grownBy W' row) (hr : ∀ k, row = some k → w3.heap.size ≤ k) : Fr w w3 W' A len c v := by
  have hl := h.lt
  have hge := h.ge
  have hs := h.sz
  have hk : ∀ b, b < w3.heap.size → W'.heap[b]? = W.heap[b]? := fun b hb => hg.block b (by omega) (fun e => by have := hr b e.symm; omega)
  exact ⟨h.bel.grown hg (by omega) (fun k hk => by have := hr k hk; omega), (hk _ (by omega)).trans h.b0, (hk _ (by omega)).trans h.b1, fun b h1 h2 => (hk b h2).trans (h.mid b h1 h2), Nat.le_trans hs hg.size, hge⟩
theorem heap_set_at (W : World) (g : Nat) (x y : Value) (t : TypeId) (h : W.heap[g]? = some (.cells #[x] t (0, 0))) : (W.setCell ⟨g, 0, none⟩ y).heap[g]? = some (.cells #[y] t (0, 0)) := by
  have hlt : g < W.heap.size := (Array.getElem?_eq_some_iff.1 h).1
  have hg : W.heap[g] = .cells #[x] t (0, 0) := (Array.getElem?_eq_some_iff.1 h).2
  simp [World.setCell, hlt, hg, Array.getElem_modify]
theorem Fr.set (h : Fr w w3 W A len c v) (u : Value) : Fr w w3 (W.setCell ⟨w.heap.size + 1, 0, none⟩ u) A len c u := by
  have hk : ∀ b, b ≠ w.heap.size + 1 → (W.setCell ⟨w.heap.size + 1, 0, none⟩ u).heap[b]? = W.heap[b]? := fun b hb => Below.heap_setCell W ⟨w.heap.size + 1, 0, none⟩ u b hb
  exact ⟨h.bel.setCell (Nat.le_succ _) _, (hk _ (by omega)).trans h.b0, heap_set_at W _ v u _ h.b1, fun b h1 h2 => (hk b (by omega)).trans (h.mid b h1 h2), by simpa using h.sz, h.ge⟩
theorem Fr.row (h : Fr w w3 W A len c v) {B : Option Addr} {L : List Int} (hr : ∀ (j : Nat) (x : Int), L[j]? = some x → ∃ g, B = some ⟨g, 0, none⟩ ∧ w.heap.size + 2 ≤ g ∧ g < w3.heap.size ∧ w3.cell? ⟨g, j, none⟩ = some (.int .i64 x)) : RowI W B L := by
  intro j x hj
  obtain ⟨g, e, h1, h2, h3⟩ := hr j x hj
  refine ⟨_, e, ?_⟩
  rw [add_g]
  exact (World.cell?_of_block (h.mid g h1 h2)).trans h3
end
theorem own_row {W : World} {base e : Nat} {v : Value} {ss : List Int} (h : W.ownsRow base e 1 v ss.length (ss.map (.int .i64))) : ∃ A cap, v = .slice A ss.length cap ∧ ss.length ≤ cap ∧ RowI W A ss := by
  rcases h.2 with ⟨h1, h2⟩ | ⟨g, cap, cur, hv, _, _, hle, _⟩
  · exact ⟨none, 0, by rw [h1, h2], by omega, fun j x hj => by have := (List.getElem?_eq_some_iff.1 hj).1; omega⟩
  · refine ⟨some ⟨g, 0, none⟩, cap, hv, hle, fun j x hj => ⟨_, rfl, ?_⟩⟩
    exact h.cells (g := g) (by rw [hv]; rfl) j _ (by rw [List.getElem?_map, hj]; rfl)
theorem own_set {w : World} {base : Nat} {e : TypeId} {size : Nat} {v : Value} {n : Nat} {xs : List Value} (h : w.ownsRow base e size v n xs) (b : Nat) (hb : b < base) (u : Value) : (w.setCell ⟨b, 0, none⟩ u).ownsRow base e size v n xs := by
  obtain ⟨h1, h2⟩ := h
  refine ⟨h1, ?_⟩
  rcases h2 with h2 | ⟨g, cap, cur, h2, h3, h4, h5⟩
  · exact .inl h2
  · exact .inr ⟨g, cap, cur, h2, h3, (Below.heap_setCell w ⟨b, 0, none⟩ u g (by simp; omega)).trans h4, h5⟩
theorem add_any (g o j : Nat) : (⟨g, o, none⟩ : Addr).add j = ⟨g, o + j, none⟩ := by
  unfold Addr.add
  split
  · rename_i e; subst e; rfl
  · rfl
theorem tag_any (A : Option Addr) (c : Nat) (l : List ND) (places : List Int) (hp : ∀ p ∈ places, 0 ≤ p ∧ p < l.length) (hm : places.length ≤ 1048576) (g2 d : Nat) (b : Nat) (W : World) (hrl : Kd.C k56 W A l.length l) (hb : W.cell? ⟨b, 0, none⟩ = some (.slice A l.length c))
    (hr2 : Kd.C (Kd.int .i64) W (some ⟨g2, 0, none⟩) places.length places) :
    Calls Tryz.prog 92 #[.slice (some ⟨g2, 1, none⟩) (places.length - 1) d, .func (.func 91) #[] #[.pointer (some ⟨b, 0, none⟩)]] W fun e w' => e = .returned (.bool ((places.drop 1).any fun p => (rd_T56 l p).f0 == 23)) ∧ Below W.heap.size W w' := by
  have h := int_contains (some ⟨g2, 1, none⟩) d (places.drop 1) (fun p => (rd_T56 l p).f0 == 23) (.pointer (some ⟨b, 0, none⟩)) W (by rw [List.length_drop]; omega)
    (fun j x hj => by
      rw [List.getElem?_drop] at hj
      have hjl := (List.getElem?_eq_some_iff.1 hj).1
      obtain ⟨ae, e, hxe⟩ := Kd.at_int hr2 ((1 + j : Nat) : Int) (by omega) (by omega)
      obtain rfl := Option.some.inj e
      rw [rd_get places (1 + j) hjl, Int.toNat_natCast, add_any] at hxe
      refine ⟨_, rfl, ?_⟩
      rw [add_any, ← (List.getElem?_eq_some_iff.1 hj).2, ← hxe, Nat.zero_add])
    (fun x hx W' hW => by
      have hx2 := hp x (List.mem_of_mem_drop hx)
      exact clo_tag A c l x hx2.1 hx2.2 b W' (Kd.C_below hrl hW) ((hW.cell (Rep.lt_of_cell? hb)).trans hb))
  rw [List.length_drop] at h
  exact h
def r5.T : Bool × List (List Nat × List Nat) := (true, [([], []), ([], []), ([], []), ([1, 2], [1, 2]), ([3], [3]), ([4], [4]), ([5], [5]), ([0, 6, 5], [0, 6]), ([7, 7, 0, 1, 2, 3, 4, 5, 6, 7], [7])])
def r5.B : List Nat := [0, 0, 0, 6, 14, 30, 62, 127, 255]
theorem r5.tab : rtab .any (opsOf Tryz.f42 5) = r5.T := by kernel_rfl
theorem r5.bits : waitsOk r5.T.2 r5.B = true := by kernel_rfl

set_option maxRecDepth 100000 in
set_option maxHeartbeats 8000000 in
theorem fits_any (A : Option Addr) (c : Nat) (l : List ND) (hc : l.length ≤ c) (w : World) (hr : Kd.C k56 w A l.length l) (hG : Globs w) (a : Int) (h0 : 0 ≤ a) (h1 : a < l.length) (K : Nat) (places : List Int) (hK : ast_Kids.f K l a = some places) (hpl : places.length ≤ 1048576)
    (so : Int → Int) (hso : ∀ p ∈ places, (0 ≤ p ∧ p < l.length) ∧ ast_sortOf.f (rd_T56 l p).f0 (rd_T56 l p).f1 (rd_T56 l p).f2 (rd_T56 l p).f3 (rd_T56 l p).f4 (rd_T56 l p).f5 = some (so p)) :
    Calls Tryz.prog 42 #[.slice A l.length c, .int .i64 a] w fun e w' => e = .returned (.bool (fitsB (rd_T56 l a).f0 (places.map so) ((places.drop 1).any fun p => (rd_T56 l p).f0 == 23))) ∧ Below w.heap.size w w' := by
  obtain ⟨ad, hA, _⟩ := at_T56 hr a h0 h1
  subst hA
  have HK := Aside0.mk (fun (W : World) (hb : Below w.heap.size w W) => ast_Kids.calls K (some ad) c l a places W (Kd.C_below hr hb) hc hK)
  have HR := Aside0.mk hr
  have HG := Aside0.mk hG
  have HS := Aside0.mk hso
  have HKf := Aside0.mk hK
  clear hr hG hso hK
  go_enter Tryz.func42, Tryz.ntmps42
  go_wp2_with (go_at_call 59; refine (HK.out _ (by have h1 := Below.refl w.heap.size w; repeat (first | exact h1 | apply below_alloc | (refine Below.setCell ?_ h1.size _)))).mono ?_; rintro e w3 ⟨v0, rfl, ho, hb3⟩; obtain ⟨B1, d1, rfl, hle1, hr1⟩ := Kd.R_reads ho; have HO1 := Aside0.mk ho; have HB3 := Aside0.mk hb3; have HR1 := Aside0.mk hr1; clear ho hb3 hr1)
  have hF0 : Fr w w3 w3 (some ad) l.length c (.slice none 0 0) := by
    have hb3 := HB3.out
    have e1 : (w.alloc (.cells #[.slice (some ad) l.length c] 22)).heap.size = w.heap.size + 1 := by simp
    have h2 := Rep.alloc_new w (.cells #[.slice (some ad) l.length c] 22)
    have h3 := Rep.alloc_new (w.alloc (.cells #[.slice (some ad) l.length c] 22)) (.cells #[.slice none 0 0] 110)
    rw [e1] at h3
    have h4 : Below (w.heap.size + 1) (w.alloc (.cells #[.slice (some ad) l.length c] 22)) ((w.alloc (.cells #[.slice (some ad) l.length c] 22)).alloc (.cells #[.slice none 0 0] 110)) := (Below.refl _ _).alloc (by simp) _
    exact ⟨below_then (below_alloc (below_alloc (Below.refl _ _) _) _) (by simp; omega) hb3, (hb3.block _ (by simp; omega)).trans ((h4.block _ (by omega)).trans h2), (hb3.block _ (by simp)).trans h3, fun _ _ _ => rfl, Nat.le_refl _, by have := hb3.size; simpa using this⟩
  have hP0 : ∀ (j : Nat) (x : Int), places[j]? = some x → ∃ g, B1 = some ⟨g, 0, none⟩ ∧ w.heap.size + 2 ≤ g ∧ g < w3.heap.size ∧ w3.cell? ⟨g, j, none⟩ = some (.int .i64 x) := by
    intro j x hj
    have hjl := (List.getElem?_eq_some_iff.1 hj).1
    obtain ⟨ae, rfl, hxe⟩ := Kd.at_int HR1.out (j : Int) (by omega) (by omega)
    obtain ⟨g, rfl⟩ := Kd.R_head HO1.out
    rw [rd_get places j hjl, Int.toNat_natCast, add_g] at hxe
    have hge := ((Kd.R_bound HO1.out).1 g rfl).2.1
    refine ⟨g, rfl, by simpa using hge, Rep.lt_of_cell? hxe, ?_⟩
    rw [hxe, (List.getElem?_eq_some_iff.1 hj).2]
  have HF0 := Aside0.mk hF0
  have HP0 := Aside0.mk hP0
  obtain ⟨i0, hi, hz0, hz1, hz2⟩ := info_parts (P := Tryz.prog) (e := 72) (z := .int .i64 0) (size := 1) (bytes := 8) (by kernel_rfl)
  clear hF0 hP0 HO1 HB3 HK
  go_loopw [7, 15] (fun _ i W => ∃ (j : Nat) (v : Value), j ≤ places.length ∧ i = .int .i64 j ∧ Aside0 (Fr w w3 W (some ad) l.length c v) ∧ Aside0 (W.ownsRow w3.heap.size 72 1 v j (((places.take j).map so).map (.int .i64)))) (fun _ i _ => places.length - (intOf i).toNat)
  case atStart => exact ⟨0, _, Nat.zero_le _, rfl, HF0, ⟨World.ownsRow_nil _ _ _ _⟩⟩
  case round =>
    obtain ⟨j, v, hj, rfl, HF, HO⟩ := hrel
    by_cases hlt : j < places.length
    · obtain ⟨p, hp⟩ : ∃ p, places[j] = p := ⟨_, rfl⟩
      have hjp : places[j]? = some p := by rw [List.getElem?_eq_getElem hlt, hp]
      obtain ⟨ae, rfl, hxe⟩ := HF.out.row HP0.out j p hjp
      obtain ⟨hpr, hsp⟩ := HS.out p (by rw [← hp]; exact List.getElem_mem hlt)
      obtain ⟨m, hm⟩ : ∃ m, rd_T56 l p = m := ⟨_, rfl⟩
      obtain ⟨ad2, hA2, hx0, hx1, hx2, hx3, hx4, hx5⟩ := at_T56 HR.out p hpr.1 hpr.2
      obtain rfl := Option.some.inj hA2
      rw [hm] at hx0 hx1 hx2 hx3 hx4 hx5 hsp
      have HSo := Aside0.mk (fun (W : World) (hb : Below w.heap.size w W) => ast_sortOf.calls m.f0 m.f1 m.f2 m.f3 m.f4 m.f5 (so p) W (HG.out.below hb) hsp)
      have hp0 := hpr.1
      have hp1 := hpr.2
      have HJP := Aside0.mk hjp
      have hj0 : (0 : Int) ≤ (j : Int) := by omega
      have hj1 : (j : Int) < (places.length : Int) := by omega
      have HSall := Aside0.mk (fun (W : World) (hF : Fr w w3 W (some ad) l.length c v) => show Below w.heap.size w W ∧ W.cell? ⟨w.heap.size + 1, 0, none⟩ = some v ∧ W.cell? ⟨w.heap.size, 0, none⟩ = some (.slice (some ad) l.length c) ∧ W.cell? (ad.add (p.toNat * 6)) = some (.int .u8 m.f0) ∧ W.cell? ⟨(ad.add (p.toNat * 6)).block, (ad.add (p.toNat * 6)).off + 1, none⟩ = some (.int .u8 m.f1) ∧ W.cell? ⟨(ad.add (p.toNat * 6)).block, (ad.add (p.toNat * 6)).off + 2, none⟩ = some (.string m.f2) ∧ W.cell? ⟨(ad.add (p.toNat * 6)).block, (ad.add (p.toNat * 6)).off + 3, none⟩ = some (.int .i64 m.f3) ∧ W.cell? ⟨(ad.add (p.toNat * 6)).block, (ad.add (p.toNat * 6)).off + 4, none⟩ = some (.int .i64 m.f4) ∧ W.cell? ⟨(ad.add (p.toNat * 6)).block, (ad.add (p.toNat * 6)).off + 5, none⟩ = some (.int .i64 m.f5) from ⟨hF.bel, cell_of hF.b1 0, cell_of hF.b0 0, (hF.bel.cell (Rep.lt_of_cell? hx0)).trans hx0, (hF.bel.cell (Rep.lt_of_cell? hx1)).trans hx1, (hF.bel.cell (Rep.lt_of_cell? hx2)).trans hx2, (hF.bel.cell (Rep.lt_of_cell? hx3)).trans hx3, (hF.bel.cell (Rep.lt_of_cell? hx4)).trans hx4, (hF.bel.cell (Rep.lt_of_cell? hx5)).trans hx5⟩)
      clear hx0 hx1 hx2 hx3 hx4 hx5
      have HF1 := Aside0.mk (HF.out.more (below_drew1 (Below.refl _ _)))
      clear hA2 hm hp hjp hpr hsp
      go_wp2
      refine start_ (n := 9) (S := (fun W => Below w.heap.size w W ∧ W.cell? ⟨w.heap.size + 1, 0, none⟩ = some v ∧ W.cell? ⟨w.heap.size, 0, none⟩ = some (.slice (some ad) l.length c) ∧ W.cell? (ad.add (p.toNat * 6)) = some (.int .u8 m.f0) ∧ W.cell? ⟨(ad.add (p.toNat * 6)).block, (ad.add (p.toNat * 6)).off + 1, none⟩ = some (.int .u8 m.f1) ∧ W.cell? ⟨(ad.add (p.toNat * 6)).block, (ad.add (p.toNat * 6)).off + 2, none⟩ = some (.string m.f2) ∧ W.cell? ⟨(ad.add (p.toNat * 6)).block, (ad.add (p.toNat * 6)).off + 3, none⟩ = some (.int .i64 m.f3) ∧ W.cell? ⟨(ad.add (p.toNat * 6)).block, (ad.add (p.toNat * 6)).off + 4, none⟩ = some (.int .i64 m.f4) ∧ W.cell? ⟨(ad.add (p.toNat * 6)).block, (ad.add (p.toNat * 6)).off + 5, none⟩ = some (.int .i64 m.f5))) (ds := [8]) #[false, false, false, false, false, false, false, false, false] (by kernel_rfl) rfl rfl (HSall.out _ HF1.out) (fun hHeld => ?_)
      refine with_tabW r5.tab r5.bits (fun HT_ HW_ => ?_)
      refine pT 0 19 ?_
      refine pT 1 20 ?_
      refine pP 2 21 ?_
      refine pP 3 22 ?_
      refine pT 4 23 ?_
      refine pO 5 24 (fun K hK => ?_)
      refine goes_ Tryz.func41 (by kernel_rfl) rfl #[.agg #[.int .u8 m.f0, .int .u8 m.f1, .string m.f2, .int .i64 m.f3, .int .i64 m.f4, .int .i64 m.f5]] (by rfl) rfl rfl (by first | rfl | (simp only [q4, q5, q6]; rfl)) ?_
      refine (HSo.out _ hHeld.1).mono ?_
      rintro e w5 ⟨rfl, hb5⟩
      refine ⟨_, rfl, ?_⟩
      have hF5 := HF1.out.more hb5
      refine hK.out _ _ (HSall.out _ hF5) (fun hHeld => ?_)
      clear hK K
      have hO5 := own_below HO.out.drew hb5
      have HF5 := Aside0.mk hF5
      have HO5 := Aside0.mk hO5
      clear hF5 hO5 hb5
      refine norm_ (a' := ?_) ?_ ?_
      rotate_left
      · show Act.put _ (some 24) _ = _
        simp only [Act.put, q1, q2, q3, i64_w, i32_w]
        rfl
      refine pO 6 25 (fun K hK => ?_)
      refine if_go rfl ?_
      go_simp
      refine hK.out _ _ (HSall.out _ (HF5.out.more (below_alloc (Below.refl _ _) _))) (fun hHeld => ?_)
      clear hK K
      refine pO 7 26 (fun K hK => ?_)
      refine if_go rfl ?_
      refine wp_append_own _ _ _ 110 rfl w3.heap.size 72 i0 (.int .i64 0) 1 8 Tryz.underlying110 hi hz0 hz1 hz2 rfl (by decide) v j _ rfl (HO5.out.alloc _) ⟨w5.heap.size, 0, none⟩ 1 1 [.int .i64 (so p)] rfl rfl (cell_one_new _ _ _) (fun x hx => by simp at hx; subst hx; rfl) (by unfold maxLen; omega) (by omega) (by have := HF5.out.sz; simp; omega) ?_
      intro v' w6 hown' hgrow _
      obtain ⟨g6, c6, rfl, _, _⟩ := hown'.form (by omega)
      have hF6 := (HF5.out.more (below_alloc (Below.refl _ _) _)).grown hgrow (fun k hk => (HO5.out.lt k hk).1)
      refine hK.out _ _ (HSall.out _ hF6) (fun hHeld => ?_)
      clear hK K
      have kf : w6.frozen? ⟨w.heap.size + 1, 0, none⟩ = false := Lib.frozen_of_heap hF6.b1 0
      have kc := hHeld.2.1
      have HF6 := Aside0.mk hF6
      have HO6 := Aside0.mk hown'
      clear hF6 hown' hgrow
      refine norm_ (a' := ?_) ?_ ?_
      rotate_left
      · show Act.put _ (some 26) _ = _
        simp only [Act.put, q1, q2, q3, i64_w, i32_w]
        rfl
      refine pL 8 (fun K hK => ?_)
      refine if_go rfl ?_
      go_simp
      refine hK.out _ _ ?_
      clear hK K
      refine done_ (done_of HT_.out (by kernel_rfl)) ?_
      go_wp2
      go_roundw
      case rel =>
        have e1 : ((places.take (j + 1)).map so).map (Value.int .i64) = ((places.take j).map so).map (Value.int .i64) ++ [.int .i64 (so p)] := by
          rw [List.take_add_one, HJP.out]
          simp
        refine ⟨j + 1, _, by omega, by go_num, ⟨HF6.out.set _⟩, ⟨?_⟩⟩
        rw [e1]
        exact own_set HO6.out _ (by have := HF6.out.ge; omega) _
      case measure => simp [intOf]; omega
    · obtain rfl : j = places.length := by omega
      have hO := HO.out
      rw [List.take_length] at hO
      have hO2 : wr.ownsRow w3.heap.size 72 1 v (places.map so).length ((places.map so).map (.int .i64)) := by rw [List.length_map]; exact hO
      obtain ⟨A5, c5, rfl, hc5, hR5⟩ := own_row hO2
      obtain ⟨ss, hss⟩ : ∃ ss, places.map so = ss := ⟨_, rfl⟩
      obtain ⟨tg, htg⟩ : ∃ tg, ((places.drop 1).any fun p => (rd_T56 l p).f0 == 23) = tg := ⟨_, rfl⟩
      have hsl : ss.length = places.length := by rw [← hss, List.length_map]
      have hpost : fitsB (rd_T56 l a).f0 (places.map so) ((places.drop 1).any fun p => (rd_T56 l p).f0 == 23) = fitsB (rd_T56 l a).f0 ss tg := by rw [hss, htg]
      rw [hss] at hR5 hc5 HF
      have HTg := Aside0.mk htg
      have hK2 : ∀ W : World, Below w.heap.size w W → _ := fun W hb => ast_Kids.calls K (some ad) c l a places W (Kd.C_below HR.out hb) hc HKf.out
      have HK2 := Aside0.mk hK2
      obtain ⟨ad3, hA3, hx0, hx1, hx2, hx3, hx4, hx5⟩ := at_T56 HR.out a h0 h1
      obtain rfl := Option.some.inj hA3
      obtain ⟨n, hn⟩ : ∃ n, rd_T56 l a = n := ⟨_, rfl⟩
      rw [hn] at hx0 hx1 hx2 hx3 hx4 hx5
      have hmv : ∀ {q : Addr} {x : Value}, w.cell? q = some x → wr.cell? q = some x := fun hx => (HF.out.bel.cell (Rep.lt_of_cell? hx)).trans hx
      replace hx0 := hmv hx0
      replace hx1 := hmv hx1
      replace hx2 := hmv hx2
      replace hx3 := hmv hx3
      replace hx4 := hmv hx4
      replace hx5 := hmv hx5
      have k5 : wr.cell? ⟨w.heap.size + 1, 0, none⟩ = some (.slice A5 ss.length c5) := cell_of HF.out.b1 0
      have k2 : wr.cell? ⟨w.heap.size, 0, none⟩ = some (.slice (some ad) l.length c) := cell_of HF.out.b0 0
      have hall := fun (s : Int) (W : World) (hb : Below wr.heap.size wr W) => all_any A5 c5 ss s (w.heap.size + 1) W (by omega) (hR5.below hb (Nat.le_refl _)) ((hb.cell (Rep.lt_of_cell? k5)).trans k5)
      have hfb : ∀ al : Int → Bool, (∀ s, ss.all (· == s) = al s) → fitsB n.f0 ss tg = (if n.f0 = 11 ∨ n.f0 = 12 ∨ n.f0 = 23 ∨ n.f0 = 24 ∨ n.f0 = 25 ∨ n.f0 = 26 then ((ss.length : Int) == 0)
          else if n.f0 = 13 then ((ss.length : Int) == 1) && al 1
          else if n.f0 = 14 ∨ n.f0 = 15 then decide ((ss.length : Int) ≥ 2) && al 1
          else if n.f0 = 16 ∨ n.f0 = 17 then ((ss.length : Int) == 2) && (al 2 || al 3)
          else if n.f0 = 18 ∨ n.f0 = 19 ∨ n.f0 = 20 ∨ n.f0 = 21 then ((ss.length : Int) == 2) && al 3
          else if n.f0 = 22 then decide ((ss.length : Int) ≥ 2) && decide ((ss.length : Int) ≤ 65) && al 2 && !tg
          else false) := by
        intro al hal
        unfold fitsB
        simp only [hal]
        have g0 : ((ss.length : Int) == 0) = (ss.length == 0) := by rw [Bool.eq_iff_iff]; simp only [beq_iff_eq]; omega
        have g1 : ((ss.length : Int) == 1) = (ss.length == 1) := by rw [Bool.eq_iff_iff]; simp only [beq_iff_eq]; omega
        have g2 : ((ss.length : Int) == 2) = (ss.length == 2) := by rw [Bool.eq_iff_iff]; simp only [beq_iff_eq]; omega
        have g3 : decide ((ss.length : Int) ≥ 2) = decide (2 ≤ ss.length) := by rw [Bool.eq_iff_iff]; simp; omega
        have g4 : decide ((ss.length : Int) ≤ 65) = decide (ss.length ≤ 65) := by rw [Bool.eq_iff_iff]; simp; omega
        rw [g0, g1, g2, g3, g4]
      obtain ⟨al, hal⟩ : ∃ al : Int → Bool, ∀ s, ss.all (· == s) = al s := ⟨fun s => ss.all (· == s), fun _ => rfl⟩
      have hfin := hpost
      conv at hfin => rhs; rw [hn]
      rw [hfb al hal] at hfin
      simp only [hal] at hall
      have HFB := Aside0.mk hfin
      have HAll := Aside0.mk hall
      have k5a : (wr.alloc (.cells #[.int .u8 n.f0, .int .u8 n.f1, .string n.f2, .int .i64 n.f3, .int .i64 n.f4, .int .i64 n.f5] 56)).cell? ⟨w.heap.size + 1, 0, none⟩ = some (.slice A5 ss.length c5) := ((below_alloc (Below.refl wr.heap.size wr) _).cell (Rep.lt_of_cell? k5)).trans k5
      have k2a : (wr.alloc (.cells #[.int .u8 n.f0, .int .u8 n.f1, .string n.f2, .int .i64 n.f3, .int .i64 n.f4, .int .i64 n.f5] 56)).cell? ⟨w.heap.size, 0, none⟩ = some (.slice (some ad) l.length c) := ((below_alloc (Below.refl wr.heap.size wr) _).cell (Rep.lt_of_cell? k2)).trans k2
      have HBel := Aside0.mk HF.out.bel
      have HK2b := Aside0.mk k2
      have HSl := Aside0.mk hsl
      clear hpost hfin hall hmv hfb hal hss htg hsl hK2 hA3 HO hO hO2 hR5 hj hlt HF0 HP0 HKf
      by_cases o1 : n.f0 = 11 ∨ n.f0 = 12 ∨ n.f0 = 23 ∨ n.f0 = 24 ∨ n.f0 = 25 ∨ n.f0 = 26
      · have hres := HFB.out
        rw [if_pos o1] at hres
        have HRes := Aside0.mk hres
        clear hres
        rcases o1 with hf | hf | hf | hf | hf | hf
        all_goals
          rw [hf] at hx0 k5a k2a
          go_wp2
          go_ret
          exact ⟨by rw [HRes.out]; first | rfl | (simp only [q]; rfl) | (simp only [q, q2]; rfl) | (simp only [q, q2, q3]; rfl), (by have h1 := HBel.out; repeat (first | exact h1 | apply below_alloc | (refine Below.setCell ?_ h1.size _)))⟩
      by_cases o2 : n.f0 = 13
      · have hres := HFB.out
        rw [if_neg o1, if_pos o2] at hres
        have HRes := Aside0.mk hres
        clear hres
        rw [o2] at hx0 k5a k2a
        cases q : ((ss.length : Int) == 1)
        · go_wp2
          go_ret
          exact ⟨by rw [HRes.out]; first | rfl | (simp only [q]; rfl) | (simp only [q, q2]; rfl) | (simp only [q, q2, q3]; rfl), (by have h1 := HBel.out; repeat (first | exact h1 | apply below_alloc | (refine Below.setCell ?_ h1.size _)))⟩
        · go_wp2_with (go_at_call 88; refine (HAll.out _ _ (by have h1 := Below.refl wr.heap.size wr; repeat (first | exact h1 | apply below_alloc | (refine Below.setCell ?_ h1.size _)))).mono ?_; rintro e w4 ⟨rfl, hb4⟩; have HB4 : Aside0 (Below wr.heap.size wr w4) := ⟨below_then (by have h1 := Below.refl wr.heap.size wr; repeat (first | exact h1 | apply below_alloc | (refine Below.setCell ?_ h1.size _))) (Below.size (by have h1 := Below.refl wr.heap.size wr; repeat (first | exact h1 | apply below_alloc | (refine Below.setCell ?_ h1.size _)))) hb4⟩; have k2c := (HB4.out.cell (Rep.lt_of_cell? HK2b.out)).trans HK2b.out; clear hb4)
          go_ret
          exact ⟨by rw [HRes.out]; first | rfl | (simp only [q]; rfl) | (simp only [q, q2]; rfl) | (simp only [q, q2, q3]; rfl), (below_then HBel.out HBel.out.size HB4.out)⟩
      by_cases o3 : n.f0 = 14 ∨ n.f0 = 15
      · have hres := HFB.out
        rw [if_neg o1, if_neg o2, if_pos o3] at hres
        have HRes := Aside0.mk hres
        clear hres
        rcases o3 with hf | hf
        all_goals
          rw [hf] at hx0 k5a k2a
          cases q : decide ((ss.length : Int) ≥ 2)
          · go_wp2
            go_ret
            exact ⟨by rw [HRes.out]; first | rfl | (simp only [q]; rfl) | (simp only [q, q2]; rfl) | (simp only [q, q2, q3]; rfl), (by have h1 := HBel.out; repeat (first | exact h1 | apply below_alloc | (refine Below.setCell ?_ h1.size _)))⟩
          · go_wp2_with (go_at_call 88; refine (HAll.out _ _ (by have h1 := Below.refl wr.heap.size wr; repeat (first | exact h1 | apply below_alloc | (refine Below.setCell ?_ h1.size _)))).mono ?_; rintro e w4 ⟨rfl, hb4⟩; have HB4 : Aside0 (Below wr.heap.size wr w4) := ⟨below_then (by have h1 := Below.refl wr.heap.size wr; repeat (first | exact h1 | apply below_alloc | (refine Below.setCell ?_ h1.size _))) (Below.size (by have h1 := Below.refl wr.heap.size wr; repeat (first | exact h1 | apply below_alloc | (refine Below.setCell ?_ h1.size _)))) hb4⟩; have k2c := (HB4.out.cell (Rep.lt_of_cell? HK2b.out)).trans HK2b.out; clear hb4)
            go_ret
            exact ⟨by rw [HRes.out]; first | rfl | (simp only [q]; rfl) | (simp only [q, q2]; rfl) | (simp only [q, q2, q3]; rfl), (below_then HBel.out HBel.out.size HB4.out)⟩
      by_cases o4 : n.f0 = 16 ∨ n.f0 = 17
      · have hres := HFB.out
        rw [if_neg o1, if_neg o2, if_neg o3, if_pos o4] at hres
        have HRes := Aside0.mk hres
        clear hres
        rcases o4 with hf | hf
        all_goals
          rw [hf] at hx0 k5a k2a
          cases q : ((ss.length : Int) == 2)
          · go_wp2
            go_ret
            exact ⟨by rw [HRes.out]; first | rfl | (simp only [q]; rfl) | (simp only [q, q2]; rfl) | (simp only [q, q2, q3]; rfl), (by have h1 := HBel.out; repeat (first | exact h1 | apply below_alloc | (refine Below.setCell ?_ h1.size _)))⟩
          · cases q2 : al 2
            · go_wp2_with (first | (go_at_call 88; refine (HAll.out _ _ (by have h1 := Below.refl wr.heap.size wr; repeat (first | exact h1 | apply below_alloc | (refine Below.setCell ?_ h1.size _)))).mono ?_; rintro e w4 ⟨rfl, hb4⟩; have HB4 : Aside0 (Below wr.heap.size wr w4) := ⟨below_then (by have h1 := Below.refl wr.heap.size wr; repeat (first | exact h1 | apply below_alloc | (refine Below.setCell ?_ h1.size _))) (Below.size (by have h1 := Below.refl wr.heap.size wr; repeat (first | exact h1 | apply below_alloc | (refine Below.setCell ?_ h1.size _)))) hb4⟩; have k2c := (HB4.out.cell (Rep.lt_of_cell? HK2b.out)).trans HK2b.out; clear hb4) | (go_at_call 88; first | ((refine (HAll.out _ _ HB4.out).mono ?_); rintro e w4 ⟨rfl, hb4⟩; have HB4 := Aside0.mk (below_then HB4.out HB4.out.size hb4); clear hb4)))
              go_ret
              exact ⟨by rw [HRes.out]; first | rfl | (simp only [q]; rfl) | (simp only [q, q2]; rfl) | (simp only [q, q2, q3]; rfl), (below_then HBel.out HBel.out.size HB4.out)⟩
            · go_wp2_with (go_at_call 88; refine (HAll.out _ _ (by have h1 := Below.refl wr.heap.size wr; repeat (first | exact h1 | apply below_alloc | (refine Below.setCell ?_ h1.size _)))).mono ?_; rintro e w4 ⟨rfl, hb4⟩; have HB4 : Aside0 (Below wr.heap.size wr w4) := ⟨below_then (by have h1 := Below.refl wr.heap.size wr; repeat (first | exact h1 | apply below_alloc | (refine Below.setCell ?_ h1.size _))) (Below.size (by have h1 := Below.refl wr.heap.size wr; repeat (first | exact h1 | apply below_alloc | (refine Below.setCell ?_ h1.size _)))) hb4⟩; have k2c := (HB4.out.cell (Rep.lt_of_cell? HK2b.out)).trans HK2b.out; clear hb4)
              go_ret
              exact ⟨by rw [HRes.out]; first | rfl | (simp only [q]; rfl) | (simp only [q, q2]; rfl) | (simp only [q, q2, q3]; rfl), (below_then HBel.out HBel.out.size HB4.out)⟩
      by_cases o5 : n.f0 = 18 ∨ n.f0 = 19 ∨ n.f0 = 20 ∨ n.f0 = 21
      · have hres := HFB.out
        rw [if_neg o1, if_neg o2, if_neg o3, if_neg o4, if_pos o5] at hres
        have HRes := Aside0.mk hres
        clear hres
        rcases o5 with hf | hf | hf | hf
        all_goals
          rw [hf] at hx0 k5a k2a
          cases q : ((ss.length : Int) == 2)
          · go_wp2
            go_ret
            exact ⟨by rw [HRes.out]; first | rfl | (simp only [q]; rfl) | (simp only [q, q2]; rfl) | (simp only [q, q2, q3]; rfl), (by have h1 := HBel.out; repeat (first | exact h1 | apply below_alloc | (refine Below.setCell ?_ h1.size _)))⟩
          · go_wp2_with (go_at_call 88; refine (HAll.out _ _ (by have h1 := Below.refl wr.heap.size wr; repeat (first | exact h1 | apply below_alloc | (refine Below.setCell ?_ h1.size _)))).mono ?_; rintro e w4 ⟨rfl, hb4⟩; have HB4 : Aside0 (Below wr.heap.size wr w4) := ⟨below_then (by have h1 := Below.refl wr.heap.size wr; repeat (first | exact h1 | apply below_alloc | (refine Below.setCell ?_ h1.size _))) (Below.size (by have h1 := Below.refl wr.heap.size wr; repeat (first | exact h1 | apply below_alloc | (refine Below.setCell ?_ h1.size _)))) hb4⟩; have k2c := (HB4.out.cell (Rep.lt_of_cell? HK2b.out)).trans HK2b.out; clear hb4)
            go_ret
            exact ⟨by rw [HRes.out]; first | rfl | (simp only [q]; rfl) | (simp only [q, q2]; rfl) | (simp only [q, q2, q3]; rfl), (below_then HBel.out HBel.out.size HB4.out)⟩
      by_cases o6 : n.f0 = 22
      · have hres := HFB.out
        rw [if_neg o1, if_neg o2, if_neg o3, if_neg o4, if_neg o5, if_pos o6] at hres
        have HRes := Aside0.mk hres
        clear hres
        rw [o6] at hx0 k5a k2a
        cases q : decide ((ss.length : Int) ≥ 2)
        · go_wp2
          go_ret
          exact ⟨by rw [HRes.out]; first | rfl | (simp only [q]; rfl) | (simp only [q, q2]; rfl) | (simp only [q, q2, q3]; rfl), (by have h1 := HBel.out; repeat (first | exact h1 | apply below_alloc | (refine Below.setCell ?_ h1.size _)))⟩
        · cases q2 : decide ((ss.length : Int) ≤ 65)
          · go_wp2
            go_ret
            exact ⟨by rw [HRes.out]; first | rfl | (simp only [q]; rfl) | (simp only [q, q2]; rfl) | (simp only [q, q2, q3]; rfl), (by have h1 := HBel.out; repeat (first | exact h1 | apply below_alloc | (refine Below.setCell ?_ h1.size _)))⟩
          · cases q3 : al 2
            · go_wp2_with (go_at_call 88; refine (HAll.out _ _ (by have h1 := Below.refl wr.heap.size wr; repeat (first | exact h1 | apply below_alloc | (refine Below.setCell ?_ h1.size _)))).mono ?_; rintro e w4 ⟨rfl, hb4⟩; have HB4 : Aside0 (Below wr.heap.size wr w4) := ⟨below_then (by have h1 := Below.refl wr.heap.size wr; repeat (first | exact h1 | apply below_alloc | (refine Below.setCell ?_ h1.size _))) (Below.size (by have h1 := Below.refl wr.heap.size wr; repeat (first | exact h1 | apply below_alloc | (refine Below.setCell ?_ h1.size _)))) hb4⟩; have k2c := (HB4.out.cell (Rep.lt_of_cell? HK2b.out)).trans HK2b.out; clear hb4)
              go_ret
              exact ⟨by rw [HRes.out]; first | rfl | (simp only [q]; rfl) | (simp only [q, q2]; rfl) | (simp only [q, q2, q3]; rfl), (below_then HBel.out HBel.out.size HB4.out)⟩
            · have hp2 : 2 ≤ places.length := by have h1 := HSl.out; have h2 := of_decide_eq_true q; omega
              have hm1 : (1 : Int) ≤ (places.length : Int) := by omega
              have hm0 : (0 : Int) < (places.length : Int) := by omega
              go_wp2_with (first
                | (go_at_call 88; refine (HAll.out _ _ (by have h1 := Below.refl wr.heap.size wr; repeat (first | exact h1 | apply below_alloc | (refine Below.setCell ?_ h1.size _)))).mono ?_; rintro e w4 ⟨rfl, hb4⟩; have HB4 : Aside0 (Below wr.heap.size wr w4) := ⟨below_then (by have h1 := Below.refl wr.heap.size wr; repeat (first | exact h1 | apply below_alloc | (refine Below.setCell ?_ h1.size _))) (Below.size (by have h1 := Below.refl wr.heap.size wr; repeat (first | exact h1 | apply below_alloc | (refine Below.setCell ?_ h1.size _)))) hb4⟩; have k2c := (HB4.out.cell (Rep.lt_of_cell? HK2b.out)).trans HK2b.out; clear hb4)
                | (go_at_call 59; refine (HK2.out _ (below_then HBel.out HBel.out.size HB4.out)).mono ?_; rintro e w6 ⟨v0, rfl, ho, hb6⟩; obtain ⟨B2, d2, rfl, hle2, hr2⟩ := Kd.R_reads ho; have HB6 := Aside0.mk (below_then HB4.out HB4.out.size hb6); obtain ⟨ae2, hB2, _⟩ := Kd.at_int hr2 0 (by omega) (by omega); subst hB2; obtain ⟨g2, hg2⟩ := Kd.R_head ho; subst hg2; have HR2 := Aside0.mk hr2; have hd2 : ¬ d2 = 1 := (by omega); have hd3 : (places.length : Int) ≤ (d2 : Int) := (by omega); have hk6 := (HB6.out.cell (Rep.lt_of_cell? HK2b.out)).trans HK2b.out; clear ho hb6 hr2)
                | (go_at_call 92; refine (tag_any (some ad) c l places (fun p hp => (HS.out p hp).1) hpl g2 _ w.heap.size _ (Kd.C_below HR.out (below_then HBel.out HBel.out.size HB6.out)) hk6 HR2.out).mono ?_; rintro e w7 ⟨rfl, hb7⟩; have HB7 := Aside0.mk (below_then HB6.out HB6.out.size hb7); clear hb7))
              go_ret
              exact ⟨by rw [HRes.out, ← HTg.out]; simp only [q, q2, q3, List.drop_one]; rfl, below_then HBel.out HBel.out.size HB7.out⟩
      have hres := HFB.out
      rw [if_neg o1, if_neg o2, if_neg o3, if_neg o4, if_neg o5, if_neg o6] at hres
      have HRes := Aside0.mk hres
      clear hres
      have e11 : (n.f0 == 11) = false := by simp; omega
      have e12 : (n.f0 == 12) = false := by simp; omega
      have e13 : (n.f0 == 13) = false := by simp; omega
      have e14 : (n.f0 == 14) = false := by simp; omega
      have e15 : (n.f0 == 15) = false := by simp; omega
      have e16 : (n.f0 == 16) = false := by simp; omega
      have e17 : (n.f0 == 17) = false := by simp; omega
      have e18 : (n.f0 == 18) = false := by simp; omega
      have e19 : (n.f0 == 19) = false := by simp; omega
      have e20 : (n.f0 == 20) = false := by simp; omega
      have e21 : (n.f0 == 21) = false := by simp; omega
      have e22 : (n.f0 == 22) = false := by simp; omega
      have e23 : (n.f0 == 23) = false := by simp; omega
      have e24 : (n.f0 == 24) = false := by simp; omega
      have e25 : (n.f0 == 25) = false := by simp; omega
      have e26 : (n.f0 == 26) = false := by simp; omega
      clear o1 o2 o3 o4 o5 o6
      go_wp2
      go_ret
      exact ⟨by rw [HRes.out]; first | rfl | (simp only [q]; rfl) | (simp only [q, q2]; rfl) | (simp only [q, q2, q3]; rfl), (by have h1 := HBel.out; repeat (first | exact h1 | apply below_alloc | (refine Below.setCell ?_ h1.size _)))⟩
end Go.Proofs.YtlbjfomcgbiagaaGreatDoor.Fits
