import Derived.Test.YtldhedlleefkcaaGreatDoorO4
set_option linter.unusedVariables false
set_option linter.unusedSimpArgs false
namespace Go.Am
open Go

/-! What the book holds: four rows of rows, each list in blocks of a colour of its own. Colours: k + 1 the k-th row itself, 5 the book's block, 10 + 4 i + k the i-th list of the k-th row, 0 what is kept. -/

def up {α : Type} (f : Nat → α) (k : Nat) (a : α) : Nat → α := fun j => if j = k then a else f j
theorem up_eq {α : Type} {f : Nat → α} {k : Nat} {a : α} : up f k a k = a := if_pos rfl
theorem up_ne {α : Type} {f : Nat → α} {k j : Nat} {a : α} (h : j ≠ k) : up f k a j = f j := if_neg h
abbrev nil1 : Value := .slice none 0 0
/-- The book's cells. -/
abbrev bookC (v : Nat → Value) : List Value := [nil1, nil1, v 0, nil1, nil1, nil1, nil1, nil1, v 1, v 2, nil1, nil1, nil1, nil1, nil1, nil1, nil1, nil1, nil1, nil1, nil1, v 3, nil1, nil1, nil1, nil1, nil1, nil1]
/-- How many cells a place of the k-th kind has. -/
def szK : Nat → Nat
  | 0 => 1
  | 1 => 6
  | 2 => 2
  | _ => 4

structure Man (H : AH) (col : Nat → Nat) (k : Nat) (w : List Value) (y : List (List (List Value))) : Prop where
  len : w.length = y.length
  each : ∀ (i : Nat) (x : Value) (ys : List (List Value)), w[i]? = some x → y[i]? = some ys → GrP H (fun b => col b = 10 + 4 * i + k) (szK k) x ys
  rows : ∀ (i : Nat) (ys : List (List Value)), y[i]? = some ys → ∀ z ∈ ys, z.length = szK k

structure Bk0 (H : AH) (col : Nat → Nat) (B : Nat) (v : Nat → Value) (w : Nat → List Value) : Prop where
  low : H.base ≤ B
  lt : B < H.next
  colB : col B = 5
  blk : H.blk.get B = some (.cells (bookC v) 0 .solo)
  own : ∀ k, k < 4 → GrP H (fun b => col b = k + 1) 1 (v k) ((w k).map fun x => [x])

def Bk (H : AH) (col : Nat → Nat) (B : Nat) (w : Nat → List Value) (y : Nat → List (List (List Value))) : Prop :=
  (∃ v, Bk0 H col B v w) ∧ ∀ k, k < 4 → Man H col k (w k) (y k)

/-- From one heap to a later one: colours stay, and what has colour 0 or a list's. -/
structure Kp (H : AH) (col : Nat → Nat) (H' : AH) (col' : Nat → Nat) : Prop where
  next : H.next ≤ H'.next
  base : H'.base = H.base
  col : ∀ b, b < H.next → col' b = col b
  agr : ∀ d, (d = 0 ∨ 10 ≤ d) → Agr (fun b => col' b = d) H H'

theorem Kp.refl (H : AH) (col : Nat → Nat) : Kp H col H col := ⟨Nat.le_refl _, rfl, fun _ _ => rfl, fun _ _ => Agr.refl _ _⟩
theorem Agr.imp2 {p q : Nat → Prop} {H H' : AH} (h : Agr p H H') (hq : ∀ b, b < H.next → q b → p b) : Agr q H H' := ⟨h.next, h.base, fun b hb hp => h.blk b hb (hq b hb hp), fun f hf hp => h.fam f hf (hq f hf hp)⟩
theorem Kp.trans {H H1 H2 : AH} {col col1 col2 : Nat → Nat} (h : Kp H col H1 col1) (h' : Kp H1 col1 H2 col2) : Kp H col H2 col2 :=
  ⟨Nat.le_trans h.next h'.next, h'.base.trans h.base, fun b hb => (h'.col b (Nat.lt_of_lt_of_le hb h.next)).trans (h.col b hb), fun d hd =>
    ((h.agr d hd).imp2 fun b hb e => by rw [← h'.col b (Nat.lt_of_lt_of_le hb h.next)]; exact e).trans (h'.agr d hd)⟩
theorem Kp.grp {H H' : AH} {col col' : Nat → Nat} (h : Kp H col H' col') {d s : Nat} (hd : d = 0 ∨ 10 ≤ d) {v : Value} {xs : List (List Value)} (hg : GrP H (fun b => col b = d) s v xs) : GrP H' (fun b => col' b = d) s v xs :=
  (hg.imp (q := fun b => col' b = d) fun b hb e => by rw [h.col b hb]; exact e).mono (h.agr d hd)
theorem Kp.rdb {H H' : AH} {col col' : Nat → Nat} (h : Kp H col H' col') {d s : Nat} (hd : d = 0 ∨ 10 ≤ d) {v : Value} {xs : List (List Value)} (hg : RdB H (fun b => col b = d) s v xs) : RdB H' (fun b => col' b = d) s v xs :=
  (hg.imp (q := fun b => col' b = d) fun b hb e => by rw [h.col b hb]; exact e).mono (h.agr d hd)
/-- What is new has any colours. -/
theorem Kp.ext {H H' : AH} (hx : Ext H H') {col col' : Nat → Nat} (hc : ∀ b, b < H.next → col' b = col b) : Kp H col H' col' := ⟨hx.next, hx.base, hc, fun d _ => hx.agr _⟩
theorem Man.ext {H H' : AH} (hx : Ext H H') {col col' : Nat → Nat} (hc : ∀ b, b < H.next → col' b = col b) {k : Nat} {w : List Value} {y : List (List (List Value))} (h : Man H col k w y) : Man H' col' k w y :=
  ⟨h.len, fun i x ys h1 h2 => ((h.each i x ys h1 h2).imp (q := fun b => col' b = 10 + 4 * i + k) fun b hb e => by rw [hc b hb]; exact e).mono (hx.agr _), h.rows⟩
theorem Bk.ext {H H' : AH} (hx : Ext H H') {col col' : Nat → Nat} (hc : ∀ b, b < H.next → col' b = col b) {B : Nat} {w : Nat → List Value} {y : Nat → List (List (List Value))} (h : Bk H col B w y) : Bk H' col' B w y := by
  obtain ⟨⟨v, h1⟩, h2⟩ := h
  exact ⟨⟨v, by rw [hx.base]; exact h1.low, Nat.lt_of_lt_of_le h1.lt hx.next, by rw [hc B h1.lt]; exact h1.colB, (hx.blk B h1.lt).trans h1.blk,
    fun k hk => ((h1.own k hk).imp (q := fun b => col' b = k + 1) fun b hb e => by rw [hc b hb]; exact e).mono (hx.agr _)⟩, fun k hk => (h2 k hk).ext hx hc⟩
theorem Man.kp {H H' : AH} {col col' : Nat → Nat} (hk : Kp H col H' col') {k : Nat} {w : List Value} {y : List (List (List Value))} (h : Man H col k w y) : Man H' col' k w y :=
  ⟨h.len, fun i x ys h1 h2 => hk.grp (.inr (by omega)) (h.each i x ys h1 h2), h.rows⟩
theorem Man.snoc {H : AH} {col : Nat → Nat} {k : Nat} {w : List Value} {y : List (List (List Value))} (h : Man H col k w y) {x : Value} {ys : List (List Value)} (hx : GrP H (fun b => col b = 10 + 4 * w.length + k) (szK k) x ys) (hs : ∀ z ∈ ys, z.length = szK k) : Man H col k (w ++ [x]) (y ++ [ys]) := by
  refine ⟨by simp [h.len], fun i x' ys' h1 h2 => ?_, fun i ys' h2 => ?_⟩
  · rcases Nat.lt_or_ge i w.length with hi | hi
    · rw [List.getElem?_append_left hi] at h1
      rw [List.getElem?_append_left (by rw [← h.len]; exact hi)] at h2
      exact h.each i x' ys' h1 h2
    · rw [List.getElem?_append_right hi] at h1
      rw [List.getElem?_append_right (by rw [← h.len]; exact hi)] at h2
      have e : i = w.length := by
        have := (List.getElem?_eq_some_iff.1 h1).1
        simp at this; omega
      subst e
      rw [Nat.sub_self] at h1
      rw [← h.len, Nat.sub_self] at h2
      cases h1; cases h2
      exact hx
  · rcases Nat.lt_or_ge i y.length with hi | hi
    · rw [List.getElem?_append_left hi] at h2
      exact h.rows i ys' h2
    · rw [List.getElem?_append_right hi] at h2
      cases List.mem_singleton.1 (List.mem_of_getElem? h2)
      exact hs

/-- One list more. -/
theorem Bk.take {P : Program} {t : TypeId} {H : AH} {col : Nat → Nat} {B k : Nat} {v : Nat → Value} {w : Nat → List Value} {y : Nat → List (List (List Value))} (hE : El P t 1 24) (h : Bk0 H col B v w) (hm : ∀ k, k < 4 → Man H col k (w k) (y k)) (hk : k < 4) {x : Value} {ys : List (List Value)}
    (hx : GrP H (fun b => col b = 10 + 4 * (w k).length + k) (szK k) x ys) (hs : ∀ z ∈ ys, z.length = szK k) (hn : (w k).length ≤ 4194304) (hb : H.base ≤ H.next) :
    ∃ v' G', aAppend P (H.new (.cells [x] 1 .solo)) [t, t] [v k, .slice (some ⟨H.next, 0, none⟩) 1 1] = some (v', G') ∧ G'.blk.get B = some (.cells (bookC v) 0 .solo) ∧ B < G'.next ∧ G'.base ≤ B ∧
      ∃ col', Bk (G'.upd B (.cells (bookC (up v k v')) 0 .solo)) col' B (up w k (w k ++ [x])) (up y k (y k ++ [ys])) ∧ Kp H col (G'.upd B (.cells (bookC (up v k v')) 0 .solo)) col' := by
  obtain ⟨a, hxv⟩ := hx.val
  have hone : oneCell x = true := by rw [hxv]; rfl
  have hx1 : Ext H (H.new (.cells [x] 1 .solo)) := Ext.new H _
  obtain ⟨v', G', h1, h2, h3, h4⟩ := append_col (col := col) (c := k + 1) hE ((h.own k hk).mono (hx1.agr _)) (fun z hz => by obtain ⟨_, _, rfl⟩ := List.mem_map.1 hz; rfl) (Rd.one (c := [x]) rfl) (by simp [hone]) (by simp only [List.length_map, List.length_singleton]; omega) (by simp only [new_base, new_next]; omega)
  have hlt := h.lt
  have hr : ∀ b, b < H.next → recol col (H.new (.cells [x] 1 .solo)).next (k + 1) b = col b := fun b hb => recol_lt (by simp only [new_next]; omega)
  have hBB : recol col (H.new (.cells [x] 1 .solo)).next (k + 1) B = 5 := (hr B hlt).trans h.colB
  have a5 := h4 5 (by omega)
  have hnG : H.next < G'.next := by have := a5.next; simp only [new_next] at this; omega
  have hG : G'.blk.get B = some (.cells (bookC v) 0 .solo) := (a5.blk B (by simp only [new_next]; omega) hBB).trans ((hx1.blk B hlt).trans h.blk)
  have hu : ∀ d, d ≠ 5 → Agr (fun b => recol col (H.new (.cells [x] 1 .solo)).next (k + 1) b = d) G' (G'.upd B (.cells (bookC (up v k v')) 0 .solo)) := fun d hd => Agr.upd _ (fun e => hd (e.symm.trans hBB)) _
  have hkp : Kp H col (G'.upd B (.cells (bookC (up v k v')) 0 .solo)) (recol col (H.new (.cells [x] 1 .solo)).next (k + 1)) := by
    refine ⟨by simp only [upd_next]; omega, by simp only [upd_base]; exact a5.base, hr, fun d hd => ((hx1.agr _).trans (h4 d (by omega))).trans (hu d (by omega))⟩
  refine ⟨v', G', h1, hG, by omega, by rw [a5.base]; exact h.low, _, ⟨⟨up v k v', ?_, ?_, hBB, ?_, fun j hj => ?_⟩, fun j hj => ?_⟩, hkp⟩
  · rw [hkp.base]; exact h.low
  · exact Nat.lt_of_lt_of_le hlt hkp.next
  · exact get_upd_eq rfl
  · by_cases e : j = k
    · subst e
      rw [up_eq, up_eq, List.map_append]
      exact h2.mono (hu _ (by omega))
    · rw [up_ne e, up_ne e]
      refine GrP.mono (hu _ (by omega)) (GrP.mono (h4 _ (by omega)) (GrP.mono (hx1.agr _) ((h.own j hj).imp fun b hb e => ?_)))
      rw [hr b hb]; exact e
  · by_cases e : j = k
    · subst e
      rw [up_eq, up_eq]
      exact ((hm j hj).kp hkp).snoc (hkp.grp (.inr (by omega)) hx) hs
    · rw [up_ne e, up_ne e]
      exact (hm j hj).kp hkp

/-- The colours of a kind's lists. -/
def colK (col : Nat → Nat) (k : Nat) : Nat → Nat := fun b => if 10 ≤ col b ∧ (col b - 10) % 4 = k then (col b - 10) / 4 + 1 else 0
theorem colK_eq {col : Nat → Nat} {k i b : Nat} (hk : k < 4) (h : col b = 10 + 4 * i + k) : colK col k b = i + 1 := by
  unfold colK
  rw [if_pos (by omega), h]
  omega
theorem colK_zero {col : Nat → Nat} {k b : Nat} (h : ¬ (10 ≤ col b ∧ (col b - 10) % 4 = k)) : colK col k b = 0 := if_neg h
theorem Man.many {H : AH} {col : Nat → Nat} {k : Nat} {w : List Value} {y : List (List (List Value))} (hk : k < 4) (h : Man H col k w y) : Many H (colK col k) (szK k) w y :=
  ⟨h.len, fun i x ys h1 h2 => (h.each i x ys h1 h2).imp fun b _ e => colK_eq hk e, h.rows⟩
theorem Man.other {H H' : AH} {col : Nat → Nat} {k j : Nat} {w : List Value} {y : List (List (List Value))} (hk : k < 4) (hj : j < 4) (hne : j ≠ k) (ha : Agr (fun b => colK col k b = 0) H H') (h : Man H col j w y) : Man H' col j w y :=
  ⟨h.len, fun i x ys h1 h2 => (h.each i x ys h1 h2).mono (ha.imp fun b e => colK_zero (by omega)), h.rows⟩
theorem Bk0.other {H H' : AH} {col : Nat → Nat} {k B : Nat} {v : Nat → Value} {w : Nat → List Value} (ha : Agr (fun b => colK col k b = 0) H H') (h : Bk0 H col B v w) : Bk0 H' col B v w := by
  have e : ∀ b, col b < 10 → colK col k b = 0 := fun b hb => colK_zero (by omega)
  exact ⟨by rw [ha.base]; exact h.low, Nat.lt_of_lt_of_le h.lt ha.next, h.colB, (ha.blk B h.lt (e B (by have := h.colB; omega))).trans h.blk, fun j hj => (h.own j hj).mono (ha.imp fun b hb => e b (by omega))⟩
theorem Bk0.rdb {H : AH} {col : Nat → Nat} {k j B : Nat} {v : Nat → Value} {w : Nat → List Value} (hj : j < 4) (h : Bk0 H col B v w) : RdB H (fun b => colK col k b = 0) 1 (v j) ((w j).map fun x => [x]) :=
  ((h.own j hj).rdb fun z hz => by obtain ⟨_, _, rfl⟩ := List.mem_map.1 hz; rfl).imp fun b _ e => colK_zero (by omega)
end Go.Am
