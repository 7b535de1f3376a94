/- The abstract machine: heaps by their facts: what is read, stored, appended. -/
import Derived.Test.YthfkednlgehchaaGreatDoorAm3
set_option linter.unusedVariables false
set_option linter.unusedSimpArgs false
/-! Heaps that grow, block by block: what is read and stored behind new blocks; slices that can be read. -/
namespace Go.Am
open Go

/-- A block in another one's place. -/
def AH.upd (H : AH) (b : Nat) (k : Blk) : AH := { H with blk := H.blk.set b k }

section
variable {H : AH} {b b0 o n e : Nat} {k : Blk} {c : List Value}
theorem new_next : (H.new k).next = H.next + 1 := rfl
theorem new_base : (H.new k).base = H.base := rfl
theorem new_fam : (H.new k).fam = H.fam := rfl
theorem upd_next : (H.upd b k).next = H.next := rfl
theorem upd_base : (H.upd b k).base = H.base := rfl
theorem upd_fam : (H.upd b k).fam = H.fam := rfl
theorem wb_next {β : Nat} : (H.wb β).next = H.next := rfl
theorem get_new_eq (h : b = H.next) : (H.new k).blk.get b = some k := by subst h; rw [AH.new_blk, if_pos rfl]
theorem get_new_ne (h : b < H.next) : (H.new k).blk.get b = H.blk.get b := by rw [AH.new_blk, if_neg (by omega)]
theorem get_upd_eq (h : b = b0) : (H.upd b0 k).blk.get b = some k := by subst h; exact T.get_set_same ..
theorem get_upd_ne (h : b ≠ b0) : (H.upd b0 k).blk.get b = H.blk.get b := T.get_set_ne _ _ (fun e => h e.symm)

theorem row_same {H H' : AH} (h : H'.blk.get b = H.blk.get b) (hf : H'.fam = H.fam) : H'.row b = H.row b := by
  unfold AH.row AH.okR; rw [h, hf]
theorem cell_same {H H' : AH} (h : H'.row b = H.row b) (o : Nat) : H'.cell b o = H.cell b o := by unfold AH.cell; rw [h]
theorem loads_same {H H' : AH} (h : H'.row b = H.row b) : ∀ (n o : Nat), H'.loads b o n = H.loads b o n := by
  intro n
  induction n with
  | zero => intro o; rfl
  | succ n ih => intro o; unfold AH.loads; rw [cell_same h, ih]

theorem row_new_ne (h : b < H.next) : (H.new k).row b = H.row b := row_same (get_new_ne h) rfl
theorem row_upd_ne (h : b ≠ b0) : (H.upd b0 k).row b = H.row b := row_same (get_upd_ne h) rfl
theorem row_new_eq (h : b = H.next) : (H.new (.cells c e .solo)).row b = some c := by unfold AH.row; rw [get_new_eq h]; rfl
theorem row_upd_eq (h : b = b0) : (H.upd b0 (.cells c e .solo)).row b = some c := by unfold AH.row; rw [get_upd_eq h]; rfl

theorem cell_new_ne (h : b < H.next) : (H.new k).cell b o = H.cell b o := cell_same (row_new_ne h) o
theorem cell_upd_ne (h : b ≠ b0) : (H.upd b0 k).cell b o = H.cell b o := cell_same (row_upd_ne h) o
theorem cell_new_eq (h : b = H.next) : (H.new (.cells c e .solo)).cell b o = c[o]? := AH.cell_row (row_new_eq h)
theorem cell_upd_eq (h : b = b0) : (H.upd b0 (.cells c e .solo)).cell b o = c[o]? := AH.cell_row (row_upd_eq h)
theorem loads_new_ne (h : b < H.next) : (H.new k).loads b o n = H.loads b o n := loads_same (row_new_ne h) n o
theorem loads_upd_ne (h : b ≠ b0) : (H.upd b0 k).loads b o n = H.loads b o n := loads_same (row_upd_ne h) n o
theorem loads_new_eq (h : b = H.next) (hn : o + n ≤ c.length) : (H.new (.cells c e .solo)).loads b o n = some ((c.drop o).take n) := AH.loads_row (row_new_eq h) n o hn
theorem loads_upd_eq (h : b = b0) (hn : o + n ≤ c.length) : (H.upd b0 (.cells c e .solo)).loads b o n = some ((c.drop o).take n) := AH.loads_row (row_upd_eq h) n o hn

/-! stores -/
theorem stores_of {xs : List Value} (hb : H.blk.get b = some (.cells c e .solo)) (hbase : H.base ≤ b) (hx : xs.all oneCell = true) (hl : o + xs.length ≤ c.length) :
    H.stores b o xs = some (H.upd b (.cells (splice c o xs) e .solo)) := by
  unfold AH.stores
  rw [hb]
  simp only [AH.okW]
  rw [Nat.ble_eq_true_of_le hbase, hx, Nat.ble_eq_true_of_le hl]
  rfl
theorem new_upd (h : b = H.next) {k' : Blk} : (H.new k).upd b k' = H.new k' := by
  subst h
  unfold AH.new AH.upd
  simp only [AH.mk.injEq, and_true]
  exact T.set_set ..
theorem upd_new (h : b < H.next) {k' : Blk} : (H.new k).upd b k' = (H.upd b k').new k := by
  unfold AH.new AH.upd
  simp only [AH.mk.injEq, and_true]
  exact T.set_comm _ _ _ _ _ (by omega)
theorem upd_upd (h : b = b0) {k' : Blk} : (H.upd b0 k).upd b k' = H.upd b k' := by
  subst h
  unfold AH.upd
  simp only [AH.mk.injEq, and_true]
  exact T.set_set ..
theorem stores_new_eq {xs : List Value} (h : b = H.next) (hbase : H.base ≤ H.next) (hx : xs.all oneCell = true) (hl : o + xs.length ≤ c.length) :
    (H.new (.cells c e .solo)).stores b o xs = some (H.new (.cells (splice c o xs) e .solo)) := by
  rw [stores_of (get_new_eq h) (by rw [new_base]; omega) hx hl, new_upd h]
theorem stores_new_ne {xs : List Value} (h : b < H.next) : (H.new k).stores b o xs = (H.stores b o xs).map (fun H' => H'.new k) := by
  unfold AH.stores
  rw [get_new_ne h]
  cases hb : H.blk.get b with
  | none => rfl
  | some j =>
    cases j with
    | cells c e w =>
      simp only
      have hw : (H.new k).okW b w = H.okW b w := by cases w <;> rfl
      rw [hw]
      cases (H.okW b w && xs.all oneCell && (o + xs.length).ble c.length) with
      | false => rfl
      | true =>
        simp only [Option.map_some, Option.some.injEq]
        cases w with
        | fam f v =>
          unfold AH.put AH.new
          simp only [AH.mk.injEq, and_true]
          exact T.set_comm _ _ _ _ _ (by omega)
        | ext => exact upd_new h
        | solo => exact upd_new h
    | map es cl m => rfl
    | siter s p m => rfl
    | miter a s l t m => rfl
end

theorem stores_upd_ne {H : AH} {b b0 o : Nat} {k : Blk} {xs : List Value} (h : b ≠ b0) : (H.upd b0 k).stores b o xs = (H.stores b o xs).map (fun H' => H'.upd b0 k) := by
  unfold AH.stores
  rw [get_upd_ne h]
  cases hb : H.blk.get b with
  | none => rfl
  | some j =>
    cases j with
    | cells c e w =>
      simp only
      have hw : (H.upd b0 k).okW b w = H.okW b w := by cases w <;> rfl
      rw [hw]
      cases (H.okW b w && xs.all oneCell && (o + xs.length).ble c.length) with
      | false => rfl
      | true =>
        simp only [Option.map_some, Option.some.injEq]
        cases w with
        | fam f v =>
          unfold AH.put AH.upd
          simp only [AH.mk.injEq, and_true]
          exact T.set_comm _ _ _ _ _ (fun e => h e.symm)
        | ext =>
          unfold AH.put AH.upd
          simp only [AH.mk.injEq, and_true]
          exact T.set_comm _ _ _ _ _ (fun e => h e.symm)
        | solo =>
          unfold AH.put AH.upd
          simp only [AH.mk.injEq, and_true]
          exact T.set_comm _ _ _ _ _ (fun e => h e.symm)
    | map es cl m => rfl
    | siter s p m => rfl
    | miter a s l t m => rfl

/-! ### what a later heap keeps -/

theorem Ext.new (H : AH) (k : Blk) : Ext H (H.new k) := ⟨Nat.le_succ _, rfl, fun b hb => get_new_ne hb, fun _ _ => rfl⟩
theorem Ext.step {H H1 : AH} (h : Ext H H1) (k : Blk) : Ext H (H1.new k) := h.trans (Ext.new H1 k)
theorem Ext.upd {H H1 : AH} (h : Ext H H1) {b : Nat} (hb : H.next ≤ b) (k : Blk) : Ext H (H1.upd b k) :=
  ⟨h.next, h.base, fun j hj => (get_upd_ne (by omega)).trans (h.blk j hj), h.fam⟩
theorem Ext.wb {H H1 : AH} {β : Nat} (h : Ext (H.wb β) H1) : Ext H (H1.wb H.base) := ⟨h.next, rfl, h.blk, h.fam⟩

/-- A block of one's own in a heap: what is read and stored there. -/
theorem box_facts {G : AH} {b e : Nat} {c : List Value} (hk : G.blk.get b = some (.cells c e .solo)) (hb : b < G.next) :
    G.blk.get b = some (.cells c e .solo) ∧ b < G.next ∧ (∀ o, G.cell b o = c[o]?) ∧ (∀ o n, o + n ≤ c.length → G.loads b o n = some ((c.drop o).take n)) ∧
      ∀ o xs, G.base ≤ b → xs.all oneCell = true → o + xs.length ≤ c.length → G.stores b o xs = some (G.upd b (.cells (splice c o xs) e .solo)) := by
  have hr : G.row b = some c := by unfold AH.row; rw [hk]; rfl
  exact ⟨hk, hb, fun o => AH.cell_row hr, fun o n h => AH.loads_row hr n o h, fun o xs h1 h2 h3 => stores_of hk h1 h2 h3⟩
theorem Ext.box {H G : AH} (hx : Ext H G) {b e : Nat} {c : List Value} (hb : b < H.next) (hk : H.blk.get b = some (.cells c e .solo)) :
    G.blk.get b = some (.cells c e .solo) ∧ b < G.next ∧ (∀ o, G.cell b o = c[o]?) ∧ (∀ o n, o + n ≤ c.length → G.loads b o n = some ((c.drop o).take n)) ∧
      ∀ o xs, G.base ≤ b → xs.all oneCell = true → o + xs.length ≤ c.length → G.stores b o xs = some (G.upd b (.cells (splice c o xs) e .solo)) :=
  box_facts ((hx.blk b hb).trans hk) (Nat.lt_of_lt_of_le hb hx.next)

/-- A row whose cells can be read, now and in any later heap. -/
def Own.sure (H : AH) : Own → Prop
  | .ext => True
  | .solo => True
  | .fam f v => f < H.next ∧ ∃ u l, H.fam.get f = some (u, l) ∧ l ≤ v

theorem Own.sure.okR {H : AH} {w : Own} (h : w.sure H) : H.okR w = true := by
  cases w with
  | ext => rfl
  | solo => rfl
  | fam f v =>
    obtain ⟨_, u, l, h1, h2⟩ := h
    simp only [AH.okR, h1]
    exact Nat.ble_eq_true_of_le h2
theorem Own.sure.mono {H H' : AH} (hx : Ext H H') {w : Own} (h : w.sure H) : w.sure H' := by
  cases w with
  | ext => trivial
  | solo => trivial
  | fam f v =>
    obtain ⟨h0, u, l, h1, h2⟩ := h
    exact ⟨Nat.lt_of_lt_of_le h0 hx.next, u, l, (hx.fam f h0).trans h1, h2⟩

/-- A slice that can be read: its elements, s cells each. -/
def Rd (H : AH) (s : Nat) (v : Value) (xs : List (List Value)) : Prop :=
  ∃ a cap, v = .slice a xs.length cap ∧ (xs = [] ∨ ∃ b o c e w, a = some ⟨b, o, none⟩ ∧ b < H.next ∧ H.blk.get b = some (.cells c e w) ∧ w.sure H ∧
    ∀ i x, xs[i]? = some x → x.length = s ∧ o + i * s + s ≤ c.length ∧ (c.drop (o + i * s)).take s = x)

theorem Rd.mono {H H' : AH} (hx : Ext H H') {s : Nat} {v : Value} {xs : List (List Value)} (h : Rd H s v xs) : Rd H' s v xs := by
  obtain ⟨a, cap, h1, h2⟩ := h
  refine ⟨a, cap, h1, ?_⟩
  rcases h2 with h2 | ⟨b, o, c, e, w, h2, h3, h4, h5, h6⟩
  · exact .inl h2
  · exact .inr ⟨b, o, c, e, w, h2, Nat.lt_of_lt_of_le h3 hx.next, (hx.blk b h3).trans h4, h5.mono hx, h6⟩

theorem Rd.wb {H : AH} {β s : Nat} {v : Value} {xs : List (List Value)} (h : Rd H s v xs) : Rd (H.wb β) s v xs := by
  obtain ⟨a, cap, h1, h2⟩ := h
  refine ⟨a, cap, h1, ?_⟩
  rcases h2 with h2 | ⟨b, o, c, e, w, h2, h3, h4, h5, h6⟩
  · exact .inl h2
  · refine .inr ⟨b, o, c, e, w, h2, h3, h4, ?_, h6⟩
    cases w <;> exact h5

/-- At a place: where it lies, and how it is read. -/
theorem Rd.at {H : AH} {s : Nat} {v : Value} {xs : List (List Value)} (h : Rd H s v xs) {i : Nat} {x : List Value} (hi : xs[i]? = some x) :
    ∃ b o cap, v = .slice (some ⟨b, o, none⟩) xs.length cap ∧ b < H.next ∧ x.length = s ∧ H.loads b (o + i * s) s = some x ∧ ∀ j, j < s → H.cell b (o + i * s + j) = x[j]? := by
  obtain ⟨a, cap, h1, h2⟩ := h
  rcases h2 with h2 | ⟨b, o, c, e, w, rfl, h3, h4, h5, h6⟩
  · subst h2; cases hi
  · obtain ⟨g1, g2, g3⟩ := h6 i x hi
    have hr : H.row b = some c := by unfold AH.row; rw [h4]; simp only [h5.okR]
    refine ⟨b, o, cap, h1, h3, g1, by rw [AH.loads_row hr s _ g2, g3], fun j hj => ?_⟩
    rw [AH.cell_row hr, ← g3, List.getElem?_take, if_pos hj, List.getElem?_drop]

/-- All of it, one behind the other. -/
theorem Rd.all {H : AH} {s : Nat} {v : Value} {xs : List (List Value)} (h : Rd H s v xs) (hne : xs ≠ []) :
    ∃ b o cap, v = .slice (some ⟨b, o, none⟩) xs.length cap ∧ H.loads b o (xs.length * s) = some xs.flatten ∧ xs.flatten.length = xs.length * s := by
  obtain ⟨a, cap, h1, h2⟩ := h
  rcases h2 with h2 | ⟨b, o, c, e, w, rfl, h3, h4, h5, h6⟩
  · exact absurd h2 hne
  · have hr : H.row b = some c := by unfold AH.row; rw [h4]; simp only [h5.okR]
    have key : ∀ (k i : Nat), i + k = xs.length → (i = xs.length ∨ o + xs.length * s ≤ c.length) ∧ (c.drop (o + i * s)).take (k * s) = (xs.drop i).flatten ∧ (xs.drop i).flatten.length = k * s := by
      intro k
      induction k with
      | zero => intro i hi; rw [show xs.drop i = [] from List.drop_of_length_le (by omega)]; exact ⟨.inl (by omega), by simp, by simp⟩
      | succ k ih =>
        intro i hi
        obtain ⟨k1, k2, k3⟩ := ih (i + 1) (by omega)
        obtain ⟨g1, g2, g3⟩ := h6 i (xs[i]'(by omega)) (List.getElem?_eq_getElem (by omega))
        rw [List.drop_eq_getElem_cons (i := i) (by omega), List.flatten_cons, ← k2]
        have e1 : (i + 1) * s = i * s + s := by rw [Nat.add_mul, Nat.one_mul]
        have e2 : (k + 1) * s = s + k * s := by rw [Nat.add_mul, Nat.one_mul, Nat.add_comm]
        refine ⟨?_, ?_, ?_⟩
        · right
          rcases k1 with k1 | k1
          · rw [← k1, e1]; omega
          · exact k1
        · rw [e2, List.take_add, g3, List.drop_drop, e1, Nat.add_assoc]
        · rw [List.length_append, g1, k2, k3, e2]
    obtain ⟨k1, k2, k3⟩ := key xs.length 0 (by omega)
    have hle : o + xs.length * s ≤ c.length := by
      rcases k1 with k1 | k1
      · exact absurd (List.eq_nil_of_length_eq_zero k1.symm) hne
      · exact k1
    refine ⟨b, o, cap, h1, ?_, by simpa using k3⟩
    rw [AH.loads_row hr _ _ hle]
    have : (c.drop o).take (xs.length * s) = xs.flatten := by simpa using k2
    rw [this]

/-- A row of one's own, that grows: n elements, and where its family begins. -/
def Gr (H : AH) (lo s : Nat) (v : Value) (xs : List (List Value)) : Prop :=
  (v = .slice none 0 0 ∧ xs = []) ∨
    ∃ b w, v = .slice (some ⟨b, 0, none⟩) xs.length xs.length ∧ lo ≤ b ∧ b < H.next ∧ H.blk.get b = some (.cells xs.flatten s w) ∧ xs.flatten.length = xs.length * s ∧
      (w = .solo ∨ ∃ f u l, w = .fam f u ∧ lo ≤ f ∧ f < H.next ∧ H.fam.get f = some (u, l) ∧ l ≤ u)

theorem Gr.nil (H : AH) (lo s : Nat) : Gr H lo s (.slice none 0 0) [] := .inl ⟨rfl, rfl⟩

theorem Gr.mono {H H' : AH} (hx : Ext H H') {lo s : Nat} {v : Value} {xs : List (List Value)} (h : Gr H lo s v xs) : Gr H' lo s v xs := by
  rcases h with h | ⟨b, w, h1, h2, h3, h4, h5, h6⟩
  · exact .inl h
  · refine .inr ⟨b, w, h1, h2, Nat.lt_of_lt_of_le h3 hx.next, (hx.blk b h3).trans h4, h5, ?_⟩
    rcases h6 with h6 | ⟨f, u, l, h6, h7, h8, h9, h10⟩
    · exact .inl h6
    · exact .inr ⟨f, u, l, h6, h7, Nat.lt_of_lt_of_le h8 hx.next, (hx.fam f h8).trans h9, h10⟩

theorem flat_at {xs : List (List Value)} {s : Nat} (hs : ∀ x ∈ xs, x.length = s) : ∀ (i : Nat) (x : List Value), xs[i]? = some x → i * s + s ≤ xs.flatten.length ∧ (xs.flatten.drop (i * s)).take s = x := by
  induction xs with
  | nil => intro i x h; cases h
  | cons y xs ih =>
    intro i x h
    have hy := hs y (by simp)
    cases i with
    | zero =>
      simp only [List.getElem?_cons_zero, Option.some.injEq] at h
      subst h
      simp only [Nat.zero_mul, List.flatten_cons, List.length_append, List.drop_zero, hy]
      refine ⟨by omega, ?_⟩
      rw [← hy, List.take_left']
      rfl
    | succ i =>
      obtain ⟨k1, k2⟩ := ih (fun z hz => hs z (by simp [hz])) i x (by simpa using h)
      have e1 : (i + 1) * s = y.length + i * s := by rw [Nat.add_mul, Nat.one_mul, Nat.add_comm, hy]
      rw [List.flatten_cons, List.length_append, e1]
      refine ⟨by omega, ?_⟩
      rw [← List.drop_drop, List.drop_left' rfl]
      exact k2

theorem Gr.rd {H : AH} {lo s : Nat} {v : Value} {xs : List (List Value)} (h : Gr H lo s v xs) (hs : ∀ x ∈ xs, x.length = s) : Rd H s v xs := by
  rcases h with ⟨h1, h2⟩ | ⟨b, w, h1, h2, h3, h4, h5, h6⟩
  · subst h2; exact ⟨none, 0, h1, .inl rfl⟩
  · refine ⟨_, _, h1, .inr ⟨b, 0, _, _, w, rfl, h3, h4, ?_, fun i x hi => ?_⟩⟩
    · rcases h6 with rfl | ⟨f, u, l, rfl, h7, h8, h9, h10⟩
      · trivial
      · exact ⟨h8, u, l, h9, h10⟩
    · obtain ⟨k1, k2⟩ := flat_at hs i x hi
      exact ⟨hs x (List.mem_of_getElem? hi), by rw [Nat.zero_add]; exact k1, by rw [Nat.zero_add]; exact k2⟩

/-! pieces for stepping -/
theorem res_fin {p : Prop} {P : Program} {fr : Fr} {H : AH} {rs : List ResultVar} {Q : List Value → Prop} {vs : List Value} (hp : p) (h : aResults P fr H rs = some vs) (hq : Q vs) : p ∧ ∃ vs, aResults P fr H rs = some vs ∧ Q vs := ⟨hp, vs, h, hq⟩
theorem aBin_int (P : Program) (op : BinOp) (t : TypeId) (xo yo : Operand) (k k' : IntKind) (a b : Int) : aBin P op t xo yo (.int k a) (.int k' b) = aInt op k a k' b := rfl
theorem aBin_str (P : Program) (op : BinOp) (t : TypeId) (xo yo : Operand) (a b : ByteArray) : aBin P op t xo yo (.string a) (.string b) = aStr op a b := rfl
theorem str_refl (a : ByteArray) : (a.data.toList == a.data.toList) = true := beq_self_eq_true _
theorem int_refl (a : Int) : (a == a) = true := beq_self_eq_true _
theorem int_nrefl (a : Int) : (a != a) = false := by simp

end Go.Am

/-! Rows that grow: append, in a heap that is known by its facts. -/
namespace Go.Am
open Go

/-- What append asks of a slice's type: how many cells and bytes an element has. -/
structure El (P : Program) (t : TypeId) (s by_ : Nat) : Prop where
  ex : ∃ e d, elemT P t = some e ∧ eszT P e = some s ∧ byT P e = some by_ ∧ undT P t = some d ∧ isIntD d = false
  s0 : 0 < s
  b0 : 0 < by_

def blkOf : Value → Option Nat
  | .slice (some a) _ _ => some a.block
  | _ => none

/-- What a later heap keeps, but for one block of one's own; lo: where one's own begins. -/
structure Frm (H H' : AH) (lo : Nat) (b0 : Option Nat) : Prop where
  next : H.next ≤ H'.next
  base : H'.base = H.base
  blk : ∀ b, b < H.next → b0 ≠ some b → H'.blk.get b = H.blk.get b
  low : ∀ b, b < lo → H'.blk.get b = H.blk.get b
  fam : ∀ f, f < lo → H'.fam.get f = H.fam.get f

theorem Frm.ext {H0 H H' : AH} {lo : Nat} {b0 : Option Nat} (h : Frm H H' lo b0) (hx : Ext H0 H) (hl : H0.next ≤ lo) : Ext H0 H' :=
  ⟨Nat.le_trans hx.next h.next, h.base.trans hx.base, fun b hb => (h.low b (by omega)).trans (hx.blk b hb), fun f hf => (h.fam f (by omega)).trans (hx.fam f hf)⟩
theorem Ext.frm {H H' : AH} (h : Ext H H') {lo : Nat} (hl : lo ≤ H.next) (b0 : Option Nat) : Frm H H' lo b0 :=
  ⟨h.next, h.base, fun b hb _ => h.blk b hb, fun b hb => h.blk b (by omega), fun f hf => h.fam f (by omega)⟩

theorem given_rd {H : AH} {s : Nat} {x : Value} {xs : List (List Value)} (h : Rd H s x xs) (hne : xs ≠ []) : aGiven H s xs.length x = some xs.flatten ∧ xs.flatten.length = xs.length * s ∧ lenOf x = some xs.length := by
  obtain ⟨b, o, cap, rfl, h1, h2⟩ := h.all hne
  exact ⟨h1, h2, rfl⟩
theorem len_rd {H : AH} {s : Nat} {x : Value} {xs : List (List Value)} (h : Rd H s x xs) : lenOf x = some xs.length := by
  obtain ⟨a, cap, rfl, _⟩ := h; rfl

section
variable {P : Program} {t : TypeId} {s by_ : Nat} {H : AH} {x : Value} {xs : List (List Value)}

/-- A row laid new: a copy. -/
theorem append_nil (hE : El P t s by_) (hr : Rd H s x xs) (hone : xs.flatten.all oneCell = true) (hsz : (2 * xs.length + 1000) * by_ ≤ 281474976710656) :
    ∃ v, aAppend P H [t, t] [.slice none 0 0, x] = some (v, if xs = [] then H else H.new (.cells xs.flatten s .solo)) ∧
      ((xs = [] ∧ v = .slice none 0 0) ∨ (xs ≠ [] ∧ v = .slice (some ⟨H.next, 0, none⟩) xs.length xs.length ∧ xs.flatten.length = xs.length * s)) := by
  obtain ⟨⟨e, d, h1, h2, h3, h4, h5⟩, s0, b0⟩ := hE
  have hl := len_rd hr
  by_cases hne : xs = []
  · subst hne
    refine ⟨.slice none 0 0, ?_, .inl ⟨rfl, rfl⟩⟩
    unfold aAppend
    simp only [h1, hl, h4, h2, h3, h5, List.length_nil, if_true]
  · obtain ⟨g1, g2, _⟩ := given_rd hr hne
    have hn : 0 < xs.length := List.length_pos_iff.2 hne
    have hc : (!(xs.flatten.length.beq (xs.length * s)) || !(xs.flatten.all oneCell) || s.beq 0 || by_.beq 0 || (281474976710656).blt ((2 * (0 + xs.length) + 1000) * by_)) = false := by
      rw [g2, Nat.beq_refl, hone, T.beq_f.2 (by omega), T.beq_f.2 (by omega), Nat.zero_add]
      simp only [Bool.not_true, Bool.or_self, Bool.false_or]
      rw [← Bool.not_eq_true]
      intro hb
      have : 281474976710656 + 1 ≤ (2 * xs.length + 1000) * by_ := Nat.le_of_ble_eq_true hb
      omega
    refine ⟨.slice (some ⟨H.next, 0, none⟩) xs.length xs.length, ?_, .inr ⟨hne, rfl, g2⟩⟩
    unfold aAppend
    simp only [h1, hl, h4, h2, h3, h5, T.beq_f.2 (show xs.length ≠ 0 by omega), g1, hc, if_neg hne]
    rfl

/-- A row of one's own grows. -/
theorem append_gr (hE : El P t s by_) {lo : Nat} {v : Value} {ys : List (List Value)} (hg : Gr H lo s v ys) (hr : Rd H s x xs) (hone : xs.flatten.all oneCell = true)
    (hsz : (2 * (ys.length + xs.length) + 1000) * by_ ≤ 281474976710656) (hlo : lo ≤ H.next) (hbase : H.base ≤ lo) :
    ∃ v' H', aAppend P H [t, t] [v, x] = some (v', H') ∧ Gr H' lo s v' (ys ++ xs) ∧ Frm H H' lo (blkOf v) := by
  rcases hg with ⟨rfl, rfl⟩ | ⟨b, w, rfl, k1, k2, k3, k4, k5⟩
  · obtain ⟨v', h1, h2⟩ := append_nil hE hr hone (by simpa using hsz)
    refine ⟨v', _, h1, ?_, ?_⟩
    · rcases h2 with ⟨rfl, rfl⟩ | ⟨hne, rfl, hl⟩
      · exact .inl ⟨rfl, rfl⟩
      · rw [if_neg hne]
        exact .inr ⟨H.next, .solo, rfl, hlo, Nat.lt_succ_self _, get_new_eq rfl, hl, .inl rfl⟩
    · split
      · exact (Ext.refl H).frm hlo _
      · exact (Ext.new H _).frm hlo _
  · obtain ⟨⟨e, d, h1, h2, h3, h4, h5⟩, s0, b0⟩ := hE
    have hl := len_rd hr
    by_cases hne : xs = []
    · subst hne
      refine ⟨.slice (some ⟨b, 0, none⟩) ys.length ys.length, H, ?_, ?_, (Ext.refl H).frm hlo _⟩
      · unfold aAppend
        simp only [h1, hl, h4, h2, h3, h5, List.length_nil]
      · rw [List.append_nil]
        exact .inr ⟨b, w, rfl, k1, k2, k3, k4, k5⟩
    · obtain ⟨g1, g2, _⟩ := given_rd hr hne
      have hn : 0 < xs.length := List.length_pos_iff.2 hne
      have hc : (!(xs.flatten.length.beq (xs.length * s)) || !(xs.flatten.all oneCell) || s.beq 0 || by_.beq 0 || (281474976710656).blt ((2 * (ys.length + xs.length) + 1000) * by_)) = false := by
        rw [g2, Nat.beq_refl, hone, T.beq_f.2 (by omega), T.beq_f.2 (by omega)]
        simp only [Bool.not_true, Bool.or_self, Bool.false_or]
        rw [← Bool.not_eq_true]
        intro hb
        have : 281474976710656 + 1 ≤ (2 * (ys.length + xs.length) + 1000) * by_ := Nat.le_of_ble_eq_true hb
        omega
      have hcap : (ys.length + xs.length).ble ys.length = false := by
        rw [← Bool.not_eq_true]
        intro hb
        have := Nat.le_of_ble_eq_true hb
        omega
      have hok : (H.okW b w && s.beq s && (0 + ys.length * s).beq ys.flatten.length) = true := by
        rw [Nat.beq_refl, k4, Nat.zero_add, Nat.beq_refl]
        rcases k5 with rfl | ⟨f, u, l, rfl, m1, m2, m3, m4⟩
        · simp only [AH.okW, Bool.and_true]; exact Nat.ble_eq_true_of_le (by omega)
        · simp only [AH.okW, m3, Nat.beq_refl, Bool.and_true]; exact Nat.ble_eq_true_of_le (by omega)
      have hflat : (ys ++ xs).flatten = ys.flatten ++ xs.flatten := List.flatten_append
      have hfl : (ys ++ xs).flatten.length = (ys ++ xs).length * s := by rw [hflat, List.length_append, List.length_append, k4, g2, Nat.add_mul]
      have hgo : ∀ H', H.grow b w ys.flatten s (List.drop 0 ys.flatten ++ xs.flatten) = some H' →
          aAppend P H [t, t] [.slice (some ⟨b, 0, none⟩) ys.length ys.length, x] = some (.slice (some ⟨H.next, 0, none⟩) (ys.length + xs.length) (ys.length + xs.length), H') := by
        intro H' hH'
        unfold aAppend
        simp only [h1, hl, h4, h2, h3, h5, T.beq_f.2 (show xs.length ≠ 0 by omega), g1, hc, hcap, k3, hok, hH']
      rcases k5 with rfl | ⟨f, u, l, rfl, m1, m2, m3, m4⟩
      · refine ⟨_, _, hgo _ rfl, ?_, ?_⟩
        · refine .inr ⟨H.next, .fam b 1, by rw [List.length_append], hlo, Nat.lt_succ_self _, ?_, hfl, .inr ⟨b, 1, 0, rfl, k1, Nat.lt_succ_of_lt k2, T.get_set_same .., by omega⟩⟩
          show ((H.blk.set b _).set H.next _).get H.next = _
          rw [T.get_set_same, hflat, List.drop_zero]
        · refine ⟨Nat.le_succ _, rfl, fun j hj hne => ?_, fun j hj => ?_, fun f hf => ?_⟩
          · show ((H.blk.set b _).set H.next _).get j = _
            rw [T.get_set_ne _ _ (by omega), T.get_set_ne _ _ (by simpa [blkOf] using hne)]
          · show ((H.blk.set b _).set H.next _).get j = _
            rw [T.get_set_ne _ _ (by omega), T.get_set_ne _ _ (by omega)]
          · show (H.fam.set b _).get f = _
            rw [T.get_set_ne _ _ (by omega)]
      · refine ⟨_, _, hgo { blk := H.blk.set H.next (.cells (List.drop 0 ys.flatten ++ xs.flatten) s (.fam f (u + 1))), fam := H.fam.set f (u + 1, l), next := H.next + 1, base := H.base } (by unfold AH.grow; simp only [m3]), ?_, ?_⟩
        · refine .inr ⟨H.next, .fam f (u + 1), by rw [List.length_append], hlo, Nat.lt_succ_self _, ?_, hfl, .inr ⟨f, u + 1, l, rfl, m1, Nat.lt_succ_of_lt m2, T.get_set_same .., by omega⟩⟩
          show (H.blk.set H.next _).get H.next = _
          rw [T.get_set_same, hflat, List.drop_zero]
        · refine ⟨Nat.le_succ _, rfl, fun j hj _ => ?_, fun j hj => ?_, fun f' hf => ?_⟩
          · show (H.blk.set H.next _).get j = _
            rw [T.get_set_ne _ _ (by omega)]
          · show (H.blk.set H.next _).get j = _
            rw [T.get_set_ne _ _ (by omega)]
          · show (H.fam.set f _).get f' = _
            rw [T.get_set_ne _ _ (by omega)]
end

/-- At an append. -/
theorem so_append {C : Cfg} {draw : Bool} {ops : Array Oper} {o : Oper} {rest : List Oper} {fr : Fr} {H : AH} {K : Fr → AH → Prop} {t : TypeId} {a1 a2 : Operand} {v x : Value}
    (ho : o.op = .call { callee := .builtin .append, args := #[a1, a2], argTypes := #[t, t] }) (hw : aWanted ops fr o = true) (h1 : ev fr a1 = v) (h2 : ev fr a2 = x)
    (h : ∃ v' H', aAppend C.P H [t, t] [v, x] = some (v', H') ∧ So C draw ops rest (fr.put o.dst v') H' K) : So C draw ops (o :: rest) fr H K := by
  obtain ⟨v', H', ha, hk⟩ := h
  refine so_val hw ?_ hk
  unfold aOp
  rw [ho]
  show aBuiltin C.P H .append [t, t] [ev fr a1, ev fr a2] = _
  rw [h1, h2]
  show AR.ofB (aAppend C.P H [t, t] [v, x]) = _
  rw [ha]
  rfl

end Go.Am

/-! Rows of one's own, each in a range of blocks of its own: what a store turns, what it leaves. -/
namespace Go.Am
open Go

/-- A slice that can be read, by blocks of a kind. -/
def RdB (H : AH) (p : Nat → Prop) (s : Nat) (v : Value) (xs : List (List Value)) : Prop :=
  ∃ a cap, v = .slice a xs.length cap ∧ (xs = [] ∨ ∃ b o c e w, a = some ⟨b, o, none⟩ ∧ p b ∧ b < H.next ∧ H.blk.get b = some (.cells c e w) ∧ w.sure H ∧ (∀ f u, w = .fam f u → p f) ∧
    ∀ i x, xs[i]? = some x → x.length = s ∧ o + i * s + s ≤ c.length ∧ (c.drop (o + i * s)).take s = x)

/-- Two heaps that agree on blocks of a kind. -/
structure Agr (p : Nat → Prop) (H H' : AH) : Prop where
  next : H.next ≤ H'.next
  base : H'.base = H.base
  blk : ∀ b, b < H.next → p b → H'.blk.get b = H.blk.get b
  fam : ∀ f, f < H.next → p f → H'.fam.get f = H.fam.get f

theorem Agr.refl (p : Nat → Prop) (H : AH) : Agr p H H := ⟨Nat.le_refl _, rfl, fun _ _ _ => rfl, fun _ _ _ => rfl⟩
theorem Agr.trans {p : Nat → Prop} {H H1 H2 : AH} (h : Agr p H H1) (h' : Agr p H1 H2) : Agr p H H2 :=
  ⟨Nat.le_trans h.next h'.next, h'.base.trans h.base, fun b hb hp => (h'.blk b (Nat.lt_of_lt_of_le hb h.next) hp).trans (h.blk b hb hp), fun f hf hp => (h'.fam f (Nat.lt_of_lt_of_le hf h.next) hp).trans (h.fam f hf hp)⟩
theorem Ext.agr {H H' : AH} (h : Ext H H') (p : Nat → Prop) : Agr p H H' := ⟨h.next, h.base, fun b hb _ => h.blk b hb, fun f hf _ => h.fam f hf⟩
theorem Agr.upd (p : Nat → Prop) {H : AH} {b : Nat} (hb : ¬ p b) (k : Blk) : Agr p H (H.upd b k) := ⟨Nat.le_refl _, rfl, fun j _ hp => get_upd_ne (fun e => hb (e ▸ hp)), fun _ _ _ => rfl⟩
theorem Agr.imp {p q : Nat → Prop} {H H' : AH} (h : Agr p H H') (hq : ∀ b, q b → p b) : Agr q H H' := ⟨h.next, h.base, fun b hb hp => h.blk b hb (hq b hp), fun f hf hp => h.fam f hf (hq f hp)⟩

theorem RdB.mono {H H' : AH} {p : Nat → Prop} (hx : Agr p H H') {s : Nat} {v : Value} {xs : List (List Value)} (h : RdB H p s v xs) : RdB H' p s v xs := by
  obtain ⟨a, cap, h1, h2⟩ := h
  refine ⟨a, cap, h1, ?_⟩
  rcases h2 with h2 | ⟨b, o, c, e, w, h2, hp, h3, h4, h5, h6, h7⟩
  · exact .inl h2
  · refine .inr ⟨b, o, c, e, w, h2, hp, Nat.lt_of_lt_of_le h3 hx.next, (hx.blk b h3 hp).trans h4, ?_, h6, h7⟩
    cases w with
    | ext => trivial
    | solo => trivial
    | fam f u =>
      obtain ⟨k0, u', l, k1, k2⟩ := h5
      exact ⟨Nat.lt_of_lt_of_le k0 hx.next, u', l, (hx.fam f k0 (h6 f u rfl)).trans k1, k2⟩
theorem RdB.imp {H : AH} {p q : Nat → Prop} (hq : ∀ b, b < H.next → p b → q b) {s : Nat} {v : Value} {xs : List (List Value)} (h : RdB H p s v xs) : RdB H q s v xs := by
  obtain ⟨a, cap, h1, h2⟩ := h
  refine ⟨a, cap, h1, ?_⟩
  rcases h2 with h2 | ⟨b, o, c, e, w, h2, hp, h3, h4, h5, h6, h7⟩
  · exact .inl h2
  · refine .inr ⟨b, o, c, e, w, h2, hq b h3 hp, h3, h4, h5, fun f u hw => hq f ?_ (h6 f u hw), h7⟩
    subst hw
    exact h5.1
theorem RdB.rd {H : AH} {p : Nat → Prop} {s : Nat} {v : Value} {xs : List (List Value)} (h : RdB H p s v xs) : Rd H s v xs := by
  obtain ⟨a, cap, h1, h2⟩ := h
  refine ⟨a, cap, h1, ?_⟩
  rcases h2 with h2 | ⟨b, o, c, e, w, h2, hp, h3, h4, h5, h6, h7⟩
  · exact .inl h2
  · exact .inr ⟨b, o, c, e, w, h2, h3, h4, h5, h7⟩
theorem Rd.rdb {H : AH} {s : Nat} {v : Value} {xs : List (List Value)} (h : Rd H s v xs) : RdB H (fun _ => True) s v xs := by
  obtain ⟨a, cap, h1, h2⟩ := h
  refine ⟨a, cap, h1, ?_⟩
  rcases h2 with h2 | ⟨b, o, c, e, w, h2, h3, h4, h5, h7⟩
  · exact .inl h2
  · exact .inr ⟨b, o, c, e, w, h2, trivial, h3, h4, h5, fun _ _ _ => trivial, h7⟩
theorem Gr.rdb {H : AH} {lo s : Nat} {v : Value} {xs : List (List Value)} (h : Gr H lo s v xs) (hs : ∀ x ∈ xs, x.length = s) : RdB H (fun b => lo ≤ b) s v xs := by
  rcases h with ⟨h1, h2⟩ | ⟨b, w, h1, h2, h3, h4, h5, h6⟩
  · subst h2; exact ⟨none, 0, h1, .inl rfl⟩
  · refine ⟨_, _, h1, .inr ⟨b, 0, _, _, w, rfl, h2, h3, h4, ?_, ?_, fun i x hi => ?_⟩⟩
    · rcases h6 with rfl | ⟨f, u, l, rfl, h7, h8, h9, h10⟩
      · trivial
      · exact ⟨h8, u, l, h9, h10⟩
    · intro f u hw
      rcases h6 with rfl | ⟨f', u', l, rfl, h7, _⟩
      · cases hw
      · cases hw; exact h7
    · obtain ⟨k1, k2⟩ := flat_at hs i x hi
      exact ⟨hs x (List.mem_of_getElem? hi), by rw [Nat.zero_add]; exact k1, by rw [Nat.zero_add]; exact k2⟩

/-- A row of one's own, in a range of blocks. -/
def Gb (H : AH) (lo hi s : Nat) (v : Value) (xs : List (List Value)) : Prop :=
  (v = .slice none 0 0 ∧ xs = []) ∨
    ∃ b w, v = .slice (some ⟨b, 0, none⟩) xs.length xs.length ∧ lo ≤ b ∧ b < hi ∧ hi ≤ H.next ∧ H.blk.get b = some (.cells xs.flatten s w) ∧ xs.flatten.length = xs.length * s ∧
      (w = .solo ∨ ∃ f u l, w = .fam f u ∧ lo ≤ f ∧ f < hi ∧ H.fam.get f = some (u, l) ∧ l ≤ u)
theorem Gr.gb {H : AH} {lo s : Nat} {v : Value} {xs : List (List Value)} (h : Gr H lo s v xs) : Gb H lo H.next s v xs := by
  rcases h with h | ⟨b, w, h1, h2, h3, h4, h5, h6⟩
  · exact .inl h
  · exact .inr ⟨b, w, h1, h2, h3, Nat.le_refl _, h4, h5, h6⟩
theorem Gb.gr {H : AH} {lo hi s : Nat} {v : Value} {xs : List (List Value)} (h : Gb H lo hi s v xs) : Gr H lo s v xs := by
  rcases h with h | ⟨b, w, h1, h2, h3, h0, h4, h5, h6⟩
  · exact .inl h
  · refine .inr ⟨b, w, h1, h2, by omega, h4, h5, ?_⟩
    rcases h6 with h6 | ⟨f, u, l, h6, h7, h8, h9⟩
    · exact .inl h6
    · exact .inr ⟨f, u, l, h6, h7, by omega, h9⟩
theorem Gb.mono {H H' : AH} {lo hi s : Nat} {v : Value} {xs : List (List Value)} (hx : Agr (fun b => lo ≤ b ∧ b < hi) H H') (h : Gb H lo hi s v xs) : Gb H' lo hi s v xs := by
  rcases h with h | ⟨b, w, h1, h2, h3, h0, h4, h5, h6⟩
  · exact .inl h
  · refine .inr ⟨b, w, h1, h2, h3, Nat.le_trans h0 hx.next, (hx.blk b (by omega) ⟨h2, h3⟩).trans h4, h5, ?_⟩
    rcases h6 with h6 | ⟨f, u, l, h6, h7, h8, h9, h10⟩
    · exact .inl h6
    · exact .inr ⟨f, u, l, h6, h7, h8, (hx.fam f (by omega) ⟨h7, h8⟩).trans h9, h10⟩

theorem flat_set {s j : Nat} {u : Value} (hj : j < s) : ∀ {ys : List (List Value)} (t : Nat) {x : List Value}, (∀ y ∈ ys, y.length = s) → ys[t]? = some x → splice ys.flatten (t * s + j) [u] = (ys.set t (x.set j u)).flatten := by
  intro ys
  induction ys with
  | nil => intro t x _ h; cases h
  | cons y ys ih =>
    intro t x hs h
    have hy := hs y (by simp)
    cases t with
    | zero =>
      simp only [List.getElem?_cons_zero, Option.some.injEq] at h
      subst h
      rw [Nat.zero_mul, Nat.zero_add, List.set_cons_zero, List.flatten_cons, List.flatten_cons]
      unfold splice
      rw [List.set_eq_take_append_cons_drop, if_pos (by omega), List.take_append_of_le_length (by omega), List.length_singleton, List.drop_append_of_le_length (by omega)]
      simp
    | succ t =>
      have ih := ih t (fun z hz => hs z (by simp [hz])) (by simpa using h)
      rw [List.set_cons_succ, List.flatten_cons, List.flatten_cons, ← ih]
      unfold splice
      have e1 : (t + 1) * s + j = y.length + (t * s + j) := by rw [Nat.add_mul, Nat.one_mul, hy]; omega
      rw [e1, List.take_length_add_append, List.append_assoc]
      rw [show y.length + (t * s + j) + [u].length = y.length + (t * s + j + [u].length) by omega, List.drop_length_add_append]

theorem Gb.at {H : AH} {lo hi s : Nat} {v : Value} {ys : List (List Value)} (h : Gb H lo hi s v ys) (hs : ∀ y ∈ ys, y.length = s) {t : Nat} {x : List Value} (ht : ys[t]? = some x) :
    ∃ b, v = .slice (some ⟨b, 0, none⟩) ys.length ys.length ∧ lo ≤ b ∧ b < hi ∧ b < H.next ∧ H.loads b (t * s) s = some x ∧ ∀ j, j < s → H.cell b (t * s + j) = x[j]? := by
  have hr := h.gr.rd hs
  rcases h with ⟨_, rfl⟩ | ⟨b, w, rfl, h2, h3, h0, h4, h5, h6⟩
  · cases ht
  · obtain ⟨b', o, cap, k1, k2, _, k3, k4⟩ := hr.at ht
    simp only [Value.slice.injEq, Option.some.injEq, Addr.mk.injEq, and_true, true_and] at k1
    obtain ⟨⟨rfl, rfl⟩, _⟩ := k1
    exact ⟨b, rfl, h2, h3, k2, by rw [← k3, Nat.zero_add], fun j hj => by rw [← k4 j hj, Nat.zero_add]⟩
theorem Gr.wb {H : AH} {β lo s : Nat} {v : Value} {xs : List (List Value)} (h : Gr H lo s v xs) : Gr (H.wb β) lo s v xs := h
theorem Gb.val {H : AH} {lo hi s : Nat} {v : Value} {xs : List (List Value)} (h : Gb H lo hi s v xs) : ∃ a, v = .slice a xs.length xs.length := by
  rcases h with ⟨rfl, rfl⟩ | ⟨b, w, rfl, _⟩
  · exact ⟨none, rfl⟩
  · exact ⟨_, rfl⟩
theorem Agr.ext {p : Nat → Prop} {H0 G G' : AH} (hx : Ext H0 G) (ha : Agr p G G') (hp : ∀ b, b < H0.next → p b) : Ext H0 G' :=
  ⟨Nat.le_trans hx.next ha.next, ha.base.trans hx.base, fun b hb => (ha.blk b (Nat.lt_of_lt_of_le hb hx.next) (hp b hb)).trans (hx.blk b hb), fun f hf => (ha.fam f (Nat.lt_of_lt_of_le hf hx.next) (hp f hf)).trans (hx.fam f hf)⟩

/-- A store into a row of one's own. -/
theorem Gb.set {H : AH} {lo hi s : Nat} {v : Value} {ys : List (List Value)} (h : Gb H lo hi s v ys) (hs : ∀ y ∈ ys, y.length = s) (hbase : H.base ≤ lo) {t j : Nat} {x : List Value} (ht : ys[t]? = some x) (hj : j < s) {u : Value} (hu : oneCell u = true) :
    ∃ b, v = .slice (some ⟨b, 0, none⟩) ys.length ys.length ∧ ∃ H', H.stores b (t * s + j) [u] = some H' ∧ H'.next = H.next ∧ Gb H' lo hi s v (ys.set t (x.set j u)) ∧ ∀ p : Nat → Prop, (∀ b, p b → ¬ (lo ≤ b ∧ b < hi)) → Agr p H H' := by
  rcases h with ⟨_, rfl⟩ | ⟨b, w, rfl, h2, h3, h0, h4, h5, h6⟩
  · cases ht
  · refine ⟨b, rfl, ?_⟩
    have htl : t < ys.length := (List.getElem?_eq_some_iff.1 ht).1
    have hle : t * s + j + 1 ≤ ys.flatten.length := by
      rw [h5]
      have : (t + 1) * s ≤ ys.length * s := Nat.mul_le_mul_right s htl
      rw [Nat.add_mul, Nat.one_mul] at this
      omega
    have hfl : (ys.set t (x.set j u)).flatten.length = (ys.set t (x.set j u)).length * s := by
      rw [← flat_set hj t hs ht, List.length_set]
      unfold splice
      simp only [List.length_append, List.length_take, List.length_drop, List.length_cons, List.length_nil]
      omega
    have hok : (H.okW b w && [u].all oneCell && (t * s + j + [u].length).ble ys.flatten.length) = true := by
      have h8 : [u].all oneCell = true := by simp [hu]
      rw [h8, Nat.ble_eq_true_of_le (by simpa using hle)]
      rcases h6 with rfl | ⟨f, u', l, rfl, m1, m2, m3, m4⟩
      · simp only [AH.okW, Bool.and_true]; exact Nat.ble_eq_true_of_le (by omega)
      · simp only [AH.okW, m3, Nat.beq_refl, Bool.and_true]; exact Nat.ble_eq_true_of_le (by omega)
    refine ⟨H.put b (splice ys.flatten (t * s + j) [u]) s w, ?_, AH.put_next .., ?_, ?_⟩
    · unfold AH.stores
      rw [h4]
      simp only [hok]
    · refine .inr ⟨b, w, by rw [List.length_set], h2, h3, by rw [AH.put_next]; exact h0, ?_, hfl, ?_⟩
      · rw [AH.put_blk, if_pos rfl, flat_set hj t hs ht]
      · rcases h6 with rfl | ⟨f, u', l, rfl, m1, m2, m3, m4⟩
        · exact .inl rfl
        · refine .inr ⟨f, u', u', rfl, m1, m2, ?_, Nat.le_refl _⟩
          rw [AH.put_fam]; simp
    · intro p hp
      refine ⟨by rw [AH.put_next]; exact Nat.le_refl _, AH.put_base .., fun b' _ hb' => ?_, fun f' _ hf' => ?_⟩
      · rw [AH.put_blk, if_neg (fun (e : b = b') => hp b' hb' ⟨by omega, by omega⟩)]
      · rw [AH.put_fam]
        rcases h6 with rfl | ⟨f, u', l, rfl, m1, m2, _⟩
        · rfl
        · simp only
          rw [if_neg (fun (e : f = f') => hp f' hf' ⟨by omega, by omega⟩)]

end Go.Am

/-! Rows of one's own by blocks of a kind: appended to, written, read. -/
namespace Go.Am
open Go

/-- A row of one's own that grows, in blocks of a kind. -/
def GrP (H : AH) (p : Nat → Prop) (s : Nat) (v : Value) (xs : List (List Value)) : Prop :=
  (v = .slice none 0 0 ∧ xs = []) ∨
    ∃ b w, v = .slice (some ⟨b, 0, none⟩) xs.length xs.length ∧ p b ∧ H.base ≤ b ∧ b < H.next ∧ H.blk.get b = some (.cells xs.flatten s w) ∧ xs.flatten.length = xs.length * s ∧
      (w = .solo ∨ ∃ f u l, w = .fam f u ∧ p f ∧ H.base ≤ f ∧ f < H.next ∧ H.fam.get f = some (u, l) ∧ l ≤ u)

theorem GrP.nil (H : AH) (p : Nat → Prop) (s : Nat) : GrP H p s (.slice none 0 0) [] := .inl ⟨rfl, rfl⟩
theorem GrP.imp {H : AH} {p q : Nat → Prop} (hq : ∀ b, b < H.next → p b → q b) {s : Nat} {v : Value} {xs : List (List Value)} (h : GrP H p s v xs) : GrP H q s v xs := by
  rcases h with h | ⟨b, w, h1, h2, h0, h3, h4, h5, h6⟩
  · exact .inl h
  · refine .inr ⟨b, w, h1, hq b h3 h2, h0, h3, h4, h5, ?_⟩
    rcases h6 with h6 | ⟨f, u, l, h6, h7, h8, h9, h10⟩
    · exact .inl h6
    · exact .inr ⟨f, u, l, h6, hq f h9 h7, h8, h9, h10⟩
theorem GrP.mono {H H' : AH} {p : Nat → Prop} (hx : Agr p H H') {s : Nat} {v : Value} {xs : List (List Value)} (h : GrP H p s v xs) : GrP H' p s v xs := by
  rcases h with h | ⟨b, w, h1, h2, h0, h3, h4, h5, h6⟩
  · exact .inl h
  · refine .inr ⟨b, w, h1, h2, by rw [hx.base]; exact h0, Nat.lt_of_lt_of_le h3 hx.next, (hx.blk b h3 h2).trans h4, h5, ?_⟩
    rcases h6 with h6 | ⟨f, u, l, h6, h7, h8, h9, h10, h11⟩
    · exact .inl h6
    · exact .inr ⟨f, u, l, h6, h7, by rw [hx.base]; exact h8, Nat.lt_of_lt_of_le h9 hx.next, (hx.fam f h9 h7).trans h10, h11⟩
theorem GrP.wb {H : AH} {β : Nat} {p : Nat → Prop} {s : Nat} {v : Value} {xs : List (List Value)} (h : GrP H p s v xs) (hb : β ≤ H.base) : GrP (H.wb β) p s v xs := by
  rcases h with h | ⟨b, w, h1, h2, h0, h3, h4, h5, h6⟩
  · exact .inl h
  · refine .inr ⟨b, w, h1, h2, Nat.le_trans hb h0, h3, h4, h5, ?_⟩
    rcases h6 with h6 | ⟨f, u, l, h6, h7, h8, h9⟩
    · exact .inl h6
    · exact .inr ⟨f, u, l, h6, h7, Nat.le_trans hb h8, h9⟩
theorem Gr.grp {H : AH} {lo s : Nat} {v : Value} {xs : List (List Value)} (h : Gr H lo s v xs) (hb : H.base ≤ lo) : GrP H (fun b => lo ≤ b) s v xs := by
  rcases h with h | ⟨b, w, h1, h2, h3, h4, h5, h6⟩
  · exact .inl h
  · refine .inr ⟨b, w, h1, h2, Nat.le_trans hb h2, h3, h4, h5, ?_⟩
    rcases h6 with h6 | ⟨f, u, l, h6, h7, h8, h9⟩
    · exact .inl h6
    · exact .inr ⟨f, u, l, h6, h7, Nat.le_trans hb h7, h8, h9⟩
theorem GrP.rdb {H : AH} {p : Nat → Prop} {s : Nat} {v : Value} {xs : List (List Value)} (h : GrP H p s v xs) (hs : ∀ x ∈ xs, x.length = s) : RdB H p s v xs := by
  rcases h with ⟨h1, h2⟩ | ⟨b, w, h1, h2, h0, h3, h4, h5, h6⟩
  · subst h2; exact ⟨none, 0, h1, .inl rfl⟩
  · refine ⟨_, _, h1, .inr ⟨b, 0, _, _, w, rfl, h2, h3, h4, ?_, ?_, fun i x hi => ?_⟩⟩
    · rcases h6 with rfl | ⟨f, u, l, rfl, h7, h8, h9, h10, h11⟩
      · trivial
      · exact ⟨h9, u, l, h10, h11⟩
    · intro f u hw
      rcases h6 with rfl | ⟨f', u', l, rfl, h7, _⟩
      · cases hw
      · cases hw; exact h7
    · obtain ⟨k1, k2⟩ := flat_at hs i x hi
      exact ⟨hs x (List.mem_of_getElem? hi), by rw [Nat.zero_add]; exact k1, by rw [Nat.zero_add]; exact k2⟩
theorem GrP.val {H : AH} {p : Nat → Prop} {s : Nat} {v : Value} {xs : List (List Value)} (h : GrP H p s v xs) : ∃ a, v = .slice a xs.length xs.length := by
  rcases h with ⟨rfl, rfl⟩ | ⟨b, w, rfl, _⟩
  · exact ⟨none, rfl⟩
  · exact ⟨_, rfl⟩

theorem flat_row {s : Nat} : ∀ {ys : List (List Value)} (t : Nat) {x : List Value}, (∀ y ∈ ys, y.length = s) → t < ys.length → x.length = s → splice ys.flatten (t * s) x = (ys.set t x).flatten := by
  intro ys
  induction ys with
  | nil => intro t x _ h; cases h
  | cons y ys ih =>
    intro t x hs h hx
    have hy := hs y (by simp)
    cases t with
    | zero =>
      rw [Nat.zero_mul, List.set_cons_zero, List.flatten_cons, List.flatten_cons]
      unfold splice
      rw [List.take_zero, List.nil_append, Nat.zero_add, hx, ← hy, List.drop_left]
    | succ t =>
      have ih := ih t (fun z hz => hs z (by simp [hz])) (by simpa using h) hx
      rw [List.set_cons_succ, List.flatten_cons, List.flatten_cons, ← ih]
      unfold splice
      have e1 : (t + 1) * s = y.length + t * s := by rw [Nat.add_mul, Nat.one_mul, hy]; omega
      rw [e1, List.take_length_add_append, List.append_assoc]
      rw [show y.length + t * s + x.length = y.length + (t * s + x.length) by omega, List.drop_length_add_append]

/-- A row written. -/
theorem GrP.row {H : AH} {p : Nat → Prop} {s : Nat} {v : Value} {ys : List (List Value)} (h : GrP H p s v ys) (hs : ∀ y ∈ ys, y.length = s) {t : Nat} (ht : t < ys.length) {x : List Value} (hx : x.length = s) (hu : x.all oneCell = true) :
    ∃ b, v = .slice (some ⟨b, 0, none⟩) ys.length ys.length ∧ ∃ H', H.stores b (t * s) x = some H' ∧ H'.next = H.next ∧ GrP H' p s v (ys.set t x) ∧ ∀ q : Nat → Prop, (∀ b, q b → ¬ p b) → Agr q H H' := by
  rcases h with ⟨_, rfl⟩ | ⟨b, w, rfl, h2, hb0, h3, h4, h5, h6⟩
  · cases ht
  · refine ⟨b, rfl, ?_⟩
    have hle : t * s + s ≤ ys.flatten.length := by
      rw [h5]
      have : (t + 1) * s ≤ ys.length * s := Nat.mul_le_mul_right s ht
      rw [Nat.add_mul, Nat.one_mul] at this
      omega
    have hfl : (ys.set t x).flatten.length = (ys.set t x).length * s := by
      rw [← flat_row t hs ht hx, List.length_set]
      unfold splice
      simp only [List.length_append, List.length_take, List.length_drop]
      omega
    have hok : (H.okW b w && x.all oneCell && (t * s + x.length).ble ys.flatten.length) = true := by
      rw [hu, hx, Nat.ble_eq_true_of_le hle]
      rcases h6 with rfl | ⟨f, u', l, rfl, m1, m2, m3, m4, m5⟩
      · simp only [AH.okW, Bool.and_true]; exact Nat.ble_eq_true_of_le hb0
      · simp only [AH.okW, m4, Nat.beq_refl, Bool.and_true]; exact Nat.ble_eq_true_of_le m2
    refine ⟨H.put b (splice ys.flatten (t * s) x) s w, ?_, AH.put_next .., ?_, ?_⟩
    · unfold AH.stores
      rw [h4]
      simp only [hok]
    · refine .inr ⟨b, w, by rw [List.length_set], h2, by rw [AH.put_base]; exact hb0, by rw [AH.put_next]; exact h3, ?_, hfl, ?_⟩
      · rw [AH.put_blk, if_pos rfl, flat_row t hs ht hx]
      · rcases h6 with rfl | ⟨f, u', l, rfl, m1, m2, m3, m4, m5⟩
        · exact .inl rfl
        · refine .inr ⟨f, u', u', rfl, m1, by rw [AH.put_base]; exact m2, by rw [AH.put_next]; exact m3, ?_, Nat.le_refl _⟩
          rw [AH.put_fam]; simp
    · intro q hq
      refine ⟨by rw [AH.put_next]; exact Nat.le_refl _, AH.put_base .., fun b' _ hb' => ?_, fun f' _ hf' => ?_⟩
      · rw [AH.put_blk, if_neg (fun (e : b = b') => hq b' hb' (e ▸ h2))]
      · rw [AH.put_fam]
        rcases h6 with rfl | ⟨f, u', l, rfl, m1, m2, _⟩
        · rfl
        · simp only
          rw [if_neg (fun (e : f = f') => hq f' hf' (e ▸ m1))]

section
variable {P : Program} {t : TypeId} {s by_ : Nat} {H : AH} {x : Value} {xs : List (List Value)}
/-- A row of one's own grows: the old one can be read on. -/
theorem append_p (hE : El P t s by_) {p : Nat → Prop} {v : Value} {ys : List (List Value)} (hg : GrP H p s v ys) (hs : ∀ y ∈ ys, y.length = s) (hr : Rd H s x xs) (hone : xs.flatten.all oneCell = true)
    (hsz : (2 * (ys.length + xs.length) + 1000) * by_ ≤ 281474976710656) (hb : H.base ≤ H.next) :
    ∃ v' H', aAppend P H [t, t] [v, x] = some (v', H') ∧ GrP H' (fun b => p b ∨ H.next ≤ b) s v' (ys ++ xs) ∧ (∀ (s2 : Nat) (v2 : Value) (xs2 : List (List Value)), Rd H s2 v2 xs2 → Rd H' s2 v2 xs2) ∧ ∀ q : Nat → Prop, (∀ b, q b → ¬ p b) → Agr q H H' := by
  rcases hg with ⟨rfl, rfl⟩ | ⟨b, w, rfl, k1, k0, k2, k3, k4, k5⟩
  · obtain ⟨v', h1, h2⟩ := append_nil hE hr hone (by simpa using hsz)
    refine ⟨v', _, h1, ?_, ?_, ?_⟩
    · rcases h2 with ⟨rfl, rfl⟩ | ⟨hne, rfl, hl⟩
      · exact .inl ⟨rfl, rfl⟩
      · rw [if_neg hne]
        exact .inr ⟨H.next, .solo, rfl, .inr (Nat.le_refl _), hb, Nat.lt_succ_self _, get_new_eq rfl, hl, .inl rfl⟩
    · intro s2 v2 xs2 h
      split
      · exact h
      · exact h.mono (Ext.new H _)
    · intro q _
      split
      · exact Agr.refl _ H
      · exact (Ext.new H _).agr q
  · have hg0 : GrP H p s (.slice (some ⟨b, 0, none⟩) ys.length ys.length) ys := .inr ⟨b, w, rfl, k1, k0, k2, k3, k4, k5⟩
    obtain ⟨⟨e, d, h1, h2, h3, h4, h5⟩, s0, b0⟩ := hE
    have hl := len_rd hr
    by_cases hne : xs = []
    · subst hne
      refine ⟨.slice (some ⟨b, 0, none⟩) ys.length ys.length, H, ?_, ?_, fun _ _ _ h => h, fun q _ => Agr.refl _ H⟩
      · unfold aAppend
        simp only [h1, hl, h4, h2, h3, h5, List.length_nil]
      · rw [List.append_nil]
        exact hg0.imp fun _ _ h => .inl h
    · obtain ⟨g1, g2, _⟩ := given_rd hr hne
      have hn : 0 < xs.length := List.length_pos_iff.2 hne
      have hc : (!(xs.flatten.length.beq (xs.length * s)) || !(xs.flatten.all oneCell) || s.beq 0 || by_.beq 0 || (281474976710656).blt ((2 * (ys.length + xs.length) + 1000) * by_)) = false := by
        rw [g2, Nat.beq_refl, hone, T.beq_f.2 (by omega), T.beq_f.2 (by omega)]
        simp only [Bool.not_true, Bool.or_self, Bool.false_or]
        rw [← Bool.not_eq_true]
        intro hb
        have : 281474976710656 + 1 ≤ (2 * (ys.length + xs.length) + 1000) * by_ := Nat.le_of_ble_eq_true hb
        omega
      have hcap : (ys.length + xs.length).ble ys.length = false := by
        rw [← Bool.not_eq_true]
        intro hb
        have := Nat.le_of_ble_eq_true hb
        omega
      have hok : (H.okW b w && s.beq s && (0 + ys.length * s).beq ys.flatten.length) = true := by
        rw [Nat.beq_refl, k4, Nat.zero_add, Nat.beq_refl]
        rcases k5 with rfl | ⟨f, u, l, rfl, m1, m2, m3, m4, m5⟩
        · simp only [AH.okW, Bool.and_true]; exact Nat.ble_eq_true_of_le k0
        · simp only [AH.okW, m4, Nat.beq_refl, Bool.and_true]; exact Nat.ble_eq_true_of_le m2
      have hflat : (ys ++ xs).flatten = ys.flatten ++ xs.flatten := List.flatten_append
      have hfl : (ys ++ xs).flatten.length = (ys ++ xs).length * s := by rw [hflat, List.length_append, List.length_append, k4, g2, Nat.add_mul]
      have hgo : ∀ H', H.grow b w ys.flatten s (List.drop 0 ys.flatten ++ xs.flatten) = some H' →
          aAppend P H [t, t] [.slice (some ⟨b, 0, none⟩) ys.length ys.length, x] = some (.slice (some ⟨H.next, 0, none⟩) (ys.length + xs.length) (ys.length + xs.length), H') := by
        intro H' hH'
        unfold aAppend
        simp only [h1, hl, h4, h2, h3, h5, T.beq_f.2 (show xs.length ≠ 0 by omega), g1, hc, hcap, k3, hok, hH']
      rcases k5 with rfl | ⟨f, u, l, rfl, m1, m2, m3, m4, m5⟩
      · refine ⟨_, _, hgo _ rfl, ?_, ?_, ?_⟩
        · refine .inr ⟨H.next, .fam b 1, by rw [List.length_append], .inr (Nat.le_refl _), hb, Nat.lt_succ_self _, ?_, hfl, .inr ⟨b, 1, 0, rfl, .inl k1, k0, Nat.lt_succ_of_lt k2, T.get_set_same .., by omega⟩⟩
          show ((H.blk.set b _).set H.next _).get H.next = _
          rw [T.get_set_same, hflat, List.drop_zero]
        · intro s2 v2 xs2 ⟨a2, cap2, j1, j2⟩
          refine ⟨a2, cap2, j1, ?_⟩
          rcases j2 with j2 | ⟨b2, o2, c2, e2, w2, j2, j3, j4, j5, j6⟩
          · exact .inl j2
          · by_cases e : b2 = b
            · subst e
              rw [k3] at j4
              cases j4
              refine .inr ⟨b2, o2, ys.flatten, s, .fam b2 0, j2, Nat.lt_succ_of_lt j3, ?_, ⟨Nat.lt_succ_of_lt k2, 1, 0, T.get_set_same .., Nat.le_refl _⟩, j6⟩
              show ((H.blk.set b2 _).set H.next _).get b2 = _
              rw [T.get_set_ne _ _ (by omega), T.get_set_same]
            · refine .inr ⟨b2, o2, c2, e2, w2, j2, Nat.lt_succ_of_lt j3, ?_, ?_, j6⟩
              · show ((H.blk.set b _).set H.next _).get b2 = _
                rw [T.get_set_ne _ _ (by omega), T.get_set_ne _ _ (fun h => e h.symm)]
                exact j4
              · cases w2 with
                | ext => trivial
                | solo => trivial
                | fam f2 u2 =>
                  obtain ⟨i1, i2, i3, i4, i5⟩ := j5
                  by_cases ef : f2 = b
                  · subst ef
                    exact ⟨Nat.lt_succ_of_lt i1, 1, 0, T.get_set_same .., Nat.zero_le _⟩
                  · exact ⟨Nat.lt_succ_of_lt i1, i2, i3, (T.get_set_ne _ _ (fun h => ef h.symm)).trans i4, i5⟩
        · intro q hq
          refine ⟨Nat.le_succ _, rfl, fun j hj hqj => ?_, fun f hf hqf => ?_⟩
          · show ((H.blk.set b _).set H.next _).get j = _
            rw [T.get_set_ne _ _ (by omega), T.get_set_ne _ _ (fun (e : b = j) => hq j hqj (e ▸ k1))]
          · show (H.fam.set b _).get f = _
            rw [T.get_set_ne _ _ (fun (e : b = f) => hq f hqf (e ▸ k1))]
      · refine ⟨_, _, hgo { blk := H.blk.set H.next (.cells (List.drop 0 ys.flatten ++ xs.flatten) s (.fam f (u + 1))), fam := H.fam.set f (u + 1, l), next := H.next + 1, base := H.base } (by unfold AH.grow; simp only [m4]), ?_, ?_, ?_⟩
        · refine .inr ⟨H.next, .fam f (u + 1), by rw [List.length_append], .inr (Nat.le_refl _), hb, Nat.lt_succ_self _, ?_, hfl, .inr ⟨f, u + 1, l, rfl, .inl m1, m2, Nat.lt_succ_of_lt m3, T.get_set_same .., by omega⟩⟩
          show (H.blk.set H.next _).get H.next = _
          rw [T.get_set_same, hflat, List.drop_zero]
        · intro s2 v2 xs2 ⟨a2, cap2, j1, j2⟩
          refine ⟨a2, cap2, j1, ?_⟩
          rcases j2 with j2 | ⟨b2, o2, c2, e2, w2, j2, j3, j4, j5, j6⟩
          · exact .inl j2
          · refine .inr ⟨b2, o2, c2, e2, w2, j2, Nat.lt_succ_of_lt j3, ?_, ?_, j6⟩
            · show (H.blk.set H.next _).get b2 = _
              rw [T.get_set_ne _ _ (by omega)]
              exact j4
            · cases w2 with
              | ext => trivial
              | solo => trivial
              | fam f2 u2 =>
                obtain ⟨i1, i2, i3, i4, i5⟩ := j5
                by_cases ef : f2 = f
                · subst ef
                  rw [m4] at i4
                  cases i4
                  exact ⟨Nat.lt_succ_of_lt i1, u + 1, l, T.get_set_same .., i5⟩
                · exact ⟨Nat.lt_succ_of_lt i1, i2, i3, (T.get_set_ne _ _ (fun h => ef h.symm)).trans i4, i5⟩
        · intro q hq
          refine ⟨Nat.le_succ _, rfl, fun j hj hqj => ?_, fun f' hf hqf => ?_⟩
          · show (H.blk.set H.next _).get j = _
            rw [T.get_set_ne _ _ (by omega)]
          · show (H.fam.set f _).get f' = _
            rw [T.get_set_ne _ _ (fun (e : f = f') => hq f' hqf (e ▸ m1))]
end
end Go.Am

/-! Many rows of one's own, each in blocks of its colour: written over, grown, read (what weirmem's Alone asks). -/
namespace Go.Am
open Go

/-- n rows, the i-th in blocks of colour i + 1; ws: their values. -/
structure Many (H : AH) (col : Nat → Nat) (s : Nat) (ws : List Value) (yss : List (List (List Value))) : Prop where
  len : ws.length = yss.length
  each : ∀ (i : Nat) (w : Value) (ys : List (List Value)), ws[i]? = some w → yss[i]? = some ys → GrP H (fun b => col b = i + 1) s w ys
  rows : ∀ (i : Nat) (ys : List (List Value)), yss[i]? = some ys → ∀ y ∈ ys, y.length = s

/-- Marked so far: all of the first i rows, k places of the next one. -/
def Marked (L : List Nat) (mark : Nat → List Value) (i k : Nat) (yss : List (List (List Value))) : Prop :=
  yss.length = L.length ∧ ∀ (j : Nat) (ys : List (List Value)), yss[j]? = some ys → L[j]? = some ys.length ∧ ∀ (t : Nat) (y : List Value), ys[t]? = some y → (j < i ∨ (j = i ∧ t < k)) → y = mark j

theorem Marked.start {L : List Nat} {mark : Nat → List Value} {yss : List (List (List Value))} (h : L = yss.map List.length) : Marked L mark 0 0 yss := by
  subst h
  refine ⟨by rw [List.length_map], fun j ys hj => ⟨by rw [List.getElem?_map, hj]; rfl, fun t y _ h => ?_⟩⟩
  omega
theorem Marked.next {L : List Nat} {mark : Nat → List Value} {i k : Nat} {yss : List (List (List Value))} (h : Marked L mark i k yss) (hk : L[i]? = some k) : Marked L mark (i + 1) 0 yss := by
  refine ⟨h.1, fun j ys hj => ⟨(h.2 j ys hj).1, fun t y ht hc => (h.2 j ys hj).2 t y ht ?_⟩⟩
  rcases hc with hc | hc
  · by_cases e : j = i
    · subst e
      have h1 := (h.2 j ys hj).1
      rw [hk] at h1
      have := (List.getElem?_eq_some_iff.1 ht).1
      simp only [Option.some.injEq] at h1
      omega
    · omega
  · omega
theorem Marked.set {L : List Nat} {mark : Nat → List Value} {i k : Nat} {yss : List (List (List Value))} {ys : List (List Value)} (h : Marked L mark i k yss) (hi : yss[i]? = some ys) (hk : k < ys.length) : Marked L mark i (k + 1) (yss.set i (ys.set k (mark i))) := by
  refine ⟨by rw [List.length_set]; exact h.1, fun j zs hj => ?_⟩
  have hil : i < yss.length := (List.getElem?_eq_some_iff.1 hi).1
  by_cases e : j = i
  · subst e
    rw [List.getElem?_set_self hil] at hj
    cases hj
    refine ⟨by rw [List.length_set]; exact (h.2 j ys hi).1, fun t y ht hc => ?_⟩
    by_cases e2 : t = k
    · subst e2
      rw [List.getElem?_set_self hk] at ht
      exact (Option.some.inj ht).symm
    · rw [List.getElem?_set_ne (fun e => e2 e.symm)] at ht
      exact (h.2 j ys hi).2 t y ht (by omega)
  · rw [List.getElem?_set_ne (fun h => e h.symm)] at hj
    exact ⟨(h.2 j zs hj).1, fun t y ht hc => (h.2 j zs hj).2 t y ht (by omega)⟩

/-- A row written. -/
theorem Many.set {H : AH} {col : Nat → Nat} {s : Nat} {ws : List Value} {yss : List (List (List Value))} (h : Many H col s ws yss) {i k : Nat} {w : Value} {ys : List (List Value)} (hw : ws[i]? = some w) (hy : yss[i]? = some ys) (hk : k < ys.length) {x : List Value} (hx : x.length = s) (hu : x.all oneCell = true) :
    ∃ b, w = .slice (some ⟨b, 0, none⟩) ys.length ys.length ∧ ∃ H', H.stores b (k * s) x = some H' ∧ H'.next = H.next ∧ Many H' col s ws (yss.set i (ys.set k x)) ∧ Agr (fun b => col b = 0) H H' := by
  obtain ⟨b, hb, H', h1, h2, h3, h4⟩ := (h.each i w ys hw hy).row (h.rows i ys hy) hk hx hu
  have hil : i < yss.length := (List.getElem?_eq_some_iff.1 hy).1
  refine ⟨b, hb, H', h1, h2, ⟨by rw [List.length_set]; exact h.len, fun j w' zs hj hz => ?_, fun j zs hz y hm => ?_⟩, h4 _ fun b hb => by omega⟩
  · by_cases e : j = i
    · subst e
      rw [List.getElem?_set_self hil] at hz
      cases hz
      rw [hw] at hj
      cases hj
      exact h3
    · rw [List.getElem?_set_ne (fun h => e h.symm)] at hz
      exact (h.each j w' zs hj hz).mono (h4 _ fun b hb => by omega)
  · by_cases e : j = i
    · subst e
      rw [List.getElem?_set_self hil] at hz
      cases hz
      rcases List.mem_or_eq_of_mem_set hm with h5 | h5
      · exact h.rows j ys hy y h5
      · rw [h5]; exact hx
    · rw [List.getElem?_set_ne (fun h => e h.symm)] at hz
      exact h.rows j zs hz y hm
theorem Many.mono {H H' : AH} {col : Nat → Nat} {s : Nat} {ws : List Value} {yss : List (List (List Value))} (hx : Ext H H') (h : Many H col s ws yss) : Many H' col s ws yss :=
  ⟨h.len, fun i w ys h1 h2 => (h.each i w ys h1 h2).mono (hx.agr _), h.rows⟩

/-- While they are grown: the first i have been, the i-th is at g (k places more); all of them in a row. -/
structure Grown (H G : AH) (col : Nat → Nat) (s : Nat) (mark : Nat → List Value) (ws : List Value) (yss : List (List (List Value))) (n i : Nat) (gs : List Value) (vall : Value) : Prop where
  agr : Agr (fun b => col b = 0) H G
  wlen : ws.length = n
  ylen : yss.length = n
  rows : ∀ (j : Nat) (ys : List (List Value)), yss[j]? = some ys → ∀ y ∈ ys, y.length = s
  glen : gs.length = i
  done : ∀ (j : Nat) (w g : Value) (ys : List (List Value)), ws[j]? = some w → gs[j]? = some g → yss[j]? = some ys → Rd G s w ys ∧ ∃ zs, Rd G s g zs ∧ zs.length ≤ ys.length + 20 ∧ ∀ z ∈ zs, z = mark j
  todo : ∀ (j : Nat) (w : Value) (ys : List (List Value)), i ≤ j → ws[j]? = some w → yss[j]? = some ys → GrP G (fun b => col b = j + 1) s w ys
  all : GrP G (fun b => col b = n + 1) 1 vall (gs.map fun g => [g])

/-- A colour for what is new. -/
def recol (col : Nat → Nat) (N c : Nat) : Nat → Nat := fun b => if b < N then col b else c
theorem recol_lt {col : Nat → Nat} {N c b : Nat} (h : b < N) : recol col N c b = col b := if_pos h
theorem recol_ge {col : Nat → Nat} {N c b : Nat} (h : N ≤ b) : recol col N c b = c := if_neg (by omega)

/-- A row grows by a colour: what the others keep. -/
theorem append_col {P : Program} {t : TypeId} {s by_ : Nat} {G : AH} {x : Value} {xs : List (List Value)} (hE : El P t s by_) {col : Nat → Nat} {c : Nat} {v : Value} {ys : List (List Value)} (hg : GrP G (fun b => col b = c) s v ys) (hs : ∀ y ∈ ys, y.length = s) (hr : Rd G s x xs) (hone : xs.flatten.all oneCell = true)
    (hsz : (2 * (ys.length + xs.length) + 1000) * by_ ≤ 281474976710656) (hb : G.base ≤ G.next) :
    ∃ v' G', aAppend P G [t, t] [v, x] = some (v', G') ∧ GrP G' (fun b => recol col G.next c b = c) s v' (ys ++ xs) ∧ (∀ (s2 : Nat) (v2 : Value) (xs2 : List (List Value)), Rd G s2 v2 xs2 → Rd G' s2 v2 xs2) ∧ ∀ d, d ≠ c → Agr (fun b => recol col G.next c b = d) G G' := by
  obtain ⟨v', G', h1, h2, h3, h4⟩ := append_p hE hg hs hr hone hsz hb
  have hn : G.next ≤ G'.next := (h4 (fun _ => False) (fun _ h => h.elim)).next
  refine ⟨v', G', h1, h2.imp fun b _ h => ?_, h3, fun d hd => h4 _ fun b hb hc => ?_⟩
  · by_cases e : b < G.next
    · rw [recol_lt e]; rcases h with h | h
      · exact h
      · omega
    · exact recol_ge (by omega)
  · by_cases e : b < G.next
    · rw [recol_lt e] at hb; omega
    · rw [recol_ge (by omega)] at hb; omega

theorem RdB.grow {G G' : AH} {col : Nat → Nat} {N c d s : Nat} {v : Value} {xs : List (List Value)} (hN : N = G.next) (h : RdB G (fun b => col b = d) s v xs) (ha : Agr (fun b => recol col N c b = d) G G') : RdB G' (fun b => recol col N c b = d) s v xs :=
  (h.imp (q := fun b => recol col N c b = d) fun b hb hc => by rw [recol_lt (by omega)]; exact hc).mono ha
theorem GrP.grow {G G' : AH} {col : Nat → Nat} {N c d s : Nat} {v : Value} {xs : List (List Value)} (hN : N = G.next) (h : GrP G (fun b => col b = d) s v xs) (ha : Agr (fun b => recol col N c b = d) G G') : GrP G' (fun b => recol col N c b = d) s v xs :=
  (h.imp (q := fun b => recol col N c b = d) fun b hb hc => by rw [recol_lt (by omega)]; exact hc).mono ha

/-- While the i-th one grows. -/
structure Growing (H G : AH) (col : Nat → Nat) (s : Nat) (mark : Nat → List Value) (ws : List Value) (yss : List (List (List Value))) (n i k : Nat) (gs : List Value) (vall g : Value) : Prop where
  agr : Agr (fun b => col b = 0) H G
  wlen : ws.length = n
  ylen : yss.length = n
  rows : ∀ (j : Nat) (ys : List (List Value)), yss[j]? = some ys → ∀ y ∈ ys, y.length = s
  glen : gs.length = i
  done : ∀ (j : Nat) (w g : Value) (ys : List (List Value)), ws[j]? = some w → gs[j]? = some g → yss[j]? = some ys → Rd G s w ys ∧ ∃ zs, Rd G s g zs ∧ zs.length ≤ ys.length + 20 ∧ ∀ z ∈ zs, z = mark j
  todo : ∀ (j : Nat) (w : Value) (ys : List (List Value)), i < j → ws[j]? = some w → yss[j]? = some ys → GrP G (fun b => col b = j + 1) s w ys
  all : GrP G (fun b => col b = n + 1) 1 vall (gs.map fun g => [g])
  now : ∀ (w : Value) (ys : List (List Value)), ws[i]? = some w → yss[i]? = some ys → Rd G s w ys
  cur : ∀ (ys : List (List Value)), yss[i]? = some ys → ∃ zs, GrP G (fun b => col b = i + 1) s g zs ∧ zs.length = ys.length + k ∧ ∀ z ∈ zs, z = mark i

section
variable {H G : AH} {col : Nat → Nat} {s : Nat} {mark : Nat → List Value} {ws : List Value} {yss : List (List (List Value))} {n i k : Nat} {gs : List Value} {vall g : Value}

theorem Grown.ext {G' : AH} (h : Grown H G col s mark ws yss n i gs vall) (hx : Ext G G') : Grown H G' col s mark ws yss n i gs vall :=
  ⟨h.agr.trans (hx.agr _), h.wlen, h.ylen, h.rows, h.glen, fun j w g ys h1 h2 h3 => let ⟨a, zs, b, c⟩ := h.done j w g ys h1 h2 h3; ⟨a.mono hx, zs, b.mono hx, c⟩, fun j w ys h0 h1 h2 => (h.todo j w ys h0 h1 h2).mono (hx.agr _), h.all.mono (hx.agr _)⟩
theorem Growing.ext {G' : AH} (h : Growing H G col s mark ws yss n i k gs vall g) (hx : Ext G G') : Growing H G' col s mark ws yss n i k gs vall g :=
  ⟨h.agr.trans (hx.agr _), h.wlen, h.ylen, h.rows, h.glen, fun j w g ys h1 h2 h3 => let ⟨a, zs, b, c⟩ := h.done j w g ys h1 h2 h3; ⟨a.mono hx, zs, b.mono hx, c⟩, fun j w ys h0 h1 h2 => (h.todo j w ys h0 h1 h2).mono (hx.agr _), h.all.mono (hx.agr _),
    fun w ys h1 h2 => (h.now w ys h1 h2).mono hx, fun ys h1 => let ⟨zs, a, b⟩ := h.cur ys h1; ⟨zs, a.mono (hx.agr _), b⟩⟩

/-- The i-th one begins to grow. -/
theorem Grown.begin (h : Grown H G col s mark ws yss n i gs vall) {w : Value} (hw : ws[i]? = some w) (hm : ∀ ys, yss[i]? = some ys → ∀ y ∈ ys, y = mark i) : Growing H G col s mark ws yss n i 0 gs vall w := by
  have hi : i < n := by rw [← h.wlen]; exact (List.getElem?_eq_some_iff.1 hw).1
  refine ⟨h.agr, h.wlen, h.ylen, h.rows, h.glen, h.done, fun j w ys h0 h1 h2 => h.todo j w ys (by omega) h1 h2, h.all, fun w' ys h1 h2 => ?_, fun ys h1 => ⟨ys, h.todo i w ys (Nat.le_refl _) hw h1, rfl, hm ys h1⟩⟩
  exact ((h.todo i w' ys (Nat.le_refl _) h1 h2).rdb (h.rows i ys h2)).rd

/-- One place more. -/
theorem Growing.step {P : Program} {t : TypeId} {by_ : Nat} {x : Value} (hE : El P t s by_) (h : Growing H G col s mark ws yss n i k gs vall g) (hi : i < n) (hr : Rd G s x [mark i]) (hms : (mark i).length = s) (hone : (mark i).all oneCell = true) {M : Nat} (hl : ∀ ys, yss[i]? = some ys → ys.length ≤ M)
    (hsz : (2 * (M + k + 1) + 1000) * by_ ≤ 281474976710656) (hb : G.base ≤ G.next) :
    ∃ g' G', aAppend P G [t, t] [g, x] = some (g', G') ∧ Growing H G' (recol col G.next (i + 1)) s mark ws yss n i (k + 1) gs vall g' ∧ (∀ b, b < G.next → recol col G.next (i + 1) b = col b) := by
  obtain ⟨ys, hy⟩ : ∃ ys, yss[i]? = some ys := ⟨_, List.getElem?_eq_getElem (by rw [h.ylen]; exact hi)⟩
  obtain ⟨zs, hz, hzl, hzm⟩ := h.cur ys hy
  have hzs : ∀ z ∈ zs, z.length = s := fun z hz => by rw [hzm z hz]; exact hms
  have hlen := hl ys hy
  obtain ⟨g', G', h1, h2, h3, h4⟩ := append_col hE hz hzs hr (by simpa using hone) (Nat.le_trans (Nat.mul_le_mul_right _ (by simp only [List.length_singleton]; omega)) hsz) hb
  refine ⟨g', G', h1, ⟨?_, h.wlen, h.ylen, h.rows, h.glen, fun j w g ys q1 q2 q3 => ?_, fun j w ys q0 q1 q2 => (h.todo j w ys q0 q1 q2).grow rfl (h4 _ (by omega)), h.all.grow rfl (h4 _ (by omega)), fun w ys q1 q2 => ?_, fun ys' q1 => ?_⟩, fun b hb => recol_lt hb⟩
  · have hA := h4 0 (by omega)
    have hn := h.agr.next
    refine ⟨Nat.le_trans hn hA.next, hA.base.trans h.agr.base, fun b hb hc => ?_, fun f hf hc => ?_⟩
    · rw [recol_lt (by omega)] at hc
      exact (hA.blk b (by omega) (by rw [recol_lt (by omega)]; exact hc)).trans (h.agr.blk b hb hc)
    · rw [recol_lt (by omega)] at hc
      exact (hA.fam f (by omega) (by rw [recol_lt (by omega)]; exact hc)).trans (h.agr.fam f hf hc)
  · obtain ⟨a, zs', b, c⟩ := h.done j w g ys q1 q2 q3
    have hj : j < i := by rw [← h.glen]; exact (List.getElem?_eq_some_iff.1 q2).1
    exact ⟨h3 _ _ _ a, zs', h3 _ _ _ b, c⟩
  · exact h3 _ _ _ (h.now w ys q1 q2)
  · rw [hy] at q1
    cases q1
    refine ⟨zs ++ [mark i], h2, by rw [List.length_append, hzl]; rfl, fun z hz => ?_⟩
    rcases List.mem_append.1 hz with hz | hz
    · exact hzm z hz
    · exact List.mem_singleton.1 hz

/-- It is laid with the others. -/
theorem Growing.lay {P : Program} {t : TypeId} {by_ : Nat} {x : Value} (hE : El P t 1 by_) (h : Growing H G col s mark ws yss n i k gs vall g) (hi : i < n) (hk : k ≤ 20) (hms : (mark i).length = s) (hr : Rd G 1 x [[g]]) (hone : oneCell g = true) (hsz : (2 * (n + 1) + 1000) * by_ ≤ 281474976710656) (hb : G.base ≤ G.next) :
    ∃ vall' G', aAppend P G [t, t] [vall, x] = some (vall', G') ∧ Grown H G' (recol col G.next (n + 1)) s mark ws yss n (i + 1) (gs ++ [g]) vall' ∧ (∀ b, b < G.next → recol col G.next (n + 1) b = col b) := by
  have hgl : (gs.map fun g => [g]).length = i := by rw [List.length_map, h.glen]
  obtain ⟨v', G', h1, h2, h3, h4⟩ := append_col hE h.all (fun y hy => by obtain ⟨z, _, rfl⟩ := List.mem_map.1 hy; rfl) hr (by simpa using hone) (Nat.le_trans (Nat.mul_le_mul_right _ (by rw [hgl]; simp only [List.length_singleton]; omega)) hsz) hb
  refine ⟨v', G', h1, ⟨?_, h.wlen, h.ylen, h.rows, by rw [List.length_append, h.glen]; rfl, fun j w g' ys q1 q2 q3 => ?_, fun j w ys q0 q1 q2 => ?_, by rw [List.map_append]; exact h2⟩, fun b hb => recol_lt hb⟩
  · have hA := h4 0 (by omega)
    have hn := h.agr.next
    refine ⟨Nat.le_trans hn hA.next, hA.base.trans h.agr.base, fun b hb hc => ?_, fun f hf hc => ?_⟩
    · rw [recol_lt (by omega)] at hc
      exact (hA.blk b (by omega) (by rw [recol_lt (by omega)]; exact hc)).trans (h.agr.blk b hb hc)
    · rw [recol_lt (by omega)] at hc
      exact (hA.fam f (by omega) (by rw [recol_lt (by omega)]; exact hc)).trans (h.agr.fam f hf hc)
  · by_cases e : j < i
    · rw [List.getElem?_append_left (by rw [h.glen]; exact e)] at q2
      obtain ⟨a, zs', b, c⟩ := h.done j w g' ys q1 q2 q3
      exact ⟨h3 _ _ _ a, zs', h3 _ _ _ b, c⟩
    · have hj : j = i := by
        have := (List.getElem?_eq_some_iff.1 q2).1
        rw [List.length_append, h.glen, List.length_singleton] at this
        omega
      subst hj
      rw [List.getElem?_append_right (by rw [h.glen]; exact Nat.le_refl _), h.glen, Nat.sub_self] at q2
      cases q2
      obtain ⟨zs, b, c, d⟩ := h.cur ys q3
      refine ⟨h3 _ _ _ (h.now w ys q1 q3), zs, h3 _ _ _ (b.rdb fun z hz => by rw [d z hz]; exact hms).rd, by omega, d⟩
  · have hjn : j < n := by rw [← h.wlen]; exact (List.getElem?_eq_some_iff.1 q1).1
    exact (h.todo j w ys (by omega) q1 q2).grow rfl (h4 _ (by omega))
end
end Go.Am

/-! The rules of a walk, packed: a text that names them is shorter so. -/
namespace Go.Am
open Go

theorem pAT : type_of% (And.intro @at_some <| And.intro @at_none <| And.intro @at_args <| And.intro (fun {α : Type} => @Option.getD_some α) <| And.intro (fun {α : Type} => @Option.getD_none α) <| And.intro (fun {α : Type} => @List.getElem?_cons_zero α) <| And.intro (fun {α : Type} => @List.getElem?_cons_succ α) <| And.intro (fun {α : Type} => @List.getElem?_nil α) <| And.intro @decide_true <| And.intro @decide_false <| And.intro Bool.not_true Bool.not_false) :=
  And.intro @at_some <| And.intro @at_none <| And.intro @at_args <| And.intro (fun {α : Type} => @Option.getD_some α) <| And.intro (fun {α : Type} => @Option.getD_none α) <| And.intro (fun {α : Type} => @List.getElem?_cons_zero α) <| And.intro (fun {α : Type} => @List.getElem?_cons_succ α) <| And.intro (fun {α : Type} => @List.getElem?_nil α) <| And.intro @decide_true <| And.intro @decide_false <| And.intro Bool.not_true Bool.not_false
theorem pG : type_of% (And.intro (fun {α : Type} => @List.getElem?_toArray α) <| And.intro b_tf <| And.intro b_ft <| And.intro (fun {α : Type} [BEq α] [ReflBEq α] => @beq_self_eq_true α _ _) <| And.intro Bool.false_eq_true Bool.true_eq_false) :=
  And.intro (fun {α : Type} => @List.getElem?_toArray α) <| And.intro b_tf <| And.intro b_ft <| And.intro (fun {α : Type} [BEq α] [ReflBEq α] => @beq_self_eq_true α _ _) <| And.intro Bool.false_eq_true Bool.true_eq_false
theorem pI : type_of% (And.intro @aBin_int <| And.intro @aBin_str <| And.intro @str_refl <| And.intro @int_refl @int_nrefl) :=
  And.intro @aBin_int <| And.intro @aBin_str <| And.intro @str_refl <| And.intro @int_refl @int_nrefl
theorem pN : type_of% (And.intro @new_next <| And.intro @new_base <| And.intro @upd_next <| And.intro @upd_base <| And.intro (fun {α : Type} => @List.length_cons α) (fun {α : Type} => @List.length_nil α)) :=
  And.intro @new_next <| And.intro @new_base <| And.intro @upd_next <| And.intro @upd_base <| And.intro (fun {α : Type} => @List.length_cons α) (fun {α : Type} => @List.length_nil α)
theorem pO : type_of% (And.intro (fun {α : Type} => @List.all_cons α) <| And.intro (fun {α : Type} => @List.all_nil α) <| And.intro @Bool.and_self @Bool.and_true) :=
  And.intro (fun {α : Type} => @List.all_cons α) <| And.intro (fun {α : Type} => @List.all_nil α) <| And.intro @Bool.and_self @Bool.and_true
theorem pC : type_of% (And.intro @cell_new_ne <| And.intro @cell_new_eq <| And.intro @cell_upd_ne <| And.intro @cell_upd_eq <| And.intro @loads_new_ne <| And.intro @loads_new_eq <| And.intro @loads_upd_ne <| And.intro @loads_upd_eq <| And.intro @stores_new_eq <| And.intro @stores_new_ne @stores_upd_ne) :=
  And.intro @cell_new_ne <| And.intro @cell_new_eq <| And.intro @cell_upd_ne <| And.intro @cell_upd_eq <| And.intro @loads_new_ne <| And.intro @loads_new_eq <| And.intro @loads_upd_ne <| And.intro @loads_upd_eq <| And.intro @stores_new_eq <| And.intro @stores_new_ne @stores_upd_ne
theorem pL : type_of% (And.intro pN <| And.intro pO <| And.intro (fun {α β : Type} => @Option.map_some α β) <| And.intro (fun {α : Type} => @List.toList_toArray α) <| And.intro (fun {α : Type} => @List.take_succ_cons α) <| And.intro (fun {α : Type} => @List.take_zero α) <| And.intro (fun {α : Type} => @List.drop_succ_cons α) <| And.intro (fun {α : Type} => @List.drop_zero α) <| And.intro (fun {α : Type} => @List.cons_append α) <| And.intro (fun {α : Type} => @List.nil_append α) <| And.intro (fun {α : Type} => @List.append_nil α) <| And.intro (fun {α : Type} => @List.append_eq α) <| And.intro @Nat.zero_add <| And.intro @Nat.add_zero <| And.intro @Nat.beq_refl <| And.intro (fun {α β : Type} => @List.map_cons α β) (fun {α β : Type} => @List.map_nil α β)) :=
  And.intro pN <| And.intro pO <| And.intro (fun {α β : Type} => @Option.map_some α β) <| And.intro (fun {α : Type} => @List.toList_toArray α) <| And.intro (fun {α : Type} => @List.take_succ_cons α) <| And.intro (fun {α : Type} => @List.take_zero α) <| And.intro (fun {α : Type} => @List.drop_succ_cons α) <| And.intro (fun {α : Type} => @List.drop_zero α) <| And.intro (fun {α : Type} => @List.cons_append α) <| And.intro (fun {α : Type} => @List.nil_append α) <| And.intro (fun {α : Type} => @List.append_nil α) <| And.intro (fun {α : Type} => @List.append_eq α) <| And.intro @Nat.zero_add <| And.intro @Nat.add_zero <| And.intro @Nat.beq_refl <| And.intro (fun {α β : Type} => @List.map_cons α β) (fun {α β : Type} => @List.map_nil α β)
end Go.Am
