/- strings.NewReplacer of one quote and the backslash, and its Replace: what lex.inQuotes tells of every text. -/
import Derived.Test.YtlbjfomcgbiagaaGreatDoorProg
import Derived.Test.YtlbjfomcgbiagaaGreatDoorWAll
import Derived.WalkKit
import Derived.Below
import Derived.Outline
import Derived.Lib.ConvBytes
import Derived.Laws.AppendOwn
import Derived.Laws.LoneSync
import Derived.Laws.NewBlocks
import Derived.Laws.IdiomCopy
import Derived.Defers
import Derived.Deep.OwnRows
import Derived.RegionTactic
import Derived.RegionCalls
import Derived.Maps.AppendAt
import Derived.Lib.SmallJoins
import Derived.Deep.AppendLies
import Derived.Laws.Tables
import Derived.Laws.MakeOwn
import Derived.Lib.OwnKind
import Derived.OneCell
import Derived.Laws.Rows
set_option linter.unusedVariables false
set_option linter.unusedSimpArgs false
namespace Go.Proofs.YtlbjfomcgbiagaaGreatDoor.Rep
open Go Go.RowKit Go.Proofs.YtlbjfomcgbiagaaGreatDoorW.PrintWords

/-- The four texts that NewReplacer is given for a quote. -/
def four (q : UInt8) : List Value := [.string ⟨#[92]⟩, .string ⟨#[92, 92]⟩, .string ⟨#[q]⟩, .string ⟨#[92, q]⟩]
/-- A replacer as it is made. -/
structure Made (q : UInt8) (w : World) (B O c : Nat) : Prop where
  v : w.cell? ⟨B, 0, none⟩ = some (.int .u32 0)
  st : w.cell? ⟨B, 1, none⟩ = some (.int .i32 0)
  se : w.cell? ⟨B, 2, none⟩ = some (.int .u32 0)
  r : w.cell? ⟨B, 3, none⟩ = some .nilIface
  old : w.cell? ⟨B, 4, none⟩ = some (.slice (some ⟨O, 0, none⟩) 4 c)
  ne : O < B
  fr : ∀ j, w.frozen? ⟨B, j, none⟩ = false
  row : ∀ j u, (four q)[j]? = some u → w.cell? ⟨O, j, none⟩ = some u
  lt : B < w.heap.size

theorem alloc_new (w : World) (o : Obj) : (w.alloc o).heap[w.heap.size]? = some o := by
  unfold World.alloc
  simp
theorem new_cell {w : World} {cs : Array Value} {t : TypeId} {b : Nat} (j : Nat) (sp : Option Nat) (hb : b = w.heap.size) : (w.alloc (.cells cs t)).cell? ⟨b, j, none⟩ = cs[j]? := by
  subst hb
  show (match (w.alloc (.cells cs t)).heap[w.heap.size]? with | some (.cells c _ _) => c[j]? | _ => none) = _
  rw [alloc_new]
theorem new_fr {w : World} {cs : Array Value} {t : TypeId} {b : Nat} (j : Nat) (hb : b = w.heap.size) : (w.alloc (.cells cs t)).frozen? ⟨b, j, none⟩ = false := by
  subst hb
  unfold World.frozen?
  rw [alloc_new]
  simp

set_option maxRecDepth 100000 in
set_option maxHeartbeats 1000000 in
theorem new_any (q : UInt8) (A : Nat) (w : World) (hA : ∀ j u, (four q)[j]? = some u → w.cell? ⟨A, j, none⟩ = some u) :
    Calls Tryz.prog 132 #[.slice (some ⟨A, 0, none⟩) 4 4] w fun e w' => ∃ B O c, e = .returned (.pointer (some ⟨B, 0, none⟩)) ∧ w.heap.size ≤ O ∧ Below w.heap.size w w' ∧ Made q w' B O c := by
  have h0 := hA 0 _ rfl
  have h1 := hA 1 _ rfl
  have h2 := hA 2 _ rfl
  have h3 := hA 3 _ rfl
  clear hA
  go_enter Tryz.func132, Tryz.ntmps132
  go_wp2
  go_ret
  generalize (Question.appendCap 4 0 9).cut (w.tape w.drawn (Question.appendCap 4 0 9)) = c
  generalize Builtin.zeroCells _ _ = Z
  refine ⟨w.heap.size + 1, w.heap.size, c, rfl, Nat.le_refl _, below_drew1 (below_alloc (below_alloc (Below.refl _ _) _) _), ?_⟩
  refine { v := ?_, st := ?_, se := ?_, r := ?_, old := ?_, ne := by omega, fr := ?_, row := ?_, lt := by simp }
  all_goals first
    | (rw [World.cell?_drew, new_cell _ none (by simp)]; rfl)
    | (intro j; rw [World.frozen?_drew, new_fr _ (by simp)])
    | (intro j u hj
       rw [World.cell?_drew, World.cell?_alloc_past _ _ _ (by simp), new_cell _ none rfl]
       rcases j with _ | _ | _ | _ | j <;> simp [four] at hj <;> subst hj <;> rw [Array.getElem?_append_left (by simp)] <;> rfl)
    | trace_state
/-- A replacer's table, as it is built for a quote. -/
structure Tab (q : UInt8) (w : World) (R T Q S cT cQ cS : Nat) : Prop where
  tab : ∀ i : Nat, i < 256 → w.cell? ⟨R, i, none⟩ = some (if i = q.toNat then .slice (some ⟨Q, 0, none⟩) 2 cQ else if i = 92 then .slice (some ⟨S, 0, none⟩) 2 cS else .slice none 0 0)
  row : w.cell? ⟨R, 256, none⟩ = some (.slice (some ⟨T, 0, none⟩) 2 cT)
  t0 : w.cell? ⟨T, 0, none⟩ = some (.string ⟨#[q]⟩)
  t1 : w.cell? ⟨T, 1, none⟩ = some (.string ⟨#[92]⟩)
  q0 : w.cell? ⟨Q, 0, none⟩ = some (.int .u8 92)
  q1 : w.cell? ⟨Q, 1, none⟩ = some (.int .u8 (q.toNat : Int))
  s0 : w.cell? ⟨S, 0, none⟩ = some (.int .u8 92)
  s1 : w.cell? ⟨S, 1, none⟩ = some (.int .u8 92)
  lt : R < w.heap.size ∧ T < w.heap.size ∧ Q < w.heap.size ∧ S < w.heap.size

theorem below_setCells (b n : Nat) : ∀ (vs : List Value) (o : Nat) (w0 w : World), n ≤ b → Below n w0 w → Below n w0 (w.setCells b o vs)
  | [], _, _, _, _, h => h
  | v :: r, o, w0, w, hn, h => below_setCells b n r (o + 1) w0 _ hn (h.setCell hn _)
theorem size_setCells (b : Nat) : ∀ (vs : List Value) (o : Nat) (w : World), (w.setCells b o vs).heap.size = w.heap.size
  | [], _, _ => rfl
  | v :: r, o, w => by rw [World.setCells, size_setCells b r]; simp
/-- A variable of zeros, laid and stored whole. -/
theorem st_gen (n : Nat) (z x : Value) (hz : z.oneCell' = true) (hx : x.oneCell' = true) (t : TypeId) (w : World) : ∃ w2, (storeCells ⟨w.heap.size, 0, none⟩ ((Array.replicate (n + 1) z).toList.set n x)).run Tryz.prog (w.alloc (.cells (Array.replicate (n + 1) z) t)) = .ok () w2 ∧
    Below w.heap.size w w2 ∧ w2.heap.size = w.heap.size + 1 ∧ (∀ i, i < n → w2.cell? ⟨w.heap.size, i, none⟩ = some z) ∧ w2.cell? ⟨w.heap.size, n, none⟩ = some x ∧ (∀ j, w2.frozen? ⟨w.heap.size, j, none⟩ = false) := by
  have hl : ((Array.replicate (n + 1) z).toList.set n x).length = n + 1 := by rw [List.length_set, Array.length_toList, Array.size_replicate]
  have hc : ∀ j, j < ((Array.replicate (n + 1) z).toList.set n x).length → ((w.alloc (.cells (Array.replicate (n + 1) z) t)).cell? ⟨w.heap.size, j, none⟩).isSome = true := by
    intro j hj
    rw [hl] at hj
    rw [new_cell _ none rfl, Array.getElem?_eq_getElem (by rw [Array.size_replicate]; exact hj)]
    rfl
  have hr := run_storeCells_cells (P := Tryz.prog) w.heap.size 0 ((Array.replicate (n + 1) z).toList.set n x) 0 (w.alloc (.cells (Array.replicate (n + 1) z) t))
    (fun j hj => by rw [show 0 + 0 + j = j by omega]; exact hc j hj) (fun j _ => new_fr _ rfl) (fun v hv => by
      rw [List.mem_iff_getElem?] at hv
      obtain ⟨j, hj⟩ := hv
      rw [List.getElem?_set] at hj
      split at hj
      · split at hj
        · cases hj; exact hx
        · cases hj
      · have := List.mem_of_getElem? hj
        rw [Array.toList_replicate] at this
        rw [List.eq_of_mem_replicate this]; exact hz)
  have hin := World.cell?_setCells_in w.heap.size ((Array.replicate (n + 1) z).toList.set n x) (0 + 0) (w.alloc (.cells (Array.replicate (n + 1) z) t)) (fun j hj => by rw [show 0 + 0 + j = j by omega]; exact hc j hj)
  refine ⟨_, hr, below_setCells _ _ _ _ _ _ (Nat.le_refl _) (below_alloc (Below.refl _ _) _), by rw [size_setCells]; simp, fun i hi => ?_, ?_, fun j => ?_⟩
  · have := hin i (by rw [hl]; omega)
    rw [show 0 + 0 + i = i by omega] at this
    rw [this, List.getElem_set_ne (by omega)]
    congr 1
    rw [Array.getElem_toList, Array.getElem_replicate]
  · have := hin n (by rw [hl]; omega)
    rw [show 0 + 0 + n = n by omega] at this
    rw [this, List.getElem_set_self]
  · rw [World.frozen?_setCells]; exact new_fr _ rfl
theorem zero_eq : Tryz.zeroCells215 = Array.replicate (256 + 1) (.slice none 0 0) := by kernel_rfl
theorem st_run (w : World) (x : Value) (hx : x.oneCell' = true) : ∃ w2, (storeCells ⟨w.heap.size, 0, none⟩ (Tryz.zeroCells215.toList.set 256 x)).run Tryz.prog (w.alloc (.cells Tryz.zeroCells215 215)) = .ok () w2 ∧
    Below w.heap.size w w2 ∧ w2.heap.size = w.heap.size + 1 ∧ (∀ i, i < 256 → w2.cell? ⟨w.heap.size, i, none⟩ = some (.slice none 0 0)) ∧ w2.cell? ⟨w.heap.size, 256, none⟩ = some x ∧ (∀ j, w2.frozen? ⟨w.heap.size, j, none⟩ = false) := by
  rw [zero_eq]
  exact st_gen 256 _ x rfl hx _ w

/-- The table and its list, as far as they have been built. -/
structure St (w0 wr : World) (R : Nat) (f : Nat → Value) (v : Value) (xs : List Value) : Prop where
  bel : Below w0.heap.size w0 wr
  tab : ∀ i, i < 256 → wr.cell? ⟨R, i, none⟩ = some (f i)
  row : wr.cell? ⟨R, 256, none⟩ = some v
  own : wr.ownsRow w0.heap.size 9 1 v xs.length xs
  fr : ∀ j, wr.frozen? ⟨R, j, none⟩ = false
  ge : w0.heap.size ≤ R
  lt : R < wr.heap.size
  ne : v.ownBlock ≠ some R
theorem St.far {w0 wr : World} {R : Nat} {f : Nat → Value} {v : Value} {xs : List Value} (h : St w0 wr R f v xs) {o1 o2 : Obj} {w3 : World} (hg : ((wr.alloc o1).alloc o2).grownBy w3 v.ownBlock) :
    (∀ j, w3.cell? ⟨R, j, none⟩ = wr.cell? ⟨R, j, none⟩) ∧ ∀ j, w3.frozen? ⟨R, j, none⟩ = false := by
  have hlt := h.lt
  have hne : some R ≠ v.ownBlock := fun e => h.ne e.symm
  refine ⟨fun j => ?_, fun j => ?_⟩
  · rw [hg.cell_far ⟨R, j, none⟩ (by simp; omega) hne, World.cell?_alloc_past _ _ _ (by simp; omega), World.cell?_alloc_past _ _ _ hlt]
  · rw [hg.frozen_far ⟨R, j, none⟩ (by simp; omega) hne, World.frozen?_alloc_past _ _ _ (by simp; omega), World.frozen?_alloc_past _ _ _ hlt]
    exact h.fr j
theorem grown_setCell (w : World) (a : Addr) (u : Value) : w.grownBy (w.setCell a u) (some a.block) :=
  ⟨rfl, rfl, rfl, by simp, fun k _ hk => heap_setCell_other w a k u (fun e => hk (by rw [e]))⟩
theorem St.congr {w0 wr : World} {R : Nat} {f g : Nat → Value} {v : Value} {xs : List Value} (h : St w0 wr R f v xs) (e : ∀ i, i < 256 → f i = g i) : St w0 wr R g v xs :=
  { h with tab := fun i hi => (h.tab i hi).trans (by rw [e i hi]) }
/-- One round: a text behind the list, a row of bytes into the table. -/
theorem St.next {w0 wr : World} {R : Nat} {f : Nat → Value} {v : Value} {xs : List Value} (h : St w0 wr R f v xs) {o1 o2 : Obj} {w3 : World} (hg : ((wr.alloc o1).alloc o2).grownBy w3 v.ownBlock) {v' x : Value}
    (hown : w3.ownsRow w0.heap.size 9 1 v' (xs.length + 1) (xs ++ [x])) (hat : v'.ownBlock = v.ownBlock ∨ v'.ownBlock = some ((wr.alloc o1).alloc o2).heap.size) (hv1 : v'.oneCell' = true) (s : ByteArray) (o : Nat) (ho : o < 256) (c : Nat) :
    ((Lib.bytesWorld (w3.setCell ⟨R, 256, none⟩ v') 5 s).cell? ⟨R, o, none⟩ = some (f o) ∧ (Lib.bytesWorld (w3.setCell ⟨R, 256, none⟩ v') 5 s).frozen? ⟨R, o, none⟩ = false) ∧
    St w0 ((Lib.bytesWorld (w3.setCell ⟨R, 256, none⟩ v') 5 s).setCell ⟨R, o, none⟩ (.slice (some ⟨w3.heap.size, 0, none⟩) s.size c)) R (fun i => if i = o then .slice (some ⟨w3.heap.size, 0, none⟩) s.size c else f i) v' (xs ++ [x]) ∧
    w3.heap.size ≠ R ∧ some w3.heap.size ≠ v'.ownBlock ∧
    (∀ j, j < s.size → ((Lib.bytesWorld (w3.setCell ⟨R, 256, none⟩ v') 5 s).setCell ⟨R, o, none⟩ (.slice (some ⟨w3.heap.size, 0, none⟩) s.size c)).cell? ⟨w3.heap.size, j, none⟩ = some (.int .u8 (s.data.toList.getD j 0).toNat)) ∧
    w3.heap.size < ((Lib.bytesWorld (w3.setCell ⟨R, 256, none⟩ v') 5 s).setCell ⟨R, o, none⟩ (.slice (some ⟨w3.heap.size, 0, none⟩) s.size c)).heap.size ∧
    (∀ b, b < wr.heap.size → b ≠ R → some b ≠ v.ownBlock → ∀ j, ((Lib.bytesWorld (w3.setCell ⟨R, 256, none⟩ v') 5 s).setCell ⟨R, o, none⟩ (.slice (some ⟨w3.heap.size, 0, none⟩) s.size c)).cell? ⟨b, j, none⟩ = wr.cell? ⟨b, j, none⟩) ∧
    (∀ b, b < wr.heap.size → b ≠ R → some b ≠ v.ownBlock → some b ≠ v'.ownBlock) := by
  obtain ⟨hA, hF⟩ := h.far hg
  have hlt := h.lt
  have hge := h.ge
  have hbs := h.bel.size
  have hs2 := hg.size
  have ha2 : ((wr.alloc o1).alloc o2).heap.size = wr.heap.size + 2 := by simp
  rw [ha2] at hs2 hat
  have hR3 : R < w3.heap.size := by omega
  have hR4 : R < (w3.setCell ⟨R, 256, none⟩ v').heap.size := by simp; exact hR3
  have hv' : v'.ownBlock ≠ some R := by
    rcases hat with e | e <;> rw [e]
    · exact h.ne
    · intro e2; cases e2; omega
  have hvlt : ∀ b, v'.ownBlock = some b → b < w3.heap.size := fun b hb => (hown.lt b hb).2
  have hcell : ∀ j, (Lib.bytesWorld (w3.setCell ⟨R, 256, none⟩ v') 5 s).cell? ⟨R, j, none⟩ = (w3.setCell ⟨R, 256, none⟩ v').cell? ⟨R, j, none⟩ := fun j => World.cell?_of_block (Lib.bytesWorld_at_old _ _ _ R hR4)
  have hfr : ∀ j, (Lib.bytesWorld (w3.setCell ⟨R, 256, none⟩ v') 5 s).frozen? ⟨R, j, none⟩ = false := fun j => (World.frozen?_of_block (Lib.bytesWorld_at_old _ _ _ R hR4)).trans (by rw [World.frozen?_setCell]; exact hF j)
  have hold : ∀ j, j < 256 → (Lib.bytesWorld (w3.setCell ⟨R, 256, none⟩ v') 5 s).cell? ⟨R, j, none⟩ = some (f j) := fun j hj => by
    rw [hcell, World.cell?_setCell_other _ _ _ _ (by simp <;> omega), hA]
    exact h.tab j hj
  have hsz : (Lib.bytesWorld (w3.setCell ⟨R, 256, none⟩ v') 5 s).heap.size = w3.heap.size + 1 := by rw [Lib.bytesWorld_size]; simp
  have hk1 : (Lib.bytesWorld (w3.setCell ⟨R, 256, none⟩ v') 5 s).ownsRow w0.heap.size 9 1 v' (xs.length + 1) (xs ++ [x]) :=
    (hown.kept (grown_setCell w3 ⟨R, 256, none⟩ v') (Or.inr hv')).kept (grown_of_below (Go.Joins.below_bytesWorld _ _ _ _ (Nat.le_refl _)) none) (by
      cases hq : v'.ownBlock with
      | none => exact Or.inl rfl
      | some b => exact Or.inr (by simp))
  refine ⟨⟨hold o ho, hfr o⟩, ?_, by omega, fun e => ?_, fun j hj => ?_, by simp [hsz], fun b hb hbR hbv j => ?_, fun b hb hbR hbv e => ?_⟩
  · refine { bel := ?_, tab := fun i hi => ?_, row := ?_, own := ?_, fr := fun j => ?_, ge := hge, lt := by simp [hsz]; omega, ne := hv' }
    · refine Below.setCell (below_then ?_ ?_ (Go.Joins.below_bytesWorld _ _ _ _ (Nat.le_refl _))) hge _
      · refine Below.setCell ?_ hge _
        exact (below_alloc (below_alloc h.bel _) _).grown hg (by simp <;> omega) (fun j hj => (h.own.lt j hj).1)
      · simp <;> omega
    · by_cases e : i = o
      · subst e
        rw [World.cell?_setCell_same _ _ _ (hold i hi), if_pos rfl]
      · rw [World.cell?_setCell_other _ _ _ _ (by simp <;> omega), if_neg e]
        exact hold i hi
    · rw [World.cell?_setCell_other _ _ _ _ (by simp <;> omega), hcell]
      exact World.cell?_setCell_same _ _ _ ((hA 256).trans h.row)
    · have := hk1.kept (grown_setCell _ ⟨R, o, none⟩ (.slice (some ⟨w3.heap.size, 0, none⟩) s.size c)) (Or.inr hv')
      rw [List.length_append, List.length_singleton]
      exact this
    · rw [World.frozen?_setCell]; exact hfr j
  · exact Nat.lt_irrefl _ (hvlt _ e.symm)
  · rw [World.cell?_setCell_other _ _ _ _ (by simp <;> omega)]
    have := Lib.bytesWorld_cell (w3.setCell ⟨R, 256, none⟩ v') 5 s j hj
    simpa using this
  · rw [World.cell?_setCell_other _ _ _ _ (by simp <;> omega)]
    have e1 : (Lib.bytesWorld (w3.setCell ⟨R, 256, none⟩ v') 5 s).cell? ⟨b, j, none⟩ = (w3.setCell ⟨R, 256, none⟩ v').cell? ⟨b, j, none⟩ := World.cell?_of_block (Lib.bytesWorld_at_old _ _ _ b (by simp <;> omega))
    rw [e1, World.cell?_setCell_other _ _ _ _ (by simp <;> omega), hg.cell_far ⟨b, j, none⟩ (by simp <;> omega) hbv, World.cell?_alloc_past _ _ _ (by simp <;> omega), World.cell?_alloc_past _ _ _ hb]
  · rcases hat with e3 | e3 <;> rw [e3] at e
    · exact hbv e
    · cases e; omega
def f1 (q : UInt8) (Q cQ : Nat) (i : Nat) : Value := if i = q.toNat then .slice (some ⟨Q, 0, none⟩) 2 cQ else .slice none 0 0
def f2 (q : UInt8) (Q cQ S cS : Nat) (i : Nat) : Value := if i = q.toNat then .slice (some ⟨Q, 0, none⟩) 2 cQ else if i = 92 then .slice (some ⟨S, 0, none⟩) 2 cS else .slice none 0 0
def Two (W : World) (B : Nat) (c : UInt8) : Prop := B < W.heap.size ∧ W.cell? ⟨B, 0, none⟩ = some (.int .u8 92) ∧ W.cell? ⟨B, 1, none⟩ = some (.int .u8 (c.toNat : Int))
def Round (q : UInt8) (w0 W : World) (R : Nat) (i : Value) : Prop :=
  (i = .int .i64 2 ∧ ∃ v, St w0 W R (fun _ => .slice none 0 0) v []) ∨
  (i = .int .i64 0 ∧ ∃ Q cQ v, St w0 W R (f1 q Q cQ) v [.string ⟨#[q]⟩] ∧ Two W Q q ∧ Q ≠ R ∧ some Q ≠ v.ownBlock) ∨
  (i = .int .i64 (-2) ∧ ∃ Q cQ S cS v, St w0 W R (f2 q Q cQ S cS) v [.string ⟨#[q]⟩, .string ⟨#[92]⟩] ∧ Two W Q q ∧ Two W S 92)
theorem lt_of_cell? {w : World} {a : Addr} {v : Value} (h : w.cell? a = some v) : a.block < w.heap.size := by
  rcases Nat.lt_or_ge a.block w.heap.size with h0 | h0
  · exact h0
  · simp [World.cell?, Array.getElem?_eq_none h0] at h

theorem byte_str (c : UInt8) (W : World) : (convert 124 9 (.slice (some ⟨W.heap.size, 0, none⟩) 1 1)).run Tryz.prog (W.alloc (.cells #[.int .u8 (c.toNat : Int)] 5)) = .ok (.string ⟨#[c]⟩) (W.alloc (.cells #[.int .u8 (c.toNat : Int)] 5)) := by
  have h := run_convert_bytes_arg (W.alloc (.cells #[.int .u8 (c.toNat : Int)] 5)) 124 5 Tryz.underlying124 Tryz.underlying5 W.heap.size 0 1 1 [(c.toNat : Int)] rfl (fun i hi => by
    obtain rfl : i = 0 := by omega
    rw [new_cell _ none rfl]; rfl) 9 Tryz.underlying9
  have e : strOfNums [(c.toNat : Int)] = ⟨#[c]⟩ := by
    unfold strOfNums
    simp
  rw [e] at h
  exact h
theorem own_form {w : World} {base : Nat} {e : TypeId} {size : Nat} {v : Value} {n : Nat} {xs : List Value} (h : w.ownsRow base e size v n xs) : ∃ a c n', v = .slice a n' c := by
  rcases h.2 with ⟨rfl, _⟩ | ⟨g, cap, cur, rfl, _⟩
  · exact ⟨_, _, _, rfl⟩
  · exact ⟨_, _, _, rfl⟩
theorem nil_eq (w : World) : (binOp .eql 124 (.slice none 0 0) (.slice none 0 0)).run Tryz.prog w = .ok (.bool true) w := by kernel_rfl
theorem nil_ne (w : World) : (binOp .neq 124 (.slice none 0 0) (.slice none 0 0)).run Tryz.prog w = .ok (.bool false) w := by kernel_rfl
theorem some_ne (a : Addr) (n c : Nat) (w : World) : (binOp .neq 124 (.slice (some a) n c) (.slice none 0 0)).run Tryz.prog w = .ok (.bool true) w := by kernel_rfl

/-- What build reads of a replacer. -/
def Old (q : UInt8) (w : World) (B O c : Nat) : Prop := w.cell? ⟨B, 4, none⟩ = some (.slice (some ⟨O, 0, none⟩) 4 c) ∧ ∀ j u, (four q)[j]? = some u → w.cell? ⟨O, j, none⟩ = some u

set_option maxRecDepth 100000 in
set_option maxHeartbeats 4000000 in
theorem build_34 (q : UInt8) (hq : q = 34) (B O c : Nat) (w : World) (hM : Old q w B O c) :
    Calls Tryz.prog 155 #[.pointer (some ⟨B, 0, none⟩)] w fun e w' => ∃ R T Q S cT cQ cS, e = .returned (.iface 216 (.pointer (some ⟨R, 0, none⟩))) ∧ Below w.heap.size w w' ∧ Tab q w' R T Q S cT cQ cS := by
  subst hq
  have x1 : ∀ h, ((⟨#[34]⟩ : ByteArray)[0]'h).toNat = 34 := fun _ => rfl
  have x2 : ∀ h, ((⟨#[92]⟩ : ByteArray)[0]'h).toNat = 92 := fun _ => rfl
  have hne := nil_eq
  have hcb := fun W : World => Lib.run_convert_string_bytes W 9 124 5 ⟨#[92, 34]⟩ Tryz.underlying9 Tryz.underlying124 Tryz.underlying5
  have hcb2 := fun W : World => Lib.run_convert_string_bytes W 9 124 5 ⟨#[92, 92]⟩ Tryz.underlying9 Tryz.underlying124 Tryz.underlying5
  have hcv : ∀ W : World, (convert 124 9 (.slice (some ⟨W.heap.size, 0, none⟩) 1 1)).run Tryz.prog (W.alloc (.cells #[.int .u8 34] 5)) = .ok (.string ⟨#[34]⟩) (W.alloc (.cells #[.int .u8 34] 5)) := byte_str 34
  have hcv2 : ∀ W : World, (convert 124 9 (.slice (some ⟨W.heap.size, 0, none⟩) 1 1)).run Tryz.prog (W.alloc (.cells #[.int .u8 92] 5)) = .ok (.string ⟨#[92]⟩) (W.alloc (.cells #[.int .u8 92] 5)) := byte_str 92
  have k4 := hM.1
  have h0 := hM.2 0 _ rfl
  have h1 := hM.2 1 _ rfl
  have h2 := hM.2 2 _ rfl
  have h3 := hM.2 3 _ rfl
  clear hM
  obtain ⟨i0, hi, hz0, hz1, hz2⟩ := info_parts (P := Tryz.prog) (e := 9) (z := .string ByteArray.empty) (size := 1) (bytes := 16) (by kernel_rfl)
  obtain ⟨w1, hmk, hown1, hg1⟩ := run_make_own (P := Tryz.prog) w w.heap.size 93 9 i0 (.string ByteArray.empty) 1 Tryz.underlying93 hi hz0 hz1 .i64 .i64 2 (by rw [hz2]; omega) (by unfold maxLen; omega) (Nat.le_refl _)
  replace hmk : (Instr.makeSlice 93 (.int .i64 0) (.int .i64 2)).run Tryz.prog w = .ok (.slice (some ⟨w.heap.size, 0, none⟩) 0 2) w1 := hmk
  obtain ⟨w2, hst, hb2, hsz2, hnil, hr2, hfr2⟩ := st_run w1 (.slice (some ⟨w.heap.size, 0, none⟩) 0 2) rfl
  have HO := Aside0.mk hown1
  have HG := Aside0.mk hg1
  have HB2 := Aside0.mk hb2
  have HS2 := Aside0.mk hsz2
  have HN := Aside0.mk hnil
  have HR2 := Aside0.mk hr2
  have HF2 := Aside0.mk hfr2
  clear hown1 hg1 hb2 hsz2 hnil hr2 hfr2
  go_enter Tryz.func155, Tryz.ntmps155
  go_wp2
  go_loopw [4, 5] (fun a i wr => wr = w ∧ ((a = .bool true ∧ i = .int .i64 0) ∨ (a = .bool false ∧ (i = .int .i64 2 ∨ i = .int .i64 4)))) (fun a i _ => 4 - (intOf i).toNat)
  case atStart => exact ⟨rfl, .inl ⟨rfl, rfl⟩⟩
  case round =>
    obtain ⟨rfl, hr⟩ := hrel
    rcases hr with ⟨rfl, rfl⟩ | ⟨rfl, rfl | rfl⟩
    · go_wp2
      go_roundw
      case rel => exact ⟨trivial, .inr ⟨rfl, .inl rfl⟩⟩
      case measure => simp [intOf]
    · go_wp2
      go_roundw
      case rel => exact ⟨trivial, .inr ⟨rfl, .inr rfl⟩⟩
      case measure => simp [intOf]
    · obtain ⟨w0, rfl⟩ : ∃ x, x = wr := ⟨_, rfl⟩
      go_wp2
      have hS : St w0 w2 w1.heap.size (fun _ => .slice none 0 0) (.slice (some ⟨w0.heap.size, 0, none⟩) 0 2) [] := {
        bel := below_then ((Below.refl _ _).grown HG.out (Nat.le_refl _) (fun k hk => by cases hk)) HG.out.size HB2.out
        tab := HN.out
        row := HR2.out
        own := HO.out.kept (grown_of_below HB2.out none) (Or.inr (fun e => by cases e))
        fr := HF2.out
        ge := HG.out.size
        lt := by rw [HS2.out]; omega
        ne := fun e => by have := (HO.out.lt _ e).2; omega }
      have HS := Aside0.mk hS
      clear hS hmk hst
      go_loopw [12] (fun i W => Aside0 (Round 34 w0 W w1.heap.size i)) (fun i _ => (intOf i + 2).toNat)
      case atStart => exact ⟨.inl ⟨rfl, _, HS.out⟩⟩
      case round =>
        clear HS HB2 HS2 HN HF2 HR2 HO HG
        have hr := hrel.out
        clear hrel
        rcases hr with ⟨rfl, v, hS⟩ | ⟨rfl, Q, cQ, v, hS, hT, n1, n2⟩ | ⟨rfl, Q, cQ, S, cS, v, hS, hT, hU⟩
        · have g2 := (hS.bel.cell (lt_of_cell? h2)).trans h2
          have g3 := (hS.bel.cell (lt_of_cell? h3)).trans h3
          have g4 := hS.row
          have g5 : wr.cell? ⟨w1.heap.size, 34, none⟩ = some (.slice none 0 0) := hS.tab 34 (by omega)
          have HS := Aside0.mk hS
          clear hS h0 h1 h2 h3 k4
          go_wp2_with (at_builtin; refine wpList_append_own_at _ rfl _ _ 93 rfl w0.heap.size 9 i0 (.string ByteArray.empty) 1 16 Tryz.underlying93 hi hz0 hz1 hz2 rfl (by decide) _ _ _ rfl ((HS.out.own.alloc _).alloc _) ⟨wr.heap.size + 1, 0, none⟩ 1 1 [.string ⟨#[34]⟩] rfl rfl (by simpa using cell_one_new (wr.alloc _) _ _) (fun x hx => by simp at hx; subst hx; rfl) (by unfold maxLen; simp) (by simp) (by have := HS.out.bel.size; simp; omega) ?_; intro v' w3 hown' hgrow _ hat; obtain ⟨va, vc, vn, rfl⟩ := own_form hown'; obtain ⟨hA, hF⟩ := HS.out.far hgrow; have c1 := (hA 256).trans g4; have d1 := hF 256; have hN := HS.out.next hgrow hown' hat rfl ⟨#[92, 34]⟩ 34 (by omega) (grownCap (w3.setCell ⟨w1.heap.size, 256, none⟩ (.slice va vn vc)) 2 0 5); obtain ⟨⟨e1, e2⟩, hN⟩ := hN; have HN := Aside0.mk hN; clear hA hF hown' hgrow hN hat)
          go_roundw
          case rel =>
            obtain ⟨hS, n1, n2, hb, hlt, _, _⟩ := HN.out
            exact ⟨.inr (.inl ⟨rfl, _, _, _, hS.congr (fun i _ => rfl), ⟨hlt, hb 0 (by decide), hb 1 (by decide)⟩, n1, n2⟩)⟩
          case measure => decide
        · have g2 := (hS.bel.cell (lt_of_cell? h0)).trans h0
          have g3 := (hS.bel.cell (lt_of_cell? h1)).trans h1
          have g4 := hS.row
          have g5 : wr.cell? ⟨w1.heap.size, 92, none⟩ = some (.slice none 0 0) := hS.tab 92 (by omega)
          have HS := Aside0.mk hS
          have HT := Aside0.mk (And.intro hT (And.intro n1 n2))
          clear hT n1 n2
          clear hS h0 h1 h2 h3 k4
          go_wp2_with (at_builtin; refine wpList_append_own_at _ rfl _ _ 93 rfl w0.heap.size 9 i0 (.string ByteArray.empty) 1 16 Tryz.underlying93 hi hz0 hz1 hz2 rfl (by decide) _ _ _ rfl ((HS.out.own.alloc _).alloc _) ⟨wr.heap.size + 1, 0, none⟩ 1 1 [.string ⟨#[92]⟩] rfl rfl (by simpa using cell_one_new (wr.alloc _) _ _) (fun x hx => by simp at hx; subst hx; rfl) (by unfold maxLen; simp) (by simp) (by have := HS.out.bel.size; simp; omega) ?_; intro v' w3 hown' hgrow _ hat; obtain ⟨va, vc, vn, rfl⟩ := own_form hown'; obtain ⟨hA, hF⟩ := HS.out.far hgrow; have c1 := (hA 256).trans g4; have d1 := hF 256; have hN := HS.out.next hgrow hown' hat rfl ⟨#[92, 92]⟩ 92 (by omega) (grownCap (w3.setCell ⟨w1.heap.size, 256, none⟩ (.slice va vn vc)) 2 0 5); obtain ⟨⟨e1, e2⟩, hN⟩ := hN; have HN := Aside0.mk hN; clear hA hF hown' hgrow hN hat)
          go_roundw
          case rel =>
            obtain ⟨hS, m1, m2, hb, hlt, hk, _⟩ := HN.out
            obtain ⟨⟨t1, t2, t3⟩, n1, n2⟩ := HT.out
            have u2 := (hk Q t1 n1 n2 0).trans t2
            have u3 := (hk Q t1 n1 n2 1).trans t3
            exact ⟨.inr (.inr ⟨rfl, Q, cQ, _, _, _, hS.congr (fun i _ => by
              unfold f1 f2
              by_cases e1 : i = 34
              · subst e1; rfl
              · by_cases e2 : i = 92
                · subst e2; rfl
                · rw [if_neg e2]
                  show _ = if i = 34 then _ else if i = 92 then _ else _
                  rw [if_neg e1, if_neg e2]
                  show (if i = 34 then _ else _) = _
                  rw [if_neg e1]), ⟨lt_of_cell? u2, u2, u3⟩, ⟨hlt, hb 0 (by decide), hb 1 (by decide)⟩⟩)⟩
          case measure => decide
        · have HF := Aside0.mk (And.intro hS (And.intro hT hU))
          clear hS hT hU h0 h1 h2 h3 k4
          go_wp2
          go_ret
          obtain ⟨hS, ⟨t1, t2, t3⟩, s1, s2, s3⟩ := HF.out
          obtain ⟨g, cap, rfl, _⟩ := hS.own.form (by decide)
          have hc := hS.own.cells (g := g) rfl
          have z0 := hc 0 _ rfl
          have z1 := hc 1 _ rfl
          exact ⟨w1.heap.size, g, Q, S, cap, cQ, cS, rfl, hS.bel, { tab := fun i hi => hS.tab i hi, row := hS.row, t0 := z0, t1 := z1, q0 := t2, q1 := t3, s0 := s2, s1 := s3, lt := ⟨hS.lt, lt_of_cell? z0, t1, s1⟩ }⟩
set_option maxRecDepth 100000 in
set_option maxHeartbeats 4000000 in
theorem build_39 (q : UInt8) (hq : q = 39) (B O c : Nat) (w : World) (hM : Old q w B O c) :
    Calls Tryz.prog 155 #[.pointer (some ⟨B, 0, none⟩)] w fun e w' => ∃ R T Q S cT cQ cS, e = .returned (.iface 216 (.pointer (some ⟨R, 0, none⟩))) ∧ Below w.heap.size w w' ∧ Tab q w' R T Q S cT cQ cS := by
  subst hq
  have x1 : ∀ h, ((⟨#[39]⟩ : ByteArray)[0]'h).toNat = 39 := fun _ => rfl
  have x2 : ∀ h, ((⟨#[92]⟩ : ByteArray)[0]'h).toNat = 92 := fun _ => rfl
  have hne := nil_eq
  have hcb := fun W : World => Lib.run_convert_string_bytes W 9 124 5 ⟨#[92, 39]⟩ Tryz.underlying9 Tryz.underlying124 Tryz.underlying5
  have hcb2 := fun W : World => Lib.run_convert_string_bytes W 9 124 5 ⟨#[92, 92]⟩ Tryz.underlying9 Tryz.underlying124 Tryz.underlying5
  have hcv : ∀ W : World, (convert 124 9 (.slice (some ⟨W.heap.size, 0, none⟩) 1 1)).run Tryz.prog (W.alloc (.cells #[.int .u8 39] 5)) = .ok (.string ⟨#[39]⟩) (W.alloc (.cells #[.int .u8 39] 5)) := byte_str 39
  have hcv2 : ∀ W : World, (convert 124 9 (.slice (some ⟨W.heap.size, 0, none⟩) 1 1)).run Tryz.prog (W.alloc (.cells #[.int .u8 92] 5)) = .ok (.string ⟨#[92]⟩) (W.alloc (.cells #[.int .u8 92] 5)) := byte_str 92
  have k4 := hM.1
  have h0 := hM.2 0 _ rfl
  have h1 := hM.2 1 _ rfl
  have h2 := hM.2 2 _ rfl
  have h3 := hM.2 3 _ rfl
  clear hM
  obtain ⟨i0, hi, hz0, hz1, hz2⟩ := info_parts (P := Tryz.prog) (e := 9) (z := .string ByteArray.empty) (size := 1) (bytes := 16) (by kernel_rfl)
  obtain ⟨w1, hmk, hown1, hg1⟩ := run_make_own (P := Tryz.prog) w w.heap.size 93 9 i0 (.string ByteArray.empty) 1 Tryz.underlying93 hi hz0 hz1 .i64 .i64 2 (by rw [hz2]; omega) (by unfold maxLen; omega) (Nat.le_refl _)
  replace hmk : (Instr.makeSlice 93 (.int .i64 0) (.int .i64 2)).run Tryz.prog w = .ok (.slice (some ⟨w.heap.size, 0, none⟩) 0 2) w1 := hmk
  obtain ⟨w2, hst, hb2, hsz2, hnil, hr2, hfr2⟩ := st_run w1 (.slice (some ⟨w.heap.size, 0, none⟩) 0 2) rfl
  have HO := Aside0.mk hown1
  have HG := Aside0.mk hg1
  have HB2 := Aside0.mk hb2
  have HS2 := Aside0.mk hsz2
  have HN := Aside0.mk hnil
  have HR2 := Aside0.mk hr2
  have HF2 := Aside0.mk hfr2
  clear hown1 hg1 hb2 hsz2 hnil hr2 hfr2
  go_enter Tryz.func155, Tryz.ntmps155
  go_wp2
  go_loopw [4, 5] (fun a i wr => wr = w ∧ ((a = .bool true ∧ i = .int .i64 0) ∨ (a = .bool false ∧ (i = .int .i64 2 ∨ i = .int .i64 4)))) (fun a i _ => 4 - (intOf i).toNat)
  case atStart => exact ⟨rfl, .inl ⟨rfl, rfl⟩⟩
  case round =>
    obtain ⟨rfl, hr⟩ := hrel
    rcases hr with ⟨rfl, rfl⟩ | ⟨rfl, rfl | rfl⟩
    · go_wp2
      go_roundw
      case rel => exact ⟨trivial, .inr ⟨rfl, .inl rfl⟩⟩
      case measure => simp [intOf]
    · go_wp2
      go_roundw
      case rel => exact ⟨trivial, .inr ⟨rfl, .inr rfl⟩⟩
      case measure => simp [intOf]
    · obtain ⟨w0, rfl⟩ : ∃ x, x = wr := ⟨_, rfl⟩
      go_wp2
      have hS : St w0 w2 w1.heap.size (fun _ => .slice none 0 0) (.slice (some ⟨w0.heap.size, 0, none⟩) 0 2) [] := {
        bel := below_then ((Below.refl _ _).grown HG.out (Nat.le_refl _) (fun k hk => by cases hk)) HG.out.size HB2.out
        tab := HN.out
        row := HR2.out
        own := HO.out.kept (grown_of_below HB2.out none) (Or.inr (fun e => by cases e))
        fr := HF2.out
        ge := HG.out.size
        lt := by rw [HS2.out]; omega
        ne := fun e => by have := (HO.out.lt _ e).2; omega }
      have HS := Aside0.mk hS
      clear hS hmk hst
      go_loopw [12] (fun i W => Aside0 (Round 39 w0 W w1.heap.size i)) (fun i _ => (intOf i + 2).toNat)
      case atStart => exact ⟨.inl ⟨rfl, _, HS.out⟩⟩
      case round =>
        clear HS HB2 HS2 HN HF2 HR2 HO HG
        have hr := hrel.out
        clear hrel
        rcases hr with ⟨rfl, v, hS⟩ | ⟨rfl, Q, cQ, v, hS, hT, n1, n2⟩ | ⟨rfl, Q, cQ, S, cS, v, hS, hT, hU⟩
        · have g2 := (hS.bel.cell (lt_of_cell? h2)).trans h2
          have g3 := (hS.bel.cell (lt_of_cell? h3)).trans h3
          have g4 := hS.row
          have g5 : wr.cell? ⟨w1.heap.size, 39, none⟩ = some (.slice none 0 0) := hS.tab 39 (by omega)
          have HS := Aside0.mk hS
          clear hS h0 h1 h2 h3 k4
          go_wp2_with (at_builtin; refine wpList_append_own_at _ rfl _ _ 93 rfl w0.heap.size 9 i0 (.string ByteArray.empty) 1 16 Tryz.underlying93 hi hz0 hz1 hz2 rfl (by decide) _ _ _ rfl ((HS.out.own.alloc _).alloc _) ⟨wr.heap.size + 1, 0, none⟩ 1 1 [.string ⟨#[39]⟩] rfl rfl (by simpa using cell_one_new (wr.alloc _) _ _) (fun x hx => by simp at hx; subst hx; rfl) (by unfold maxLen; simp) (by simp) (by have := HS.out.bel.size; simp; omega) ?_; intro v' w3 hown' hgrow _ hat; obtain ⟨va, vc, vn, rfl⟩ := own_form hown'; obtain ⟨hA, hF⟩ := HS.out.far hgrow; have c1 := (hA 256).trans g4; have d1 := hF 256; have hN := HS.out.next hgrow hown' hat rfl ⟨#[92, 39]⟩ 39 (by omega) (grownCap (w3.setCell ⟨w1.heap.size, 256, none⟩ (.slice va vn vc)) 2 0 5); obtain ⟨⟨e1, e2⟩, hN⟩ := hN; have HN := Aside0.mk hN; clear hA hF hown' hgrow hN hat)
          go_roundw
          case rel =>
            obtain ⟨hS, n1, n2, hb, hlt, _, _⟩ := HN.out
            exact ⟨.inr (.inl ⟨rfl, _, _, _, hS.congr (fun i _ => rfl), ⟨hlt, hb 0 (by decide), hb 1 (by decide)⟩, n1, n2⟩)⟩
          case measure => decide
        · have g2 := (hS.bel.cell (lt_of_cell? h0)).trans h0
          have g3 := (hS.bel.cell (lt_of_cell? h1)).trans h1
          have g4 := hS.row
          have g5 : wr.cell? ⟨w1.heap.size, 92, none⟩ = some (.slice none 0 0) := hS.tab 92 (by omega)
          have HS := Aside0.mk hS
          have HT := Aside0.mk (And.intro hT (And.intro n1 n2))
          clear hT n1 n2
          clear hS h0 h1 h2 h3 k4
          go_wp2_with (at_builtin; refine wpList_append_own_at _ rfl _ _ 93 rfl w0.heap.size 9 i0 (.string ByteArray.empty) 1 16 Tryz.underlying93 hi hz0 hz1 hz2 rfl (by decide) _ _ _ rfl ((HS.out.own.alloc _).alloc _) ⟨wr.heap.size + 1, 0, none⟩ 1 1 [.string ⟨#[92]⟩] rfl rfl (by simpa using cell_one_new (wr.alloc _) _ _) (fun x hx => by simp at hx; subst hx; rfl) (by unfold maxLen; simp) (by simp) (by have := HS.out.bel.size; simp; omega) ?_; intro v' w3 hown' hgrow _ hat; obtain ⟨va, vc, vn, rfl⟩ := own_form hown'; obtain ⟨hA, hF⟩ := HS.out.far hgrow; have c1 := (hA 256).trans g4; have d1 := hF 256; have hN := HS.out.next hgrow hown' hat rfl ⟨#[92, 92]⟩ 92 (by omega) (grownCap (w3.setCell ⟨w1.heap.size, 256, none⟩ (.slice va vn vc)) 2 0 5); obtain ⟨⟨e1, e2⟩, hN⟩ := hN; have HN := Aside0.mk hN; clear hA hF hown' hgrow hN hat)
          go_roundw
          case rel =>
            obtain ⟨hS, m1, m2, hb, hlt, hk, _⟩ := HN.out
            obtain ⟨⟨t1, t2, t3⟩, n1, n2⟩ := HT.out
            have u2 := (hk Q t1 n1 n2 0).trans t2
            have u3 := (hk Q t1 n1 n2 1).trans t3
            exact ⟨.inr (.inr ⟨rfl, Q, cQ, _, _, _, hS.congr (fun i _ => by
              unfold f1 f2
              by_cases e1 : i = 39
              · subst e1; rfl
              · by_cases e2 : i = 92
                · subst e2; rfl
                · rw [if_neg e2]
                  show _ = if i = 39 then _ else if i = 92 then _ else _
                  rw [if_neg e1, if_neg e2]
                  show (if i = 39 then _ else _) = _
                  rw [if_neg e1]), ⟨lt_of_cell? u2, u2, u3⟩, ⟨hlt, hb 0 (by decide), hb 1 (by decide)⟩⟩)⟩
          case measure => decide
        · have HF := Aside0.mk (And.intro hS (And.intro hT hU))
          clear hS hT hU h0 h1 h2 h3 k4
          go_wp2
          go_ret
          obtain ⟨hS, ⟨t1, t2, t3⟩, s1, s2, s3⟩ := HF.out
          obtain ⟨g, cap, rfl, _⟩ := hS.own.form (by decide)
          have hc := hS.own.cells (g := g) rfl
          have z0 := hc 0 _ rfl
          have z1 := hc 1 _ rfl
          exact ⟨w1.heap.size, g, Q, S, cap, cQ, cS, rfl, hS.bel, { tab := fun i hi => hS.tab i hi, row := hS.row, t0 := z0, t1 := z1, q0 := t2, q1 := t3, s0 := s2, s1 := s3, lt := ⟨hS.lt, lt_of_cell? z0, t1, s1⟩ }⟩
theorem build_any (q : UInt8) (hq : q = 34 ∨ q = 39) (B O c : Nat) (w : World) (hM : Old q w B O c) :
    Calls Tryz.prog 155 #[.pointer (some ⟨B, 0, none⟩)] w fun e w' => ∃ R T Q S cT cQ cS, e = .returned (.iface 216 (.pointer (some ⟨R, 0, none⟩))) ∧ Below w.heap.size w w' ∧ Tab q w' R T Q S cT cQ cS := by
  rcases hq with h | h
  · exact build_34 q h B O c w hM
  · exact build_39 q h B O c w hM
end Go.Proofs.YtlbjfomcgbiagaaGreatDoor.Rep
