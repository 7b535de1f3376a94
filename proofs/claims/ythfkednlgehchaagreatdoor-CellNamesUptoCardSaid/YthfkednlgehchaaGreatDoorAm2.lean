/- The abstract machine: its operations are the model's. -/
import Derived.Test.YthfkednlgehchaaGreatDoorAm1
import Derived.Laws.World
import Derived.Laws.AppendOwn
import Derived.Laws.BytesString
import Derived.Laws.BytesArg
import Derived.IntWalk
import Derived.Laws.IdiomStrings
set_option linter.unusedVariables false
set_option linter.unusedSimpArgs false
/-! The abstract machine's reads and writes, against the model's. -/
namespace Go.Am
open Go
variable {P : Program}

/-- A computation that answers what stands to v, and leaves a world that stands to H'. -/
def OkV (P : Program) (H : AH) (ρ : Rho) (w : World) (s : Sem Value) (v : Value) (H' : AH) : Prop :=
  ∃ v' w' ρ', s.run P w = .ok v' w' ∧ VR ρ' v v' ∧ WR P H' ρ' w'.heap ∧ Grw H ρ w H' ρ' w'

def OkU (P : Program) (H : AH) (ρ : Rho) (w : World) (s : Sem Unit) (H' : AH) : Prop :=
  ∃ w' ρ', s.run P w = .ok () w' ∧ WR P H' ρ' w'.heap ∧ Grw H ρ w H' ρ' w'

theorem Pu.okV {H : AH} {ρ : Rho} {w : World} {s : Sem Value} {v : Value} (h : Pu P ρ w s v) (hW : WR P H ρ w.heap) : OkV P H ρ w s v H :=
  let ⟨v', h1, h2⟩ := h; ⟨v', w, ρ, h1, h2, hW, hW.refl⟩

/-! ### Reads -/

theorem row_spec {H : AH} {b : Nat} {c : List Value} (h : H.row b = some c) : ∃ e o, H.blk.get b = some (.cells c e o) ∧ H.okR o = true := by
  unfold AH.row at h
  split at h
  · rename_i c' e o hb
    split at h
    · rename_i hr; cases h; exact ⟨e, o, hb, hr⟩
    · cases h
  · cases h

theorem row_real {H : AH} {ρ : Rho} {w : World} (hW : WR P H ρ w.heap) {b : Nat} {m : Pl} (hm : ρ b = some m) {c : List Value} (h : H.row b = some c) :
    ∃ C ty fz, w.heap[m.r]? = some (.cells C ty fz) ∧ CR ρ c C m.d := by
  obtain ⟨e, o, hb, hr⟩ := row_spec h
  obtain ⟨C, ty, fz, h1, h2, _⟩ := (hW.blk b m _ hm hb).2 hr
  exact ⟨C, ty, fz, h1, h2⟩

theorem cell_real {H : AH} {ρ : Rho} {w : World} (hW : WR P H ρ w.heap) {b : Nat} {m : Pl} (hm : ρ b = some m) {o : Nat} {v : Value} (h : H.cell b o = some v) :
    ∃ v', w.cell? ⟨m.r, m.d + o, none⟩ = some v' ∧ VR ρ v v' := by
  unfold AH.cell at h
  split at h
  · rename_i c hc
    obtain ⟨C, ty, fz, h1, h2⟩ := row_real hW hm hc
    obtain ⟨y, hy, hv⟩ := h2 _ _ h
    refine ⟨y, ?_, hv⟩
    unfold World.cell?
    simp [h1, hy]
  · cases h

theorem loads_real {H : AH} {ρ : Rho} {w : World} (hW : WR P H ρ w.heap) {b : Nat} {m : Pl} (hm : ρ b = some m) :
    ∀ (n o i : Nat) (vs : List Value) (acc : Array Value), H.loads b (o + i) n = some vs →
      ∃ vs', (loadCellsFrom ⟨m.r, m.d + o, none⟩ i n acc).run P w = .ok (acc ++ vs'.toArray) w ∧ LR ρ vs vs' := by
  intro n
  induction n with
  | zero => intro o i vs acc h; simp only [AH.loads, Option.some.injEq] at h; subst h; exact ⟨[], by simp [loadCellsFrom], .nil⟩
  | succ n ih =>
    intro o i vs acc h
    unfold AH.loads at h
    split at h
    · rename_i v hv
      split at h
      · rename_i vs1 hvs
        cases h
        obtain ⟨v', h1, h2⟩ := cell_real hW hm hv
        obtain ⟨vs', h3, h4⟩ := ih o (i + 1) vs1 (acc.push v') (by rw [← hvs]; rfl)
        refine ⟨v' :: vs', ?_, .cons h2 h4⟩
        unfold loadCellsFrom
        have ha : Addr.add ⟨m.r, m.d + o, none⟩ i = ⟨m.r, m.d + (o + i), none⟩ := by rw [Addr.add_lit, Nat.add_assoc]
        simp only [Sem.run_bind, run_load, ha, h1, Result.andThen_ok]
        rw [h3]
        simp
      · cases h
    · cases h

theorem loadCells_real {H : AH} {ρ : Rho} {w : World} (hW : WR P H ρ w.heap) {b : Nat} {m : Pl} (hm : ρ b = some m) {n o : Nat} {vs : List Value} (h : H.loads b o n = some vs) :
    ∃ vs', (loadCells ⟨m.r, m.d + o, none⟩ n).run P w = .ok vs'.toArray w ∧ LR ρ vs vs' := by
  obtain ⟨vs', h1, h2⟩ := loads_real hW hm n o 0 vs #[] h
  exact ⟨vs', by unfold loadCells; rw [h1]; simp, h2⟩

theorem ptr_inv {ρ : Rho} {b o : Nat} {v : Value} (h : VR ρ (.pointer (some ⟨b, o, none⟩)) v) : ∃ m, ρ b = some m ∧ v = .pointer (some ⟨m.r, m.d + o, none⟩) := by
  cases h with
  | @ptr _ m _ h => exact ⟨m, h, rfl⟩

theorem load_ok {H : AH} {ρ : Rho} {w : World} (hW : WR P H ρ w.heap) {t : TypeId} {a a' v : Value} (h : aLoad P H t a = some v) (ha : VR ρ a a') :
    Pu P ρ w (Instr.loadAt t a') v := by
  unfold aLoad at h
  split at h
  · obtain ⟨m, hm, rfl⟩ := ptr_inv ha
    split at h
    · rename_i hg
      split at h
      · rename_i n hn
        split at h
        · rename_i vs hvs
          cases h
          obtain ⟨vs', h1, h2⟩ := loadCells_real hW hm hvs
          refine ⟨.agg vs'.toArray, ?_, VR.agg_of (by simpa using h2)⟩
          simp only [Instr.loadAt, Instr.sureAddr, loadVar, Sem.run_bind, Sem.run_pure, Result.andThen_ok, run_isAgg hg, if_true, run_sizeOf hn, h1]
        · cases h
      · cases h
    · rename_i hg
      obtain ⟨v', h1, h2⟩ := cell_real hW hm h
      refine ⟨v', ?_, h2⟩
      simp [Instr.loadAt, Instr.sureAddr, loadVar, run_isAgg hg, h1]
    · cases h
  · cases h

/-! ### Writes -/

/-- cells written one behind the other -/
def wr (C : Array Value) (p : Nat) : List Value → Array Value
  | [] => C
  | x :: xs => wr (C.setIfInBounds p x) (p + 1) xs

theorem wr_size : ∀ (xs : List Value) (C : Array Value) (p : Nat), (wr C p xs).size = C.size := by
  intro xs
  induction xs with
  | nil => intro C p; rfl
  | cons x xs ih => intro C p; simp [wr, ih]

theorem wr_get : ∀ (xs : List Value) (C : Array Value) (p j : Nat), p + xs.length ≤ C.size → (wr C p xs)[j]? = if p ≤ j ∧ j < p + xs.length then xs[j - p]? else C[j]? := by
  intro xs
  induction xs with
  | nil => intro C p j _; simp only [wr, List.length_nil]; rw [if_neg (by omega)]
  | cons x xs ih =>
    intro C p j h
    simp only [List.length_cons] at h
    simp only [wr, List.length_cons]
    rw [ih _ _ _ (by simp; omega)]
    by_cases e : j = p
    · subst e
      rw [if_neg (by omega), if_pos (by omega)]
      simp [Array.getElem?_setIfInBounds, show j < C.size by omega]
    · by_cases e2 : p + 1 ≤ j ∧ j < p + 1 + xs.length
      · rw [if_pos e2, if_pos (by omega)]
        obtain ⟨k, rfl⟩ : ∃ k, j = p + 1 + k := ⟨j - (p + 1), by omega⟩
        rw [show p + 1 + k - (p + 1) = k by omega, show p + 1 + k - p = k + 1 by omega]
        simp
      · rw [if_neg e2, if_neg (by omega)]
        exact Array.getElem?_setIfInBounds_ne (fun h => e h.symm)

theorem splice_length {c xs : List Value} {o : Nat} (h : o + xs.length ≤ c.length) : (splice c o xs).length = c.length := by
  unfold splice; simp; omega

theorem splice_get {c xs : List Value} {o : Nat} (h : o + xs.length ≤ c.length) (i : Nat) :
    (splice c o xs)[i]? = if o ≤ i ∧ i < o + xs.length then xs[i - o]? else c[i]? := by
  unfold splice
  by_cases e1 : i < o
  · rw [if_neg (by omega), List.getElem?_append_left (by simp; omega), List.getElem?_take_of_lt e1]
  · rw [List.getElem?_append_right (by simp; omega)]
    simp only [List.length_take, Nat.min_eq_left (show o ≤ c.length by omega)]
    by_cases e2 : i < o + xs.length
    · rw [if_pos (by omega), List.getElem?_append_left (by omega)]
    · rw [if_neg (by omega), List.getElem?_append_right (by omega), List.getElem?_drop]
      congr 1; omega

theorem CR.splice {ρ : Rho} {c xs xs' : List Value} {C : Array Value} {d o : Nat} (h : CR ρ c C d) (hx : LR ρ xs xs') (ho : o + xs.length ≤ c.length) (hC : d + c.length ≤ C.size) :
    CR ρ (Am.splice c o xs) (wr C (d + o) xs') d := by
  intro i x hi
  rw [splice_get ho] at hi
  have hl := hx.length
  rw [wr_get _ _ _ _ (by omega)]
  by_cases e : o ≤ i ∧ i < o + xs.length
  · rw [if_pos e] at hi
    rw [if_pos (by omega)]
    obtain ⟨y, hy, hv⟩ := hx.get_left hi
    exact ⟨y, by rw [show d + i - (d + o) = i - o by omega]; exact hy, hv⟩
  · rw [if_neg e] at hi
    rw [if_neg (by omega)]
    exact h i x hi

theorem VR.oneCell {ρ : Rho} {x y : Value} (h : VR ρ x y) : oneCell y = Am.oneCell x := by cases h <;> rfl

theorem LR.oneCell {ρ : Rho} {xs ys : List Value} (h : LR ρ xs ys) : ys.all Am.oneCell = xs.all Am.oneCell := by
  induction h with
  | nil => rfl
  | cons h _ ih => simp [h.oneCell, ih]

theorem run_storeCells : ∀ (xs : List Value) (a : Addr) (i : Nat) (w : World) (C : Array Value) (ty : TypeId) (fz : Nat × Nat), a.spot = none → w.heap[a.block]? = some (.cells C ty fz) → FF C fz →
    a.off + i + xs.length ≤ C.size → xs.all oneCell = true →
    ∃ w', (storeCells a xs i).run P w = .ok () w' ∧ w'.heap[a.block]? = some (.cells (wr C (a.off + i) xs) ty fz) ∧ ButAt w.heap w'.heap a.block ∧ w'.os = w.os ∧ w'.tape = w.tape ∧ w'.output = w.output := by
  intro xs
  induction xs with
  | nil => intro a i w C ty fz _ h1 _ _ _; exact ⟨w, rfl, h1, ⟨rfl, fun _ _ => rfl⟩, rfl, rfl, rfl⟩
  | cons x xs ih =>
    intro a i w C ty fz hs h1 h2 h3 h4
    obtain ⟨ab, ao, as⟩ := a
    simp only at hs h1 h3
    subst hs
    simp only [List.length_cons] at h3
    simp only [List.all_cons, Bool.and_eq_true] at h4
    unfold storeCells
    have hv : x.oneCell' = true := by cases x <;> simp_all [Value.oneCell', oneCell]
    have hcell : (w.cell? ⟨ab, ao + i, none⟩) = some (C[ao + i]'(by omega)) := by
      unfold World.cell?; simp [h1]
    have hfr : w.frozen? ⟨ab, ao + i, none⟩ = false := by
      unfold World.frozen?; simp only [h1]
      have := h2 (ao + i) (by omega)
      simp only [Bool.and_eq_false_iff, decide_eq_false_iff_not]
      by_cases e : fz.1 ≤ ao + i
      · right; intro h; exact this ⟨e, h⟩
      · left; exact e
    have hset : (w.setCell ⟨ab, ao + i, none⟩ x).heap[ab]? = some (.cells (C.setIfInBounds (ao + i) x) ty fz) := by
      unfold World.setCell; simp [Array.getElem?_modify, h1]
    have hbut : ButAt w.heap (w.setCell ⟨ab, ao + i, none⟩ x).heap ab := by
      refine ⟨by simp, fun j hj => ?_⟩
      unfold World.setCell; simp only [Array.getElem?_modify]; rw [if_neg (fun e => hj e.symm)]
    obtain ⟨w', g1, g2, g3, g4, g5, g6⟩ := ih ⟨ab, ao, none⟩ (i + 1) (w.setCell ⟨ab, ao + i, none⟩ x) (C.setIfInBounds (ao + i) x) ty fz rfl hset (fun j hj => h2 j (by simpa using hj)) (by simp; omega) h4.2
    refine ⟨w', ?_, ?_, ⟨g3.1.trans hbut.1, fun j hj => (g3.2 j hj).trans (hbut.2 j hj)⟩, g4, g5, g6⟩
    · simp only [Sem.run_bind, Addr.add_lit]
      rw [run_store P w _ x _ hv, hcell]
      simp only [hfr, Bool.false_eq_true, if_false, Result.andThen_ok]
      exact g1
    · simp only [wr]; exact g2

theorem stores_ok {H H' : AH} {ρ : Rho} {w : World} (hW : WR P H ρ w.heap) {b : Nat} {m : Pl} (hm : ρ b = some m) {o : Nat} {xs xs' : List Value}
    (h : H.stores b o xs = some H') (hx : LR ρ xs xs') :
    ∃ w', (storeCells ⟨m.r, m.d + o, none⟩ xs').run P w = .ok () w' ∧ WR P H' ρ w'.heap ∧ Grw H ρ w H' ρ w' := by
  unfold AH.stores at h
  split at h
  · rename_i c e ow hb
    split at h
    · rename_i hc
      cases h
      simp only [Bool.and_eq_true] at hc
      obtain ⟨⟨hw, hall⟩, hle⟩ := hc
      have hle := Nat.le_of_ble_eq_true hle
      obtain ⟨g1, g2, g3, g4⟩ := AH.okW_spec hW.wf hb hw
      obtain ⟨he, hB⟩ := hW.blk b m _ hm hb
      obtain ⟨C, ty, fz, h1, h2, h3⟩ := hB g2
      obtain ⟨h4, h5, h6⟩ := h3 g3
      obtain ⟨w', k1, k2, k3, k4, k5, k6⟩ := run_storeCells (P := P) xs' ⟨m.r, m.d + o, none⟩ 0 w C ty fz rfl h1 h6 (by have := hx.length; simp only; omega) (by rw [hx.oneCell]; exact hall)
      refine ⟨w', k1, ?_⟩
      exact hW.put hb hw hm (splice_length hle) h1 (wr_size ..) k2 (CR.splice h2 hx hle (by omega)) k3 k4 k5 k6
    · cases h
  · cases h

theorem cellsL_LR {ρ : Rho} {x y : Value} (h : VR ρ x y) : LR ρ (cellsL x) y.cells.toList := by
  cases h with
  | agg h1 h2 => exact (VR.agg_inv (.agg h1 h2)).elim fun ys h => by obtain ⟨h3, h4⟩ := h; cases h3; exact h4
  | bool b => exact .cons (.bool b) .nil
  | int k n => exact .cons (.int k n) .nil
  | float k n => exact .cons (.float k n) .nil
  | complex k n m => exact .cons (.complex k n m) .nil
  | string s => exact .cons (.string s) .nil
  | pnil => exact .cons .pnil .nil
  | ptr o h => exact .cons (.ptr o h) .nil
  | opq r o => exact .cons (.opq r o) .nil
  | snil => exact .cons .snil .nil
  | smt a c => exact .cons (.smt a c) .nil
  | sz a => exact .cons (.sz a) .nil
  | sl o len c c' h hc hl hR => exact .cons (.sl o len c c' h hc hl hR) .nil
  | mnil => exact .cons .mnil .nil
  | map h => exact .cons (.map h) .nil
  | chnil => exact .cons .chnil .nil
  | func fn h1 h2 h3 h4 => exact .cons (.func fn h1 h2 h3 h4) .nil
  | nilFunc => exact .cons .nilFunc .nil
  | iface t h => exact .cons (.iface t h) .nil
  | nilIface => exact .cons .nilIface .nil
  | tuple h1 h2 => exact .cons (.tuple h1 h2) .nil

theorem store_ok {H H' : AH} {ρ : Rho} {w : World} (hW : WR P H ρ w.heap) {t : TypeId} {a a' v v' : Value} (h : aStore P H t a v = some H') (ha : VR ρ a a') (hv : VR ρ v v') :
    OkU P H ρ w (Instr.storeAt t a' v') H' := by
  unfold aStore at h
  split at h
  · obtain ⟨m, hm, rfl⟩ := ptr_inv ha
    split at h
    · rename_i n hn
      split at h
      · rename_i hl
        have hl := Nat.eq_of_beq_eq_true hl
        have hc := cellsL_LR hv
        obtain ⟨w', h1, h2, h3⟩ := stores_ok hW hm h hc
        refine ⟨w', ρ, ?_, h2, h3⟩
        simp only [Instr.storeAt, Instr.sureAddr, storeVar, Sem.run_bind, Sem.run_pure, Result.andThen_ok, run_sizeOf hn]
        have hs : v'.cells.size = n := by have := hc.length; simp at this; omega
        rw [if_neg (by simp [hs])]
        simpa using h1
      · cases h
    · cases h
  · cases h

/-- A new block of cells. -/
theorem newCells_ok {H : AH} {ρ : Rho} {w w' : World} (hW : WR P H ρ w.heap) {c : List Value} {C : Array Value} {ty : TypeId} {fz : Nat × Nat} (e R : Nat)
    (hc : CR ρ c C 0) (hR : c.length ≤ R) (hS : R ≤ C.size) (hF : FF C fz) (hh : w'.heap = w.heap.push (.cells C ty fz)) (h1 : w'.os = w.os) (h2 : w'.tape = w.tape) (h3 : w'.output = w.output) :
    WR P (H.new (.cells c e .solo)) (ρ.set H.next ⟨w.heap.size, 0, R, e⟩) w'.heap ∧ Grw H ρ w (H.new (.cells c e .solo)) (ρ.set H.next ⟨w.heap.size, 0, R, e⟩) w' := by
  refine hW.new rfl R e ?_ hh h1 h2 h3
  refine ⟨rfl, fun _ => ⟨C, ty, fz, by simp, hc.mono (Rho.le_set _ hW.none_next), fun _ => ⟨by simpa using hS, hR, hF⟩⟩⟩

theorem FF_zero (C : Array Value) : FF C (0, 0) := fun i _ h => by omega

theorem CR_of_LR {ρ : Rho} {c : List Value} {C : Array Value} (h : LR ρ c C.toList) : CR ρ c C 0 := fun i x hx => by
  obtain ⟨y, hy, hv⟩ := h.get_left hx
  exact ⟨y, by rw [Nat.zero_add]; simpa using hy, hv⟩

/-- a new variable -/
theorem newVar_ok {H : AH} {ρ : Rho} {w : World} (hW : WR P H ρ w.heap) {t : TypeId} {c : List Value} {v' : Value} (h : LR ρ c v'.cells.toList) :
    OkV P H ρ w (do pure (.pointer (some (← newVar t v')))) (.pointer (some ⟨H.next, 0, none⟩)) (H.new (.cells c 0 .solo)) := by
  obtain ⟨h1, h2⟩ := newCells_ok (w' := { w with heap := w.heap.push (.cells v'.cells t) }) hW (ty := t) 0 v'.cells.size (CR_of_LR h) (by have := h.length; simp at this; omega) (Nat.le_refl _) (FF_zero _) rfl rfl rfl rfl
  refine ⟨.pointer (some ⟨w.heap.size, 0, none⟩), _, _, ?_, ?_, h1, h2⟩
  · simp [newVar, newRow]
  · exact VR.ptr (m := ⟨w.heap.size, 0, v'.cells.size, 0⟩) 0 (Rho.set_same ..)

end Go.Am

/-! The abstract machine's operations, one by one, against the model's (1): variables, addresses, parts, conversions. -/
namespace Go.Am
open Go
variable {P : Program}

/-- Every type has a zero value, without addresses, of the type's size. -/
def ZOk (P : Program) : Prop := ∀ (t : TypeId) (i : TypeInfo), P.types[t]? = some i → ∃ z, i.zero = some z ∧ plainV 20 z = true ∧ ((∀ ts, i.desc ≠ .tuple ts) → z.cells.size = i.size)

def zchk (i : TypeInfo) : Bool :=
  match i.zero with
  | some z => plainV 20 z && (z.cells.size == i.size || (match i.desc with | .tuple _ => true | _ => false))
  | none => false

theorem ZOk.of (h : P.types.toList.all zchk = true) : ZOk P := by
  intro t i hi
  have hm : i ∈ P.types.toList := by
    have : P.types.toList[t]? = some i := by simpa using hi
    exact List.mem_of_getElem? this
  have := List.all_eq_true.1 h i hm
  unfold zchk at this
  split at this
  · rename_i z hz
    simp only [Bool.and_eq_true, Bool.or_eq_true, beq_iff_eq] at this
    refine ⟨z, hz, this.1, fun hn => ?_⟩
    rcases this.2 with h1 | h1
    · exact h1
    · split at h1
      · rename_i ts hd; exact absurd hd (hn ts)
      · cases h1
  · cases this

theorem ZOk.plain (hz : ZOk P) {t : TypeId} {z : Value} (h : zeroT P t = some z) : plainV 20 z = true := by
  unfold zeroT at h
  split at h
  · rename_i i hi
    obtain ⟨z', h1, h2, _⟩ := hz t i hi
    rw [h1] at h; cases h; exact h2
  · cases h

theorem ZOk.esz (hz : ZOk P) {t : TypeId} {s : Nat} (h : eszT P t = some s) : szT P t = some s ∧ ∃ z, zeroT P t = some z ∧ z.cells.size = s := by
  unfold eszT at h
  split at h
  · rename_i i hi
    obtain ⟨z, h1, _, h3⟩ := hz t i hi
    split at h
    · cases h
    · rename_i hd
      cases h
      unfold szT zeroT
      rw [hi]
      exact ⟨rfl, z, h1, h3 hd⟩
  · cases h

theorem box_ok {H : AH} {ρ : Rho} {w : World} (hW : WR P H ρ w.heap) (t : TypeId) {x x' : Value} (h : VR ρ x x') :
    OkV P H ρ w (Instr.box t x') (.pointer (some ⟨H.next, 0, none⟩)) (H.new (.cells (cellsL x) 0 .solo)) := newVar_ok hW (cellsL_LR h)

theorem alloc_ok (hz : ZOk P) {H : AH} {ρ : Rho} {w : World} (hW : WR P H ρ w.heap) {t : TypeId} {z : Value} (h : zeroT P t = some z) :
    OkV P H ρ w (Instr.alloc t true (.tuple #[])) (.pointer (some ⟨H.next, 0, none⟩)) (H.new (.cells (cellsL z) 0 .solo)) := by
  obtain ⟨v', w', ρ', h1, h2⟩ := newVar_ok (t := t) hW (cellsL_LR (VR.plain ρ 20 z (hz.plain h)))
  refine ⟨v', w', ρ', ?_, h2⟩
  unfold Instr.alloc
  simp only [Sem.run_bind, run_zeroValue h, Result.andThen_ok]
  exact h1

theorem fieldT_spec {s f off : Nat} {t : TypeId} (h : fieldT P s f = some (off, t)) : ∃ fs fd, P.underlying s = some (.struct fs) ∧ fs[f]? = some fd ∧ fd.offset = off ∧ fd.type = t := by
  unfold fieldT at h
  split at h
  · rename_i fs hu
    split at h
    · rename_i fd hf; cases h; exact ⟨fs, fd, hu, hf, rfl, rfl⟩
    · cases h
  · cases h

theorem fieldAddr_ok {ρ : Rho} {w : World} {s : TypeId} {a a' v : Value} {f : Nat} (h : aFieldAddr P s a f = some v) (ha : VR ρ a a') : Pu P ρ w (Instr.fieldAt s a' f) v := by
  unfold aFieldAddr at h
  split at h
  · obtain ⟨m, hm, rfl⟩ := ptr_inv ha
    split at h
    · rename_i off t hf
      obtain ⟨fs, fd, hu, hfd, rfl, rfl⟩ := fieldT_spec hf
      split at h
      · rename_i n hn
        cases h
        refine ⟨_, ?_, VR.ptr _ hm⟩
        unfold Instr.fieldAt
        simp only [Sem.run_bind, run_underlying hu, Result.andThen_ok, hfd, Instr.sureAddr, Sem.run_pure, fieldPlace, run_sizeOf hn]
        rw [if_neg (by omega)]
        simp [Addr.add_lit, Nat.add_assoc]
      · cases h
    · cases h
  · cases h

theorem field_ok {ρ : Rho} {w : World} {t : TypeId} {x x' v : Value} {f : Nat} (h : aField P t x f = some v) (hx : VR ρ x x') : Pu P ρ w (Instr.field t x' f) v := by
  unfold aField at h
  split at h
  · obtain ⟨ys, rfl, hl⟩ := hx.agg_inv
    split at h
    · rename_i off t' hf
      obtain ⟨fs, fd, hu, hfd, rfl, rfl⟩ := fieldT_spec hf
      obtain ⟨v', h1, h2⟩ := part_ok (w := w) h hl
      refine ⟨v', ?_, h2⟩
      unfold Instr.field
      simp [run_underlying hu, hfd, asAgg, h1]
    · cases h
  · cases h

theorem sl_inv {ρ : Rho} {b o len c : Nat} {v : Value} (h : VR ρ (.slice (some ⟨b, o, none⟩) len c) v) :
    ∃ m c', ρ b = some m ∧ c ≤ c' ∧ len ≤ c ∧ (m.e = 0 ∨ o + c' * m.e ≤ m.R) ∧ v = .slice (some ⟨m.r, m.d + o, none⟩) len c' := by
  cases h with
  | @sl _ m _ _ _ c' h hc hl hR => exact ⟨m, c', h, hc, hl, hR, rfl⟩

theorem indexAddr_ok {ρ : Rho} {w : World} {t : TypeId} {x x' i i' v : Value} (h : aIndexAddr P t x i = some v) (hx : VR ρ x x') (hi : VR ρ i i') : Pu P ρ w (Instr.indexAt t x' i') v := by
  unfold aIndexAddr at h
  split at h
  · rename_i e b o len c k n hu
    obtain ⟨m, c', hm, _, _, _, rfl⟩ := sl_inv hx
    cases hi
    split at h
    · rename_i hn
      split at h
      · rename_i s hs
        cases h
        refine ⟨_, ?_, VR.ptr _ hm⟩
        unfold Instr.indexAt
        have hu : P.underlying t = some (.slice e) := hu
        simp only [Sem.run_bind, asIntOf, Sem.run_pure, Result.andThen_ok, run_underlying hu, run_sizeOf hs, Sem.run_ite, if_pos hn]
        simp [Addr.add_lit, Nat.add_assoc]
      · cases h
    · cases h
  · rename_i len e b o k n hu
    obtain ⟨m, hm, rfl⟩ := ptr_inv hx
    cases hi
    split at h
    · rename_i hn
      split at h
      · rename_i s hs
        cases h
        refine ⟨_, ?_, VR.ptr _ hm⟩
        unfold Instr.indexAt
        have hu : P.underlying t = some (.array len e) := hu
        simp only [Sem.run_bind, asIntOf, Sem.run_pure, Result.andThen_ok, run_underlying hu, run_sizeOf hs, Sem.run_ite, if_pos hn, Instr.sureAddr]
        simp [Addr.add_lit, Nat.add_assoc]
      · cases h
    · cases h
  · cases h

theorem index_ok {ρ : Rho} {w : World} {t : TypeId} {x x' i i' v : Value} (h : aIndex P t x i = some v) (hx : VR ρ x x') (hi : VR ρ i i') : Pu P ρ w (Instr.index t x' i') v := by
  unfold aIndex at h
  split at h
  · rename_i s k n hu
    cases hx; cases hi
    split at h
    · rename_i hn
      split at h
      · rename_i c hc
        cases h
        refine ⟨_, ?_, VR.int _ _⟩
        unfold Instr.index
        have hu : P.underlying t = some .string := hu
        have hc' : s[n.toNat]? = some c := by
          obtain ⟨⟨l⟩⟩ := s
          simp only at hc
          have hlt : n.toNat < l.length := by
            rcases Nat.lt_or_ge n.toNat l.length with h' | h'
            · exact h'
            · rw [List.getElem?_eq_none h'] at hc; cases hc
          rw [List.getElem?_eq_getElem hlt] at hc
          simp only [Option.some.injEq] at hc
          have hlt' : n.toNat < (ByteArray.mk ⟨l⟩).size := hlt
          rw [getElem?_pos (ByteArray.mk ⟨l⟩) n.toNat hlt']
          exact congrArg some hc
        simp only [Sem.run_bind, asIntOf, Sem.run_pure, Result.andThen_ok, run_underlying hu, if_pos hn, hc']
      · cases h
    · cases h
  · rename_i len e cs k n hu
    obtain ⟨ys, rfl, hl⟩ := hx.agg_inv
    cases hi
    split at h
    · rename_i hn
      split at h
      · rename_i s hs
        obtain ⟨v', h1, h2⟩ := part_ok (w := w) h hl
        refine ⟨v', ?_, h2⟩
        unfold Instr.index
        have hu : P.underlying t = some (.array len e) := hu
        simp only [Sem.run_bind, asIntOf, Sem.run_pure, Result.andThen_ok, run_underlying hu, run_sizeOf hs, Sem.run_ite, if_pos hn, h1]
      · cases h
    · cases h
  · cases h

theorem makeInterface_ok {ρ : Rho} {w : World} {t : TypeId} {x x' : Value} {d : TypeDesc} (h : undT P t = some d) (hd : ∀ ms, d ≠ .interface ms) (hx : VR ρ x x') :
    Pu P ρ w (Instr.makeInterface t x') (.iface t x) := by
  refine ⟨.iface t x', ?_, .iface t hx⟩
  unfold Instr.makeInterface
  simp only [Sem.run_bind, run_und h, Result.andThen_ok]
  cases d <;> first | rfl | exact absurd rfl (hd _)

theorem extract_ok {ρ : Rho} {w : World} {vs : Array Value} {x' v : Value} {i : Nat} (h : vs.toList[i]? = some v) (hx : VR ρ (.tuple vs) x') : Pu P ρ w (Instr.extract x' i) v := by
  obtain ⟨ys, rfl, hl⟩ := hx.tuple_inv
  obtain ⟨y, hy, hv⟩ := hl.get_left h
  refine ⟨y, ?_, hv⟩
  unfold Instr.extract
  have hy : ys[i]? = some y := by simpa using hy
  simp [hy]

/-! ### Slicing -/

theorem bound_ok {ρ : Rho} {w : World} {x x' : Value} {y l : Nat} {code : BoundsCode} (h : aBound (some x) 0 y = some l) (hx : VR ρ x x') {y' : Nat} (hy : y ≤ y') :
    (Instr.sliceBound x' y' code).run P w = .ok l w ∧ l ≤ y := by
  unfold aBound at h
  split at h
  · rename_i h0; cases h0
  · rename_i k n h0
    cases h0
    cases hx
    split at h
    · rename_i hn
      cases h
      refine ⟨?_, by omega⟩
      unfold Instr.sliceBound
      simp only [Sem.run_bind, asIntOf, Sem.run_pure, Result.andThen_ok, Sem.run_ite]
      rw [if_pos (by omega)]
    · cases h
  · cases h

theorem aBound_dflt {x : Value} {d y : Nat} : aBound (some x) d y = aBound (some x) 0 y := by cases x <;> rfl

/-- a bound that may be left out -/
inductive OR (ρ : Rho) : Option Value → Option Value → Prop where
  | none : OR ρ none none
  | some {x y : Value} (h : VR ρ x y) : OR ρ (some x) (some y)

theorem bounds_ok {ρ : Rho} {w : World} {lo hi lo' hi' : Option Value} (hl : OR ρ lo lo') (hh : OR ρ hi hi') {s : Bool} {len c c' h l : Nat} (hc : c ≤ c') (hlen : len ≤ c)
    (h1 : aBounds lo hi len c = some (l, h)) : (Instr.sliceBounds s len c' lo' hi' none).run P w = .ok (l, h, c') w ∧ l ≤ h ∧ h ≤ c := by
  unfold aBounds at h1
  split at h1
  · rename_i h2 hb
    split at h1
    · rename_i l2 hb2
      cases h1
      cases hh with
      | none =>
        simp only [aBound, Option.some.injEq] at hb
        subst hb
        cases hl with
        | none =>
          simp only [aBound, Option.some.injEq] at hb2
          subst hb2
          exact ⟨by simp [Instr.sliceBounds], by omega, hlen⟩
        | some hx =>
          obtain ⟨k1, k2⟩ := bound_ok (P := P) (w := w) (code := .sliceB) hb2 hx (Nat.le_refl _)
          exact ⟨by simp [Instr.sliceBounds, k1], k2, hlen⟩
      | some hx =>
        rw [aBound_dflt] at hb
        obtain ⟨code, hcode⟩ : ∃ code, code = (if s then BoundsCode.sliceAcap else .sliceAlen) := ⟨_, rfl⟩
        obtain ⟨k1, k2⟩ := bound_ok (P := P) (w := w) (code := code) hb hx hc
        cases hl with
        | none =>
          simp only [aBound, Option.some.injEq] at hb2
          subst hb2
          exact ⟨by simp [Instr.sliceBounds, ← hcode, k1], by omega, k2⟩
        | some hx2 =>
          obtain ⟨k3, k4⟩ := bound_ok (P := P) (w := w) (code := .sliceB) hb2 hx2 (Nat.le_refl _)
          exact ⟨by simp [Instr.sliceBounds, ← hcode, k1, k3], k4, k2⟩
    · cases h1
  · cases h1

theorem from_ok {ρ : Rho} {b o l h c c' n : Nat} {m : Pl} (hm : ρ b = some m) (hlh : l ≤ h) (hh : h ≤ c) (hc : c ≤ c') (hR : m.e = 0 ∨ o + c' * m.e ≤ m.R) (he : m.e = 0 ∨ m.e = n) :
    VR ρ (aFrom n b o l h c) (.slice (some (if c' = l then (⟨m.r, m.d + o, none⟩ : Addr) else Addr.add ⟨m.r, m.d + o, none⟩ (l * n))) (h - l) (c' - l)) := by
  unfold aFrom
  cases h0 : l.beq 0 with
  | true =>
    have h0 := T.beq_t.1 h0; subst h0
    simp only [Nat.sub_zero, Nat.zero_mul, Addr.add_zero', ite_self]
    exact .sl o h c c' hm hc hh hR
  | false =>
    have h0 := T.beq_f.1 h0
    simp only
    cases h1 : c.beq l with
    | true =>
      have h1 := T.beq_t.1 h1; subst h1
      have : h = c := by omega
      subst this
      simp only [Nat.sub_self]
      exact .smt _ _
    | false =>
      have h1 := T.beq_f.1 h1
      simp only
      rw [if_neg (by omega), Addr.add_lit, Nat.add_assoc]
      refine .sl (o + l * n) (h - l) (c - l) (c' - l) hm (by omega) (by omega) ?_
      rcases hR with hR | hR
      · exact .inl hR
      · rcases he with he | he
        · exact .inl he
        · right
          subst he
          have h5 : l * m.e + (c' - l) * m.e = c' * m.e := by rw [← Nat.add_mul]; congr 1; omega
          omega

theorem slice_ok {H : AH} {ρ : Rho} {w : World} (hW : WR P H ρ w.heap) {t : TypeId} {x x' v : Value} {lo hi mx lo' hi' mx' : Option Value} (h : aSlice P H t x lo hi mx = some v)
    (hx : VR ρ x x') (hl : OR ρ lo lo') (hh : OR ρ hi hi') (hmx : OR ρ mx mx') : Pu P ρ w (Instr.sliceAt t x' lo' hi' mx') v := by
  unfold aSlice at h
  split at h
  · rename_i s hu
    have hu : P.underlying t = some .string := hu
    cases hx; cases hmx
    split at h
    · rename_i l h2 hb
      cases h
      obtain ⟨k1, _, _⟩ := bounds_ok (P := P) (w := w) (s := false) hl hh (Nat.le_refl _) (Nat.le_refl _) hb
      refine ⟨_, ?_, .string _⟩
      unfold Instr.sliceAt Instr.slice
      simp [run_underlying hu, k1]
    · cases h
  · rename_i e a len c hu
    have hu : P.underlying t = some (.slice e) := hu
    cases hmx
    split at h
    · rename_i l h2 n hb hn
      have real : ∀ a' len c' m', (Instr.sliceBounds true len c' lo' hi' none).run P w = .ok (l, h2, m') w →
          (Instr.sliceAt t (.slice a' len c') lo' hi' none).run P w = .ok (.slice (if m' = l then a' else a'.map (·.add (l * n))) (h2 - l) (m' - l)) w := by
        intro a' len c' m' k
        unfold Instr.sliceAt Instr.slice
        simp [run_underlying hu, k, run_sizeOf hn]
      split at h
      · cases h
        cases hx
        obtain ⟨k1, k2, k3⟩ := bounds_ok (P := P) (w := w) (s := true) hl hh (Nat.le_refl 0) (Nat.le_refl _) hb
        refine ⟨_, real _ _ _ _ k1, ?_⟩
        have : l = 0 := by omega
        subst this
        have : h2 = 0 := by omega
        subst this
        exact .snil
      · rename_i b o
        obtain ⟨m, c', hm, hc, hlen, hR, rfl⟩ := sl_inv hx
        obtain ⟨k1, k2, k3⟩ := bounds_ok (P := P) (w := w) (s := true) hl hh hc hlen hb
        split at h
        · rename_i cs e' ow hblk
          split at h
          · rename_i he
            cases h
            refine ⟨_, real _ _ _ _ k1, ?_⟩
            have hB := (hW.blk b m _ hm hblk).1
            have := from_ok (b := b) (l := l) (h := h2) (n := n) hm k2 k3 hc hR (by
              simp only [Bool.or_eq_true] at he
              rcases he with he | he
              · exact .inl (hB.trans (Nat.eq_of_beq_eq_true he))
              · exact .inr (hB.trans (Nat.eq_of_beq_eq_true he)))
            have e1 : (if c' = l then some (⟨m.r, m.d + o, none⟩ : Addr) else Option.map (fun x : Addr => x.add (l * n)) (some ⟨m.r, m.d + o, none⟩)) =
                some (if c' = l then (⟨m.r, m.d + o, none⟩ : Addr) else Addr.add ⟨m.r, m.d + o, none⟩ (l * n)) := by split <;> rfl
            rw [e1]; exact this
          · cases h
        · cases h
      · rename_i b o s
        split at h
        · rename_i hc0
          have hc0 := T.beq_t.1 hc0
          subst hc0
          cases h
          cases hx with
          | smt a c =>
            obtain ⟨k1, k2, k3⟩ := bounds_ok (P := P) (w := w) (s := true) hl hh (Nat.zero_le c) (Nat.le_refl _) hb
            refine ⟨_, real _ _ _ _ k1, ?_⟩
            have : l = 0 := by omega
            subst this
            have : h2 = 0 := by omega
            subst this
            have e1 : (if c = 0 then some a else Option.map (fun x : Addr => x.add (0 * n)) (some a)) = some a := by simp [Addr.add_zero']
            rw [e1]; exact .smt _ _
          | sz a =>
            obtain ⟨k1, k2, k3⟩ := bounds_ok (P := P) (w := w) (s := true) hl hh (Nat.le_refl 0) (Nat.le_refl _) hb
            refine ⟨_, real _ _ _ _ k1, ?_⟩
            have : l = 0 := by omega
            subst this
            have : h2 = 0 := by omega
            subst this
            exact .sz _
        · cases h
    · cases h
  · rename_i e a len c k hu
    have hu : P.underlying t = some (.slice e) := hu
    split at h
    · rename_i n hn
      cases hl
      cases hmx with
      | some hm0 =>
        cases hh with
        | some hh0 =>
          cases hm0; cases hh0
          have real : ∀ (k0 k : IntKind) a' len c', (Instr.sliceAt t (.slice a' len c') none (some (.int k0 0)) (some (.int k 0))).run P w = .ok (.slice a' 0 0) w := by
            intro k0 k a' len c'
            unfold Instr.sliceAt Instr.slice
            simp [run_underlying hu, Instr.sliceBounds, Instr.sliceBound, asIntOf, run_sizeOf hn]
          split at h
          · cases h
            cases hx
            exact ⟨_, real _ _ _ _ _, .snil⟩
          · cases h
            cases hx with
            | smt a c => exact ⟨_, real _ _ _ _ _, .sz _⟩
            | sz a => exact ⟨_, real _ _ _ _ _, .sz _⟩
            | sl o len c c' hm hc hl hR => exact ⟨_, real _ _ _ _ _, .sz _⟩
    · cases h
  · rename_i len e b o hu
    have hu : P.underlying t = some (.array len e) := hu
    obtain ⟨m, hm, rfl⟩ := ptr_inv hx
    cases hmx
    split at h
    · rename_i l h2 hb
      split at h
      · rename_i n cs ow hn hblk
        split at h
        · cases h
        · rename_i hne
          have hne := T.beq_f.1 hne
          cases h
          obtain ⟨k1, k2, k3⟩ := bounds_ok (P := P) (w := w) (s := false) hl hh (Nat.le_refl _) (Nat.le_refl _) hb
          refine ⟨.slice (some ⟨m.r, m.d + (o + l * n), none⟩) (h2 - l) (len - l), ?_, ?_⟩
          · unfold Instr.sliceAt
            simp only [Sem.run_bind, run_underlying hu, Result.andThen_ok, Instr.sureAddr, Sem.run_pure, k1, run_sizeOf hn]
            rw [if_neg hne]
            simp [Addr.add_lit, Nat.add_assoc]
          · have hB := (hW.blk b m _ hm hblk).1
            exact .sl _ _ _ _ hm (Nat.le_refl _) (by omega) (.inl hB)
      · cases h
    · cases h
  · cases h

end Go.Am

/-! The abstract machine's operations, one by one, against the model's (2): literals, conversions, append and copy, maps, iterators, type assertions, methods. -/
namespace Go.Am
open Go
variable {P : Program}

/-! ### Literals -/

theorem wr_toList {xs : List Value} {C : Array Value} {p : Nat} (h : p + xs.length ≤ C.size) : (wr C p xs).toList = splice C.toList p xs := by
  apply List.ext_getElem?
  intro i
  rw [splice_get (by simpa using h)]
  have := wr_get xs C p i h
  simpa using this

theorem foldl_wr : ∀ (xs : List Value) (k off : Nat) (C : Array Value), (xs.zipIdx k).foldl (fun cs (x : Value × Nat) => cs.setIfInBounds (off + x.2) x.1) C = wr C (off + k) xs := by
  intro xs
  induction xs with
  | nil => intro k off C; rfl
  | cons x xs ih => intro k off C; simp only [List.zipIdx_cons, List.foldl_cons, wr]; rw [ih]; rfl

inductive PR (ρ : Rho) : List (Nat × Value) → List (Nat × Value) → Prop where
  | nil : PR ρ [] []
  | cons {i : Nat} {x y : Value} {xs ys : List (Nat × Value)} (h : VR ρ x y) (t : PR ρ xs ys) : PR ρ ((i, x) :: xs) ((i, y) :: ys)

theorem fill_ok {ρ : Rho} {place : Nat → Option (Nat × Nat)} : ∀ (ps ps' : List (Nat × Value)) (c c1 : List Value) (C : Array Value), PR ρ ps ps' → aFill place c ps = some c1 → LR ρ c C.toList →
    ∃ C1, Instr.fill place C ps' = some C1 ∧ LR ρ c1 C1.toList := by
  intro ps
  induction ps with
  | nil => intro ps' c c1 C hp h hl; cases hp; simp only [aFill, Option.some.injEq] at h; subst h; exact ⟨C, rfl, hl⟩
  | cons p ps ih =>
    intro ps' c c1 C hp h hl
    cases hp with
    | @cons i x y _ ys hxy ht =>
      unfold aFill at h
      unfold Instr.fill
      cases hpl : place i with
      | none => rw [hpl] at h; cases h
      | some os =>
        obtain ⟨off, size⟩ := os
        rw [hpl] at h
        simp only at h ⊢
        split at h
        · rename_i hc
          simp only [Bool.and_eq_true] at hc
          have h1 := Nat.eq_of_beq_eq_true hc.1
          have h2 := Nat.le_of_ble_eq_true hc.2
          have hcl := cellsL_LR hxy
          have hlen := hcl.length
          have hlc := hl.length
          simp only [Array.length_toList] at hlen hlc
          rw [if_neg (by simp only [Bool.or_eq_true, decide_eq_true_eq, ne_eq]; omega)]
          have hf : y.cells.zipIdx.foldl (fun cs (x : Value × Nat) => cs.setIfInBounds (off + x.2) x.1) C = wr C off y.cells.toList := by
            rw [← Array.foldl_toList, Array.toList_zipIdx, foldl_wr]; rfl
          rw [hf]
          refine ih ys _ c1 _ ht h ?_
          rw [wr_toList (by simp only [Array.length_toList]; omega)]
          exact hl.splice hcl off
        · cases h

theorem run_places : ∀ (fs : List Field) (ps : List (Nat × Nat)) (w : World), placesOf P fs = some ps →
    (fs.mapM fun f => do pure (f.offset, ← sizeOf f.type) : Sem (List (Nat × Nat))).run P w = .ok ps w := by
  intro fs
  induction fs with
  | nil => intro ps w h; simp only [placesOf, Option.some.injEq] at h; subst h; rfl
  | cons f fs ih =>
    intro ps w h
    unfold placesOf at h
    split at h
    · rename_i n r hn hr
      cases h
      rw [List.mapM_cons]
      simp only [Sem.run_bind, run_sizeOf hn, Result.andThen_ok, Sem.run_pure]
      rw [ih r w hr]
      rfl
    · cases h

theorem run_places' {fs : Array Field} {ps : List (Nat × Nat)} (w : World) (h : placesOf P fs.toList = some ps) :
    (fs.mapM fun f => do pure (f.offset, ← sizeOf f.type) : Sem (Array (Nat × Nat))).run P w = .ok ps.toArray w := by
  rw [Array.mapM_eq_mapM_toList]
  simp only [Sem.run_map]
  rw [run_places fs.toList ps w h]
  rfl

theorem build_ok (hz : ZOk P) {ρ : Rho} {w : World} {t : TypeId} {ps : List (Nat × Value)} {ps' : Array (Nat × Value)} {v : Value} (h : aBuild P t ps = some v) (hp : PR ρ ps ps'.toList) :
    Pu P ρ w (Instr.build t ps') v := by
  unfold aBuild at h
  split at h
  · rename_i z fs hzt hu
    split at h
    · rename_i pl hpl
      split at h
      · rename_i c hc
        cases h
        obtain ⟨C1, h1, h2⟩ := fill_ok _ _ _ _ _ hp hc (cellsL_LR (VR.plain ρ 20 z (hz.plain hzt)))
        refine ⟨.agg C1, ?_, VR.agg_of (by simpa using h2)⟩
        unfold Instr.build
        have e : (fun i : Nat => pl.toArray[i]?) = (fun i : Nat => pl[i]?) := by funext i; simp
        simp only [Sem.run_bind, run_zeroValue hzt, Result.andThen_ok, run_und hu, run_places' w hpl, e, h1, Sem.run_pure]
      · cases h
    · cases h
  · rename_i z len e hzt hu
    split at h
    · rename_i n hn
      split at h
      · rename_i c hc
        cases h
        obtain ⟨C1, h1, h2⟩ := fill_ok _ _ _ _ _ hp hc (cellsL_LR (VR.plain ρ 20 z (hz.plain hzt)))
        refine ⟨.agg C1, ?_, VR.agg_of (by simpa using h2)⟩
        unfold Instr.build
        simp only [Sem.run_bind, run_zeroValue hzt, Result.andThen_ok, run_und hu, run_sizeOf hn, h1, Sem.run_pure]
      · cases h
    · cases h
  · cases h

theorem rep_get (l : List Value) : ∀ (n i : Nat), i < n * l.length → (List.replicate n l).flatten[i]? = l[i % l.length]? := by
  intro n
  induction n with
  | zero => intro i h; omega
  | succ n ih =>
    intro i h
    rw [List.replicate_succ, List.flatten_cons]
    by_cases e : i < l.length
    · rw [List.getElem?_append_left e, Nat.mod_eq_of_lt e]
    · rw [List.getElem?_append_right (by omega), ih _ (by rw [Nat.succ_mul] at h; omega)]
      congr 1
      conv => rhs; rw [show i = (i - l.length) + l.length by omega, Nat.add_mod_right]

theorem elemT_spec {t e : TypeId} (h : elemT P t = some e) : P.underlying t = some (.slice e) := by
  unfold elemT at h
  split at h
  · rename_i e' hu; cases h; exact hu
  · cases h

/-- the zeros that a slice's row is made of -/
theorem zeros_ok (hz : ZOk P) {t : TypeId} {n : Nat} {zs : List Value} (h : zerosT P t n = some zs) {s : Nat} (hl : zs.length = n * s) :
    ∃ z, zeroT P t = some z ∧ (n ≠ 0 → z.cells.size = s) ∧ ((Array.range (n * s)).map (fun i => z.cells[i % z.cells.size]!)).toList = zs ∧ (∀ ρ, LR ρ zs zs) ∧ zs.all oneCell = (List.replicate n (cellsL z)).flatten.all oneCell := by
  unfold zerosT at h
  split at h
  · rename_i z hzt
    cases h
    have hcl : cellsL z = z.cells.toList := by cases z <;> rfl
    have hls : n * (cellsL z).length = n * s := by simpa using hl
    have hsz : n ≠ 0 → z.cells.size = s := by
      intro hn
      have := Nat.eq_of_mul_eq_mul_left (Nat.pos_of_ne_zero hn) hls
      rw [hcl] at this; simpa using this
    refine ⟨z, hzt, hsz, ?_, ?_, rfl⟩
    · apply List.ext_getElem?
      intro i
      by_cases hi : i < n * s
      · have hn : n ≠ 0 := by intro e; subst e; omega
        have hs := hsz hn
        rw [rep_get _ _ _ (by rw [hls]; exact hi)]
        simp only [Array.toList_map, List.getElem?_map, Array.toList_range, List.getElem?_range hi, Option.map_some, hcl, Array.length_toList, Array.getElem?_toList]
        have hpos : 0 < s := by
          rcases Nat.eq_zero_or_pos s with h0 | h0
          · subst h0; omega
          · exact h0
        have hlt : i % z.cells.size < z.cells.size := Nat.mod_lt _ (by omega)
        rw [Array.getElem?_eq_getElem hlt, getElem!_pos z.cells _ hlt]
      · rw [List.getElem?_eq_none (by simp; omega), List.getElem?_eq_none (by rw [hl]; omega)]
    · intro ρ
      have hp := cellsL_LR (VR.plain ρ 20 z (hz.plain hzt))
      refine LR.refl_of ?_
      intro x hx
      rw [List.mem_flatten] at hx
      obtain ⟨l, hl1, hl2⟩ := hx
      rw [List.mem_replicate] at hl1
      obtain ⟨_, rfl⟩ := hl1
      obtain ⟨i, hi⟩ := List.getElem?_of_mem hl2
      exact hp.get hi (by rw [← hcl]; exact hi)
  · cases h

theorem buildSlice_ok (hz : ZOk P) {H H' : AH} {ρ : Rho} {w : World} (hW : WR P H ρ w.heap) {t : TypeId} {len : Nat} {ps : List (Nat × Value)} {ps' : Array (Nat × Value)} {v : Value}
    (h : aBuildSlice P H t len ps = some (v, H')) (hp : PR ρ ps ps'.toList) : OkV P H ρ w (Instr.buildSlice t len ps') v H' := by
  unfold aBuildSlice at h
  split at h
  · rename_i e he
    have hu := elemT_spec he
    split at h
    · rename_i n zs hn hzs
      split at h
      · cases h
      · rename_i hc
        simp only [Bool.or_eq_false_iff, Bool.not_eq_false'] at hc
        obtain ⟨⟨hn0, hbig⟩, hlen⟩ := hc
        have hn0 := T.beq_f.1 hn0
        have hlen := T.beq_t.1 hlen
        have hbig : ¬ 16777216 < len * n := by
          intro hb
          have : Nat.blt 16777216 (len * n) = true := Nat.ble_eq_true_of_le hb
          rw [this] at hbig; cases hbig
        split at h
        · rename_i c hcf
          cases h
          obtain ⟨z, hzt, hsz, hzl, hzr, _⟩ := zeros_ok hz hzs hlen
          obtain ⟨C1, h1, h2⟩ := fill_ok (ρ := ρ) _ _ _ _ ((Array.range (len * n)).map (fun i => z.cells[i % z.cells.size]!)) hp hcf (by rw [hzl]; exact hzr ρ)
          have hC : c.length ≤ C1.size := by have := h2.length; simp at this; omega
          obtain ⟨k1, k2⟩ := newCells_ok (w' := { w with heap := w.heap.push (.cells C1 e) }) hW (ty := e) n C1.size (CR_of_LR h2) hC (Nat.le_refl _) (FF_zero _) rfl rfl rfl rfl
          have hcap : len * n ≤ C1.size := by
            have h3 := h2.length
            have : c.length = zs.length := by
              clear h1 h2 k1 k2 hC h3
              revert hcf
              generalize zs = zs0
              intro hcf
              have : ∀ (ps : List (Nat × Value)) (a b : List Value), aFill (fun i => some (i * n, n)) a ps = some b → b.length = a.length := by
                intro ps
                induction ps with
                | nil => intro a b h; simp only [aFill, Option.some.injEq] at h; subst h; rfl
                | cons p ps ih =>
                  intro a b h
                  unfold aFill at h
                  simp only at h
                  split at h
                  · rename_i hq
                    simp only [Bool.and_eq_true] at hq
                    have := Nat.le_of_ble_eq_true hq.2
                    rw [ih _ _ h, splice_length this]
                  · cases h
              exact this _ _ _ hcf
            simp only [Array.length_toList] at h3
            omega
          refine ⟨.slice (some ⟨w.heap.size, 0, none⟩) len len, _, _, ?_, ?_, k1, k2⟩
          · unfold Instr.buildSlice
            simp only [Sem.run_bind, run_underlying hu, Result.andThen_ok, run_sizeOf hn, Sem.run_ite]
            rw [if_neg (by simpa using hbig)]
            by_cases h0 : len * n = 0
            · rw [if_pos h0]
              have hE : (Array.range (len * n)).map (fun i => z.cells[i % z.cells.size]!) = (Array.range (len * n)).map (fun i => (#[] : Array Value)[i % (#[] : Array Value).size]!) := by
                rw [h0]; simp
              rw [hE] at h1
              simp only [Sem.run_pure, Result.andThen_ok, h1, newRow, Sem.run_bind, run_newObj]
            · rw [if_neg h0]
              simp only [Sem.run_bind, run_zeroValue hzt, Sem.run_pure, Result.andThen_ok, h1, newRow, run_newObj]
          · exact VR.sl (m := ⟨w.heap.size, 0, C1.size, n⟩) 0 len len len (Rho.set_same ..) (Nat.le_refl _) (Nat.le_refl _) (.inr (by simpa using hcap))
        · cases h
    · cases h
  · cases h

end Go.Am

/-! The abstract machine's operations, one by one, against the model's (3): make, conversions, len, append, copy. -/
namespace Go.Am
open Go
variable {P : Program}

theorem byT_spec {t : TypeId} {n : Nat} (h : byT P t = some n) : ∃ i, P.types[t]? = some i ∧ i.bytes = n := by
  unfold byT at h
  split at h
  · rename_i i hi; cases h; exact ⟨i, hi, rfl⟩
  · cases h

theorem run_bytes {t : TypeId} {n : Nat} (h : byT P t = some n) (w : World) : ∃ i, (typeInfo t).run P w = .ok i w ∧ i.bytes = n := by
  obtain ⟨i, hi, hb⟩ := byT_spec h
  exact ⟨i, run_typeInfo hi w, hb⟩

theorem i64_wrap {n : Int} (h0 : 0 ≤ n) (h1 : n < 9223372036854775808) : IntKind.i64.wrap n = n := by
  rw [IntWalk.i64_left]; unfold Go.RowKit.wrap64; omega

theorem makeSlice_ok (hz : ZOk P) {H H' : AH} {ρ : Rho} {w : World} (hW : WR P H ρ w.heap) {t : TypeId} {l l' c c' v : Value}
    (h : aMakeSlice P H t l c = some (v, H')) (hl : VR ρ l l') (hc : VR ρ c c') : OkV P H ρ w (Instr.makeSlice t l' c') v H' := by
  unfold aMakeSlice at h
  split at h
  · rename_i e kl l0 kc c0 he
    cases hl; cases hc
    have hu := elemT_spec he
    split at h
    · rename_i s by_ zs hs hby hzs
      split at h
      · rename_i hcond
        obtain ⟨h0, h1, h2, h3, h4, h5⟩ := hcond
        cases h
        obtain ⟨i, hi, rfl⟩ := run_bytes hby w
        obtain ⟨z, hzt, hsz, hzl, hzr, _⟩ := zeros_ok hz hzs h5
        have hC : zs.length ≤ ((Array.range (c0.toNat * s)).map (fun i => z.cells[i % z.cells.size]!)).size := by simp [h5]
        obtain ⟨k1, k2⟩ := newCells_ok (w' := { w with heap := w.heap.push (.cells ((Array.range (c0.toNat * s)).map (fun i => z.cells[i % z.cells.size]!)) e) }) hW (ty := e) s (c0.toNat * s)
          (CR_of_LR (by rw [hzl]; exact hzr ρ)) (by omega) (by simp) (FF_zero _) rfl rfl rfl rfl
        refine ⟨.slice (some ⟨w.heap.size, 0, none⟩) l0.toNat c0.toNat, _, _, ?_, ?_, k1, k2⟩
        · unfold Instr.makeSlice
          simp only [Sem.run_bind, run_underlying hu, Result.andThen_ok, asInt, asIntOf, Sem.run_pure, hi, i64_wrap h0 (by omega), i64_wrap (show 0 ≤ c0 by omega) h3]
          have hb : ((decide (c0 < 0) || decide ((i.bytes : Int) * c0 > 2 ^ 48)) || decide (l0 < 0) || decide (l0 > c0)) = false := by
            simp only [Bool.or_eq_false_iff, decide_eq_false_iff_not]
            refine ⟨⟨⟨by omega, by omega⟩, by omega⟩, by omega⟩
          simp only [hb, Bool.false_eq_true, if_false, Sem.run_bind, run_askRoom, Result.andThen_ok, run_sizeOf hs]
          by_cases hz0 : c0.toNat * s = 0
          · have hcz : c0.toNat = 0 := (Nat.mul_eq_zero.1 hz0).resolve_right h4
            simp only [hz0, if_true, Sem.run_pure, Result.andThen_ok, newRow, Sem.run_bind, run_newObj]
            have hA : ∀ f g : Nat → Value, (Array.range 0).map f = (Array.range 0).map g := fun f g => by simp [Array.range]
            rw [hA _ (fun i => z.cells[i % z.cells.size]!)]
          · simp only [hz0, if_false, Sem.run_bind, run_zeroValue hzt, Sem.run_pure, Result.andThen_ok, newRow, run_newObj]
        · exact VR.sl (m := ⟨w.heap.size, 0, c0.toNat * s, s⟩) 0 _ _ _ (Rho.set_same ..) (Nat.le_refl _) (by omega) (.inr (by simp))
      · cases h
    · cases h
  · cases h

theorem len_ok {H : AH} {ρ : Rho} {w : World} (hW : WR P H ρ w.heap) {t ty : TypeId} {ts : Array TypeId} {args : Array Value} {x x' v : Value} (ht : ts[0]? = some t) (ha : args[0]? = some x')
    (h : aLen P H t x = some v) (hx : VR ρ x x') : Pu P ρ w (Builtin.len_ ts ty args) v := by
  unfold aLen at h
  split at h
  · rename_i s hu; cases hx; cases h
    exact ⟨_, by unfold Builtin.len_; simp only [ht, ha, Sem.run_bind, run_und hu, Result.andThen_ok]; rfl, .int _ _⟩
  · rename_i e a n c hu
    cases h
    have hu := run_und hu w
    cases hx <;> exact ⟨_, by unfold Builtin.len_; simp only [ht, ha, Sem.run_bind, hu, Result.andThen_ok]; rfl, .int _ _⟩
  · rename_i n e hu
    cases h
    exact ⟨_, by unfold Builtin.len_; simp only [ht, ha, Sem.run_bind, run_und hu, Result.andThen_ok]; rfl, .int _ _⟩
  · rename_i k e hu; cases hx; cases h
    exact ⟨_, by unfold Builtin.len_; simp only [ht, ha, Sem.run_bind, run_und hu, Result.andThen_ok]; rfl, .int _ _⟩
  · rename_i k e b hu
    cases hx with
    | @map _ m hm =>
      split at h
      · rename_i es cl mi hb
        cases h
        obtain ⟨_, es', h1, h2⟩ := hW.blk b m _ hm hb
        refine ⟨_, ?_, .int _ _⟩
        unfold Builtin.len_
        simp only [ht, ha, Sem.run_bind, run_und hu, Result.andThen_ok, getObj, Sem.run, h1, Sem.run_pure, goInt]
        rw [h2.1]; simp
      · cases h
  · cases h

/-! ### Append, copy -/

theorem LR_bytes (ρ : Rho) (l : List UInt8) : LR ρ (byteCells l) (byteCells l) :=
  LR.refl_of fun x hx => by
    unfold byteCells at hx
    rw [List.mem_map] at hx
    obtain ⟨b, _, rfl⟩ := hx
    exact .int _ _

theorem lenOf_ok {ρ : Rho} {w : World} {x x' : Value} {n : Nat} (h : lenOf x = some n) (hx : VR ρ x x') : (Builtin.lenOf x').run P w = .ok n w := by
  cases hx <;> simp only [lenOf, Option.some.injEq] at h <;> first | (subst h; rfl) | (cases h; done)

theorem given_ok {H : AH} {ρ : Rho} {w : World} (hW : WR P H ρ w.heap) {s n : Nat} {x x' : Value} {c : List Value} (h : aGiven H s n x = some c) (hl : c.length = n * s) (hx : VR ρ x x') :
    ∃ c', (Builtin.firstCells s n x').run P w = .ok c' w ∧ LR ρ c c'.toList := by
  unfold aGiven at h
  split at h
  · cases h; cases hx; exact ⟨#[], rfl, .nil⟩
  · rename_i b o k1 k2
    obtain ⟨m, c', hm, _, _, _, rfl⟩ := sl_inv hx
    obtain ⟨vs', h1, h2⟩ := loadCells_real hW hm h
    exact ⟨vs'.toArray, h1, by simpa using h2⟩
  · cases h
    simp only [List.length_nil] at hl
    cases hx with
    | smt a c => refine ⟨#[], ?_, .nil⟩; simp only [Builtin.firstCells, ← hl]; rfl
    | sz a => refine ⟨#[], ?_, .nil⟩; simp only [Builtin.firstCells, ← hl]; rfl
  · rename_i t
    cases h; cases hx
    refine ⟨(t.extract 0 n).data.map (fun b => .int .u8 b.toNat), rfl, ?_⟩
    have : ((t.extract 0 n).data.map (fun b => Value.int .u8 b.toNat)).toList = byteCells (t.data.toList.take n) := by
      unfold byteCells
      rw [Array.toList_map]
      congr 1
      rw [ByteArray.data_extract, Array.toList_extract, List.extract_eq_take_drop]
      simp
    rw [this]
    exact LR_bytes ρ _
  · cases h

theorem next_le {need cap bytes : Nat} (h1 : cap < need) (h2 : (2 * need + 1000) * bytes ≤ 281474976710656) : Builtin.nextslicecap need cap * bytes ≤ 281474976710656 := by
  have key : Builtin.nextslicecap need cap ≤ 2 * need + 1000 := by
    unfold Builtin.nextslicecap
    split
    · omega
    · split
      · omega
      · have g : ∀ r c, c < need + (need + 768) / 4 + 1 → Builtin.growBy need r c < need + (need + 768) / 4 + 1 := by
          intro r
          induction r with
          | zero => intro c h; exact h
          | succ r ih =>
            intro c h
            unfold Builtin.growBy
            split
            · exact h
            · apply ih; omega
        have := g 4 cap (by omega)
        omega
  exact Nat.le_trans (Nat.mul_le_mul_right _ key) h2

theorem cap_ge (q : Question) (need old : Nat) (e : TypeId) (t : Nat) (hq : q = .appendCap need old e) : need ≤ q.cut t := by
  subst hq; simp [Question.cut]

theorem zeroCells_size (z : Array Value) (n : Nat) : (Builtin.zeroCells z n).size = n * z.size := by simp [Builtin.zeroCells]

theorem FF_of_mono {C C' : Array Value} {fz : Nat × Nat} (h : FF C fz) (hs : C'.size = C.size) : FF C' fz := fun i hi => h i (by rw [← hs]; exact hi)

/-- the row that an append makes anew -/
theorem append_size {s : Nat} {z : Value} (hzs : z.cells.size = s) (old new : Array Value) (need newCap : Nat) (hn : old.size + new.size = need * s) (hc : need ≤ newCap) :
    (old ++ new ++ Builtin.zeroCells z.cells (newCap - need)).size = newCap * s := by
  have h1 := zeroCells_size z.cells (newCap - need)
  rw [Array.size_append, Array.size_append, h1, hzs]
  have : need * s + (newCap - need) * s = newCap * s := by rw [← Nat.add_mul]; congr 1; omega
  omega

/-- what an append does where there is no room -/
theorem run_append_grow' {t t' ty e : TypeId} {d : TypeDesc} {a : Option Addr} {len cap n s by_ : Nat} {x : Value} {z : Value} {w : World} {old new : Array Value}
    (hu : P.underlying t = some (.slice e)) (hd : undT P t' = some d) (hi : isIntD d = false) (hs : szT P e = some s) (hb : byT P e = some by_)
    (hz : zeroT P e = some z) (hlen : (Builtin.lenOf x).run P w = .ok n w)
    (hroom : cap < len + n) (hby0 : by_ ≠ 0) (hbig : (2 * (len + n) + 1000) * by_ ≤ 281474976710656)
    (hold : (Builtin.firstCells s len (.slice a len cap)).run P { w with drawn := w.drawn + 1 } = .ok old { w with drawn := w.drawn + 1 })
    (hnew : (Builtin.firstCells s n x).run P { w with drawn := w.drawn + 1 } = .ok new { w with drawn := w.drawn + 1 }) :
    ∃ newCap, len + n ≤ newCap ∧ (Builtin.append_ #[t, t'] ty #[.slice a len cap, x]).run P w =
      .ok (.slice (some ⟨w.heap.size, 0, none⟩) (len + n) newCap) { w with drawn := w.drawn + 1, heap := w.heap.push (.cells (old ++ new ++ Builtin.zeroCells z.cells (newCap - (len + n))) e) } := by
  obtain ⟨i, hi0, rfl⟩ := byT_spec hb
  have hi' : ∀ w', (typeInfo e).run P w' = .ok i w' := fun w' => run_typeInfo hi0 w'
  refine ⟨(Question.appendCap (len + n) cap e).cut (w.tape w.drawn (.appendCap (len + n) cap e)), cap_ge _ _ _ _ _ rfl, ?_⟩
  have hno1 : ¬ (((len + n : Nat) : Int) > IntKind.i64.max ∧ i.bytes = 0) := fun h => hby0 h.2
  have hno2 : ¬ Builtin.nextslicecap (len + n) cap * i.bytes > 281474976710656 := by
    have := next_le hroom hbig
    omega
  have hd : P.underlying t' = some d := hd
  have hno3 : ¬ ((9223372036854775807 : Int) < (len : Int) + (n : Int) ∧ i.bytes = 0) := fun h => hby0 h.2
  have hno4 : ¬ (281474976710656 < Builtin.nextslicecap (len + n) cap * i.bytes) := hno2
  have hroom' : ¬ (len + n ≤ cap) := by omega
  have hz' := fun w' : World => run_zeroValue hz w'
  cases d with
  | int k => simp [isIntD] at hi
  | _ =>
    unfold Builtin.append_
    simp only [List.getElem?_toArray, List.getElem?_cons_zero, List.getElem?_cons_succ, Sem.run_bind, run_underlying hu, run_sizeOf hs, run_underlying hd, hlen, Result.andThen_ok, Sem.run_pure, Bool.false_eq_true, if_false,
      if_neg hroom', hi', false_or, if_neg hno1, if_neg hno2, run_choose, Question.forced, Bool.not_false, if_true, run_askRoom, hold, hnew, hz', newRow, run_newObj, Sem.run_ite]

theorem run_append_room' {t t' ty e : TypeId} {d : TypeDesc} {a : Option Addr} {len cap n s : Nat} {x : Value} {w w1 : World} {new : Array Value}
    (hu : P.underlying t = some (.slice e)) (hd : undT P t' = some d) (hi : isIntD d = false) (hs : szT P e = some s) (hlen : (Builtin.lenOf x).run P w = .ok n w)
    (hroom : len + n ≤ cap) (hnew : (Builtin.firstCells s n x).run P w = .ok new w)
    (hst : ∀ a0, a = some a0 → (storeCells (a0.add (len * s)) new.toList).run P w = .ok () w1) (hno : a = none → w1 = w) :
    (Builtin.append_ #[t, t'] ty #[.slice a len cap, x]).run P w = .ok (.slice a (len + n) cap) w1 := by
  have hd : P.underlying t' = some d := hd
  cases a with
  | none =>
    have := hno rfl; subst this
    cases d with
    | int k => simp [isIntD] at hi
    | _ =>
      unfold Builtin.append_
      simp only [List.getElem?_toArray, List.getElem?_cons_zero, List.getElem?_cons_succ, Sem.run_bind, run_underlying hu, run_sizeOf hs, run_underlying hd, hlen, Result.andThen_ok, Sem.run_pure, Bool.false_eq_true, if_false,
        if_pos hroom, Bool.not_false, if_true, hnew]
  | some a0 =>
    have hst := hst a0 rfl
    cases d with
    | int k => simp [isIntD] at hi
    | _ =>
      unfold Builtin.append_
      simp only [List.getElem?_toArray, List.getElem?_cons_zero, List.getElem?_cons_succ, Sem.run_bind, run_underlying hu, run_sizeOf hs, run_underlying hd, hlen, Result.andThen_ok, Sem.run_pure, Bool.false_eq_true, if_false,
        if_pos hroom, Bool.not_false, if_true, hnew, hst]

theorem first0 {ρ : Rho} {w : World} {s : Nat} {x x' : Value} (h : lenOf x = some 0) (hx : VR ρ x x') : (Builtin.firstCells s 0 x').run P w = .ok #[] w := by
  cases hx <;> simp only [lenOf, Option.some.injEq] at h <;> first | (cases h; done) | skip
  all_goals first | rfl | skip
  all_goals first | (simp only [Builtin.firstCells, Nat.zero_mul]; rfl) | skip
  all_goals simp only [Builtin.firstCells, Sem.run_pure]
  all_goals congr 1
  all_goals (apply Array.ext'; simp)

end Go.Am

/-! The abstract machine's operations, one by one, against the model's (4): append and copy. -/
namespace Go.Am
open Go
variable {P : Program}

theorem LR.some_right {ρ : Rho} {c : List Value} {C : Array Value} (h : LR ρ c C.toList) (D : Array Value) : CR ρ c (C ++ D) 0 := fun i x hx => by
  obtain ⟨y, hy, hv⟩ := h.get_left hx
  refine ⟨y, ?_, hv⟩
  have hy : C[i]? = some y := by simpa using hy
  have hlt : i < C.size := by
    rcases Nat.lt_or_ge i C.size with h' | h'
    · exact h'
    · rw [Array.getElem?_eq_none h'] at hy; cases hy
  rw [Nat.zero_add, Array.getElem?_append_left hlt]; exact hy

/-- an append that makes a row anew, of nothing -/
theorem append_fresh (hz : ZOk P) {H : AH} {ρ : Rho} {w : World} (hW : WR P H ρ w.heap) {t t' ty e : TypeId} {d : TypeDesc} {a : Option Addr} {n s by_ : Nat} {x x' : Value} {new : List Value}
    (hu : P.underlying t = some (.slice e)) (hd : undT P t' = some d) (hi : isIntD d = false) (hes : eszT P e = some s) (hb : byT P e = some by_) (hl : lenOf x = some n) (hx : VR ρ x x')
    (hg : aGiven H s n x = some new) (hlen : new.length = n * s) (hn : n ≠ 0) (hby0 : by_ ≠ 0) (hbig : (2 * (0 + n) + 1000) * by_ ≤ 281474976710656) :
    OkV P H ρ w (Builtin.append_ #[t, t'] ty #[.slice a 0 0, x']) (.slice (some ⟨H.next, 0, none⟩) n n) (H.new (.cells new s .solo)) := by
  obtain ⟨hs, z, hzt, hzs⟩ := hz.esz hes
  obtain ⟨c', h1, h2⟩ := given_ok (w := { w with drawn := w.drawn + 1 }) hW hg hlen hx
  have hold : (Builtin.firstCells s 0 (.slice a 0 0)).run P { w with drawn := w.drawn + 1 } = .ok #[] { w with drawn := w.drawn + 1 } := by
    cases a with
    | none => rfl
    | some a => simp only [Builtin.firstCells, Nat.zero_mul]; rfl
  obtain ⟨newCap, k1, k2⟩ := run_append_grow' (ty := ty) hu hd hi hs hb hzt (lenOf_ok hl hx) (by omega) hby0 hbig hold h1
  rw [Nat.zero_add] at k1 k2
  have hsz : c'.size = n * s := by have := h2.length; simp at this; omega
  have hC := append_size hzs #[] c' n newCap (by simp [hsz]) k1
  rw [Array.empty_append] at hC k2
  obtain ⟨k3, k4⟩ := newCells_ok (w' := { w with drawn := w.drawn + 1, heap := w.heap.push (.cells (c' ++ Builtin.zeroCells z.cells (newCap - n)) e) }) hW (ty := e) s (newCap * s)
    (h2.some_right _) (by rw [hlen]; exact Nat.mul_le_mul_right _ k1) (Nat.le_of_eq hC.symm) (FF_zero _) rfl rfl rfl rfl
  refine ⟨_, _, _, k2, ?_, k3, k4⟩
  exact VR.sl (m := ⟨w.heap.size, 0, newCap * s, s⟩) 0 _ _ _ (Rho.set_same ..) k1 (Nat.le_refl _) (.inr (by simp))

theorem CR.app {ρ : Rho} {c new : List Value} {C : Array Value} {d o : Nat} (h : CR ρ c C d) (ho : o ≤ c.length) {new' : List Value} (hn : LR ρ new new') (hC : d + c.length + new'.length ≤ C.size) :
    CR ρ (c.drop o ++ new) (wr C (d + c.length) new') (d + o) := by
  intro i x hi
  have hl := hn.length
  rw [wr_get _ _ _ _ hC]
  by_cases e : i < c.length - o
  · rw [List.getElem?_append_left (by simpa using e), List.getElem?_drop] at hi
    obtain ⟨y, hy, hv⟩ := h _ _ hi
    rw [if_neg (by omega), show d + o + i = d + (o + i) by omega]
    exact ⟨y, hy, hv⟩
  · rw [List.getElem?_append_right (by simpa using e)] at hi
    simp only [List.length_drop] at hi
    obtain ⟨y, hy, hv⟩ := hn.get_left hi
    have hlt : i - (c.length - o) < new'.length := by
      rcases Nat.lt_or_ge (i - (c.length - o)) new'.length with h' | h'
      · exact h'
      · rw [List.getElem?_eq_none h'] at hy; cases hy
    rw [if_pos (by omega), show d + o + i - (d + c.length) = i - (c.length - o) by omega]
    exact ⟨y, hy, hv⟩

theorem loads_take {H : AH} {b : Nat} {c : List Value} (hr : H.row b = some c) : ∀ (n o : Nat), o + n ≤ c.length → H.loads b o n = some ((c.drop o).take n) := by
  intro n
  induction n with
  | zero => intro o _; simp [AH.loads]
  | succ n ih =>
    intro o h
    have hlt : o < c.length := by omega
    unfold AH.loads
    have hc : H.cell b o = some c[o] := by unfold AH.cell; rw [hr]; simp [hlt]
    rw [hc]
    simp only
    rw [ih (o + 1) (by omega)]
    simp only [Option.some.injEq]
    rw [List.drop_eq_getElem_cons hlt, List.take_succ_cons]

/-- an append to a row that lies there -/
theorem append_grow (hz : ZOk P) {H H' : AH} {ρ : Rho} {w : World} (hW : WR P H ρ w.heap) {t t' ty e : TypeId} {d : TypeDesc} {b o len cap n s by_ : Nat} {s' x x' : Value} {new : List Value}
    (hu : P.underlying t = some (.slice e)) (hd : undT P t' = some d) (hi : isIntD d = false) (hes : eszT P e = some s) (hb : byT P e = some by_) (hl : lenOf x = some n) (hx : VR ρ x x')
    (hs' : VR ρ (.slice (some ⟨b, o, none⟩) len cap) s') (hg : aGiven H s n x = some new) (hlen : new.length = n * s) (hall : new.all oneCell = true) (_hn : n ≠ 0) (hs0 : s ≠ 0) (hby0 : by_ ≠ 0)
    (hbig : (2 * (len + n) + 1000) * by_ ≤ 281474976710656) (_hcap : cap < len + n) {c : List Value} {ow : Own} (hblk : H.blk.get b = some (.cells c s ow)) (hw : H.okW b ow = true)
    (hend : o + len * s = c.length) (hgr : H.grow b ow c s (c.drop o ++ new) = some H') :
    OkV P H ρ w (Builtin.append_ #[t, t'] ty #[s', x']) (.slice (some ⟨H.next, 0, none⟩) (len + n) (len + n)) H' := by
  obtain ⟨hs, z, hzt, hzs⟩ := hz.esz hes
  obtain ⟨m, cap', hm, hcc, hlc, hR, rfl⟩ := sl_inv hs'
  obtain ⟨g1, g2, g3, g4⟩ := AH.okW_spec hW.wf hblk hw
  obtain ⟨hme, hB⟩ := hW.blk b m _ hm hblk
  obtain ⟨C, cty, fz, h1, h2, h3⟩ := hB g2
  obtain ⟨h4, h5, h6⟩ := h3 g3
  have hR' : o + cap' * s ≤ m.R := by
    rcases hR with hR | hR
    · omega
    · rw [hme] at hR; exact hR
  have hlt := hW.real b m hm
  have hrow : H.row b = some c := by unfold AH.row; rw [hblk]; simp [g2]
  by_cases hroom : len + n ≤ cap'
  · -- there is room
    obtain ⟨c', k1, k2⟩ := given_ok (w := w) hW hg hlen hx
    have k2l := k2.length
    have hns : len * s + n * s ≤ cap' * s := by rw [← Nat.add_mul]; exact Nat.mul_le_mul_right _ hroom
    obtain ⟨w', q1, q2, q3, q4, q5, q6⟩ := run_storeCells (P := P) c'.toList ⟨m.r, m.d + o + len * s, none⟩ 0 w C cty fz rfl h1 h6 (by simp only; omega) (by rw [k2.oneCell]; exact hall)
    have hr := run_append_room' (ty := ty) (cap := cap') (a := some ⟨m.r, m.d + o, none⟩) hu hd hi hs (lenOf_ok hl hx) hroom k1 (fun a0 e0 => by cases e0; rw [Addr.add_lit]; exact q1) (fun e0 => by cases e0)
    simp only [Nat.add_zero] at q2
    have hpos : m.d + o + len * s = m.d + c.length := by omega
    rw [hpos] at q2
    obtain ⟨k3, k4⟩ := hW.grow (w' := w') hblk hw hm hgr (mn := ⟨m.r, m.d + o, m.R - o, s⟩) (by rw [q3.1]; exact hlt) (Nat.le_of_eq q3.1.symm) (.inl rfl) (fun r _ hr => q3.2 r hr)
      ⟨C, cty, fz, _, h1, q2, wr_size .., fun i hi => by rw [wr_get _ _ _ _ (by omega), if_neg (by omega)]⟩
      (fun _ => by simp; omega)
      ⟨_, cty, fz, rfl, q2, CR.app h2 (by omega) k2 (by omega), by rw [wr_size]; show m.d + o + (m.R - o) ≤ C.size; omega, by simp; omega, FF_of_mono h6 (wr_size ..)⟩ q4 q5 q6
    refine ⟨_, _, _, hr, ?_, k3, k4⟩
    exact VR.sl (m := ⟨m.r, m.d + o, m.R - o, s⟩) 0 _ _ _ (Rho.set_same ..) hroom (Nat.le_refl _) (.inr (by simp only; omega))
  · -- the row is laid anew
    obtain ⟨c', k1, k2⟩ := given_ok (w := { w with drawn := w.drawn + 1 }) hW hg hlen hx
    have k2l := k2.length
    have hld := loads_take hrow (len * s) o (by omega)
    have hdrop : (c.drop o).take (len * s) = c.drop o := by rw [List.take_of_length_le]; simp; omega
    rw [hdrop] at hld
    obtain ⟨vs', k5, k6⟩ := loadCells_real (w := { w with drawn := w.drawn + 1 }) hW hm hld
    have k6l := k6.length
    have hold : (Builtin.firstCells s len (.slice (some ⟨m.r, m.d + o, none⟩) len cap')).run P { w with drawn := w.drawn + 1 } = .ok vs'.toArray { w with drawn := w.drawn + 1 } := k5
    obtain ⟨newCap, k7, k8⟩ := run_append_grow' (ty := ty) hu hd hi hs hb hzt (lenOf_ok hl hx) (by omega) hby0 hbig hold k1
    have hsz : vs'.toArray.size + c'.size = (len + n) * s := by
      simp only [List.size_toArray]
      simp only [Array.length_toList, List.length_drop] at k2l k6l
      rw [Nat.add_mul]; omega
    have hC := append_size hzs vs'.toArray c' (len + n) newCap hsz k7
    have hcr : CR (ρ) (c.drop o ++ new) (vs'.toArray ++ c' ++ Builtin.zeroCells z.cells (newCap - (len + n))) 0 := by
      refine LR.some_right ?_ _
      simpa using k6.append k2
    obtain ⟨k3, k4⟩ := hW.grow (w' := { w with drawn := w.drawn + 1, heap := w.heap.push (.cells (vs'.toArray ++ c' ++ Builtin.zeroCells z.cells (newCap - (len + n))) e) }) hblk hw hm hgr
      (mn := ⟨w.heap.size, 0, newCap * s, s⟩) (by simp) (by simp) (.inr (Nat.le_refl _)) (fun r hr _ => push_old _ _ hr)
      ⟨C, cty, fz, C, h1, (push_old _ _ hlt).trans h1, rfl, fun _ _ => rfl⟩ (fun e0 => by simp only at e0; omega)
      ⟨_, e, (0, 0), rfl, by simp, hcr, by simp only [Nat.zero_add]; exact Nat.le_of_eq hC.symm, by
        have h7 : (len + n) * s ≤ newCap * s := Nat.mul_le_mul_right _ k7
        rw [Nat.add_mul] at h7
        simp; omega, FF_zero _⟩ rfl rfl rfl
    refine ⟨_, _, _, k8, ?_, k3, k4⟩
    exact VR.sl (m := ⟨w.heap.size, 0, newCap * s, s⟩) 0 _ _ _ (Rho.set_same ..) k7 (Nat.le_refl _) (.inr (by simp))

end Go.Am

/-! The abstract machine's operations, one by one, against the model's (5): append, copy, conversions, max and min. -/
namespace Go.Am
open Go
variable {P : Program}

theorem append_ok (hz : ZOk P) {H H' : AH} {ρ : Rho} {w : World} (hW : WR P H ρ w.heap) {ts : Array TypeId} {ty : TypeId} {args args' : List Value} {v : Value}
    (h : aAppend P H ts.toList args = some (v, H')) (ha : LR ρ args args') : OkV P H ρ w (Builtin.append_ ts ty args'.toArray) v H' := by
  unfold aAppend at h
  split at h
  · rename_i t t' a len cap x hts
    have hts : ts = #[t, t'] := by
      apply Array.ext'; simpa using hts
    subst hts
    cases ha with
    | cons hs1 ha =>
      rename_i s' _
      cases ha with
      | cons hx ha =>
        rename_i x' _
        cases ha
        split at h
        · rename_i e n d he hn hd
          have hu := elemT_spec he
          split at h
          · rename_i s by_ hes hby hi
            obtain ⟨hs, _⟩ := hz.esz hes
            split at h
            · rename_i hn0
              have hn0 := T.beq_t.1 hn0
              subst hn0
              cases h
              have room : ∀ a' cap', len ≤ cap' → (Builtin.append_ #[t, t'] ty #[.slice a' len cap', x']).run P w = .ok (.slice a' len cap') w := by
                intro a' cap' hle
                have := run_append_room' (ty := ty) (a := a') (w := w) (w1 := w) hu hd hi hs (lenOf_ok hn hx) (by omega) (first0 hn hx) (fun _ _ => rfl) (fun _ => rfl)
                simpa using this
              cases hs1 with
              | snil => exact ⟨_, w, ρ, room _ _ (Nat.le_refl _), .snil, hW, hW.refl⟩
              | smt a c => exact ⟨_, w, ρ, room _ _ (Nat.zero_le _), .smt _ _, hW, hW.refl⟩
              | sz a => exact ⟨_, w, ρ, room _ _ (Nat.le_refl _), .sz _, hW, hW.refl⟩
              | sl _ _ _ c' hm hc hl hR => exact ⟨_, w, ρ, room _ _ (Nat.le_trans hl hc), .sl _ _ _ _ hm hc hl hR, hW, hW.refl⟩
            · rename_i hn0
              have hn0 := T.beq_f.1 hn0
              split at h
              · rename_i new hg
                split at h
                · cases h
                · rename_i hc
                  simp only [Bool.or_eq_false_iff, Bool.not_eq_false'] at hc
                  obtain ⟨⟨⟨⟨c1, c2⟩, c3⟩, c4⟩, c5⟩ := hc
                  have c1 := T.beq_t.1 c1
                  have c3 := T.beq_f.1 c3
                  have c4 := T.beq_f.1 c4
                  have c5 : (2 * (len + n) + 1000) * by_ ≤ 281474976710656 := by
                    refine Nat.le_of_not_lt fun hb => ?_
                    have : Nat.blt 281474976710656 ((2 * (len + n) + 1000) * by_) = true := Nat.ble_eq_true_of_le hb
                    rw [this] at c5; cases c5
                  split at h
                  · split at h
                    · rename_i hz0
                      simp only [Bool.and_eq_true] at hz0
                      have h1 := T.beq_t.1 hz0.1
                      have h2 := T.beq_t.1 hz0.2
                      subst h1; subst h2
                      cases h
                      cases hs1
                      exact append_fresh hz hW hu hd hi hes hby hn hx hg c1 hn0 c4 c5
                    · cases h
                  · rename_i b o
                    split at h
                    · rename_i hle
                      have hle := Nat.le_of_ble_eq_true hle
                      split at h
                      · rename_i H1 hst
                        cases h
                        obtain ⟨m, cap', hm, hcc, hlc, hR, rfl⟩ := sl_inv hs1
                        obtain ⟨c', k1, k2⟩ := given_ok (w := w) hW hg c1 hx
                        obtain ⟨w', q1, q2, q3⟩ := stores_ok (o := o + len * s) hW hm hst k2
                        refine ⟨_, w', ρ, run_append_room' (ty := ty) (a := some ⟨m.r, m.d + o, none⟩) hu hd hi hs (lenOf_ok hn hx) (by omega) k1 (fun a0 e0 => ?_) (fun e0 => by cases e0), ?_, q2, q3⟩
                        · cases e0; rw [Addr.add_lit, Nat.add_assoc]; exact q1
                        · exact .sl o (len + n) cap cap' hm hcc hle hR
                      · cases h
                    · rename_i hle
                      have hle : cap < len + n := by
                        refine Nat.lt_of_not_le fun hb => ?_
                        rw [Nat.ble_eq_true_of_le hb] at hle; cases hle
                      split at h
                      · rename_i c e' ow hblk
                        split at h
                        · rename_i hq
                          simp only [Bool.and_eq_true] at hq
                          obtain ⟨⟨q1, q2⟩, q3⟩ := hq
                          have q2 := T.beq_t.1 q2
                          have q3 := T.beq_t.1 q3
                          subst q2
                          split at h
                          · rename_i H1 hgr
                            cases h
                            exact append_grow hz hW hu hd hi hes hby hn hx hs1 hg c1 c2 hn0 c3 c4 c5 hle hblk q1 q3 hgr
                          · cases h
                        · cases h
                      · cases h
                  · split at h
                    · rename_i hz0
                      simp only [Bool.and_eq_true] at hz0
                      have h1 := T.beq_t.1 hz0.1
                      have h2 := T.beq_t.1 hz0.2
                      subst h1; subst h2
                      cases h
                      cases hs1
                      exact append_fresh hz hW hu hd hi hes hby hn hx hg c1 hn0 c4 c5
                    · cases h
                  · cases h
              · cases h
          · cases h
        · cases h
  · cases h

theorem copy_ok {H H' : AH} {ρ : Rho} {w : World} (hW : WR P H ρ w.heap) {ts : Array TypeId} {ty : TypeId} {args args' : List Value} {v : Value}
    (h : aCopy P H ts.toList args = some (v, H')) (ha : LR ρ args args') : OkV P H ρ w (Builtin.copy_ ts ty args'.toArray) v H' := by
  unfold aCopy at h
  split at h
  · rename_i t t' a dlen dcap x hts
    have hts : ts = #[t, t'] := by
      apply Array.ext'; simpa using hts
    subst hts
    cases ha with
    | cons hs1 ha =>
      rename_i s' _
      cases ha with
      | cons hx ha =>
        rename_i x' _
        cases ha
        split at h
        · rename_i e n he hn
          have hu := elemT_spec he
          split at h
          · rename_i s hs
            have hln := lenOf_ok (P := P) (w := w) hn hx
            have real : ∀ (a' : Option Addr) c' (cells : Array Value) w1, (Builtin.firstCells s (min n dlen) x').run P w = .ok cells w →
                (match a' with | some a0 => (storeCells a0 cells.toList).run P w = .ok () w1 | none => w1 = w) →
                (Builtin.copy_ #[t, t'] ty #[.slice a' dlen c', x']).run P w = .ok (.int .i64 ((min n dlen : Nat) : Int)) w1 := by
              intro a' c' cells w1 k1 k2
              unfold Builtin.copy_
              cases a' with
              | none =>
                subst k2
                simp only [List.getElem?_toArray, List.getElem?_cons_zero, List.getElem?_cons_succ, Sem.run_bind, run_underlying hu, run_sizeOf hs, hln, Result.andThen_ok, Sem.run_pure, goInt]
                have k1 : (Builtin.firstCells s (Nat.min n dlen) x').run P w1 = .ok cells w1 := k1
                simp only [k1, Result.andThen_ok]
              | some a0 =>
                simp only [List.getElem?_toArray, List.getElem?_cons_zero, List.getElem?_cons_succ, Sem.run_bind, run_underlying hu, run_sizeOf hs, hln, Result.andThen_ok, Sem.run_pure, goInt]
                have k1 : (Builtin.firstCells s (Nat.min n dlen) x').run P w = .ok cells w := k1
                simp only at k2
                simp only [k1, k2, Result.andThen_ok]
            split at h
            · rename_i hm
              have hm := T.beq_t.1 hm
              cases h
              have hf : ∀ (a' : Option Addr), (Builtin.firstCells s (min n dlen) x').run P w = .ok #[] w := by
                intro _
                rw [hm]
                cases hx <;> simp only [lenOf, Option.some.injEq] at hn <;> first | (cases hn; done) | skip
                all_goals first | rfl | skip
                all_goals first | (simp only [Builtin.firstCells, Nat.zero_mul]; rfl) | skip
                all_goals simp only [Builtin.firstCells, Sem.run_pure]
                all_goals congr 1
                all_goals (apply Array.ext'; simp)
              have fin : ∀ (a' : Option Addr) c', (Builtin.copy_ #[t, t'] ty #[.slice a' dlen c', x']).run P w = .ok (.int .i64 0) w := by
                intro a' c'
                have := real a' c' #[] w (hf a') (by cases a' <;> rfl)
                rw [hm] at this; exact this
              cases hs1 with
              | snil => exact ⟨_, w, ρ, fin _ _, .int _ _, hW, hW.refl⟩
              | smt a c => exact ⟨_, w, ρ, fin _ _, .int _ _, hW, hW.refl⟩
              | sz a => exact ⟨_, w, ρ, fin _ _, .int _ _, hW, hW.refl⟩
              | sl o len c c' hm hc hl hR => exact ⟨_, w, ρ, fin _ _, .int _ _, hW, hW.refl⟩
            · split at h
              · rename_i new b o hg
                split at h
                · rename_i H1 hlen hst
                  cases h
                  obtain ⟨m, cap', hm, hcc, hlc, hR, rfl⟩ := sl_inv hs1
                  obtain ⟨c', k1, k2⟩ := given_ok (w := w) hW hg (T.beq_t.1 hlen) hx
                  obtain ⟨w', q1, q2, q3⟩ := stores_ok hW hm hst k2
                  exact ⟨_, w', ρ, real _ _ c' w' k1 q1, .int _ _, q2, q3⟩
                · cases h
              · cases h
          · cases h
        · cases h
  · cases h

end Go.Am

/-! The abstract machine's operations, one by one, against the model's (6): conversions, max and min, maps, iterators, type assertions, methods. -/
namespace Go.Am
open Go
variable {P : Program}

theorem bytesOf_spec {ρ : Rho} : ∀ (c : List Value) (l : List UInt8) (vs : List Value), bytesOf c = some l → LR ρ c vs →
    ∃ ns : List Int, vs = ns.map (Value.int .u8) ∧ l = ns.map fun n => UInt8.ofNat n.toNat := by
  intro c
  induction c with
  | nil => intro l vs h hl; cases hl; simp only [bytesOf, Option.some.injEq] at h; subst h; exact ⟨[], rfl, rfl⟩
  | cons x c ih =>
    intro l vs h hl
    cases hl with
    | cons hx hl =>
      unfold bytesOf at h
      split at h
      · rename_i e0; cases e0
      · rename_i n r e0
        cases e0
        cases hx
        split at h
        · rename_i l1 h1
          cases h
          obtain ⟨ns, h2, h3⟩ := ih _ _ h1 hl
          subst h2; subst h3
          exact ⟨n :: ns, rfl, rfl⟩
        · cases h
      · cases h

theorem modify_push (h : Array Obj) (o : Obj) (f : Obj → Obj) : (h.push o).modify h.size f = h.push (f o) := by
  apply Array.ext_getElem?
  intro i
  rw [Array.getElem?_modify]
  by_cases e : h.size = i
  · subst e; simp
  · rw [if_neg e]
    by_cases e2 : i < h.size
    · rw [push_old _ _ e2, push_old _ _ e2]
    · rw [Array.getElem?_eq_none (by simp; omega), Array.getElem?_eq_none (by simp; omega)]

theorem convert_ok {H H' : AH} {ρ : Rho} {w : World} (hW : WR P H ρ w.heap) {src dst : TypeId} {x x' v : Value}
    (h : aConvert P H src dst x = some (v, H')) (hx : VR ρ x x') : OkV P H ρ w (convert src dst x') v H' := by
  unfold aConvert at h
  split at h
  · rename_i d k k0 n hs hd
    cases hx; cases h
    refine ⟨.int k (k.wrap n), w, ρ, ?_, .int _ _, hW, hW.refl⟩
    unfold convert
    simp only [Sem.run_bind, run_und hs, run_und hd, Result.andThen_ok]
    rfl
  · rename_i d s hs hd
    cases hx; cases h
    refine ⟨.string s, w, ρ, ?_, .string _, hW, hW.refl⟩
    unfold convert
    simp only [Sem.run_bind, run_und hs, run_und hd, Result.andThen_ok]
    rfl
  · rename_i d e s hs hd
    cases hx
    split at h
    · rename_i he
      cases h
      have hge : s.size ≤ (Question.appendCap s.size 0 e).cut (w.tape w.drawn (.appendCap s.size 0 e)) := cap_ge _ _ _ _ _ rfl
      have hs0 : (byteCells s.data.toList).length = s.size := by simp [byteCells]
      have hcells : (s.data.map fun b => Value.int .u8 b.toNat).toList = byteCells s.data.toList := by simp [byteCells]
      generalize hC : (s.data.map fun b => Value.int .u8 b.toNat) ++ Array.replicate ((Question.appendCap s.size 0 e).cut (w.tape w.drawn (.appendCap s.size 0 e)) - s.size) (Value.int .u8 0) = C
      have hCs : C.size = (Question.appendCap s.size 0 e).cut (w.tape w.drawn (.appendCap s.size 0 e)) := by
        rw [← hC]; simp; have : s.data.size = s.size := rfl
        omega
      obtain ⟨k1, k2⟩ := newCells_ok (w' := { w with drawn := w.drawn + 1, heap := w.heap.push (.cells C e (C.size, C.size + 1)) }) hW (ty := e) 1 C.size
        (c := byteCells s.data.toList) (by rw [← hC, ← hcells]; exact LR.some_right (by rw [hcells]; exact LR_bytes ρ _) _) (by omega) (Nat.le_refl _) (fun i hi h => by simp only at h; omega) rfl rfl rfl rfl
      refine ⟨.slice (some ⟨w.heap.size, 0, none⟩) s.size C.size, _, _, ?_, ?_, k1, k2⟩
      · unfold convert
        simp only [Sem.run_bind, run_und hs, run_und hd, Result.andThen_ok]
        have he' : P.underlying e = some (.int .u8) := he
        have goal : (Conv.stringToBytes e s).run P w = .ok (.slice (some ⟨w.heap.size, 0, none⟩) s.size C.size) { w with drawn := w.drawn + 1, heap := w.heap.push (.cells C e (C.size, C.size + 1)) } := by
          unfold Conv.stringToBytes
          simp only [Sem.run_bind, run_choose, Question.forced, Bool.false_eq_true, if_false, Result.andThen_ok, newRow, run_newObj, Sem.run_pure, hC]
          unfold markStringish
          have hsh : ({ w with drawn := w.drawn + 1, heap := w.heap.push (.cells C e) } : World).shape? w.heap.size = some (e, C.size) := by
            unfold World.shape?; simp
          have hfr : ({ w with drawn := w.drawn + 1, heap := w.heap.push (.cells C e) } : World).freeze ⟨w.heap.size, C.size, none⟩ 1 = { w with drawn := w.drawn + 1, heap := w.heap.push (.cells C e (C.size, C.size + 1)) } := by
            unfold World.freeze
            rw [if_neg (by decide)]
            simp only [modify_push]
            rfl
          simp only [Sem.run_bind, run_shape, hsh, Result.andThen_ok, run_freeze, hfr]
          rw [hCs]
        cases d <;> simp only [run_und he, Sem.run_bind, Result.andThen_ok, goal]
      · exact VR.sl (m := ⟨w.heap.size, 0, C.size, 1⟩) 0 _ _ _ (Rho.set_same ..) (by omega) (Nat.le_refl _) (.inr (by simp))
    · cases h
  · rename_i e a len cap hs hd
    split at h
    · rename_i he
      have hs : P.underlying src = some (.slice e) := hs
      have hd : P.underlying dst = some .string := hd
      have he : P.underlying e = some (.int .u8) := he
      split at h
      · cases h; cases hx
        refine ⟨.string ⟨#[]⟩, w, ρ, ?_, .string _, hW, hW.refl⟩
        rw [run_convert_bytes_nil w src e hs he 0 0 dst hd]; rfl
      · rename_i b o
        split at h
        · rename_i c hc
          split at h
          · rename_i l hl
            cases h
            obtain ⟨m, c', hm, _, _, _, rfl⟩ := sl_inv hx
            obtain ⟨vs', h1, h2⟩ := loadCells_real hW hm hc
            obtain ⟨ns, h3, h4⟩ := bytesOf_spec _ _ _ hl h2
            subst h3; subst h4
            refine ⟨_, w, ρ, ?_, .string _, hW, hW.refl⟩
            rw [run_convert_bytes_string w src dst e _ len c' hs he hd, run_bytesToString w _ len c' ns h1, foldl_push_bytes]
            simp [ByteArray.empty, ByteArray.emptyWithCapacity]
            rfl
          · cases h
        · cases h
      · split at h
        · rename_i hl
          have hl := T.beq_t.1 hl
          subst hl
          cases h
          have real : ∀ a c, (convert src dst (.slice (some a) 0 c)).run P w = .ok (.string ⟨#[]⟩) w := by
            intro a c
            rw [run_convert_bytes_string w src dst e _ 0 c hs he hd, run_bytesToString w a 0 c [] (by rfl)]
            rfl
          cases hx with
          | smt a c => exact ⟨_, w, ρ, real _ _, .string _, hW, hW.refl⟩
          | sz a => exact ⟨_, w, ρ, real _ _, .string _, hW, hW.refl⟩
        · cases h
    · cases h
  · cases h

/-! ### max, min -/

theorem max_ok {ρ : Rho} {w : World} {ts : Array TypeId} {ty : TypeId} {args args' : List Value} {v : Value} (h : aMax true args = some v) (ha : LR ρ args args') :
    Pu P ρ w (Builtin.max_ ts ty args'.toArray) v := by
  cases ha with
  | nil => simp [aMax] at h
  | @cons x x' xs xs' hx ht =>
    unfold Builtin.max_
    simp only
    have key : ∀ (xs xs' : List Value) (x x' v : Value), LR ρ xs xs' → VR ρ x x' → aMax true (x :: xs) = some v → Pu P ρ w (xs'.foldlM Builtin.max2 x') v := by
      intro xs
      induction xs with
      | nil => intro xs' x x' v hl hx h; cases hl; simp only [aMax, List.foldlM_nil] at h; cases h; exact ⟨x', rfl, hx⟩
      | cons y ys ih =>
        intro xs' x x' v hl hx h
        cases hl with
        | cons hy hl =>
          simp only [aMax, List.foldlM_cons] at h
          cases hx <;> cases hy <;> simp only [bind, Option.bind] at h <;> first | (cases h; done) | skip
          rename_i k n k2 n2
          simp only [List.foldlM_cons, Builtin.max2]
          obtain ⟨v', h1, h2⟩ := ih _ (.int k (if n2 > n then n2 else n)) (.int k (if n2 > n then n2 else n)) v hl (.int _ _) (by simp only [aMax]; exact h)
          exact ⟨v', by simpa using h1, h2⟩
    exact key xs xs' x x' v ht hx h

theorem min_ok {ρ : Rho} {w : World} {ts : Array TypeId} {ty : TypeId} {args args' : List Value} {v : Value} (h : aMax false args = some v) (ha : LR ρ args args') :
    Pu P ρ w (Builtin.min_ ts ty args'.toArray) v := by
  cases ha with
  | nil => simp [aMax] at h
  | @cons x x' xs xs' hx ht =>
    unfold Builtin.min_
    simp only
    have key : ∀ (xs xs' : List Value) (x x' v : Value), LR ρ xs xs' → VR ρ x x' → aMax false (x :: xs) = some v → Pu P ρ w (xs'.foldlM Builtin.min2 x') v := by
      intro xs
      induction xs with
      | nil => intro xs' x x' v hl hx h; cases hl; simp only [aMax, List.foldlM_nil] at h; cases h; exact ⟨x', rfl, hx⟩
      | cons y ys ih =>
        intro xs' x x' v hl hx h
        cases hl with
        | cons hy hl =>
          simp only [aMax, List.foldlM_cons] at h
          cases hx <;> cases hy <;> simp only [bind, Option.bind] at h <;> first | (cases h; done) | skip
          rename_i k n k2 n2
          simp only [List.foldlM_cons, Builtin.min2]
          obtain ⟨v', h1, h2⟩ := ih _ (.int k (if n2 < n then n2 else n)) (.int k (if n2 < n then n2 else n)) v hl (.int _ _) (by simp only [aMax]; exact h)
          exact ⟨v', by simpa using h1, h2⟩
    exact key xs xs' x x' v ht hx h

end Go.Am

/-! The abstract machine's operations, one by one, against the model's (7): maps, iterators, type assertions, methods. -/
namespace Go.Am
open Go
variable {P : Program}

/-- (5) A map or an iterator turns. -/
theorem WR.setObj {H : AH} {ρ : Rho} {w : World} (hW : WR P H ρ w.heap) {b : Nat} {m : Pl} {k k' : Blk} (hb : H.blk.get b = some k) (hl : k.like k') (hk : k.mine = true) (hnc : ∀ c e o, k ≠ .cells c e o)
    (hbase : H.base ≤ b) (hm : ρ b = some m) {o' : Obj}
    (hB : BR { H with blk := H.blk.set b k' } ρ (w.heap.setIfInBounds m.r o') m k') :
    WR P { H with blk := H.blk.set b k' } ρ (w.heap.setIfInBounds m.r o') ∧
      Grw H ρ w { H with blk := H.blk.set b k' } ρ { w with heap := w.heap.setIfInBounds m.r o' } := by
  have hroot : H.root b = b := by rw [AH.root_of hb]; exact Blk.mine_root hk b
  have hblk : ∀ j, ({ H with blk := H.blk.set b k' } : AH).blk.get j = if b = j then some k' else H.blk.get j := fun j => T.get_set ..
  have hwf : ({ H with blk := H.blk.set b k' } : AH).WF := hW.wf.turn hb hl rfl rfl hblk (fun f cur low hf => ⟨0, .inr hf⟩)
  have hafr : AFr H { H with blk := H.blk.set b k' } := AFr.turn hb hl rfl rfl hblk (by rw [hroot]; exact hbase) (fun _ _ => rfl)
  have := WR.turn (w := w) (w' := { w with heap := w.heap.setIfInBounds m.r o' }) hW hb hl hm hwf hafr rfl (by rw [hroot]; exact hbase) hblk
    (fun c e o c' e' o' h1 _ => absurd h1 (hnc c e o)) ?_ (fun o h => h) hB ⟨by simp, fun j hj => Array.getElem?_setIfInBounds_ne (fun e => hj e.symm)⟩ rfl rfl rfl
  · exact this
  · intro j kj hj hkj hr c e o hc
    rcases hW.wf.uniq j b kj k hkj hb hr (by rw [hr, Blk.mine_root hk b]; have := hW.wf.base; omega) with h1 | ⟨_, _, _, _, _, _, _, _, _, h2, _⟩
    · exact absurd h1 hj
    · exact absurd h2 (hnc _ _ _)

theorem ER.cons_inv {ρ : Rho} {e : MapEntry} {es : List MapEntry} {l : List MapEntry} (h : ER ρ (e :: es) l) : ∃ e' es', l = e' :: es' ∧ VR ρ e.key e'.key ∧ VR ρ e.val e'.val ∧ e.born = e'.born ∧ ER ρ es es' := by
  cases l with
  | nil => have := h.1; simp at this
  | cons e' es' =>
    obtain ⟨h1, h2, h3⟩ := h.2 0 e e' rfl rfl
    exact ⟨e', es', rfl, h1, h2, h3, by have := h.1; simpa using this, fun i a b ha hb => h.2 (i + 1) a b ha hb⟩

theorem keyT_spec {t : TypeId} {kd : TypeDesc} (h : keyT P t = some kd) : P.underlying t = some kd ∧ ((∃ k, kd = .int k) ∨ kd = .string ∨ kd = .bool) := by
  unfold keyT at h
  split at h
  · rename_i k hu; cases h; exact ⟨hu, .inl ⟨k, rfl⟩⟩
  · rename_i hu; cases h; exact ⟨hu, .inr (.inl rfl)⟩
  · rename_i hu; cases h; exact ⟨hu, .inr (.inr rfl)⟩
  · cases h

theorem bytes_eq {a b : ByteArray} (h : (a == b) = true) : a = b := by
  rw [beq_toListBytes] at h
  have h := beq_iff_eq.1 h
  rw [toListB, toListB] at h
  obtain ⟨⟨x⟩⟩ := a
  obtain ⟨⟨y⟩⟩ := b
  simp only at h
  rw [h]

theorem sameNow_ok {ρ : Rho} {kd : TypeDesc} {k k' x x' : Value} {b : Bool} (h : Instr.sameNow kd k x = some b) (hk : VR ρ k k') (hx : VR ρ x x') : Instr.sameNow kd k' x' = some b ∧ (b = true → k = x ∧ k' = x' ∧ Instr.sameBits 10000 x' k' = true) := by
  unfold Instr.sameNow at h
  split at h
  · cases hk; cases hx
    split at h
    · rename_i he; subst he; cases h
      refine ⟨by simp [Instr.sameNow], fun hb => ?_⟩
      have hb := beq_iff_eq.1 hb
      subst hb
      exact ⟨rfl, rfl, by simp [Instr.sameBits]⟩
    · cases h
  · cases hk; cases hx; cases h
    refine ⟨rfl, fun hb => ?_⟩
    have hb' := bytes_eq hb
    subst hb'
    exact ⟨rfl, rfl, hb⟩
  · cases hk; cases hx; cases h
    refine ⟨rfl, fun hb => ?_⟩
    have hb := beq_iff_eq.1 hb
    subst hb
    exact ⟨rfl, rfl, by simp [Instr.sameBits]⟩
  · cases h

theorem findNow_ok {ρ : Rho} {kd : TypeDesc} {k k' : Value} (hk : VR ρ k k') : ∀ (es es' : List MapEntry) (i : Nat), ER ρ es es' →
    (Instr.findNow kd k es i = some none → Instr.findNow kd k' es' i = some none) ∧
    (∀ j v, Instr.findNow kd k es i = some (some (j, v)) → ∃ v', Instr.findNow kd k' es' i = some (some (j, v')) ∧ VR ρ v v' ∧ i ≤ j ∧ ∃ e e', es[j - i]? = some e ∧ es'[j - i]? = some e' ∧ e.key = k ∧ e'.key = k' ∧ Instr.sameBits 10000 e'.key k' = true) := by
  intro es
  induction es with
  | nil =>
    intro es' i h
    have : es' = [] := by have := h.1; cases es' <;> simp_all
    subst this
    exact ⟨fun h => h, fun j v h => by simp [Instr.findNow] at h⟩
  | cons e es ih =>
    intro l i h
    obtain ⟨e', es', rfl, h1, h2, h3, h4⟩ := h.cons_inv
    obtain ⟨g1, g2⟩ := ih es' (i + 1) h4
    unfold Instr.findNow
    cases hs : Instr.sameNow kd k e.key with
    | none => simp
    | some b =>
      obtain ⟨k1, k2⟩ := sameNow_ok hs hk h1
      rw [k1]
      cases b with
      | true =>
        simp only
        obtain ⟨q1, q2, q3⟩ := k2 rfl
        refine ⟨by simp, fun j v hv => ?_⟩
        cases hv
        exact ⟨e'.val, rfl, h2, Nat.le_refl _, e, e', by simp, by simp, q1.symm, q2.symm, q3⟩
      | false =>
        simp only
        refine ⟨g1, fun j v hv => ?_⟩
        obtain ⟨v', q1, q2, q3, a, a', q4, q5, q6⟩ := g2 j v hv
        refine ⟨v', q1, q2, by omega, a, a', ?_, ?_, q6⟩
        · rw [show j - i = (j - (i + 1)) + 1 by omega]; simpa using q4
        · rw [show j - i = (j - (i + 1)) + 1 by omega]; simpa using q5

theorem run_checkKey {kt : TypeId} {kd : TypeDesc} (h : keyT P kt = some kd) (e : Bool) (k : Value) (w : World) : (Instr.checkKey e 10000 kt k).run P w = .ok () w := by
  obtain ⟨hu, hk⟩ := keyT_spec h
  unfold Instr.checkKey
  simp only [Sem.run_bind, run_underlying hu, Result.andThen_ok]
  rcases hk with ⟨k, rfl⟩ | rfl | rfl <;> rfl

theorem run_findKey {kt : TypeId} {kd : TypeDesc} (h : keyT P kt = some kd) {k : Value} {es : List MapEntry} {r : Option (Nat × Value)} (hr : Instr.findNow kd k es 0 = some r) (w : World) :
    (Instr.findKey kt k es).run P w = .ok r w := by
  obtain ⟨hu, _⟩ := keyT_spec h
  unfold Instr.findKey
  simp only [Sem.run_bind, run_underlying hu, Result.andThen_ok, hr, Sem.run_pure]

theorem run_getObj {r : Nat} {o : Obj} {w : World} (h : w.heap[r]? = some o) (hn : ∀ c t f, o ≠ .cells c t f) : (getObj r).run P w = .ok o w := by
  unfold getObj
  cases o <;> first | exact absurd rfl (hn _ _ _) | simp only [Sem.run, h]

theorem run_setObj {r : Nat} {o o' : Obj} {w : World} (h : w.heap[r]? = some o) (hn : ∀ c t f, o ≠ .cells c t f) : (setObj r o').run P w = .ok () { w with heap := w.heap.setIfInBounds r o' } := by
  unfold setObj
  cases o <;> first | exact absurd rfl (hn _ _ _) | simp only [Sem.run, h]

theorem lookup_ok (hz : ZOk P) {H : AH} {ρ : Rho} {w : World} (hW : WR P H ρ w.heap) {t : TypeId} {x x' k k' v : Value} {ok : Bool} (h : aLookup P H t x k ok = some v) (hx : VR ρ x x') (hk : VR ρ k k') :
    Pu P ρ w (Instr.lookup t x' k' ok) v := by
  unfold aLookup at h
  split at h
  · rename_i kt et hu
    split at h
    · rename_i kd z hkd hzt
      have hzr := VR.plain ρ 20 z (hz.plain hzt)
      split at h
      · rename_i es hes
        have src : ∃ es' : Array MapEntry, ER ρ es es'.toList ∧ ((x' = .map none ∧ es' = #[]) ∨ ∃ r cl, x' = .map (some r) ∧ w.heap[r]? = some (.map es' cl)) := by
          cases hx <;> simp only at hes <;> first | (cases hes; done) | skip
          · cases hes
            exact ⟨#[], ⟨rfl, fun i e e' h _ => by simp at h⟩, .inl ⟨rfl, rfl⟩⟩
          · rename_i b m hm
            split at hes
            · rename_i es0 cl mi hb
              cases hes
              obtain ⟨_, es', h1, h2⟩ := hW.blk b m _ hm hb
              exact ⟨es', h2, .inr ⟨m.r, cl, rfl, h1⟩⟩
            · cases hes
        obtain ⟨es', he1, he2⟩ := src
        obtain ⟨f1, f2⟩ := findNow_ok (kd := kd) hk es es'.toList 0 he1
        have real : ∀ r, Instr.findNow kd k' es'.toList 0 = some r → (Instr.lookup t x' k' ok).run P w =
            .ok (match r with
              | some (_, v) => if ok then .tuple #[v, .bool true] else v
              | none => if ok then .tuple #[z, .bool false] else z) w := by
          intro r hr
          unfold Instr.lookup
          rcases he2 with ⟨rfl, rfl⟩ | ⟨rr, cl, rfl, hh⟩
          · simp only [Sem.run_bind, run_und hu, Result.andThen_ok, Sem.run_pure, run_checkKey hkd, run_findKey hkd hr]
            cases r with
            | none => simp only [Sem.run_bind, run_zeroValue hzt, Result.andThen_ok, Sem.run_pure]
            | some q => simp only [Sem.run_bind, Sem.run_pure, Result.andThen_ok]
          · simp only [Sem.run_bind, run_und hu, run_getObj hh (by intros; simp), Result.andThen_ok, Sem.run_pure, run_checkKey hkd, run_findKey hkd hr]
            cases r with
            | none => simp only [Sem.run_bind, run_zeroValue hzt, Result.andThen_ok, Sem.run_pure]
            | some q => simp only [Sem.run_bind, Sem.run_pure, Result.andThen_ok]
        have tup : ∀ a a' b, VR ρ a a' → VR ρ (.tuple #[a, .bool b]) (.tuple #[a', .bool b]) := fun a a' b ha => VR.tuple_of (.cons ha (.cons (.bool b) .nil))
        split at h
        · rename_i j v0 hf
          cases h
          obtain ⟨v', q1, q2, _⟩ := f2 j v0 hf
          refine ⟨_, real _ q1, ?_⟩
          cases ok
          · exact q2
          · exact tup _ _ _ q2
        · rename_i hf
          cases h
          refine ⟨_, real _ (f1 hf), ?_⟩
          cases ok
          · exact hzr
          · exact tup _ _ _ hzr
        · cases h
      · cases h
    · cases h
  · cases h

theorem mapUpdate_ok {H H' : AH} {ρ : Rho} {w : World} (hW : WR P H ρ w.heap) {t : TypeId} {m m' k k' v v' : Value} (h : aMapUpdate P H t m k v = some H') (hm : VR ρ m m') (hk : VR ρ k k') (hv : VR ρ v v') :
    OkU P H ρ w (Instr.mapUpdate t m' k' v') H' := by
  unfold aMapUpdate at h
  split at h
  · rename_i kt et b hu
    cases hm with
    | @map _ pl hpl =>
      split at h
      · rename_i kd es clock hkd hb
        obtain ⟨hd0, es', h1, h2⟩ := hW.blk b pl _ hpl hb
        obtain ⟨f1, f2⟩ := findNow_ok (kd := kd) hk es es'.toList 0 h2
        have hlike : ∀ es1 cl1, (Blk.map es clock true).like (.map es1 cl1 true) := fun es1 cl1 => .inr (.inl ⟨_, _, _, _, _, rfl, rfl⟩)
        have hlt := hW.real b pl hpl
        have fin : ∀ (es1 : List MapEntry) (es1' : Array MapEntry) (cl1 : Nat), ER ρ es1 es1'.toList → H.base ≤ b →
            WR P { H with blk := H.blk.set b (.map es1 cl1 true) } ρ (w.heap.setIfInBounds pl.r (.map es1' cl1)) ∧
            Grw H ρ w { H with blk := H.blk.set b (.map es1 cl1 true) } ρ { w with heap := w.heap.setIfInBounds pl.r (.map es1' cl1) } := by
          intro es1 es1' cl1 he hbase
          refine hW.setObj hb (hlike es1 cl1) rfl (by intros; simp) hbase hpl ⟨hd0, es1', ?_, he⟩
          simp [hlt]
        split at h
        · rename_i i v0 hbase hf
          have hbase := Nat.le_of_ble_eq_true hbase
          cases h
          obtain ⟨w0, q1, q2, q3, a, a', q4, q5, q6, q7, q8⟩ := f2 i v0 hf
          simp only [Nat.sub_zero] at q4 q5
          have hlen : es.length = es'.size := by have := h2.1; simpa using this
          obtain ⟨g1, g2⟩ := fin (es.modify i fun e => { e with key := k, val := v }) (es'.modify i fun e => { e with key := k', val := v' }) clock (by
            refine ⟨by simp [hlen], fun j e e' he he' => ?_⟩
            rw [List.getElem?_modify] at he
            rw [Array.getElem?_toList, Array.getElem?_modify] at he'
            by_cases e0 : i = j
            · subst e0
              simp only [if_true] at he he'
              rw [q4] at he
              rw [← Array.getElem?_toList, q5] at he'
              simp only [Option.map_eq_map, Option.map_some, Option.some.injEq] at he he'
              subst he; subst he'
              obtain ⟨_, _, hb⟩ := h2.2 i a a' q4 q5
              exact ⟨hk, hv, hb⟩
            · simp only [if_neg e0] at he he'
              have he : es[j]? = some e := by cases hq : es[j]? <;> simp_all
              exact h2.2 j e e' he (by simpa using he')) hbase
          refine ⟨_, ρ, ?_, g1, g2⟩
          unfold Instr.mapUpdate
          simp only [Sem.run_bind, run_und hu, Result.andThen_ok, run_getObj h1 (by intros; simp), run_checkKey hkd, run_findKey hkd q1]
          have hkey : ((es'[i]?).map (fun x => x.key)).getD k' = a'.key := by
            have : es'[i]? = some a' := by simpa using q5
            rw [this]; rfl
          have hst : (Instr.keyThatStays (((es'[i]?).map (fun x => x.key)).getD k') k').run P w = .ok k' w := by
            rw [hkey]
            unfold Instr.keyThatStays
            rw [if_pos q8]; rfl
          simp only [hst, Result.andThen_ok]
          exact run_setObj h1 (by intros; simp)
        · rename_i hbase hf
          have hbase := Nat.le_of_ble_eq_true hbase
          cases h
          have hlen : es.length = es'.size := by have := h2.1; simpa using this
          obtain ⟨g1, g2⟩ := fin (es ++ [{ key := k, val := v, born := clock }]) (es'.push { key := k', val := v', born := clock }) (clock + 1) (by
            refine ⟨by simp [hlen], fun j e e' he he' => ?_⟩
            rw [Array.toList_push] at he'
            by_cases e0 : j < es.length
            · rw [List.getElem?_append_left e0] at he
              rw [List.getElem?_append_left (by simpa using by omega)] at he'
              exact h2.2 j e e' he he'
            · rw [List.getElem?_append_right (by omega)] at he
              rw [List.getElem?_append_right (by simpa using by omega)] at he'
              have : j - es.length = 0 := by
                rcases Nat.eq_zero_or_pos (j - es.length) with h0 | h0
                · exact h0
                · rw [List.getElem?_eq_none (by simp; omega)] at he; cases he
              have h0' : j - es'.toList.length = 0 := by simp; omega
              rw [this] at he; rw [h0'] at he'
              simp only [List.getElem?_cons_zero, Option.some.injEq] at he he'
              subst he; subst he'
              exact ⟨hk, hv, rfl⟩) hbase
          refine ⟨_, ρ, ?_, g1, g2⟩
          unfold Instr.mapUpdate
          simp only [Sem.run_bind, run_und hu, Result.andThen_ok, run_getObj h1 (by intros; simp), run_checkKey hkd, run_findKey hkd (f1 hf)]
          exact run_setObj h1 (by intros; simp)
        · cases h
      · cases h
  · cases h

/-! ### Iterators -/

theorem range_ok {H H' : AH} {ρ : Rho} {w : World} (hW : WR P H ρ w.heap) {t : TypeId} {x x' v : Value} (h : aRange P H t x = some (v, H')) (hx : VR ρ x x') :
    OkV P H ρ w (Instr.range t x') v H' := by
  unfold aRange at h
  split at h
  · rename_i s hu
    cases hx; cases h
    obtain ⟨g1, g2⟩ := hW.new (w' := { w with heap := w.heap.push (.stringIter s 0) }) (k := .siter s 0 true) rfl (obj := .stringIter s 0) 0 0 ⟨rfl, by simp⟩ rfl rfl rfl rfl
    refine ⟨.pointer (some ⟨w.heap.size, 0, none⟩), _, _, ?_, ?_, g1, g2⟩
    · unfold Instr.range
      simp only [Sem.run_bind, run_und hu, Result.andThen_ok, Sem.run_pure, run_newObj]
    · exact VR.ptr (m := ⟨w.heap.size, 0, 0, 0⟩) 0 (Rho.set_same ..)
  · rename_i kt et hu
    cases hx; cases h
    obtain ⟨g1, g2⟩ := hW.new (w' := { w with heap := w.heap.push (.mapIter none 0 #[] 0) }) (k := .miter none 0 [] 0 true) rfl (obj := .mapIter none 0 #[] 0) 0 0 ⟨rfl, by simp⟩ rfl rfl rfl rfl
    refine ⟨.pointer (some ⟨w.heap.size, 0, none⟩), _, _, ?_, ?_, g1, g2⟩
    · unfold Instr.range
      simp only [Sem.run_bind, run_und hu, Result.andThen_ok, Sem.run_pure, run_newObj]
    · exact VR.ptr (m := ⟨w.heap.size, 0, 0, 0⟩) 0 (Rho.set_same ..)
  · rename_i kt et b hu
    cases hx with
    | @map _ mb hmb =>
    split at h
    · rename_i es clock mi hb
      cases h
      obtain ⟨_, es', h1, _⟩ := hW.blk b mb _ hmb hb
      have hne : b ≠ H.next := by have := hW.dom b mb hmb; omega
      obtain ⟨g1, g2⟩ := hW.new (w' := { w with heap := w.heap.push (.mapIter (some mb.r) clock #[] clock) }) (k := .miter (some b) clock [] clock true) rfl
        (obj := .mapIter (some mb.r) clock #[] clock) 0 0 ⟨rfl, mb, by rw [Rho.set_ne _ _ (fun e => hne e.symm)]; exact hmb, by simp⟩ rfl rfl rfl rfl
      refine ⟨.pointer (some ⟨w.heap.size, 0, none⟩), _, _, ?_, ?_, g1, g2⟩
      · unfold Instr.range
        simp only [Sem.run_bind, run_und hu, Result.andThen_ok, run_getObj h1 (by intros; simp), Sem.run_pure, run_newObj]
      · exact VR.ptr (m := ⟨w.heap.size, 0, 0, 0⟩) 0 (Rho.set_same ..)
    · cases h
  · cases h

theorem ER.filter {ρ : Rho} (p : Nat → Bool) : ∀ {es l : List MapEntry}, ER ρ es l → ER ρ (es.filter fun e => p e.born) (l.filter fun e => p e.born) := by
  intro es
  induction es with
  | nil =>
    intro l h
    have : l = [] := by have := h.1; simpa using this.symm
    subst this
    exact h
  | cons e es ih =>
    intro l h
    obtain ⟨e', es', rfl, h1, h2, h3, h4⟩ := h.cons_inv
    have ih := ih h4
    simp only [List.filter_cons, ← h3]
    by_cases hp : p e.born = true
    · simp only [hp, if_true]
      refine ⟨by simp [ih.1], fun i a b ha hb => ?_⟩
      cases i with
      | zero => simp at ha hb; subst ha; subst hb; exact ⟨h1, h2, h3⟩
      | succ i => exact ih.2 i a b (by simpa using ha) (by simpa using hb)
    · simp only [hp, if_false]
      exact ih

theorem ER.all {ρ : Rho} (p : Nat → Bool) : ∀ {es l : List MapEntry}, ER ρ es l → (es.all fun e => p e.born) = (l.all fun e => p e.born) := by
  intro es
  induction es with
  | nil =>
    intro l h
    have : l = [] := by have := h.1; simpa using this.symm
    subst this
    rfl
  | cons e es ih =>
    intro l h
    obtain ⟨e', es', rfl, _, _, h3, h4⟩ := h.cons_inv
    simp only [List.all_cons, h3, ih h4]

theorem cand_ok {ρ : Rho} {es : List MapEntry} {es' : Array MapEntry} (hE : ER ρ es es'.toList) {since last : Nat} {seen : List Nat} {c : Option MapEntry} (h : aCand es since seen last = some c) :
    (!seen.toArray.isEmpty && !es'.isEmpty && es'.all (fun e => decide (e.born ≥ last))) = false ∧
    match c with
    | none => es'.filter (fun e => !seen.toArray.contains e.born) = #[]
    | some e => e.born < since ∧ ∃ e', es'.filter (fun e => !seen.toArray.contains e.born) = #[e'] ∧ VR ρ e.key e'.key ∧ VR ρ e.val e'.val ∧ e.born = e'.born := by
  unfold aCand at h
  split at h
  · cases h
  · rename_i h0
    have hall := hE.all (fun n => last.ble n)
    have hb : (fun e : MapEntry => decide (e.born ≥ last)) = fun e => last.ble e.born := by
      funext e
      by_cases hh : last ≤ e.born
      · simp [hh, Nat.ble_eq_true_of_le hh]
      · simp [hh]
        exact Bool.eq_false_iff.2 fun hc => hh (Nat.le_of_ble_eq_true hc)
    have hem : es.isEmpty = es'.isEmpty := by
      have := hE.1
      cases es with
      | nil => rw [Array.isEmpty_iff.2 (Array.eq_empty_of_size_eq_zero (by simpa using this.symm))]; rfl
      | cons a l =>
        cases hq : es'.isEmpty with
        | false => rfl
        | true => rw [Array.isEmpty_iff.1 hq] at this; simp at this
    refine ⟨?_, ?_⟩
    · rw [hb, ← Array.all_toList, ← hall, ← hem]
      simpa using h0
    · have hF := hE.filter (fun n => !seen.contains n)
      have hl : (es'.filter (fun e => !seen.toArray.contains e.born)).toList = es'.toList.filter (fun e => !seen.contains e.born) := by simp
      generalize es'.filter (fun e => !seen.toArray.contains e.born) = L at hl ⊢
      rw [← hl] at hF
      split at h
      · rename_i h1
        cases h
        rw [h1] at hF
        have := hF.1
        simp only
        exact Array.eq_empty_of_size_eq_zero (by simpa using this.symm)
      · rename_i e h1
        split at h
        · rename_i h2
          cases h
          rw [h1] at hF
          obtain ⟨e', l', hl', k1, k2, k3, k4⟩ := hF.cons_inv
          have : l' = [] := by have := k4.1; simpa using this.symm
          subst this
          refine ⟨Nat.le_of_ble_eq_true h2, e', ?_, k1, k2, k3⟩
          apply Array.ext'
          exact hl'
        · cases h
      · cases h

theorem next_ok {H H' : AH} {ρ : Rho} {w : World} (hW : WR P H ρ w.heap) {t : TypeId} {x x' v : Value} {s : Bool} (h : aNext H x s = some (v, H')) (hx : VR ρ x x') :
    OkV P H ρ w (Instr.next x' s t) v H' := by
  unfold aNext at h
  split at h
  · rename_i b
    obtain ⟨m, hm, rfl⟩ := ptr_inv hx
    split at h
    · rename_i s pos hb
      obtain ⟨hd0, h1⟩ := hW.blk b m _ hm hb
      have hlt := hW.real b m hm
      rw [hd0, Nat.add_zero]
      split at h
      · rename_i hbase
        have hbase := Nat.le_of_ble_eq_true hbase
        split at h
        · rename_i hp
          cases h
          obtain ⟨g1, g2⟩ := hW.setObj (k' := .siter s (pos + (Utf8.decode s pos).2) true) hb (.inr (.inr (.inl ⟨_, _, _, _, _, rfl, rfl⟩))) rfl (by intros; simp) hbase hm
            (o' := .stringIter s (pos + (Utf8.decode s pos).2)) ⟨hd0, by simp [hlt]⟩
          refine ⟨.tuple #[.bool true, .int .i64 pos, .int .i32 (Utf8.decode s pos).1], _, ρ, ?_, VR.tuple_of (.cons (.bool _) (.cons (.int _ _) (.cons (.int _ _) .nil))), g1, g2⟩
          unfold Instr.next
          simp only [Sem.run_bind, run_getObj h1 (by intros; simp), Result.andThen_ok]
          rw [if_pos hp]
          simp only [Sem.run_bind, run_setObj h1 (show ∀ c t f, Obj.stringIter s pos ≠ .cells c t f by intros; simp), Result.andThen_ok, Sem.run_pure, goInt]
        · rename_i hp
          cases h
          refine ⟨_, w, ρ, ?_, VR.tuple_of (.cons (.bool false) .nil), hW, hW.refl⟩
          unfold Instr.next
          simp only [Sem.run_bind, run_getObj h1 (by intros; simp), Result.andThen_ok]
          rw [if_neg hp]
          rfl
      · cases h
    · rename_i since seen last mi hb
      obtain ⟨hd0, h1⟩ := hW.blk b m _ hm hb
      rw [hd0, Nat.add_zero]
      cases h
      refine ⟨_, w, ρ, ?_, VR.tuple_of (.cons (.bool false) .nil), hW, hW.refl⟩
      unfold Instr.next
      simp only [Sem.run_bind, run_getObj h1 (by intros; simp), Result.andThen_ok]
      rfl
    · rename_i bm since seen last hb
      obtain ⟨hd0, mb, hmb, h1⟩ := hW.blk b m _ hm hb
      have hlt := hW.real b m hm
      rw [hd0, Nat.add_zero]
      split at h
      · rename_i es clock mi hbase hbm
        have hbase := Nat.le_of_ble_eq_true hbase
        obtain ⟨hd1, es', h2, hE⟩ := hW.blk bm mb _ hmb hbm
        split at h
        · rename_i e hc
          cases h
          obtain ⟨k1, k2, e', k3, k4, k5, k6⟩ := cand_ok hE hc
          obtain ⟨g1, g2⟩ := hW.setObj (k' := .miter (some bm) since (seen ++ [e.born]) clock true) hb (.inr (.inr (.inr ⟨_, _, _, _, _, _, _, _, _, rfl, rfl⟩))) rfl (by intros; simp) hbase hm
            (o' := .mapIter (some mb.r) since (seen.toArray.push e'.born) clock) ⟨hd0, mb, hmb, by simp [hlt, k6]⟩
          refine ⟨.tuple #[.bool true, e'.key, e'.val], _, ρ, ?_, VR.tuple_of (.cons (.bool _) (.cons k4 (.cons k5 .nil))), g1, g2⟩
          unfold Instr.next
          simp only [Sem.run_bind, run_getObj h1 (by intros; simp), run_getObj h2 (by intros; simp), Result.andThen_ok, k1, k3, Bool.false_eq_true, if_false]
          have e1 : (#[e'] : Array MapEntry).filter (fun e => decide (e.born < since)) = #[e'] := by simp [← k6, k2]
          have e2 : (#[e'] : Array MapEntry).filter (fun e => decide (e.born ≥ since)) = #[] := by simp [← k6]; omega
          rw [e1, e2]
          simp [run_choose, Question.forced, run_setObj h1 (show ∀ c t f, Obj.mapIter (some mb.r) since seen.toArray last ≠ .cells c t f by intros; simp)]
        · rename_i hc
          cases h
          obtain ⟨k1, k2⟩ := cand_ok hE hc
          refine ⟨_, w, ρ, ?_, VR.tuple_of (.cons (.bool false) .nil), hW, hW.refl⟩
          unfold Instr.next
          simp only at k2
          simp only [Sem.run_bind, run_getObj h1 (by intros; simp), run_getObj h2 (by intros; simp), Result.andThen_ok, k1, k2, Bool.false_eq_true, if_false]
          simp [run_choose, Question.forced]
        · cases h
      · cases h
    · cases h
  · cases h

theorem ER.find {ρ : Rho} (p : Nat → Bool) : ∀ {es l : List MapEntry} {e : MapEntry}, ER ρ es l → es.find? (fun e => p e.born) = some e → ∃ e', l.find? (fun e => p e.born) = some e' ∧ VR ρ e.key e'.key ∧ VR ρ e.val e'.val := by
  intro es
  induction es with
  | nil => intro l e _ h; simp at h
  | cons x es ih =>
    intro l e h hf
    obtain ⟨x', es', rfl, h1, h2, h3, h4⟩ := h.cons_inv
    simp only [List.find?_cons] at hf ⊢
    rw [← h3]
    cases hp : p x.born with
    | true => rw [hp] at hf; cases hf; exact ⟨x', rfl, h1, h2⟩
    | false => rw [hp] at hf; exact ih h4 hf

theorem entry_ok {H : AH} {ρ : Rho} {w : World} (hW : WR P H ρ w.heap) {x x' v : Value} (h : aEntry H x = some v) (hx : VR ρ x x') : Pu P ρ w (Instr.entry x') v := by
  unfold aEntry at h
  split at h
  · rename_i b
    obtain ⟨m, hm, rfl⟩ := ptr_inv hx
    split at h
    · rename_i bm since seen last mi hb
      obtain ⟨hd0, mb, hmb, h1⟩ := hW.blk b m _ hm hb
      rw [hd0, Nat.add_zero]
      split at h
      · rename_i stamp es clock mi hst hbm
        obtain ⟨hd1, es', h2, hE⟩ := hW.blk bm mb _ hmb hbm
        split at h
        · rename_i e hcl hf
          cases h
          have hcl := Nat.eq_of_beq_eq_true hcl
          obtain ⟨e', k1, k2, k3⟩ := hE.find (fun n => n.beq stamp) hf
          refine ⟨.tuple #[e'.key, e'.val], ?_, VR.tuple_of (.cons k2 (.cons k3 .nil))⟩
          have k1' : es'.find? (fun x => x.born == stamp) = some e' := by
            rw [← Array.find?_toList, ← k1]
            congr 1
            funext y
            rw [Bool.eq_iff_iff, T.beq_t]
            simp
          unfold Instr.entry
          simp only [Sem.run_bind, run_getObj h1 (by intros; simp), run_getObj h2 (by intros; simp), Result.andThen_ok]
          have hbk : seen.toArray.back? = some stamp := by rw [← hst]; simp
          simp only [hbk, Sem.run_bind, run_getObj h2 (by intros; simp), Result.andThen_ok, hcl, bne_self_eq_false, Bool.false_eq_true, if_false, k1']
          rfl
        · cases h
      · cases h
    · cases h
  · cases h

/-! ### Type assertions, methods -/

theorem assert_ok (hz : ZOk P) {ρ : Rho} {w : World} {x x' v : Value} {xt t : TypeId} {ok : Bool} (h : aAssert P x t ok = some v) (hx : VR ρ x x') : Pu P ρ w (Instr.typeAssert x' xt t ok) v := by
  have tup : ∀ a a' b, VR ρ a a' → VR ρ (.tuple #[a, .bool b]) (.tuple #[a', .bool b]) := fun a a' b ha => VR.tuple_of (.cons ha (.cons (.bool b) .nil))
  have zr : ∀ z, zeroT P t = some z → VR ρ z z := fun z h => VR.plain ρ 20 z (hz.plain h)
  unfold aAssert at h
  split at h
  · rename_i want d v0 hu
    cases hx with
    | @iface _ _ y hx =>
      split at h
      · rename_i i hi
        split at h
        · rename_i hl
          have hm := missingMethod_none (List.isEmpty_iff.1 hl)
          cases h
          cases ok
          · exact ⟨.iface d y, by unfold Instr.typeAssert; simp [run_und hu, run_typeInfo hi, hm], .iface d hx⟩
          · exact ⟨.tuple #[.iface d y, .bool true], by unfold Instr.typeAssert; simp [run_und hu, run_typeInfo hi, hm], tup _ _ _ (.iface d hx)⟩
        · rename_i hl
          obtain ⟨mm, hm⟩ := missingMethod_some (want := want) (got := i.methods) (fun e => by rw [e] at hl; cases hl)
          split at h
          · rename_i z hzt
            cases h
            exact ⟨.tuple #[z, .bool false], by unfold Instr.typeAssert; simp [run_und hu, run_typeInfo hi, hm, run_zeroValue hzt], tup _ _ _ (zr z hzt)⟩
          · cases h
      · cases h
  · rename_i d hu
    cases hx
    split at h
    · rename_i z hzt
      cases h
      refine ⟨.tuple #[z, .bool false], ?_, tup _ _ _ (zr z hzt)⟩
      unfold Instr.typeAssert
      cases d <;> simp [run_und hu, run_zeroValue hzt]
    · cases h
  · cases h
  · rename_i d d0 v0 hne hu
    cases hx with
    | @iface _ _ y hx =>
      have hni : ∀ ms, d ≠ .interface ms := fun ms e => hne ms e
      split at h
      · rename_i hd
        subst hd
        cases h
        cases ok
        · refine ⟨y, ?_, hx⟩
          unfold Instr.typeAssert
          cases d <;> first | exact absurd rfl (hni _) | simp [run_und hu]
        · refine ⟨.tuple #[y, .bool true], ?_, tup _ _ _ hx⟩
          unfold Instr.typeAssert
          cases d <;> first | exact absurd rfl (hni _) | simp [run_und hu]
      · rename_i hd
        split at h
        · rename_i z hzt
          cases h
          refine ⟨.tuple #[z, .bool false], ?_, tup _ _ _ (zr z hzt)⟩
          unfold Instr.typeAssert
          cases d <;> first | exact absurd rfl (hni _) | simp [run_und hu, hd, run_zeroValue hzt]
        · cases h
  · cases h

theorem method_ok {ρ : Rho} {w : World} {t : TypeId} {v v' : Value} {name : String} {f : FuncId} {r : Value} (h : aMethod P t v name = some (f, r)) (hv : VR ρ v v') (n : Nat) :
    ∃ r', (method (n + 1) t v' name).run P w = .ok (f, r') w ∧ VR ρ r r' := by
  unfold aMethod at h
  split at h
  · rename_i i hi
    split at h
    · rename_i m hm
      split at h
      · rename_i hp hf hu
        cases h
        refine ⟨v', ?_, hv⟩
        have hpe : m.path.toList = [] := by simpa using hp
        unfold method
        simp only [Sem.run_bind, run_typeInfo hi, Result.andThen_ok, hm, hpe, follow, Sem.run_pure, hf]
        unfold receiverAt
        simp only [Sem.run_bind, run_und hu, Result.andThen_ok, Place.get, Sem.run_pure]
      · cases h
      · rename_i f0 d hne hp hf hu
        cases h
        refine ⟨v', ?_, hv⟩
        have hpe : m.path.toList = [] := by simpa using hp
        unfold method
        simp only [Sem.run_bind, run_typeInfo hi, Result.andThen_ok, hm, hpe, follow, Sem.run_pure, hf]
        unfold receiverAt
        simp only [Sem.run_bind, run_und hu, Result.andThen_ok]
        cases d <;> first | exact absurd rfl (hne _) | simp [Place.get]
      · cases h
    · cases h
  · cases h

end Go.Am
