/- Rows of texts as a start heap of the abstract machine; what its answers' rows are in the model's world. -/
import Derived.Test.YthfkednlgehchaaGreatDoorAm4
import Derived.Test.YthfkednlgehchaaGreatDoorAmSeat3
import Derived.Test.YthfkednlgehchaaGreatDoorName2
set_option linter.unusedVariables false
set_option linter.unusedSimpArgs false
namespace Go.Am
open Go Go.Proofs Go.RowKit Go.Proofs.YthfkednlgehchaaGreatDoor

/-- A slice's real cells. -/
def Row (W : World) (s : Nat) (v : Value) (xs : List (List Value)) : Prop :=
  ∃ A c, v = .slice A xs.length c ∧ xs.length ≤ c ∧ (A = none → xs = [] ∧ c = 0) ∧ (∀ x ∈ xs, x.length = s) ∧
    (xs ≠ [] → ∃ a, A = some a ∧ a.spot = none ∧ ∀ i x, xs[i]? = some x → ∀ j u, x[j]? = some u → W.cell? (a.add (i * s + j)) = some u)

/-! ### the start's heap -/
/-- Rows, laid one behind the other. -/
def lay : Nat → List (List Value) → T Blk → T Blk
  | _, [], t => t
  | n, c :: l, t => lay (n + 1) l (t.set n (.cells c 0 .ext))
theorem lay_get : ∀ (l : List (List Value)) (n : Nat) (t : T Blk) (b : Nat), (lay n l t).get b = if n ≤ b ∧ b < n + l.length then (l[b - n]?).map (fun c => .cells c 0 .ext) else t.get b
  | [], n, t, b => by
    unfold lay
    rw [if_neg (by simp only [List.length_nil]; omega)]
  | c :: l, n, t, b => by
    unfold lay
    rw [lay_get l (n + 1) _ b]
    by_cases h : b = n
    · subst h
      rw [if_neg (by omega), if_pos (by simp only [List.length_cons]; omega), T.get_set_same, Nat.sub_self]
      rfl
    · by_cases h2 : n + 1 ≤ b ∧ b < n + 1 + l.length
      · rw [if_pos h2, if_pos (by simp only [List.length_cons]; omega), show b - n = (b - (n + 1)) + 1 from by omega, List.getElem?_cons_succ]
      · rw [if_neg h2, if_neg (by simp only [List.length_cons]; omega), T.get_set_ne _ _ (fun e => h e.symm)]

def heapOf (l : List (List Value)) : AH := { blk := lay 12 l T.nil, fam := .nil, next := 12 + l.length, base := 12 + l.length }
def rhoOf (As : List (Option Addr)) : Rho := fun b => if b < 12 then some ⟨b, 0, 0, 1⟩ else match As[b - 12]? with
  | some (some a) => some ⟨a.block, a.off, 0, 0⟩
  | _ => none

/-- A row's value in the machine; where it lies in the world. -/
def amv (b : Nat) (v : Value) (xs : List (List Value)) : Value := match xs with
  | [] => match v with
    | .slice none _ _ => .slice none 0 0
    | _ => .slice (some somewhere) 0 0
  | _ :: _ => .slice (some ⟨b, 0, none⟩) xs.length xs.length
def adr (v : Value) (xs : List (List Value)) : Option Addr := match xs with
  | [] => none
  | _ :: _ => match v with
    | .slice A _ _ => A
    | _ => none

theorem amv_vr {W : World} {s b : Nat} {v : Value} {xs : List (List Value)} {ρ : Rho} (h : Row W s v xs) (hρ : ∀ a, adr v xs = some a → ρ b = some ⟨a.block, a.off, 0, 0⟩) : VR ρ (amv b v xs) v := by
  obtain ⟨A, c, rfl, hc, hn, _, hne⟩ := h
  cases xs with
  | nil =>
    cases A with
    | none => obtain ⟨_, rfl⟩ := hn rfl; exact .snil
    | some a => exact .smt a c
  | cons x xs =>
    obtain ⟨a, rfl, hs, _⟩ := hne (by simp)
    obtain ⟨ab, ao, asp⟩ := a
    simp only at hs
    subst hs
    exact .sl (m := ⟨ab, ao, 0, 0⟩) 0 _ _ c (hρ _ rfl) hc (Nat.le_refl _) (.inl rfl)

theorem flat_take {s : Nat} : ∀ {xs : List (List Value)}, (∀ x ∈ xs, x.length = s) → ∀ {i : Nat} {x : List Value}, xs[i]? = some x → i * s + s ≤ xs.flatten.length ∧ (xs.flatten.drop (i * s)).take s = x
  | [], _, i, x, h => by simp at h
  | y :: ys, hs, 0, x, h => by
    simp only [List.getElem?_cons_zero, Option.some.injEq] at h
    subst h
    have hl := hs y (by simp)
    simp only [List.flatten_cons, Nat.zero_mul, List.drop_zero, List.length_append]
    refine ⟨by omega, ?_⟩
    rw [List.take_append_of_le_length (by omega), ← hl, List.take_length]
  | y :: ys, hs, i + 1, x, h => by
    simp only [List.getElem?_cons_succ] at h
    obtain ⟨h1, h2⟩ := flat_take (fun z hz => hs z (by simp [hz])) h
    have hl := hs y (by simp)
    simp only [List.flatten_cons, List.length_append, Nat.add_mul, Nat.one_mul]
    refine ⟨by omega, ?_⟩
    rw [show i * s + s = y.length + i * s from by omega, ← List.drop_drop, List.drop_left]
    exact h2
theorem flat_cell {s : Nat} : ∀ {xs : List (List Value)}, (∀ x ∈ xs, x.length = s) → ∀ {i : Nat} {u : Value}, xs.flatten[i]? = some u → ∃ j k x, xs[j]? = some x ∧ x[k]? = some u ∧ i = j * s + k
  | [], _, i, u, h => by simp at h
  | y :: ys, hs, i, u, h => by
    have hl := hs y (by simp)
    simp only [List.flatten_cons] at h
    rcases Nat.lt_or_ge i y.length with hi | hi
    · rw [List.getElem?_append_left hi] at h
      exact ⟨0, i, y, rfl, h, by omega⟩
    · rw [List.getElem?_append_right hi] at h
      obtain ⟨j, k, x, h1, h2, h3⟩ := flat_cell (fun z hz => hs z (by simp [hz])) h
      exact ⟨j + 1, k, x, by simpa using h1, h2, by rw [Nat.add_mul]; omega⟩

theorem amv_rd {H : AH} {s b : Nat} {v : Value} {xs : List (List Value)} (hs : ∀ x ∈ xs, x.length = s) (hb : b < H.next) (hk : H.blk.get b = some (.cells xs.flatten 0 .ext)) : Rd H s (amv b v xs) xs := by
  cases xs with
  | nil =>
    unfold amv
    split
    · rename_i h; cases h
      split
      · exact ⟨none, 0, rfl, .inl rfl⟩
      · exact ⟨_, 0, rfl, .inl rfl⟩
    · rename_i h; cases h
  | cons x xs =>
    refine ⟨some ⟨b, 0, none⟩, (x :: xs).length, rfl, .inr ⟨b, 0, _, 0, .ext, rfl, hb, hk, trivial, fun i y hi => ?_⟩⟩
    obtain ⟨h1, h2⟩ := flat_take hs hi
    exact ⟨hs y (List.mem_of_getElem? hi), by omega, by rw [Nat.zero_add]; exact h2⟩

/-- What a laid row stands for. -/
def Lies (W : World) (ρ : Rho) (c : List Value) (A : Option Addr) : Prop :=
  ∀ a, A = some a → a.spot = none ∧ c ≠ [] ∧ ∀ i x, c[i]? = some x → ∃ y, W.cell? (a.add i) = some y ∧ VR ρ x y

theorem start_of {W : World} (hG : Base.Globs W) {cs : List (List Value)} {As : List (Option Addr)} (hl : As.length = cs.length) (hc : ∀ (i : Nat) (c : List Value) (A : Option Addr), cs[i]? = some c → As[i]? = some A → Lies W (rhoOf As) c A) :
    (heapOf cs).Read ∧ WR Tryz.prog (heapOf cs) (rhoOf As) W.heap := by
  have hr : (heapOf cs).Read := ⟨by simp only [heapOf]; omega, Nat.le_refl _, fun b k h => by
    simp only [heapOf] at h ⊢
    rw [lay_get] at h
    split at h
    · rename_i hb
      cases hx : cs[b - 12]? with
      | none => rw [hx] at h; cases h
      | some c => rw [hx] at h; cases h; exact ⟨hb.2, _, _, rfl⟩
    · cases h⟩
  have hat : ∀ (b : Nat) (m : Pl), rhoOf As b = some m → (b < 12 ∧ m = ⟨b, 0, 0, 1⟩) ∨ (12 ≤ b ∧ b - 12 < cs.length ∧ ∃ a c, As[b - 12]? = some (some a) ∧ cs[b - 12]? = some c ∧ m = ⟨a.block, a.off, 0, 0⟩) := by
    intro b m h
    unfold rhoOf at h
    split at h
    · cases h; exact .inl ⟨by assumption, rfl⟩
    · split at h
      · rename_i a ha
        cases h
        have : b - 12 < As.length := (List.getElem?_eq_some_iff.1 ha).1
        exact .inr ⟨by omega, by omega, a, _, ha, List.getElem?_eq_getElem (by omega), rfl⟩
      · cases h
  have hcell : ∀ (b : Nat) (a : Addr) (c : List Value), As[b - 12]? = some (some a) → cs[b - 12]? = some c → ∃ C ty fz, W.heap[a.block]? = some (.cells C ty fz) ∧ CR (rhoOf As) c C a.off := by
    intro b a c h1 h2
    obtain ⟨hs, hne, hx⟩ := hc _ c _ h2 h1 a rfl
    obtain ⟨ab, ao, asp⟩ := a
    simp only at hs
    subst hs
    obtain ⟨u, hu⟩ : ∃ u, c[0]? = some u := by
      cases c with
      | nil => exact (hne rfl).elim
      | cons u c => exact ⟨u, rfl⟩
    obtain ⟨y, hy, _⟩ := hx 0 u hu
    simp only [Addr.add_lit, World.cell?] at hy hx
    cases ho : W.heap[ab]? with
    | none => rw [ho] at hy; cases hy
    | some ob =>
      rw [ho] at hy hx
      cases ob with
      | cells C ty fz => exact ⟨C, ty, fz, rfl, fun i x hi => by simpa using hx i x hi⟩
      | _ => cases hy
  refine ⟨hr, WR.start hr ?_ ?_ ?_ ?_⟩
  · intro b m h
    simp only [heapOf]
    rcases hat b m h with ⟨h1, _⟩ | ⟨h1, h2, _⟩ <;> omega
  · intro g hg
    have : Tryz.prog.globals.size = 12 := by decide +kernel
    exact ⟨⟨g, 0, 0, 1⟩, by unfold rhoOf; rw [if_pos (by omega)], rfl, rfl⟩
  · intro b m h
    rcases hat b m h with ⟨h1, rfl⟩ | ⟨h1, h2, a, c, h3, h4, rfl⟩
    · have := hG.size; simp only; omega
    · obtain ⟨C, ty, fz, hC, _⟩ := hcell b a c h3 h4
      exact (Array.getElem?_eq_some_iff.1 hC).1
  · intro b m c e h hb
    simp only [heapOf] at hb
    rw [lay_get] at hb
    rcases hat b m h with ⟨h1, rfl⟩ | ⟨h1, h2, a, c', h3, h4, rfl⟩
    · rw [if_neg (by omega)] at hb
      cases hb
    · rw [if_pos ⟨h1, by omega⟩, h4] at hb
      cases hb
      exact ⟨rfl, hcell b a c h3 h4⟩

/-- A row of plain cells lies where its address says. -/
theorem lies_plain {W : World} {s : Nat} {v : Value} {xs : List (List Value)} {ρ : Rho} (h : Row W s v xs) (hs0 : 0 < s) (hp : ∀ x ∈ xs, ∀ u ∈ x, VR ρ u u) : Lies W ρ xs.flatten (adr v xs) := by
  obtain ⟨A, c, rfl, hc, hn, hs, hne⟩ := h
  intro a ha
  cases xs with
  | nil => cases ha
  | cons x xs =>
    obtain ⟨a', rfl, g1, g2⟩ := hne (by simp)
    cases ha
    refine ⟨g1, ?_, fun i u hu => ?_⟩
    · intro e
      have := hs x (by simp)
      have hx : x = [] := by
        rw [List.flatten_cons] at e
        exact (List.append_eq_nil_iff.1 e).1
      subst hx
      simp at this
      omega
    · obtain ⟨j, k, z, h1, h2, rfl⟩ := flat_cell hs hu
      exact ⟨u, g2 j z h1 k u h2, hp z (List.mem_of_getElem? h1) u (List.mem_of_getElem? h2)⟩

/-- Texts, as a row's cells. -/
def txts (gs : List ByteArray) : List (List Value) := gs.map fun g => [.string g]
open Go.Proofs.YthfkednlgehchaaGreatDoor.Name
theorem strs_row {W : World} {v : Value} {gs : List ByteArray} (h : Strs W v gs) : Row W 1 v (txts gs) := by
  obtain ⟨b, o, c, h1, h3⟩ := h
  have hlen : (txts gs).length = gs.length := List.length_map _
  have hone : ∀ x ∈ txts gs, x.length = 1 := by
    intro x hx
    obtain ⟨g, _, rfl⟩ := List.mem_map.1 hx
    rfl
  rcases h3 with ⟨rfl, A, rfl, hA⟩ | ⟨rfl, h4, h5⟩
  · exact ⟨A, c, rfl, h1, fun e => ⟨rfl, hA e⟩, hone, fun h => (h rfl).elim⟩
  · refine ⟨some ⟨b, o, none⟩, c, by rw [hlen], by rw [hlen]; exact h1, fun e => (by cases e), hone, fun _ => ⟨_, rfl, rfl, fun i x hx j u hu => ?_⟩⟩
    unfold txts at hx
    rw [List.getElem?_map] at hx
    cases hg : gs[i]? with
    | none => rw [hg] at hx; cases hx
    | some g =>
      rw [hg] at hx
      cases hx
      have hj : j = 0 := by
        have := (List.getElem?_eq_some_iff.1 hu).1
        simp at this; omega
      subst hj
      cases hu
      simp only [Addr.add_lit, Nat.mul_one, Nat.add_zero]
      exact h5 i g hg
/-- What a run on a heap that is only read says, its heap behind it too. -/
theorem Wf.told2 {C : Cfg} (hC : C.Ok) {f : FuncId} (hf : FnOk C.P f) {args : List Value} {H : AH} {Q : Value → AH → Prop} (h : Wf C f args H Q) (hr : H.Read) {ρ : Rho} {w : World} {args' : List Value} (hW : WR C.P H ρ w.heap) (ha : LR ρ args args') :
    Calls C.P f args'.toArray w fun e w' => ∃ v H' v' ρ', Q v H' ∧ e = .returned v' ∧ VR ρ' v v' ∧ WR C.P H' ρ' w'.heap ∧ Below w.heap.size w w' := by
  obtain ⟨v, H', hq, hc⟩ := h.real hC hW ha
  refine (hc.calls hf).mono fun e w' ⟨v', ρ', he, hv, hw, hg⟩ => ⟨v, H', v', ρ', hq, he, hv, hw, hg.below hr⟩
/-- A row of texts, in the world. -/
theorem strs_of {P : Program} {H : AH} {ρ : Rho} {w : World} {v v' : Value} {gs : List ByteArray} (h : Rd H 1 v (txts gs)) (hv : VR ρ v v') (hW : WR P H ρ w.heap) : Strs w v' gs := by
  obtain ⟨a, cap, rfl, h2⟩ := h
  have hlen : (txts gs).length = gs.length := List.length_map _
  rw [hlen] at hv
  by_cases he : gs = []
  · subst he
    cases hv with
    | snil => exact ⟨0, 0, 0, Nat.le_refl _, .inl ⟨rfl, none, rfl, fun _ => rfl⟩⟩
    | smt a c => exact ⟨0, 0, c, Nat.zero_le _, .inl ⟨rfl, some a, rfl, fun e => (by cases e)⟩⟩
    | sz a => exact ⟨0, 0, 0, Nat.le_refl _, .inl ⟨rfl, some a, rfl, fun _ => rfl⟩⟩
    | sl o len c c' hm hc hl hR => exact ⟨0, 0, c', Nat.zero_le _, .inl ⟨rfl, _, rfl, fun e => (by cases e)⟩⟩
  · rcases h2 with h2 | ⟨b, o, c, e, wn, rfl, h4, h5, h6, h7⟩
    · rw [← List.length_eq_zero_iff, hlen, List.length_eq_zero_iff] at h2
      exact (he h2).elim
    · cases hv with
      | sl o len cc c' hm hc hl hR =>
        rename_i m
        obtain ⟨_, hB⟩ := hW.blk b m _ hm h5
        obtain ⟨C, ty, fz, hC, hCR, _⟩ := hB h6.okR
        refine ⟨m.r, m.d + o, c', by omega, .inr ⟨rfl, (Array.getElem?_eq_some_iff.1 hC).1, fun i g hg => ?_⟩⟩
        have hx : (txts gs)[i]? = some [.string g] := by unfold txts; rw [List.getElem?_map, hg]; rfl
        obtain ⟨_, k1, k2⟩ := h7 i _ hx
        have hci : c[o + i]? = some (.string g) := by
          have := congrArg (·[0]?) k2
          simp only [List.getElem?_cons_zero] at this
          rw [List.getElem?_take_of_lt (by omega), List.getElem?_drop] at this
          simpa using this
        obtain ⟨y, hy, hvy⟩ := hCR (o + i) _ hci
        cases hvy
        unfold World.cell?
        simp only [hC]
        rw [show m.d + o + i = m.d + (o + i) from by omega]
        exact hy
end Go.Am
