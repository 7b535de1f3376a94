/- cell.Compare of like cells: 0; walked on the abstract machine. -/
import Derived.Test.YtdmdmfofcaeapaaGreatDoorAm4
import Derived.Test.YtdmdmfofcaeapaaGreatDoorAmSeat2
import Derived.Test.YtdmdmfofcaeapaaGreatDoorParse
set_option linter.unusedVariables false
set_option linter.unusedSimpArgs false
namespace Go.Am
open Go Go.Proofs Go.RowKit Go.Proofs.YtdmdmfofcaeapaaGreatDoor

/-- A slice's real cells. -/
def Row (W : World) (s : Nat) (v : Value) (xs : List (List Value)) : Prop :=
  ∃ A c, v = .slice A xs.length c ∧ xs.length ≤ c ∧ (A = none → xs = [] ∧ c = 0) ∧ (∀ x ∈ xs, x.length = s) ∧
    (xs ≠ [] → ∃ a, A = some a ∧ a.spot = none ∧ ∀ i x, xs[i]? = some x → ∀ j u, x[j]? = some u → W.cell? (a.add (i * s + j)) = some u)

/-! ### the start's heap -/
/-- Rows, laid one behind the other. -/
def lay : Nat → List (List Value) → T Blk → T Blk
  | _, [], t => t
  | n, c :: l, t => lay (n + 1) l (t.set n (.cells c 0 .ext))
theorem lay_get : ∀ (l : List (List Value)) (n : Nat) (t : T Blk) (b : Nat), (lay n l t).get b = if n ≤ b ∧ b < n + l.length then (l[b - n]?).map (fun c => .cells c 0 .ext) else t.get b
  | [], n, t, b => by
    unfold lay
    rw [if_neg (by simp only [List.length_nil]; omega)]
  | c :: l, n, t, b => by
    unfold lay
    rw [lay_get l (n + 1) _ b]
    by_cases h : b = n
    · subst h
      rw [if_neg (by omega), if_pos (by simp only [List.length_cons]; omega), T.get_set_same, Nat.sub_self]
      rfl
    · by_cases h2 : n + 1 ≤ b ∧ b < n + 1 + l.length
      · rw [if_pos h2, if_pos (by simp only [List.length_cons]; omega), show b - n = (b - (n + 1)) + 1 from by omega, List.getElem?_cons_succ]
      · rw [if_neg h2, if_neg (by simp only [List.length_cons]; omega), T.get_set_ne _ _ (fun e => h e.symm)]

def heapOf (l : List (List Value)) : AH := { blk := lay 12 l T.nil, fam := .nil, next := 12 + l.length, base := 12 + l.length }
def rhoOf (As : List (Option Addr)) : Rho := fun b => if b < 12 then some ⟨b, 0, 0, 1⟩ else match As[b - 12]? with
  | some (some a) => some ⟨a.block, a.off, 0, 0⟩
  | _ => none

/-- A row's value in the machine; where it lies in the world. -/
def amv (b : Nat) (v : Value) (xs : List (List Value)) : Value := match xs with
  | [] => match v with
    | .slice none _ _ => .slice none 0 0
    | _ => .slice (some somewhere) 0 0
  | _ :: _ => .slice (some ⟨b, 0, none⟩) xs.length xs.length
def adr (v : Value) (xs : List (List Value)) : Option Addr := match xs with
  | [] => none
  | _ :: _ => match v with
    | .slice A _ _ => A
    | _ => none

theorem amv_vr {W : World} {s b : Nat} {v : Value} {xs : List (List Value)} {ρ : Rho} (h : Row W s v xs) (hρ : ∀ a, adr v xs = some a → ρ b = some ⟨a.block, a.off, 0, 0⟩) : VR ρ (amv b v xs) v := by
  obtain ⟨A, c, rfl, hc, hn, _, hne⟩ := h
  cases xs with
  | nil =>
    cases A with
    | none => obtain ⟨_, rfl⟩ := hn rfl; exact .snil
    | some a => exact .smt a c
  | cons x xs =>
    obtain ⟨a, rfl, hs, _⟩ := hne (by simp)
    obtain ⟨ab, ao, asp⟩ := a
    simp only at hs
    subst hs
    exact .sl (m := ⟨ab, ao, 0, 0⟩) 0 _ _ c (hρ _ rfl) hc (Nat.le_refl _) (.inl rfl)

theorem flat_take {s : Nat} : ∀ {xs : List (List Value)}, (∀ x ∈ xs, x.length = s) → ∀ {i : Nat} {x : List Value}, xs[i]? = some x → i * s + s ≤ xs.flatten.length ∧ (xs.flatten.drop (i * s)).take s = x
  | [], _, i, x, h => by simp at h
  | y :: ys, hs, 0, x, h => by
    simp only [List.getElem?_cons_zero, Option.some.injEq] at h
    subst h
    have hl := hs y (by simp)
    simp only [List.flatten_cons, Nat.zero_mul, List.drop_zero, List.length_append]
    refine ⟨by omega, ?_⟩
    rw [List.take_append_of_le_length (by omega), ← hl, List.take_length]
  | y :: ys, hs, i + 1, x, h => by
    simp only [List.getElem?_cons_succ] at h
    obtain ⟨h1, h2⟩ := flat_take (fun z hz => hs z (by simp [hz])) h
    have hl := hs y (by simp)
    simp only [List.flatten_cons, List.length_append, Nat.add_mul, Nat.one_mul]
    refine ⟨by omega, ?_⟩
    rw [show i * s + s = y.length + i * s from by omega, ← List.drop_drop, List.drop_left]
    exact h2
theorem flat_cell {s : Nat} : ∀ {xs : List (List Value)}, (∀ x ∈ xs, x.length = s) → ∀ {i : Nat} {u : Value}, xs.flatten[i]? = some u → ∃ j k x, xs[j]? = some x ∧ x[k]? = some u ∧ i = j * s + k
  | [], _, i, u, h => by simp at h
  | y :: ys, hs, i, u, h => by
    have hl := hs y (by simp)
    simp only [List.flatten_cons] at h
    rcases Nat.lt_or_ge i y.length with hi | hi
    · rw [List.getElem?_append_left hi] at h
      exact ⟨0, i, y, rfl, h, by omega⟩
    · rw [List.getElem?_append_right hi] at h
      obtain ⟨j, k, x, h1, h2, h3⟩ := flat_cell (fun z hz => hs z (by simp [hz])) h
      exact ⟨j + 1, k, x, by simpa using h1, h2, by rw [Nat.add_mul]; omega⟩

theorem amv_rd {H : AH} {s b : Nat} {v : Value} {xs : List (List Value)} (hs : ∀ x ∈ xs, x.length = s) (hb : b < H.next) (hk : H.blk.get b = some (.cells xs.flatten 0 .ext)) : Rd H s (amv b v xs) xs := by
  cases xs with
  | nil =>
    unfold amv
    split
    · rename_i h; cases h
      split
      · exact ⟨none, 0, rfl, .inl rfl⟩
      · exact ⟨_, 0, rfl, .inl rfl⟩
    · rename_i h; cases h
  | cons x xs =>
    refine ⟨some ⟨b, 0, none⟩, (x :: xs).length, rfl, .inr ⟨b, 0, _, 0, .ext, rfl, hb, hk, trivial, fun i y hi => ?_⟩⟩
    obtain ⟨h1, h2⟩ := flat_take hs hi
    exact ⟨hs y (List.mem_of_getElem? hi), by omega, by rw [Nat.zero_add]; exact h2⟩

/-- What a laid row stands for. -/
def Lies (W : World) (ρ : Rho) (c : List Value) (A : Option Addr) : Prop :=
  ∀ a, A = some a → a.spot = none ∧ c ≠ [] ∧ ∀ i x, c[i]? = some x → ∃ y, W.cell? (a.add i) = some y ∧ VR ρ x y

theorem start_of {W : World} (hG : Base.Globs W) {cs : List (List Value)} {As : List (Option Addr)} (hl : As.length = cs.length) (hc : ∀ (i : Nat) (c : List Value) (A : Option Addr), cs[i]? = some c → As[i]? = some A → Lies W (rhoOf As) c A) :
    (heapOf cs).Read ∧ WR Tryz.prog (heapOf cs) (rhoOf As) W.heap := by
  have hr : (heapOf cs).Read := ⟨by simp only [heapOf]; omega, Nat.le_refl _, fun b k h => by
    simp only [heapOf] at h ⊢
    rw [lay_get] at h
    split at h
    · rename_i hb
      cases hx : cs[b - 12]? with
      | none => rw [hx] at h; cases h
      | some c => rw [hx] at h; cases h; exact ⟨hb.2, _, _, rfl⟩
    · cases h⟩
  have hat : ∀ (b : Nat) (m : Pl), rhoOf As b = some m → (b < 12 ∧ m = ⟨b, 0, 0, 1⟩) ∨ (12 ≤ b ∧ b - 12 < cs.length ∧ ∃ a c, As[b - 12]? = some (some a) ∧ cs[b - 12]? = some c ∧ m = ⟨a.block, a.off, 0, 0⟩) := by
    intro b m h
    unfold rhoOf at h
    split at h
    · cases h; exact .inl ⟨by assumption, rfl⟩
    · split at h
      · rename_i a ha
        cases h
        have : b - 12 < As.length := (List.getElem?_eq_some_iff.1 ha).1
        exact .inr ⟨by omega, by omega, a, _, ha, List.getElem?_eq_getElem (by omega), rfl⟩
      · cases h
  have hcell : ∀ (b : Nat) (a : Addr) (c : List Value), As[b - 12]? = some (some a) → cs[b - 12]? = some c → ∃ C ty fz, W.heap[a.block]? = some (.cells C ty fz) ∧ CR (rhoOf As) c C a.off := by
    intro b a c h1 h2
    obtain ⟨hs, hne, hx⟩ := hc _ c _ h2 h1 a rfl
    obtain ⟨ab, ao, asp⟩ := a
    simp only at hs
    subst hs
    obtain ⟨u, hu⟩ : ∃ u, c[0]? = some u := by
      cases c with
      | nil => exact (hne rfl).elim
      | cons u c => exact ⟨u, rfl⟩
    obtain ⟨y, hy, _⟩ := hx 0 u hu
    simp only [Addr.add_lit, World.cell?] at hy hx
    cases ho : W.heap[ab]? with
    | none => rw [ho] at hy; cases hy
    | some ob =>
      rw [ho] at hy hx
      cases ob with
      | cells C ty fz => exact ⟨C, ty, fz, rfl, fun i x hi => by simpa using hx i x hi⟩
      | _ => cases hy
  refine ⟨hr, WR.start hr ?_ ?_ ?_ ?_⟩
  · intro b m h
    simp only [heapOf]
    rcases hat b m h with ⟨h1, _⟩ | ⟨h1, h2, _⟩ <;> omega
  · intro g hg
    have : Tryz.prog.globals.size = 12 := by decide +kernel
    exact ⟨⟨g, 0, 0, 1⟩, by unfold rhoOf; rw [if_pos (by omega)], rfl, rfl⟩
  · intro b m h
    rcases hat b m h with ⟨h1, rfl⟩ | ⟨h1, h2, a, c, h3, h4, rfl⟩
    · have := hG.size; simp only; omega
    · obtain ⟨C, ty, fz, hC, _⟩ := hcell b a c h3 h4
      exact (Array.getElem?_eq_some_iff.1 hC).1
  · intro b m c e h hb
    simp only [heapOf] at hb
    rw [lay_get] at hb
    rcases hat b m h with ⟨h1, rfl⟩ | ⟨h1, h2, a, c', h3, h4, rfl⟩
    · rw [if_neg (by omega)] at hb
      cases hb
    · rw [if_pos ⟨h1, by omega⟩, h4] at hb
      cases hb
      exact ⟨rfl, hcell b a c h3 h4⟩

/-- A row of plain cells lies where its address says. -/
theorem lies_plain {W : World} {s : Nat} {v : Value} {xs : List (List Value)} {ρ : Rho} (h : Row W s v xs) (hs0 : 0 < s) (hp : ∀ x ∈ xs, ∀ u ∈ x, VR ρ u u) : Lies W ρ xs.flatten (adr v xs) := by
  obtain ⟨A, c, rfl, hc, hn, hs, hne⟩ := h
  intro a ha
  cases xs with
  | nil => cases ha
  | cons x xs =>
    obtain ⟨a', rfl, g1, g2⟩ := hne (by simp)
    cases ha
    refine ⟨g1, ?_, fun i u hu => ?_⟩
    · intro e
      have := hs x (by simp)
      have hx : x = [] := by
        rw [List.flatten_cons] at e
        exact (List.append_eq_nil_iff.1 e).1
      subst hx
      simp at this
      omega
    · obtain ⟨j, k, z, h1, h2, rfl⟩ := flat_cell hs hu
      exact ⟨u, g2 j z h1 k u h2, hp z (List.mem_of_getElem? h1) u (List.mem_of_getElem? h2)⟩

/-! ### the walks -/
def fnsC : List Nat := [6, 15, 16, 17, 29, 30, 51]
noncomputable def fnC (f : Nat) : Option Func := match fnsC.any fun g => g.beq f with
  | true => Tryz.prog.funcs[f]?
  | false => none
theorem fnsC_ok : (fnsC.all fun f => match Tryz.prog.funcs[f]? with | some fn => fnOk Tryz.prog fn | none => false) = true := by kernel_rfl
theorem fnC_ok (f : Nat) (fn : Func) (h : fnC f = some fn) : Tryz.prog.funcs[f]? = some fn ∧ fnOk Tryz.prog fn = true := by
  unfold fnC at h
  split at h
  · rename_i hc
    obtain ⟨g, hg, hb⟩ := List.any_eq_true.1 hc
    obtain rfl := Nat.eq_of_beq_eq_true hb
    have := List.all_eq_true.1 fnsC_ok g hg
    rw [h] at this
    exact ⟨h, this⟩
  · cases h
theorem none_orc : CallOk Tryz.prog (fun _ _ _ => none) := fun f args H v H' h => by cases h
noncomputable def cfg : Cfg := { P := Tryz.prog, fn := fnC, orc := fun _ _ _ => none }
theorem cfg_ok : cfg.Ok := ⟨YtdmdmfofcaeapaaGreatDoor.Am.zok, YtdmdmfofcaeapaaGreatDoor.Am.mixed, fnC_ok, none_orc⟩
theorem cfg_P : cfg.P = Tryz.prog := rfl
theorem f24_0 : fieldT Tryz.prog 24 0 = some (0, 2) := by kernel_rfl
theorem f24_1 : fieldT Tryz.prog 24 1 = some (1, 22) := by kernel_rfl
theorem s2 : szT Tryz.prog 2 = some 1 := by kernel_rfl
theorem a2 : aggT Tryz.prog 2 = some false := by kernel_rfl
theorem s22 : szT Tryz.prog 22 = some 1 := by kernel_rfl
theorem a22 : aggT Tryz.prog 22 = some false := by kernel_rfl
theorem u22 : undT Tryz.prog 22 = some (.slice 9) := by kernel_rfl
theorem s9 : szT Tryz.prog 9 = some 1 := by kernel_rfl
theorem a9 : aggT Tryz.prog 9 = some false := by kernel_rfl
theorem u85 : undT Tryz.prog 85 = some (.slice 3) := by kernel_rfl
theorem s3 : szT Tryz.prog 3 = some 1 := by kernel_rfl
theorem a3 : aggT Tryz.prog 3 = some false := by kernel_rfl
theorem build2 (H : AH) : aBuildSlice Tryz.prog H 85 2 [(0, .int .i64 0), (1, .int .i64 0)] = some (.slice (some ⟨H.next, 0, none⟩) 2 2, H.new (.cells [.int .i64 0, .int .i64 0] 1 .solo)) := by
  have e1 : elemT Tryz.prog 85 = some 3 := by kernel_rfl
  have e2 : zerosT Tryz.prog 3 2 = some [.int .i64 0, .int .i64 0] := by kernel_rfl
  unfold aBuildSlice
  simp only [e1, s3, e2]
  rfl
theorem less_irrefl : ∀ a : List UInt8, Op.bytesLess a a = false
  | [] => rfl
  | x :: a => by unfold Op.bytesLess; rw [less_irrefl a]; simp
theorem great_irrefl (a : List UInt8) : (!(Op.bytesLess a a || a == a)) = false := by rw [less_irrefl]; simp
theorem nan_str (a : ByteArray) : (!(a.data.toList == a.data.toList)) = false := by simp
theorem wrap_succ {n : Nat} (h : n < 4611686018427387904) : IntKind.i64.wrap ((n : Int) + 1) = ((n + 1 : Nat) : Int) := by
  simp [IntKind.wrap, IntKind.bits, IntKind.signed]; omega

theorem wTCmp1 : type_of% (And.intro @cfg_P <| And.intro @f24_0 <| And.intro @f24_1 <| And.intro @s2 <| And.intro @a2 <| And.intro @s22 <| And.intro @a22 <| And.intro @u22 <| And.intro @s9 <| And.intro @a9 <| And.intro @u85 <| And.intro @s3 <| @a3) := And.intro @cfg_P <| And.intro @f24_0 <| And.intro @f24_1 <| And.intro @s2 <| And.intro @a2 <| And.intro @s22 <| And.intro @a22 <| And.intro @u22 <| And.intro @s9 <| And.intro @a9 <| And.intro @u85 <| And.intro @s3 <| @a3
set_option maxRecDepth 10000 in
set_option maxHeartbeats 4000000 in
theorem nani_wf (H : AH) (n : Int) : Wf cfg 29 [.int .i64 n] H fun r H' => r = .bool false ∧ H' = H := by
  refine wf_text (fn := Tryz.f29) rfl Tryz.func29 rfl rfl ?_
  repeat (first
    | (with_reducible refine sc_seq ?_)
    | (with_reducible refine sc_region ?_)
    | (with_reducible refine sc_block ?_)
    | (with_reducible refine sc_scope ?_)
    | ((with_reducible refine sc_skip ?_); dsimp only)
    | ((with_reducible refine sc_label ?_); dsimp only)
    | ((with_reducible refine sc_ret ?_); dsimp only)
    | ((with_reducible refine sc_exit ?_); dsimp only [Nat.beq])
    | ((with_reducible refine so_nil ?_); dsimp only)
    | ((with_reducible apply so_skip); (case hw => simp only [aWanted, aYield, pAT, pG, reduceIte, Nat.reduceEqDiff]; done))
    | ((with_reducible apply so_val); (case hw => simp only [aWanted, aYield, pAT, pG, reduceIte, Nat.reduceEqDiff]; done); (case ha => simp (maxSteps := 1000000) (disch := (refine id ?_; first | assumption | omega | (simp only [pN, pO, oneCell]; done) | (simp only [pN]; omega))) only [aOp, ev, pAT, pI, aInt, aStr, aUn, AR.of, AR.ofB, AR.ofH, reduceIte, Nat.reduceEqDiff, aBuiltin, aLen, aField, aFieldAddr, aIndexAddr, aStore, aLoad, cellsL, oneCell, splice, pC, pL, Nat.reduceBEq, Nat.reduceLeDiff, Nat.reduceMul, Nat.reduceSub, Nat.reduceLT, Nat.reduceAdd, wTCmp1] <;> with_reducible rfl))
    | ((with_reducible apply sc_false); (case hc => simp only [ev, pAT, reduceIte, Nat.reduceEqDiff]; done))
    | ((with_reducible apply sc_true); (case hc => simp only [ev, pAT, reduceIte, Nat.reduceEqDiff]; done)))
  apply res_fin (rs := [ResultVar.tmp 2]) trivial
  case h => simp (disch := (refine id ?_; first | assumption | omega | (simp only [pN, pO, oneCell]; done) | (simp only [pN]; omega))) only [aResults, aResult, aOp, ev, pAT, pI, aInt, aStr, aUn, AR.of, AR.ofB, AR.ofH, reduceIte, Nat.reduceEqDiff, aBuiltin, aLen, aField, aFieldAddr, aIndexAddr, aStore, aLoad, cellsL, oneCell, splice, pC, pL, Nat.reduceBEq, Nat.reduceLeDiff, Nat.reduceMul, Nat.reduceSub, Nat.reduceLT, Nat.reduceAdd, wTCmp1] <;> with_reducible rfl
  case hq => exact ⟨rfl, rfl⟩
set_option maxRecDepth 10000 in
set_option maxHeartbeats 4000000 in
theorem nans_wf (H : AH) (s : ByteArray) : Wf cfg 51 [.string s] H fun r H' => r = .bool false ∧ H' = H := by
  refine wf_text (fn := Tryz.f51) rfl Tryz.func51 rfl rfl ?_
  repeat (first
    | (with_reducible refine sc_seq ?_)
    | (with_reducible refine sc_region ?_)
    | (with_reducible refine sc_block ?_)
    | (with_reducible refine sc_scope ?_)
    | ((with_reducible refine sc_skip ?_); dsimp only)
    | ((with_reducible refine sc_label ?_); dsimp only)
    | ((with_reducible refine sc_ret ?_); dsimp only)
    | ((with_reducible refine sc_exit ?_); dsimp only [Nat.beq])
    | ((with_reducible refine so_nil ?_); dsimp only)
    | ((with_reducible apply so_skip); (case hw => simp only [aWanted, aYield, pAT, pG, nan_str, reduceIte, Nat.reduceEqDiff]; done))
    | ((with_reducible apply so_val); (case hw => simp only [aWanted, aYield, pAT, pG, nan_str, reduceIte, Nat.reduceEqDiff]; done); (case ha => simp (maxSteps := 1000000) (disch := (refine id ?_; first | assumption | omega | (simp only [pN, pO, oneCell]; done) | (simp only [pN]; omega))) only [aOp, ev, pAT, nan_str, pI, aInt, aStr, aUn, AR.of, AR.ofB, AR.ofH, reduceIte, Nat.reduceEqDiff, aBuiltin, aLen, aField, aFieldAddr, aIndexAddr, aStore, aLoad, cellsL, oneCell, splice, pC, pL, Nat.reduceBEq, Nat.reduceLeDiff, Nat.reduceMul, Nat.reduceSub, Nat.reduceLT, Nat.reduceAdd, wTCmp1] <;> with_reducible rfl))
    | ((with_reducible apply sc_false); (case hc => simp only [ev, pAT, nan_str, reduceIte, Nat.reduceEqDiff]; done))
    | ((with_reducible apply sc_true); (case hc => simp only [ev, pAT, nan_str, reduceIte, Nat.reduceEqDiff]; done)))
  apply res_fin (rs := [ResultVar.tmp 2]) trivial
  case h => simp (disch := (refine id ?_; first | assumption | omega | (simp only [pN, pO, oneCell]; done) | (simp only [pN]; omega))) only [aResults, aResult, aOp, ev, pAT, pI, aInt, aStr, aUn, AR.of, AR.ofB, AR.ofH, reduceIte, Nat.reduceEqDiff, aBuiltin, aLen, aField, aFieldAddr, aIndexAddr, aStore, aLoad, cellsL, oneCell, splice, pC, pL, Nat.reduceBEq, Nat.reduceLeDiff, Nat.reduceMul, Nat.reduceSub, Nat.reduceLT, Nat.reduceAdd, wTCmp1] <;> with_reducible rfl
  case hq => exact ⟨rfl, rfl⟩
set_option maxRecDepth 10000 in
set_option maxHeartbeats 4000000 in
theorem cmpi_wf (H : AH) (n : Int) : Wf cfg 16 [.int .i64 n, .int .i64 n] H fun r H' => r = .int .i64 0 ∧ H' = H := by
  have g1 : decide (n < n) = false := decF (by omega)
  have g2 : decide (n > n) = false := decF (by omega)
  refine wf_text (fn := Tryz.f16) rfl Tryz.func16 rfl rfl ?_
  repeat (first
    | (with_reducible refine sc_seq ?_)
    | (with_reducible refine sc_region ?_)
    | (with_reducible refine sc_block ?_)
    | (with_reducible refine sc_scope ?_)
    | ((with_reducible refine sc_skip ?_); dsimp only)
    | ((with_reducible refine sc_label ?_); dsimp only)
    | ((with_reducible refine sc_ret ?_); dsimp only)
    | ((with_reducible refine sc_exit ?_); dsimp only [Nat.beq])
    | ((with_reducible refine so_nil ?_); dsimp only)
    | ((with_reducible apply so_skip); (case hw => simp only [aWanted, aYield, pAT, pG, reduceIte, Nat.reduceEqDiff]; done))
    | ((with_reducible apply so_val); (case hw => simp only [aWanted, aYield, pAT, pG, reduceIte, Nat.reduceEqDiff]; done); (case ha => simp (maxSteps := 1000000) (disch := (refine id ?_; first | assumption | omega | (simp only [pN, pO, oneCell]; done) | (simp only [pN]; omega))) only [aOp, ev, pAT, pI, aInt, aStr, aUn, AR.of, AR.ofB, AR.ofH, reduceIte, Nat.reduceEqDiff, aBuiltin, aLen, aField, aFieldAddr, aIndexAddr, aStore, aLoad, cellsL, oneCell, splice, pC, pL, Nat.reduceBEq, Nat.reduceLeDiff, Nat.reduceMul, Nat.reduceSub, Nat.reduceLT, Nat.reduceAdd, wTCmp1] <;> with_reducible rfl))
    | ((with_reducible apply sc_false); (case hc => simp only [ev, pAT, reduceIte, Nat.reduceEqDiff]; done))
    | ((with_reducible apply sc_true); (case hc => simp only [ev, pAT, reduceIte, Nat.reduceEqDiff]; done)))
  first
    | ((with_reducible apply so_call); (case hw => simp only [aWanted, aYield, pAT, pG, reduceIte, Nat.reduceEqDiff]; done); (case ha => simp (maxSteps := 1000000) (disch := (refine id ?_; first | assumption | omega | (simp only [pN, pO, oneCell]; done) | (simp only [pN]; omega))) only [aOp, ev, pAT, pI, aInt, aStr, aUn, AR.of, AR.ofB, AR.ofH, reduceIte, Nat.reduceEqDiff, aBuiltin, aLen, aField, aFieldAddr, aIndexAddr, aStore, aLoad, cellsL, oneCell, splice, pC, pL, Nat.reduceBEq, Nat.reduceLeDiff, Nat.reduceMul, Nat.reduceSub, Nat.reduceLT, Nat.reduceAdd, wTCmp1] <;> with_reducible rfl))
    | ((with_reducible apply so_callD); (case hw => simp only [aWanted, aYield, pAT, pG, reduceIte, Nat.reduceEqDiff]; done); (case ha => simp (maxSteps := 1000000) (disch := (first | omega | (simp only [new_next, new_base, upd_next, upd_base, List.length_cons, List.length_nil, List.all_cons, List.all_nil, oneCell, Bool.and_self, Bool.and_true]; done) | (simp only [new_next, new_base, upd_next, upd_base, List.length_cons, List.length_nil]; omega))) only [aOp, ev, pAT, pI, aInt, aStr, aUn, AR.of, AR.ofB, AR.ofH, reduceIte, Nat.reduceEqDiff, aBuiltin, aLen, aField, aFieldAddr, aIndexAddr, aStore, aLoad, cellsL, oneCell, splice, pC, pL, Nat.reduceBEq, Nat.reduceLeDiff, Nat.reduceMul, Nat.reduceSub, Nat.reduceLT, Nat.reduceAdd, wTCmp1] <;> with_reducible rfl))
  refine (nani_wf H n).mono ?_
  rintro _ _ ⟨rfl, rfl⟩
  repeat (first
    | (with_reducible refine sc_seq ?_)
    | (with_reducible refine sc_region ?_)
    | (with_reducible refine sc_block ?_)
    | (with_reducible refine sc_scope ?_)
    | ((with_reducible refine sc_skip ?_); dsimp only)
    | ((with_reducible refine sc_label ?_); dsimp only)
    | ((with_reducible refine sc_ret ?_); dsimp only)
    | ((with_reducible refine sc_exit ?_); dsimp only [Nat.beq])
    | ((with_reducible refine so_nil ?_); dsimp only)
    | ((with_reducible apply so_skip); (case hw => simp only [aWanted, aYield, pAT, pG, reduceIte, Nat.reduceEqDiff]; done))
    | ((with_reducible apply so_val); (case hw => simp only [aWanted, aYield, pAT, pG, reduceIte, Nat.reduceEqDiff]; done); (case ha => simp (maxSteps := 1000000) (disch := (refine id ?_; first | assumption | omega | (simp only [pN, pO, oneCell]; done) | (simp only [pN]; omega))) only [aOp, ev, pAT, pI, aInt, aStr, aUn, AR.of, AR.ofB, AR.ofH, reduceIte, Nat.reduceEqDiff, aBuiltin, aLen, aField, aFieldAddr, aIndexAddr, aStore, aLoad, cellsL, oneCell, splice, pC, pL, Nat.reduceBEq, Nat.reduceLeDiff, Nat.reduceMul, Nat.reduceSub, Nat.reduceLT, Nat.reduceAdd, wTCmp1] <;> with_reducible rfl))
    | ((with_reducible apply sc_false); (case hc => simp only [ev, pAT, reduceIte, Nat.reduceEqDiff]; done))
    | ((with_reducible apply sc_true); (case hc => simp only [ev, pAT, reduceIte, Nat.reduceEqDiff]; done)))
  first
    | ((with_reducible apply so_call); (case hw => simp only [aWanted, aYield, pAT, pG, reduceIte, Nat.reduceEqDiff]; done); (case ha => simp (maxSteps := 1000000) (disch := (refine id ?_; first | assumption | omega | (simp only [pN, pO, oneCell]; done) | (simp only [pN]; omega))) only [aOp, ev, pAT, pI, aInt, aStr, aUn, AR.of, AR.ofB, AR.ofH, reduceIte, Nat.reduceEqDiff, aBuiltin, aLen, aField, aFieldAddr, aIndexAddr, aStore, aLoad, cellsL, oneCell, splice, pC, pL, Nat.reduceBEq, Nat.reduceLeDiff, Nat.reduceMul, Nat.reduceSub, Nat.reduceLT, Nat.reduceAdd, wTCmp1] <;> with_reducible rfl))
    | ((with_reducible apply so_callD); (case hw => simp only [aWanted, aYield, pAT, pG, reduceIte, Nat.reduceEqDiff]; done); (case ha => simp (maxSteps := 1000000) (disch := (first | omega | (simp only [new_next, new_base, upd_next, upd_base, List.length_cons, List.length_nil, List.all_cons, List.all_nil, oneCell, Bool.and_self, Bool.and_true]; done) | (simp only [new_next, new_base, upd_next, upd_base, List.length_cons, List.length_nil]; omega))) only [aOp, ev, pAT, pI, aInt, aStr, aUn, AR.of, AR.ofB, AR.ofH, reduceIte, Nat.reduceEqDiff, aBuiltin, aLen, aField, aFieldAddr, aIndexAddr, aStore, aLoad, cellsL, oneCell, splice, pC, pL, Nat.reduceBEq, Nat.reduceLeDiff, Nat.reduceMul, Nat.reduceSub, Nat.reduceLT, Nat.reduceAdd, wTCmp1] <;> with_reducible rfl))
  refine (nani_wf _ n).mono ?_
  rintro _ _ ⟨rfl, rfl⟩
  repeat (first
    | (with_reducible refine sc_seq ?_)
    | (with_reducible refine sc_region ?_)
    | (with_reducible refine sc_block ?_)
    | (with_reducible refine sc_scope ?_)
    | ((with_reducible refine sc_skip ?_); dsimp only)
    | ((with_reducible refine sc_label ?_); dsimp only)
    | ((with_reducible refine sc_ret ?_); dsimp only)
    | ((with_reducible refine sc_exit ?_); dsimp only [Nat.beq])
    | ((with_reducible refine so_nil ?_); dsimp only)
    | ((with_reducible apply so_skip); (case hw => simp only [aWanted, aYield, pAT, pG, g1, g2, reduceIte, Nat.reduceEqDiff]; done))
    | ((with_reducible apply so_val); (case hw => simp only [aWanted, aYield, pAT, pG, g1, g2, reduceIte, Nat.reduceEqDiff]; done); (case ha => simp (maxSteps := 1000000) (disch := (refine id ?_; first | assumption | omega | (simp only [pN, pO, oneCell]; done) | (simp only [pN]; omega))) only [aOp, ev, pAT, g1, g2, pI, aInt, aStr, aUn, AR.of, AR.ofB, AR.ofH, reduceIte, Nat.reduceEqDiff, aBuiltin, aLen, aField, aFieldAddr, aIndexAddr, aStore, aLoad, cellsL, oneCell, splice, pC, pL, Nat.reduceBEq, Nat.reduceLeDiff, Nat.reduceMul, Nat.reduceSub, Nat.reduceLT, Nat.reduceAdd, wTCmp1] <;> with_reducible rfl))
    | ((with_reducible apply sc_false); (case hc => simp only [ev, pAT, g1, g2, reduceIte, Nat.reduceEqDiff]; done))
    | ((with_reducible apply sc_true); (case hc => simp only [ev, pAT, g1, g2, reduceIte, Nat.reduceEqDiff]; done)))
  apply res_fin (rs := [ResultVar.tmp 4]) trivial
  case h => simp (disch := (refine id ?_; first | assumption | omega | (simp only [pN, pO, oneCell]; done) | (simp only [pN]; omega))) only [aResults, aResult, aOp, ev, pAT, pI, aInt, aStr, aUn, AR.of, AR.ofB, AR.ofH, reduceIte, Nat.reduceEqDiff, aBuiltin, aLen, aField, aFieldAddr, aIndexAddr, aStore, aLoad, cellsL, oneCell, splice, pC, pL, Nat.reduceBEq, Nat.reduceLeDiff, Nat.reduceMul, Nat.reduceSub, Nat.reduceLT, Nat.reduceAdd, wTCmp1] <;> with_reducible rfl
  case hq => exact ⟨rfl, rfl⟩
set_option maxRecDepth 10000 in
set_option maxHeartbeats 4000000 in
theorem cmps_wf (H : AH) (s : ByteArray) : Wf cfg 30 [.string s, .string s] H fun r H' => r = .int .i64 0 ∧ H' = H := by
  refine wf_text (fn := Tryz.f30) rfl Tryz.func30 rfl rfl ?_
  repeat (first
    | (with_reducible refine sc_seq ?_)
    | (with_reducible refine sc_region ?_)
    | (with_reducible refine sc_block ?_)
    | (with_reducible refine sc_scope ?_)
    | ((with_reducible refine sc_skip ?_); dsimp only)
    | ((with_reducible refine sc_label ?_); dsimp only)
    | ((with_reducible refine sc_ret ?_); dsimp only)
    | ((with_reducible refine sc_exit ?_); dsimp only [Nat.beq])
    | ((with_reducible refine so_nil ?_); dsimp only)
    | ((with_reducible apply so_skip); (case hw => simp only [aWanted, aYield, pAT, pG, reduceIte, Nat.reduceEqDiff]; done))
    | ((with_reducible apply so_val); (case hw => simp only [aWanted, aYield, pAT, pG, reduceIte, Nat.reduceEqDiff]; done); (case ha => simp (maxSteps := 1000000) (disch := (refine id ?_; first | assumption | omega | (simp only [pN, pO, oneCell]; done) | (simp only [pN]; omega))) only [aOp, ev, pAT, pI, aInt, aStr, aUn, AR.of, AR.ofB, AR.ofH, reduceIte, Nat.reduceEqDiff, aBuiltin, aLen, aField, aFieldAddr, aIndexAddr, aStore, aLoad, cellsL, oneCell, splice, pC, pL, Nat.reduceBEq, Nat.reduceLeDiff, Nat.reduceMul, Nat.reduceSub, Nat.reduceLT, Nat.reduceAdd, wTCmp1] <;> with_reducible rfl))
    | ((with_reducible apply sc_false); (case hc => simp only [ev, pAT, reduceIte, Nat.reduceEqDiff]; done))
    | ((with_reducible apply sc_true); (case hc => simp only [ev, pAT, reduceIte, Nat.reduceEqDiff]; done)))
  first
    | ((with_reducible apply so_call); (case hw => simp only [aWanted, aYield, pAT, pG, reduceIte, Nat.reduceEqDiff]; done); (case ha => simp (maxSteps := 1000000) (disch := (refine id ?_; first | assumption | omega | (simp only [pN, pO, oneCell]; done) | (simp only [pN]; omega))) only [aOp, ev, pAT, pI, aInt, aStr, aUn, AR.of, AR.ofB, AR.ofH, reduceIte, Nat.reduceEqDiff, aBuiltin, aLen, aField, aFieldAddr, aIndexAddr, aStore, aLoad, cellsL, oneCell, splice, pC, pL, Nat.reduceBEq, Nat.reduceLeDiff, Nat.reduceMul, Nat.reduceSub, Nat.reduceLT, Nat.reduceAdd, wTCmp1] <;> with_reducible rfl))
    | ((with_reducible apply so_callD); (case hw => simp only [aWanted, aYield, pAT, pG, reduceIte, Nat.reduceEqDiff]; done); (case ha => simp (maxSteps := 1000000) (disch := (first | omega | (simp only [new_next, new_base, upd_next, upd_base, List.length_cons, List.length_nil, List.all_cons, List.all_nil, oneCell, Bool.and_self, Bool.and_true]; done) | (simp only [new_next, new_base, upd_next, upd_base, List.length_cons, List.length_nil]; omega))) only [aOp, ev, pAT, pI, aInt, aStr, aUn, AR.of, AR.ofB, AR.ofH, reduceIte, Nat.reduceEqDiff, aBuiltin, aLen, aField, aFieldAddr, aIndexAddr, aStore, aLoad, cellsL, oneCell, splice, pC, pL, Nat.reduceBEq, Nat.reduceLeDiff, Nat.reduceMul, Nat.reduceSub, Nat.reduceLT, Nat.reduceAdd, wTCmp1] <;> with_reducible rfl))
  refine (nans_wf H s).mono ?_
  rintro _ _ ⟨rfl, rfl⟩
  repeat (first
    | (with_reducible refine sc_seq ?_)
    | (with_reducible refine sc_region ?_)
    | (with_reducible refine sc_block ?_)
    | (with_reducible refine sc_scope ?_)
    | ((with_reducible refine sc_skip ?_); dsimp only)
    | ((with_reducible refine sc_label ?_); dsimp only)
    | ((with_reducible refine sc_ret ?_); dsimp only)
    | ((with_reducible refine sc_exit ?_); dsimp only [Nat.beq])
    | ((with_reducible refine so_nil ?_); dsimp only)
    | ((with_reducible apply so_skip); (case hw => simp only [aWanted, aYield, pAT, pG, reduceIte, Nat.reduceEqDiff]; done))
    | ((with_reducible apply so_val); (case hw => simp only [aWanted, aYield, pAT, pG, reduceIte, Nat.reduceEqDiff]; done); (case ha => simp (maxSteps := 1000000) (disch := (refine id ?_; first | assumption | omega | (simp only [pN, pO, oneCell]; done) | (simp only [pN]; omega))) only [aOp, ev, pAT, pI, aInt, aStr, aUn, AR.of, AR.ofB, AR.ofH, reduceIte, Nat.reduceEqDiff, aBuiltin, aLen, aField, aFieldAddr, aIndexAddr, aStore, aLoad, cellsL, oneCell, splice, pC, pL, Nat.reduceBEq, Nat.reduceLeDiff, Nat.reduceMul, Nat.reduceSub, Nat.reduceLT, Nat.reduceAdd, wTCmp1] <;> with_reducible rfl))
    | ((with_reducible apply sc_false); (case hc => simp only [ev, pAT, reduceIte, Nat.reduceEqDiff]; done))
    | ((with_reducible apply sc_true); (case hc => simp only [ev, pAT, reduceIte, Nat.reduceEqDiff]; done)))
  first
    | ((with_reducible apply so_call); (case hw => simp only [aWanted, aYield, pAT, pG, reduceIte, Nat.reduceEqDiff]; done); (case ha => simp (maxSteps := 1000000) (disch := (refine id ?_; first | assumption | omega | (simp only [pN, pO, oneCell]; done) | (simp only [pN]; omega))) only [aOp, ev, pAT, pI, aInt, aStr, aUn, AR.of, AR.ofB, AR.ofH, reduceIte, Nat.reduceEqDiff, aBuiltin, aLen, aField, aFieldAddr, aIndexAddr, aStore, aLoad, cellsL, oneCell, splice, pC, pL, Nat.reduceBEq, Nat.reduceLeDiff, Nat.reduceMul, Nat.reduceSub, Nat.reduceLT, Nat.reduceAdd, wTCmp1] <;> with_reducible rfl))
    | ((with_reducible apply so_callD); (case hw => simp only [aWanted, aYield, pAT, pG, reduceIte, Nat.reduceEqDiff]; done); (case ha => simp (maxSteps := 1000000) (disch := (first | omega | (simp only [new_next, new_base, upd_next, upd_base, List.length_cons, List.length_nil, List.all_cons, List.all_nil, oneCell, Bool.and_self, Bool.and_true]; done) | (simp only [new_next, new_base, upd_next, upd_base, List.length_cons, List.length_nil]; omega))) only [aOp, ev, pAT, pI, aInt, aStr, aUn, AR.of, AR.ofB, AR.ofH, reduceIte, Nat.reduceEqDiff, aBuiltin, aLen, aField, aFieldAddr, aIndexAddr, aStore, aLoad, cellsL, oneCell, splice, pC, pL, Nat.reduceBEq, Nat.reduceLeDiff, Nat.reduceMul, Nat.reduceSub, Nat.reduceLT, Nat.reduceAdd, wTCmp1] <;> with_reducible rfl))
  refine (nans_wf _ s).mono ?_
  rintro _ _ ⟨rfl, rfl⟩
  repeat (first
    | (with_reducible refine sc_seq ?_)
    | (with_reducible refine sc_region ?_)
    | (with_reducible refine sc_block ?_)
    | (with_reducible refine sc_scope ?_)
    | ((with_reducible refine sc_skip ?_); dsimp only)
    | ((with_reducible refine sc_label ?_); dsimp only)
    | ((with_reducible refine sc_ret ?_); dsimp only)
    | ((with_reducible refine sc_exit ?_); dsimp only [Nat.beq])
    | ((with_reducible refine so_nil ?_); dsimp only)
    | ((with_reducible apply so_skip); (case hw => simp only [aWanted, aYield, pAT, pG, (less_irrefl s.data.toList), Bool.false_or, reduceIte, Nat.reduceEqDiff]; done))
    | ((with_reducible apply so_val); (case hw => simp only [aWanted, aYield, pAT, pG, (less_irrefl s.data.toList), Bool.false_or, reduceIte, Nat.reduceEqDiff]; done); (case ha => simp (maxSteps := 1000000) (disch := (refine id ?_; first | assumption | omega | (simp only [pN, pO, oneCell]; done) | (simp only [pN]; omega))) only [aOp, ev, pAT, (less_irrefl s.data.toList), Bool.false_or, pI, aInt, aStr, aUn, AR.of, AR.ofB, AR.ofH, reduceIte, Nat.reduceEqDiff, aBuiltin, aLen, aField, aFieldAddr, aIndexAddr, aStore, aLoad, cellsL, oneCell, splice, pC, pL, Nat.reduceBEq, Nat.reduceLeDiff, Nat.reduceMul, Nat.reduceSub, Nat.reduceLT, Nat.reduceAdd, wTCmp1] <;> with_reducible rfl))
    | ((with_reducible apply sc_false); (case hc => simp only [ev, pAT, (less_irrefl s.data.toList), Bool.false_or, reduceIte, Nat.reduceEqDiff]; done))
    | ((with_reducible apply sc_true); (case hc => simp only [ev, pAT, (less_irrefl s.data.toList), Bool.false_or, reduceIte, Nat.reduceEqDiff]; done)))
  apply res_fin (rs := [ResultVar.tmp 4]) trivial
  case h => simp (disch := (refine id ?_; first | assumption | omega | (simp only [pN, pO, oneCell]; done) | (simp only [pN]; omega))) only [aResults, aResult, aOp, ev, pAT, pI, aInt, aStr, aUn, AR.of, AR.ofB, AR.ofH, reduceIte, Nat.reduceEqDiff, aBuiltin, aLen, aField, aFieldAddr, aIndexAddr, aStore, aLoad, cellsL, oneCell, splice, pC, pL, Nat.reduceBEq, Nat.reduceLeDiff, Nat.reduceMul, Nat.reduceSub, Nat.reduceLT, Nat.reduceAdd, wTCmp1] <;> with_reducible rfl
  case hq => exact ⟨rfl, rfl⟩

/-- Texts, as a row's cells. -/
def txts (gs : List ByteArray) : List (List Value) := gs.map fun g => [.string g]
set_option maxRecDepth 10000 in
set_option maxHeartbeats 4000000 in
theorem cmpl_wf (H : AH) (v1 v2 : Value) (gs : List ByteArray) (h1 : Rd H 1 v1 (txts gs)) (h2 : Rd H 1 v2 (txts gs)) (hl : gs.length ≤ 4294967296) : Wf cfg 17 [v1, v2] H fun r H' => r = .int .i64 0 ∧ H' = H := by
  obtain ⟨q1, q2, e1, _⟩ := id h1
  obtain ⟨q3, q4, e2, _⟩ := id h2
  have hlen : (txts gs).length = gs.length := List.length_map _
  rw [hlen] at e1 e2
  subst e1 e2
  refine wf_text (fn := Tryz.f17) rfl Tryz.func17 rfl rfl ?_
  repeat (first
    | (with_reducible refine sc_seq ?_)
    | (with_reducible refine sc_region ?_)
    | (with_reducible refine sc_block ?_)
    | (with_reducible refine sc_scope ?_)
    | ((with_reducible refine sc_skip ?_); dsimp only)
    | ((with_reducible refine sc_label ?_); dsimp only)
    | ((with_reducible refine sc_ret ?_); dsimp only)
    | ((with_reducible refine sc_exit ?_); dsimp only [Nat.beq])
    | ((with_reducible refine so_nil ?_); dsimp only)
    | ((with_reducible apply so_skip); (case hw => simp only [aWanted, aYield, pAT, pG, reduceIte, Nat.reduceEqDiff]; done))
    | ((with_reducible apply so_val); (case hw => simp only [aWanted, aYield, pAT, pG, reduceIte, Nat.reduceEqDiff]; done); (case ha => simp (maxSteps := 1000000) (disch := (refine id ?_; first | assumption | omega | (simp only [pN, pO, oneCell]; done) | (simp only [pN]; omega))) only [aOp, ev, pAT, pI, aInt, aStr, aUn, AR.of, AR.ofB, AR.ofH, reduceIte, Nat.reduceEqDiff, aBuiltin, aLen, aField, aFieldAddr, aIndexAddr, aStore, aLoad, cellsL, oneCell, splice, pC, pL, Nat.reduceBEq, Nat.reduceLeDiff, Nat.reduceMul, Nat.reduceSub, Nat.reduceLT, Nat.reduceAdd, wTCmp1] <;> with_reducible rfl))
    | ((with_reducible apply sc_false); (case hc => simp only [ev, pAT, reduceIte, Nat.reduceEqDiff]; done))
    | ((with_reducible apply sc_true); (case hc => simp only [ev, pAT, reduceIte, Nat.reduceEqDiff]; done)))
  refine sc_loop (I := fun m fr G => G = H ∧ ∃ t : Nat, t ≤ gs.length ∧ m = gs.length - t ∧ Fr.at fr 0 = .slice q1 gs.length q2 ∧ Fr.at fr 1 = .slice q3 gs.length q4 ∧ Fr.at fr 9 = .slice q1 gs.length q2 ∧ Fr.at fr 10 = .int .i64 gs.length ∧ Fr.at fr 11 = .int .i64 t) ?_ gs.length _ _ ?_
  rotate_left
  · refine ⟨rfl, 0, by omega, rfl, ?_, ?_, ?_, ?_, ?_⟩ <;> simp only [at_some, at_none, at_args, List.getElem?_cons_zero, List.getElem?_cons_succ, Option.getD_some, ev, reduceIte, Nat.reduceEqDiff] <;> rfl
  rintro m fr G ⟨rfl, t, ht, rfl, f0, f1, f9, f10, f11⟩
  by_cases hlt : t < gs.length
  · obtain ⟨g, hg⟩ : ∃ g, gs[t]? = some g := ⟨_, List.getElem?_eq_getElem hlt⟩
    have hx : (txts gs)[t]? = some [.string g] := by unfold txts; rw [List.getElem?_map, hg]; rfl
    obtain ⟨b1, o1, c1, e1, _, _, _, l1⟩ := h1.at hx
    obtain ⟨b2, o2, c2, e2, _, _, _, l2⟩ := h2.at hx
    simp only [Value.slice.injEq] at e1 e2
    obtain ⟨rfl, _⟩ := e1
    obtain ⟨rfl, _⟩ := e2
    have m1 := l1 0 (by omega)
    have m2 := l2 0 (by omega)
    simp only [Nat.add_zero, List.getElem?_cons_zero, Nat.mul_one] at m1 m2
    have g1 : decide ((t : Int) < (gs.length : Int)) = true := decT (by omega)
    have g2 : (0 ≤ (t : Int) ∧ (t : Int) < (gs.length : Int)) := by omega
    have g3 : decide ((t : Int) ≥ (gs.length : Int)) = false := decF (by omega)
    repeat (first
      | (with_reducible refine sc_seq ?_)
      | (with_reducible refine sc_region ?_)
      | (with_reducible refine sc_block ?_)
      | (with_reducible refine sc_scope ?_)
      | ((with_reducible refine sc_skip ?_); dsimp only)
      | ((with_reducible refine sc_label ?_); dsimp only)
      | ((with_reducible refine sc_ret ?_); dsimp only)
      | ((with_reducible refine sc_exit ?_); dsimp only [Nat.beq])
      | ((with_reducible refine so_nil ?_); dsimp only)
      | ((with_reducible apply so_skip); (case hw => simp only [aWanted, aYield, pAT, pG, f0, f1, f9, f10, f11, g1, g2, g3, m1, m2, if_true, Int.toNat_natCast, true_and, and_self, Nat.mul_one, reduceIte, Nat.reduceEqDiff]; done))
      | ((with_reducible apply so_val); (case hw => simp only [aWanted, aYield, pAT, pG, f0, f1, f9, f10, f11, g1, g2, g3, m1, m2, if_true, Int.toNat_natCast, true_and, and_self, Nat.mul_one, reduceIte, Nat.reduceEqDiff]; done); (case ha => simp (maxSteps := 1000000) (disch := (refine id ?_; first | assumption | omega | (simp only [pN, pO, oneCell]; done) | (simp only [pN]; omega))) only [aOp, ev, pAT, f0, f1, f9, f10, f11, g1, g2, g3, m1, m2, if_true, Int.toNat_natCast, true_and, and_self, Nat.mul_one, pI, aInt, aStr, aUn, AR.of, AR.ofB, AR.ofH, reduceIte, Nat.reduceEqDiff, aBuiltin, aLen, aField, aFieldAddr, aIndexAddr, aStore, aLoad, cellsL, oneCell, splice, pC, pL, Nat.reduceBEq, Nat.reduceLeDiff, Nat.reduceMul, Nat.reduceSub, Nat.reduceLT, Nat.reduceAdd, wTCmp1] <;> with_reducible rfl))
      | ((with_reducible apply sc_false); (case hc => simp only [ev, pAT, f0, f1, f9, f10, f11, g1, g2, g3, m1, m2, if_true, Int.toNat_natCast, true_and, and_self, Nat.mul_one, reduceIte, Nat.reduceEqDiff]; done))
      | ((with_reducible apply sc_true); (case hc => simp only [ev, pAT, f0, f1, f9, f10, f11, g1, g2, g3, m1, m2, if_true, Int.toNat_natCast, true_and, and_self, Nat.mul_one, reduceIte, Nat.reduceEqDiff]; done)))
    first
      | ((with_reducible apply so_call); (case hw => simp only [aWanted, aYield, pAT, pG, f0, f1, f9, f10, f11, reduceIte, Nat.reduceEqDiff]; done); (case ha => simp (maxSteps := 1000000) (disch := (refine id ?_; first | assumption | omega | (simp only [pN, pO, oneCell]; done) | (simp only [pN]; omega))) only [aOp, ev, pAT, f0, f1, f9, f10, f11, pI, aInt, aStr, aUn, AR.of, AR.ofB, AR.ofH, reduceIte, Nat.reduceEqDiff, aBuiltin, aLen, aField, aFieldAddr, aIndexAddr, aStore, aLoad, cellsL, oneCell, splice, pC, pL, Nat.reduceBEq, Nat.reduceLeDiff, Nat.reduceMul, Nat.reduceSub, Nat.reduceLT, Nat.reduceAdd, wTCmp1] <;> with_reducible rfl))
      | ((with_reducible apply so_callD); (case hw => simp only [aWanted, aYield, pAT, pG, f0, f1, f9, f10, f11, reduceIte, Nat.reduceEqDiff]; done); (case ha => simp (maxSteps := 1000000) (disch := (first | omega | (simp only [new_next, new_base, upd_next, upd_base, List.length_cons, List.length_nil, List.all_cons, List.all_nil, oneCell, Bool.and_self, Bool.and_true]; done) | (simp only [new_next, new_base, upd_next, upd_base, List.length_cons, List.length_nil]; omega))) only [aOp, ev, pAT, f0, f1, f9, f10, f11, pI, aInt, aStr, aUn, AR.of, AR.ofB, AR.ofH, reduceIte, Nat.reduceEqDiff, aBuiltin, aLen, aField, aFieldAddr, aIndexAddr, aStore, aLoad, cellsL, oneCell, splice, pC, pL, Nat.reduceBEq, Nat.reduceLeDiff, Nat.reduceMul, Nat.reduceSub, Nat.reduceLT, Nat.reduceAdd, wTCmp1] <;> with_reducible rfl))
    refine (cmps_wf _ g).mono ?_
    rintro _ _ ⟨rfl, rfl⟩
    repeat (first
      | (with_reducible refine sc_seq ?_)
      | (with_reducible refine sc_region ?_)
      | (with_reducible refine sc_block ?_)
      | (with_reducible refine sc_scope ?_)
      | ((with_reducible refine sc_skip ?_); dsimp only)
      | ((with_reducible refine sc_label ?_); dsimp only)
      | ((with_reducible refine sc_ret ?_); dsimp only)
      | ((with_reducible refine sc_exit ?_); dsimp only [Nat.beq])
      | ((with_reducible refine so_nil ?_); dsimp only)
      | ((with_reducible apply so_skip); (case hw => simp only [aWanted, aYield, pAT, pG, f0, f1, f9, f10, f11, reduceIte, Nat.reduceEqDiff]; done))
      | ((with_reducible apply so_val); (case hw => simp only [aWanted, aYield, pAT, pG, f0, f1, f9, f10, f11, reduceIte, Nat.reduceEqDiff]; done); (case ha => simp (maxSteps := 1000000) (disch := (refine id ?_; first | assumption | omega | (simp only [pN, pO, oneCell]; done) | (simp only [pN]; omega))) only [aOp, ev, pAT, f0, f1, f9, f10, f11, pI, aInt, aStr, aUn, AR.of, AR.ofB, AR.ofH, reduceIte, Nat.reduceEqDiff, aBuiltin, aLen, aField, aFieldAddr, aIndexAddr, aStore, aLoad, cellsL, oneCell, splice, pC, pL, Nat.reduceBEq, Nat.reduceLeDiff, Nat.reduceMul, Nat.reduceSub, Nat.reduceLT, Nat.reduceAdd, wTCmp1] <;> with_reducible rfl))
      | ((with_reducible apply sc_false); (case hc => simp only [ev, pAT, f0, f1, f9, f10, f11, reduceIte, Nat.reduceEqDiff]; done))
      | ((with_reducible apply sc_true); (case hc => simp only [ev, pAT, f0, f1, f9, f10, f11, reduceIte, Nat.reduceEqDiff]; done)))
    refine ⟨gs.length - (t + 1), by omega, rfl, t + 1, by omega, rfl, ?_, ?_, ?_, ?_, ?_⟩ <;> simp only [at_some, at_none, f0, f1, f9, f10, f11, reduceIte, Nat.reduceEqDiff]
    rw [wrap_succ (by omega)]
  · obtain rfl : t = gs.length := by omega
    have g1 : decide ((gs.length : Int) < (gs.length : Int)) = false := decF (by omega)
    repeat (first
      | (with_reducible refine sc_seq ?_)
      | (with_reducible refine sc_region ?_)
      | (with_reducible refine sc_block ?_)
      | (with_reducible refine sc_scope ?_)
      | ((with_reducible refine sc_skip ?_); dsimp only)
      | ((with_reducible refine sc_label ?_); dsimp only)
      | ((with_reducible refine sc_ret ?_); dsimp only)
      | ((with_reducible refine sc_exit ?_); dsimp only [Nat.beq])
      | ((with_reducible refine so_nil ?_); dsimp only)
      | ((with_reducible apply so_skip); (case hw => simp only [aWanted, aYield, pAT, pG, f0, f1, f9, f10, f11, g1, reduceIte, Nat.reduceEqDiff]; done))
      | ((with_reducible apply so_val); (case hw => simp only [aWanted, aYield, pAT, pG, f0, f1, f9, f10, f11, g1, reduceIte, Nat.reduceEqDiff]; done); (case ha => simp (maxSteps := 1000000) (disch := (refine id ?_; first | assumption | omega | (simp only [pN, pO, oneCell]; done) | (simp only [pN]; omega))) only [aOp, ev, pAT, f0, f1, f9, f10, f11, g1, pI, aInt, aStr, aUn, AR.of, AR.ofB, AR.ofH, reduceIte, Nat.reduceEqDiff, aBuiltin, aLen, aField, aFieldAddr, aIndexAddr, aStore, aLoad, cellsL, oneCell, splice, pC, pL, Nat.reduceBEq, Nat.reduceLeDiff, Nat.reduceMul, Nat.reduceSub, Nat.reduceLT, Nat.reduceAdd, wTCmp1] <;> with_reducible rfl))
      | ((with_reducible apply sc_false); (case hc => simp only [ev, pAT, f0, f1, f9, f10, f11, g1, reduceIte, Nat.reduceEqDiff]; done))
      | ((with_reducible apply sc_true); (case hc => simp only [ev, pAT, f0, f1, f9, f10, f11, g1, reduceIte, Nat.reduceEqDiff]; done)))
    apply res_fin (rs := [ResultVar.tmp 4]) trivial
    case h => simp (disch := (refine id ?_; first | assumption | omega | (simp only [pN, pO, oneCell]; done) | (simp only [pN]; omega))) only [aResults, aResult, aOp, ev, pAT, pI, aInt, aStr, aUn, AR.of, AR.ofB, AR.ofH, reduceIte, Nat.reduceEqDiff, aBuiltin, aLen, aField, aFieldAddr, aIndexAddr, aStore, aLoad, cellsL, oneCell, splice, pC, pL, Nat.reduceBEq, Nat.reduceLeDiff, Nat.reduceMul, Nat.reduceSub, Nat.reduceLT, Nat.reduceAdd, wTCmp1] <;> with_reducible rfl
    case hq => exact ⟨rfl, rfl⟩

set_option maxRecDepth 10000 in
set_option maxHeartbeats 4000000 in
theorem or_wf (H : AH) (b : Nat) (hb : H.blk.get b = some (.cells [.int .i64 0, .int .i64 0] 1 .solo)) (hn : b < H.next) : Wf cfg 15 [.slice (some ⟨b, 0, none⟩) 2 2] H fun r H' => r = .int .i64 0 ∧ H' = H := by
  obtain ⟨_, _, bC, _⟩ := box_facts hb hn
  refine wf_text (fn := Tryz.f15) rfl Tryz.func15 rfl rfl ?_
  repeat (first
    | (with_reducible refine sc_seq ?_)
    | (with_reducible refine sc_region ?_)
    | (with_reducible refine sc_block ?_)
    | (with_reducible refine sc_scope ?_)
    | ((with_reducible refine sc_skip ?_); dsimp only)
    | ((with_reducible refine sc_label ?_); dsimp only)
    | ((with_reducible refine sc_ret ?_); dsimp only)
    | ((with_reducible refine sc_exit ?_); dsimp only [Nat.beq])
    | ((with_reducible refine so_nil ?_); dsimp only)
    | ((with_reducible apply so_skip); (case hw => simp only [aWanted, aYield, pAT, pG, reduceIte, Nat.reduceEqDiff]; done))
    | ((with_reducible apply so_val); (case hw => simp only [aWanted, aYield, pAT, pG, reduceIte, Nat.reduceEqDiff]; done); (case ha => simp (maxSteps := 1000000) (disch := (refine id ?_; first | assumption | omega | (simp only [pN, pO, oneCell]; done) | (simp only [pN]; omega))) only [aOp, ev, pAT, pI, aInt, aStr, aUn, AR.of, AR.ofB, AR.ofH, reduceIte, Nat.reduceEqDiff, aBuiltin, aLen, aField, aFieldAddr, aIndexAddr, aStore, aLoad, cellsL, oneCell, splice, pC, pL, Nat.reduceBEq, Nat.reduceLeDiff, Nat.reduceMul, Nat.reduceSub, Nat.reduceLT, Nat.reduceAdd, wTCmp1] <;> with_reducible rfl))
    | ((with_reducible apply sc_false); (case hc => simp only [ev, pAT, reduceIte, Nat.reduceEqDiff]; done))
    | ((with_reducible apply sc_true); (case hc => simp only [ev, pAT, reduceIte, Nat.reduceEqDiff]; done)))
  refine sc_loop (I := fun m fr G => G = H ∧ ∃ t : Nat, t ≤ 2 ∧ m = 2 - t ∧ Fr.at fr 3 = .int .i64 0 ∧ Fr.at fr 6 = .slice (some ⟨b, 0, none⟩) 2 2 ∧ Fr.at fr 7 = .int .i64 2 ∧ Fr.at fr 8 = .int .i64 t) ?_ 2 _ _ ?_
  rotate_left
  · refine ⟨rfl, 0, by omega, rfl, ?_, ?_, ?_, ?_⟩ <;> simp only [at_some, at_none, at_args, List.getElem?_cons_zero, List.getElem?_cons_succ, Option.getD_some, ev, reduceIte, Nat.reduceEqDiff] <;> rfl
  rintro m fr G ⟨rfl, t, ht, rfl, f3, f6, f7, f8⟩
  by_cases hlt : t < 2
  · have g1 : decide ((t : Int) < 2) = true := decT (by omega)
    have g2 : (0 ≤ (t : Int) ∧ (t : Int) < ((2 : Nat) : Int)) := by omega
    have m1 : G.cell b t = some (.int .i64 0) := by
      rw [bC]
      have : t = 0 ∨ t = 1 := by omega
      rcases this with rfl | rfl <;> rfl
    repeat (first
      | (with_reducible refine sc_seq ?_)
      | (with_reducible refine sc_region ?_)
      | (with_reducible refine sc_block ?_)
      | (with_reducible refine sc_scope ?_)
      | ((with_reducible refine sc_skip ?_); dsimp only)
      | ((with_reducible refine sc_label ?_); dsimp only)
      | ((with_reducible refine sc_ret ?_); dsimp only)
      | ((with_reducible refine sc_exit ?_); dsimp only [Nat.beq])
      | ((with_reducible refine so_nil ?_); dsimp only)
      | ((with_reducible apply so_skip); (case hw => simp only [aWanted, aYield, pAT, pG, f3, f6, f7, f8, g1, g2, m1, if_true, Int.toNat_natCast, true_and, and_self, Nat.mul_one, reduceIte, Nat.reduceEqDiff]; done))
      | ((with_reducible apply so_val); (case hw => simp only [aWanted, aYield, pAT, pG, f3, f6, f7, f8, g1, g2, m1, if_true, Int.toNat_natCast, true_and, and_self, Nat.mul_one, reduceIte, Nat.reduceEqDiff]; done); (case ha => simp (maxSteps := 1000000) (disch := (refine id ?_; first | assumption | omega | (simp only [pN, pO, oneCell]; done) | (simp only [pN]; omega))) only [aOp, ev, pAT, f3, f6, f7, f8, g1, g2, m1, if_true, Int.toNat_natCast, true_and, and_self, Nat.mul_one, pI, aInt, aStr, aUn, AR.of, AR.ofB, AR.ofH, reduceIte, Nat.reduceEqDiff, aBuiltin, aLen, aField, aFieldAddr, aIndexAddr, aStore, aLoad, cellsL, oneCell, splice, pC, pL, Nat.reduceBEq, Nat.reduceLeDiff, Nat.reduceMul, Nat.reduceSub, Nat.reduceLT, Nat.reduceAdd, wTCmp1] <;> with_reducible rfl))
      | ((with_reducible apply sc_false); (case hc => simp only [ev, pAT, f3, f6, f7, f8, g1, g2, m1, if_true, Int.toNat_natCast, true_and, and_self, Nat.mul_one, reduceIte, Nat.reduceEqDiff]; done))
      | ((with_reducible apply sc_true); (case hc => simp only [ev, pAT, f3, f6, f7, f8, g1, g2, m1, if_true, Int.toNat_natCast, true_and, and_self, Nat.mul_one, reduceIte, Nat.reduceEqDiff]; done)))
    refine ⟨2 - (t + 1), by omega, rfl, t + 1, by omega, rfl, ?_, ?_, ?_, ?_⟩ <;> simp only [at_some, at_none, f3, f6, f7, f8, reduceIte, Nat.reduceEqDiff]
    rw [wrap_succ (by omega)]
  · obtain rfl : t = 2 := by omega
    have g1 : decide (((2 : Nat) : Int) < 2) = false := decF (by omega)
    have g2 : decide ((2 : Int) < 2) = false := decF (by omega)
    repeat (first
      | (with_reducible refine sc_seq ?_)
      | (with_reducible refine sc_region ?_)
      | (with_reducible refine sc_block ?_)
      | (with_reducible refine sc_scope ?_)
      | ((with_reducible refine sc_skip ?_); dsimp only)
      | ((with_reducible refine sc_label ?_); dsimp only)
      | ((with_reducible refine sc_ret ?_); dsimp only)
      | ((with_reducible refine sc_exit ?_); dsimp only [Nat.beq])
      | ((with_reducible refine so_nil ?_); dsimp only)
      | ((with_reducible apply so_skip); (case hw => simp only [aWanted, aYield, pAT, pG, f3, f6, f7, f8, g1, g2, reduceIte, Nat.reduceEqDiff]; done))
      | ((with_reducible apply so_val); (case hw => simp only [aWanted, aYield, pAT, pG, f3, f6, f7, f8, g1, g2, reduceIte, Nat.reduceEqDiff]; done); (case ha => simp (maxSteps := 1000000) (disch := (refine id ?_; first | assumption | omega | (simp only [pN, pO, oneCell]; done) | (simp only [pN]; omega))) only [aOp, ev, pAT, f3, f6, f7, f8, g1, g2, pI, aInt, aStr, aUn, AR.of, AR.ofB, AR.ofH, reduceIte, Nat.reduceEqDiff, aBuiltin, aLen, aField, aFieldAddr, aIndexAddr, aStore, aLoad, cellsL, oneCell, splice, pC, pL, Nat.reduceBEq, Nat.reduceLeDiff, Nat.reduceMul, Nat.reduceSub, Nat.reduceLT, Nat.reduceAdd, wTCmp1] <;> with_reducible rfl))
      | ((with_reducible apply sc_false); (case hc => simp only [ev, pAT, f3, f6, f7, f8, g1, g2, reduceIte, Nat.reduceEqDiff]; done))
      | ((with_reducible apply sc_true); (case hc => simp only [ev, pAT, f3, f6, f7, f8, g1, g2, reduceIte, Nat.reduceEqDiff]; done)))
    apply res_fin (rs := [ResultVar.tmp 2]) trivial
    case h => simp (disch := (refine id ?_; first | assumption | omega | (simp only [pN, pO, oneCell]; done) | (simp only [pN]; omega))) only [aResults, aResult, aOp, ev, pAT, pI, aInt, aStr, aUn, AR.of, AR.ofB, AR.ofH, reduceIte, Nat.reduceEqDiff, aBuiltin, aLen, aField, aFieldAddr, aIndexAddr, aStore, aLoad, cellsL, oneCell, splice, pC, pL, Nat.reduceBEq, Nat.reduceLeDiff, Nat.reduceMul, Nat.reduceSub, Nat.reduceLT, Nat.reduceAdd, wTCmp1] <;> with_reducible rfl
    case hq => exact ⟨rfl, rfl⟩

set_option maxRecDepth 10000 in
set_option maxHeartbeats 4000000 in
theorem compare_wf (H : AH) (n : Int) (v1 v2 : Value) (gs : List ByteArray) (h1 : Rd H 1 v1 (txts gs)) (h2 : Rd H 1 v2 (txts gs)) (hl : gs.length ≤ 4294967296) : Wf cfg 6 [.agg #[.int .i64 n, v1], .agg #[.int .i64 n, v2]] H fun r H' => r = .int .i64 0 := by
  obtain ⟨q1, q2, rfl, _⟩ := id h1
  obtain ⟨q3, q4, rfl, _⟩ := id h2
  refine wf_text (fn := Tryz.f6) rfl Tryz.func6 rfl rfl ?_
  repeat (first
    | (with_reducible refine sc_seq ?_)
    | (with_reducible refine sc_region ?_)
    | (with_reducible refine sc_block ?_)
    | (with_reducible refine sc_scope ?_)
    | ((with_reducible refine sc_skip ?_); dsimp only)
    | ((with_reducible refine sc_label ?_); dsimp only)
    | ((with_reducible refine sc_ret ?_); dsimp only)
    | ((with_reducible refine sc_exit ?_); dsimp only [Nat.beq])
    | ((with_reducible refine so_nil ?_); dsimp only)
    | ((with_reducible apply so_skip); (case hw => simp only [aWanted, aYield, pAT, pG, reduceIte, Nat.reduceEqDiff]; done))
    | ((with_reducible apply so_val); (case hw => simp only [aWanted, aYield, pAT, pG, reduceIte, Nat.reduceEqDiff]; done); (case ha => simp (maxSteps := 1000000) (disch := (refine id ?_; first | assumption | omega | (simp only [pN, pO, oneCell]; done) | (simp only [pN]; omega))) only [aOp, ev, pAT, pI, aInt, aStr, aUn, AR.of, AR.ofB, AR.ofH, reduceIte, Nat.reduceEqDiff, aBuiltin, aLen, aField, aFieldAddr, aIndexAddr, aStore, aLoad, cellsL, oneCell, splice, pC, pL, Nat.reduceBEq, Nat.reduceLeDiff, Nat.reduceMul, Nat.reduceSub, Nat.reduceLT, Nat.reduceAdd, wTCmp1] <;> with_reducible rfl))
    | ((with_reducible apply sc_false); (case hc => simp only [ev, pAT, reduceIte, Nat.reduceEqDiff]; done))
    | ((with_reducible apply sc_true); (case hc => simp only [ev, pAT, reduceIte, Nat.reduceEqDiff]; done)))
  first
    | ((with_reducible apply so_call); (case hw => simp only [aWanted, aYield, pAT, pG, reduceIte, Nat.reduceEqDiff]; done); (case ha => simp (maxSteps := 1000000) (disch := (refine id ?_; first | assumption | omega | (simp only [pN, pO, oneCell]; done) | (simp only [pN]; omega))) only [aOp, ev, pAT, pI, aInt, aStr, aUn, AR.of, AR.ofB, AR.ofH, reduceIte, Nat.reduceEqDiff, aBuiltin, aLen, aField, aFieldAddr, aIndexAddr, aStore, aLoad, cellsL, oneCell, splice, pC, pL, Nat.reduceBEq, Nat.reduceLeDiff, Nat.reduceMul, Nat.reduceSub, Nat.reduceLT, Nat.reduceAdd, wTCmp1] <;> with_reducible rfl))
    | ((with_reducible apply so_callD); (case hw => simp only [aWanted, aYield, pAT, pG, reduceIte, Nat.reduceEqDiff]; done); (case ha => simp (maxSteps := 1000000) (disch := (first | omega | (simp only [new_next, new_base, upd_next, upd_base, List.length_cons, List.length_nil, List.all_cons, List.all_nil, oneCell, Bool.and_self, Bool.and_true]; done) | (simp only [new_next, new_base, upd_next, upd_base, List.length_cons, List.length_nil]; omega))) only [aOp, ev, pAT, pI, aInt, aStr, aUn, AR.of, AR.ofB, AR.ofH, reduceIte, Nat.reduceEqDiff, aBuiltin, aLen, aField, aFieldAddr, aIndexAddr, aStore, aLoad, cellsL, oneCell, splice, pC, pL, Nat.reduceBEq, Nat.reduceLeDiff, Nat.reduceMul, Nat.reduceSub, Nat.reduceLT, Nat.reduceAdd, wTCmp1] <;> with_reducible rfl))
  have k1 : ((H.new (.cells [.int .i64 n, .slice q1 (txts gs).length q2] 0 .solo)).new (.cells [.int .i64 n, .slice q3 (txts gs).length q4] 0 .solo)).blk.get H.next = some (.cells [.int .i64 n, .slice q1 (txts gs).length q2] 0 .solo) := (get_new_ne (Nat.lt_succ_self _)).trans (get_new_eq rfl)
  have k2 : ((H.new (.cells [.int .i64 n, .slice q1 (txts gs).length q2] 0 .solo)).new (.cells [.int .i64 n, .slice q3 (txts gs).length q4] 0 .solo)).blk.get (H.next + 1) = some (.cells [.int .i64 n, .slice q3 (txts gs).length q4] 0 .solo) := get_new_eq rfl
  have kn : ((H.new (.cells [.int .i64 n, .slice q1 (txts gs).length q2] 0 .solo)).new (.cells [.int .i64 n, .slice q3 (txts gs).length q4] 0 .solo)).next = H.next + 2 := rfl
  have hx : Ext H ((H.new (.cells [.int .i64 n, .slice q1 (txts gs).length q2] 0 .solo)).new (.cells [.int .i64 n, .slice q3 (txts gs).length q4] 0 .solo)) := (Ext.new H _).step _
  generalize (H.new (.cells [.int .i64 n, .slice q1 (txts gs).length q2] 0 .solo)).new (.cells [.int .i64 n, .slice q3 (txts gs).length q4] 0 .solo) = X at k1 k2 kn hx ⊢
  refine (cmpi_wf _ n).mono ?_
  rintro _ _ ⟨rfl, rfl⟩
  rw [show (X.wb X.next).wb X.base = X from rfl]
  obtain ⟨_, _, c1, _⟩ := box_facts k1 (by omega)
  obtain ⟨_, _, c2, _⟩ := box_facts k2 (by omega)
  repeat (first
    | (with_reducible refine sc_seq ?_)
    | (with_reducible refine sc_region ?_)
    | (with_reducible refine sc_block ?_)
    | (with_reducible refine sc_scope ?_)
    | ((with_reducible refine sc_skip ?_); dsimp only)
    | ((with_reducible refine sc_label ?_); dsimp only)
    | ((with_reducible refine sc_ret ?_); dsimp only)
    | ((with_reducible refine sc_exit ?_); dsimp only [Nat.beq])
    | ((with_reducible refine so_nil ?_); dsimp only)
    | ((with_reducible apply so_skip); (case hw => simp only [aWanted, aYield, pAT, pG, c1, c2, reduceIte, Nat.reduceEqDiff]; done))
    | ((with_reducible apply so_val); (case hw => simp only [aWanted, aYield, pAT, pG, c1, c2, reduceIte, Nat.reduceEqDiff]; done); (case ha => simp (maxSteps := 1000000) (disch := (refine id ?_; first | assumption | omega | (simp only [pN, pO, oneCell]; done) | (simp only [pN]; omega))) only [aOp, ev, pAT, c1, c2, pI, aInt, aStr, aUn, AR.of, AR.ofB, AR.ofH, reduceIte, Nat.reduceEqDiff, aBuiltin, aLen, aField, aFieldAddr, aIndexAddr, aStore, aLoad, cellsL, oneCell, splice, pC, pL, Nat.reduceBEq, Nat.reduceLeDiff, Nat.reduceMul, Nat.reduceSub, Nat.reduceLT, Nat.reduceAdd, wTCmp1] <;> with_reducible rfl))
    | ((with_reducible apply sc_false); (case hc => simp only [ev, pAT, c1, c2, reduceIte, Nat.reduceEqDiff]; done))
    | ((with_reducible apply sc_true); (case hc => simp only [ev, pAT, c1, c2, reduceIte, Nat.reduceEqDiff]; done)))
  first
    | ((with_reducible apply so_call); (case hw => simp only [aWanted, aYield, pAT, pG, c1, c2, reduceIte, Nat.reduceEqDiff]; done); (case ha => simp (maxSteps := 1000000) (disch := (refine id ?_; first | assumption | omega | (simp only [pN, pO, oneCell]; done) | (simp only [pN]; omega))) only [aOp, ev, pAT, c1, c2, pI, aInt, aStr, aUn, AR.of, AR.ofB, AR.ofH, reduceIte, Nat.reduceEqDiff, aBuiltin, aLen, aField, aFieldAddr, aIndexAddr, aStore, aLoad, cellsL, oneCell, splice, pC, pL, Nat.reduceBEq, Nat.reduceLeDiff, Nat.reduceMul, Nat.reduceSub, Nat.reduceLT, Nat.reduceAdd, wTCmp1] <;> with_reducible rfl))
    | ((with_reducible apply so_callD); (case hw => simp only [aWanted, aYield, pAT, pG, c1, c2, reduceIte, Nat.reduceEqDiff]; done); (case ha => simp (maxSteps := 1000000) (disch := (first | omega | (simp only [new_next, new_base, upd_next, upd_base, List.length_cons, List.length_nil, List.all_cons, List.all_nil, oneCell, Bool.and_self, Bool.and_true]; done) | (simp only [new_next, new_base, upd_next, upd_base, List.length_cons, List.length_nil]; omega))) only [aOp, ev, pAT, c1, c2, pI, aInt, aStr, aUn, AR.of, AR.ofB, AR.ofH, reduceIte, Nat.reduceEqDiff, aBuiltin, aLen, aField, aFieldAddr, aIndexAddr, aStore, aLoad, cellsL, oneCell, splice, pC, pL, Nat.reduceBEq, Nat.reduceLeDiff, Nat.reduceMul, Nat.reduceSub, Nat.reduceLT, Nat.reduceAdd, wTCmp1] <;> with_reducible rfl))
  refine (cmpl_wf _ _ _ gs (h1.mono hx).wb (h2.mono hx).wb hl).mono ?_
  rintro _ _ ⟨rfl, rfl⟩
  rw [show (X.wb X.next).wb X.base = X from rfl]
  repeat (first
    | (with_reducible refine sc_seq ?_)
    | (with_reducible refine sc_region ?_)
    | (with_reducible refine sc_block ?_)
    | (with_reducible refine sc_scope ?_)
    | ((with_reducible refine sc_skip ?_); dsimp only)
    | ((with_reducible refine sc_label ?_); dsimp only)
    | ((with_reducible refine sc_ret ?_); dsimp only)
    | ((with_reducible refine sc_exit ?_); dsimp only [Nat.beq])
    | ((with_reducible refine so_nil ?_); dsimp only)
    | ((with_reducible apply so_skip); (case hw => simp only [aWanted, aYield, pAT, pG, build2, reduceIte, Nat.reduceEqDiff]; done))
    | ((with_reducible apply so_val); (case hw => simp only [aWanted, aYield, pAT, pG, build2, reduceIte, Nat.reduceEqDiff]; done); (case ha => simp only [aOp, ev, pAT, build2, pI, aInt, aStr, aUn, AR.of, AR.ofB, AR.ofH, reduceIte, Nat.reduceEqDiff, aBuiltin, aLen, aField, aFieldAddr, aIndexAddr, aStore, aLoad, cellsL, oneCell, splice, pL, Nat.reduceBEq, Nat.reduceLeDiff, Nat.reduceMul, Nat.reduceSub, Nat.reduceLT, Nat.reduceAdd, wTCmp1] <;> with_reducible rfl))
    | ((with_reducible apply so_val); (case hw => simp only [aWanted, aYield, pAT, pG, build2, reduceIte, Nat.reduceEqDiff]; done); (case ha => simp (maxSteps := 1000000) (disch := (refine id ?_; first | assumption | omega | (simp only [pN, pO, oneCell]; done) | (simp only [pN]; omega))) only [aOp, ev, pAT, build2, pI, aInt, aStr, aUn, AR.of, AR.ofB, AR.ofH, reduceIte, Nat.reduceEqDiff, aBuiltin, aLen, aField, aFieldAddr, aIndexAddr, aStore, aLoad, cellsL, oneCell, splice, pC, pL, Nat.reduceBEq, Nat.reduceLeDiff, Nat.reduceMul, Nat.reduceSub, Nat.reduceLT, Nat.reduceAdd, wTCmp1] <;> with_reducible rfl))
    | ((with_reducible apply sc_false); (case hc => simp only [ev, pAT, build2, reduceIte, Nat.reduceEqDiff]; done))
    | ((with_reducible apply sc_true); (case hc => simp only [ev, pAT, build2, reduceIte, Nat.reduceEqDiff]; done)))
  first
    | ((with_reducible apply so_call); (case hw => simp only [aWanted, aYield, pAT, pG, reduceIte, Nat.reduceEqDiff]; done); (case ha => simp (maxSteps := 1000000) (disch := (refine id ?_; first | assumption | omega | (simp only [pN, pO, oneCell]; done) | (simp only [pN]; omega))) only [aOp, ev, pAT, pI, aInt, aStr, aUn, AR.of, AR.ofB, AR.ofH, reduceIte, Nat.reduceEqDiff, aBuiltin, aLen, aField, aFieldAddr, aIndexAddr, aStore, aLoad, cellsL, oneCell, splice, pC, pL, Nat.reduceBEq, Nat.reduceLeDiff, Nat.reduceMul, Nat.reduceSub, Nat.reduceLT, Nat.reduceAdd, wTCmp1] <;> with_reducible rfl))
    | ((with_reducible apply so_callD); (case hw => simp only [aWanted, aYield, pAT, pG, reduceIte, Nat.reduceEqDiff]; done); (case ha => simp (maxSteps := 1000000) (disch := (first | omega | (simp only [new_next, new_base, upd_next, upd_base, List.length_cons, List.length_nil, List.all_cons, List.all_nil, oneCell, Bool.and_self, Bool.and_true]; done) | (simp only [new_next, new_base, upd_next, upd_base, List.length_cons, List.length_nil]; omega))) only [aOp, ev, pAT, pI, aInt, aStr, aUn, AR.of, AR.ofB, AR.ofH, reduceIte, Nat.reduceEqDiff, aBuiltin, aLen, aField, aFieldAddr, aIndexAddr, aStore, aLoad, cellsL, oneCell, splice, pC, pL, Nat.reduceBEq, Nat.reduceLeDiff, Nat.reduceMul, Nat.reduceSub, Nat.reduceLT, Nat.reduceAdd, wTCmp1] <;> with_reducible rfl))
  refine (or_wf ((X.new (.cells [.int .i64 0, .int .i64 0] 1 .solo)).wb (X.next + 1)) X.next (get_new_eq (H := X) (k := .cells [.int .i64 0, .int .i64 0] 1 .solo) rfl) (Nat.lt_succ_self X.next)).mono ?_
  rintro _ _ ⟨rfl, rfl⟩
  repeat (first
    | (with_reducible refine sc_seq ?_)
    | (with_reducible refine sc_region ?_)
    | (with_reducible refine sc_block ?_)
    | (with_reducible refine sc_scope ?_)
    | ((with_reducible refine sc_skip ?_); dsimp only)
    | ((with_reducible refine sc_label ?_); dsimp only)
    | ((with_reducible refine sc_ret ?_); dsimp only)
    | ((with_reducible refine sc_exit ?_); dsimp only [Nat.beq])
    | ((with_reducible refine so_nil ?_); dsimp only)
    | ((with_reducible apply so_skip); (case hw => simp only [aWanted, aYield, pAT, pG, reduceIte, Nat.reduceEqDiff]; done))
    | ((with_reducible apply so_val); (case hw => simp only [aWanted, aYield, pAT, pG, reduceIte, Nat.reduceEqDiff]; done); (case ha => simp (maxSteps := 1000000) (disch := (refine id ?_; first | assumption | omega | (simp only [pN, pO, oneCell]; done) | (simp only [pN]; omega))) only [aOp, ev, pAT, pI, aInt, aStr, aUn, AR.of, AR.ofB, AR.ofH, reduceIte, Nat.reduceEqDiff, aBuiltin, aLen, aField, aFieldAddr, aIndexAddr, aStore, aLoad, cellsL, oneCell, splice, pC, pL, Nat.reduceBEq, Nat.reduceLeDiff, Nat.reduceMul, Nat.reduceSub, Nat.reduceLT, Nat.reduceAdd, wTCmp1] <;> with_reducible rfl))
    | ((with_reducible apply sc_false); (case hc => simp only [ev, pAT, reduceIte, Nat.reduceEqDiff]; done))
    | ((with_reducible apply sc_true); (case hc => simp only [ev, pAT, reduceIte, Nat.reduceEqDiff]; done)))
  apply res_fin (rs := [ResultVar.tmp 4]) trivial
  case h => simp (disch := (refine id ?_; first | assumption | omega | (simp only [pN, pO, oneCell]; done) | (simp only [pN]; omega))) only [aResults, aResult, aOp, ev, pAT, pI, aInt, aStr, aUn, AR.of, AR.ofB, AR.ofH, reduceIte, Nat.reduceEqDiff, aBuiltin, aLen, aField, aFieldAddr, aIndexAddr, aStore, aLoad, cellsL, oneCell, splice, pC, pL, Nat.reduceBEq, Nat.reduceLeDiff, Nat.reduceMul, Nat.reduceSub, Nat.reduceLT, Nat.reduceAdd, wTCmp1] <;> with_reducible rfl
  case hq => rfl
end Go.Am
