/- cell.Parse: its contract. -/
import Derived.Test.YthfkednlgehchaaGreatDoorName2
import Derived.Laws.AppendOwn
import Derived.Deep.OwnRows
import Derived.OneCell
import Derived.Lib.OwnKind
import Derived.Maps.AppendAt
import Derived.Laws.Rows
set_option linter.unusedVariables false
set_option linter.unusedSimpArgs false
namespace Go.Proofs.YthfkednlgehchaaGreatDoor.Parse
open Go Go.RowKit Go.Proofs Go.Am Go.Proofs.YthfkednlgehchaaGreatDoor.Esc Go.Proofs.YthfkednlgehchaaGreatDoor.Base Go.Proofs.YthfkednlgehchaaGreatDoor.Name Go.Joins

theorem alloc_new (w : World) (o : Obj) : (w.alloc o).heap[w.heap.size]? = some o := by
  unfold World.alloc
  simp
theorem cut_any (s : ByteArray) (hs : s.size < 4294967281) (w : World) (hG : Globs w) :
    Calls Tryz.prog 19 #[.string s, .string ⟨#[44]⟩] w fun e w' => ∃ D R : ByteArray, e = .returned (.tuple #[.string D, .string R, .bool (Lib.cut s.data.toList [44]).2.2]) ∧ D.data.toList = (Lib.cut s.data.toList [44]).1 ∧ R.data.toList = (Lib.cut s.data.toList [44]).2.1 ∧ Below w.heap.size w w' := by
  obtain ⟨m, hm⟩ := hG.mlen
  exact (Tryz.strings_Cut s ⟨#[44]⟩ m w hs hm).mono fun e w' ⟨he, k, hw⟩ => ⟨_, _, he, rfl, rfl, by subst hw; exact below_draws _ _ _⟩
theorem new_any (w : World) : Calls Tryz.prog 13 #[.int .i64 31] w fun e w' => e = .returned (.iface 32 (.int .i64 31)) ∧ w = w' := by
  go_enter Tryz.func13, Tryz.ntmps13
  go_wp2
  go_ret
  exact ⟨rfl, rfl⟩
theorem pre_yes (s : ByteArray) (r : List UInt8) (h : s.data.toList = 44 :: r) (w : World) :
    Calls Tryz.prog 22 #[.string s, .string ⟨#[44]⟩] w fun e w' => ∃ R : ByteArray, e = .returned (.tuple #[.string R, .bool true]) ∧ R.data.toList = r ∧ w = w' :=
  (Tryz.strings_CutPrefix s ⟨#[44]⟩ w).mono fun e w' ⟨he, hw⟩ => ⟨⟨r.toArray⟩, by rw [he, h]; rfl, rfl, hw.symm⟩
theorem ext_drop (s : ByteArray) (k : Nat) : (s.extract k s.size).data.toList = s.data.toList.drop k := by
  rw [ByteArray.data_extract, Array.toList_extract]
  exact List.take_of_length_le (by rw [List.length_drop, Array.length_toList]; exact Nat.le_refl _)
theorem pre_no (s : ByteArray) (h : s.data.toList = [] ∨ ∃ c r, s.data.toList = c :: r ∧ c ≠ 44) (w : World) :
    Calls Tryz.prog 22 #[.string s, .string ⟨#[44]⟩] w fun e w' => ∃ R : ByteArray, e = .returned (.tuple #[.string R, .bool false]) ∧ R.data.toList.length ≤ s.data.toList.length ∧ w = w' :=
  (Tryz.strings_CutPrefix s ⟨#[44]⟩ w).mono fun e w' ⟨he, hw⟩ => ⟨⟨(Lib.trimPrefix s.data.toList [44]).toArray⟩, by
    have hp : Lib.hasPrefix s.data.toList [44] = false := by
      rcases h with h | ⟨c, r, h, hc⟩
      · rw [h]; rfl
      · rw [h]
        unfold Lib.hasPrefix
        simp [List.isPrefixOf]
        exact fun e => hc e.symm
    rw [he]
    show Ending.returned (.tuple #[_, .bool (Lib.hasPrefix s.data.toList [44])]) = _
    rw [hp], by
    show (Lib.trimPrefix s.data.toList [44]).length ≤ _
    unfold Lib.trimPrefix
    split
    · rw [List.length_drop]; omega
    · exact Nat.le_refl _, hw.symm⟩

/-- How ParseInt ends: its error, what the groups then are. -/
def ErOk (er : Value) (T T0 : Option (List (List UInt8))) : Prop := (er = .nilIface ∧ T = T0) ∨ (T = none ∧ ∃ t v, er = .iface t v)
theorem int_ok (d : ByteArray) (hd : d.size ≤ 281474976710656) (n : Int) (h : Lib.parseIntB 64 d.data.toList = .ok n) (T0 : Option (List (List UInt8))) (w : World) (hG : Globs w) :
    Calls Tryz.prog 20 #[.string d, .int .i64 10, .int .i64 64] w fun e w' => ∃ er, e = .returned (.tuple #[.int .i64 n, er]) ∧ Below w.heap.size w w' ∧ ErOk er T0 T0 :=
  (Tryz.strconv_ParseInt_10_at64_ok d (by omega) n h w).mono fun e w' ⟨he, hw⟩ => ⟨_, he, by
    rcases hw with rfl | ⟨t, rfl⟩
    · exact Below.refl _ _
    · exact below_bytesWorld _ _ _ _ (Nat.le_refl _), .inl ⟨rfl, rfl⟩⟩
theorem unesc_len : ∀ (n : Nat) (l : List UInt8), l.length ≤ n → ∀ g k, unesc l = some (g, k) → g.length ≤ k
  | _, [], _, g, k, h => by rw [unesc_nil] at h; cases h; exact Nat.le_refl _
  | n + 1, c :: r, hn, g, k, h => by
    simp only [List.length_cons] at hn
    by_cases h92 : c = 92
    · subst h92
      cases r with
      | nil => rw [unesc_bs_nil] at h; cases h
      | cons d r =>
        rw [unesc_bs] at h
        split at h
        · cases hu : unesc r with
          | none => rw [hu] at h; cases h
          | some x =>
            rw [hu] at h
            simp only [Option.map_some, Option.some.injEq, Prod.mk.injEq] at h
            simp only [List.length_cons] at hn
            have := unesc_len n r (by omega) x.1 x.2 hu
            obtain ⟨rfl, rfl⟩ := h
            simp only [List.length_cons]
            omega
        · cases h
    · cases hs : sp c with
      | true => rw [unesc_stop r hs h92] at h; cases h; exact Nat.zero_le _
      | false =>
        rw [unesc_step r hs] at h
        cases hu : unesc r with
        | none => rw [hu] at h; cases h
        | some x =>
          rw [hu] at h
          simp only [Option.map_some, Option.some.injEq, Prod.mk.injEq] at h
          have := unesc_len n r (by omega) x.1 x.2 hu
          obtain ⟨rfl, rfl⟩ := h
          simp only [List.length_cons]
          omega

theorem digits_len (u : Nat) (k : Nat) (h : u < 10 ^ k) (hk : 0 < k) : (Lib.decDigits u).length ≤ k := by
  induction k generalizing u with
  | zero => omega
  | succ k ih =>
    rw [Lib.decDigits]
    split
    · simp
    · rw [List.length_append]
      have : (Lib.decDigits (u / 10)).length ≤ k := by
        cases k with
        | zero => simp at h; omega
        | succ k => exact ih (u / 10) (by rw [Nat.pow_succ] at h; omega) (by omega)
      simp only [List.length_cons, List.length_nil]
      omega
theorem itoa_len (n : Int) (h0 : -9223372036854775808 ≤ n) (h1 : n ≤ 9223372036854775807) : (Lib.itoa n).length ≤ 21 := by
  unfold Lib.itoa
  split
  · have := digits_len n.natAbs 20 (by omega) (by omega)
    simp only [List.length_cons]
    omega
  · have := digits_len n.toNat 20 (by omega) (by omega)
    omega
/-- What Parse gives. -/
def ParsePost (s : ByteArray) (w : World) (e : Ending) (w' : World) : Prop := Below w.heap.size w w' ∧ match parseB s.data.toList with
  | some x => ∃ sl gs, e = .returned (.tuple #[.agg #[.int .i64 x.1, sl], .nilIface]) ∧ Strs w' sl gs ∧ bytesOf gs = x.2
  | none => e = .returned (.tuple #[.agg #[.int .i64 0, .slice none 0 0], .iface 32 (.int .i64 31)])

/-- What lies in memory while the groups are read. -/
structure Held (w wr : World) (c0 : Nat) (n : Int) (gs : List ByteArray) : Prop where
  bel : Below w.heap.size w wr
  low : w.heap.size < c0
  res : wr.heap[w.heap.size]? = some (.cells #[.int .i64 0, .slice none 0 0] 27 (0, 0))
  cell : ∃ v, wr.heap[c0]? = some (.cells #[.int .i64 n, v] 27 (0, 0)) ∧ wr.ownsRow w.heap.size 9 1 v gs.length (gs.map Value.string)
/-- Where the reading stands. -/
def Stands (T : Option (List (List UInt8))) (B0 : Nat) (rest : ByteArray) (more : Bool) (er : Value) (gs : List ByteArray) : Prop :=
  (er = .nilIface ∧ more = true ∧ gs.length + rest.size ≤ B0 ∧ (tailB (bytesOf gs)).length + 2 * rest.size ≤ 2 * B0 ∧ ∃ f, rest.data.toList.length < f ∧ T = (groups f rest.data.toList).map (bytesOf gs ++ ·)) ∨
  (er = .nilIface ∧ more = false ∧ (tailB (bytesOf gs)).length ≤ 2 * B0 + 1 ∧ T = some (bytesOf gs)) ∨
  (T = none ∧ ∃ t v, er = .iface t v)
theorem own_below {w w' : World} {base : Nat} {e : TypeId} {size : Nat} {v : Value} {n : Nat} {xs : List Value} (h : w.ownsRow base e size v n xs) (hb : Below w.heap.size w w') : w'.ownsRow base e size v n xs := by
  obtain ⟨h1, h2⟩ := h
  refine ⟨h1, ?_⟩
  rcases h2 with h2 | ⟨g, cap, cur, h2, h3, h4, h5⟩
  · exact .inl h2
  · have hlt : g < w.heap.size := (Array.getElem?_eq_some_iff.1 h4).1
    exact .inr ⟨g, cap, cur, h2, h3, (hb.block g hlt).trans h4, h5⟩
theorem own_form {w : World} {base : Nat} {e : TypeId} {size : Nat} {v : Value} {n : Nat} {xs : List Value} (h : w.ownsRow base e size v n xs) : ∃ a m c, v = .slice a m c := by
  rcases h.2 with ⟨h2, _⟩ | ⟨g, cap, cur, h2, _⟩
  · exact ⟨_, _, _, h2⟩
  · exact ⟨_, _, _, h2⟩
theorem own_ne {w : World} {B : Nat} {e : TypeId} {v : Value} {n : Nat} {xs : List Value} (h : w.ownsRow B e 1 v n xs) {b : Nat} {cs : Array Value} {t : TypeId} {fz : Nat × Nat} (hb : w.heap[b]? = some (.cells cs t fz)) (ht : t ≠ e) : v.ownBlock ≠ some b := by
  intro hv
  obtain ⟨c, fz', hc⟩ := Lib.ownsRow_kind h b hv
  rw [hb] at hc
  cases hc
  exact ht rfl
theorem Held.below {w wr w' : World} {c0 : Nat} {n : Int} {gs : List ByteArray} (h : Held w wr c0 n gs) (hb : Below wr.heap.size wr w') : Held w w' c0 n gs := by
  obtain ⟨v, h1, h2⟩ := h.cell
  have l1 : w.heap.size < wr.heap.size := (Array.getElem?_eq_some_iff.1 h.res).1
  have l2 : c0 < wr.heap.size := (Array.getElem?_eq_some_iff.1 h1).1
  exact ⟨h.bel.trans (hb.mono h.bel.size), h.low, (hb.block _ l1).trans h.res, v, (hb.block _ l2).trans h1, own_below h2 hb⟩
theorem own_strs {w : World} {base : Nat} {v : Value} {gs : List ByteArray} (h : w.ownsRow base 9 1 v gs.length (gs.map Value.string)) : Strs w v gs := by
  obtain ⟨k1, k2⟩ := h
  rcases k2 with ⟨rfl, h0⟩ | ⟨g, cap, cur, rfl, k3, k4, k5, k6, k7, k8⟩
  · exact ⟨0, 0, 0, by omega, .inl ⟨List.eq_nil_of_length_eq_zero h0, none, rfl, fun _ => rfl⟩⟩
  · refine ⟨g, 0, cap, k5, .inr ⟨rfl, (Array.getElem?_eq_some_iff.1 k4).1, fun i x hi => ?_⟩⟩
    have hil := (List.getElem?_eq_some_iff.1 hi).1
    rw [Nat.mul_one] at k8
    have e2 : cur.toList[i]? = some (.string x) := by
      have := congrArg (·[i]?) k8
      simp only [List.getElem?_map, hi, Option.map_some] at this
      rw [List.getElem?_take_of_lt hil] at this
      exact this
    unfold World.cell?
    simp only [k4, Nat.zero_add]
    simpa using e2
theorem Held.own {w wr : World} {c0 : Nat} {n : Int} {gs : List ByteArray} (h : Held w wr c0 n gs) {v : Value} (hv : wr.heap[c0]? = some (.cells #[.int .i64 n, v] 27 (0, 0))) : wr.ownsRow w.heap.size 9 1 v gs.length (gs.map Value.string) := by
  obtain ⟨v', h1, h2⟩ := h.cell
  rw [hv] at h1
  have e : v = v' := by
    have := Option.some.inj h1
    simp only [Obj.cells.injEq, Array.mk.injEq, List.cons.injEq, and_true, true_and] at this
    exact this
  subst e
  exact h2
/-- A group more. -/
theorem Held.more {w wr w4 : World} {c0 : Nat} {n : Int} {gs : List ByteArray} {g : ByteArray} {v v' : Value} {o : Obj} (h : Held w wr c0 n gs) (hv : wr.heap[c0]? = some (.cells #[.int .i64 n, v] 27 (0, 0))) (hown : wr.ownsRow w.heap.size 9 1 v gs.length (gs.map Value.string))
    (ho : w4.ownsRow w.heap.size 9 1 v' (gs.length + 1) (gs.map Value.string ++ [.string g])) (hg : (wr.alloc o).grownBy w4 v.ownBlock) :
    w4.heap[c0]? = some (.cells #[.int .i64 n, v] 27 (0, 0)) ∧ Held w (w4.setCell ⟨c0, 1, none⟩ v') c0 n (gs ++ [g]) := by
  have l1 : w.heap.size < wr.heap.size := (Array.getElem?_eq_some_iff.1 h.res).1
  have l2 : c0 < wr.heap.size := (Array.getElem?_eq_some_iff.1 hv).1
  have b1 : (wr.alloc o).heap[c0]? = wr.heap[c0]? := Lib.alloc_old wr o c0 l2
  have b2 : (wr.alloc o).heap[w.heap.size]? = wr.heap[w.heap.size]? := Lib.alloc_old wr o _ l1
  have n1 := own_ne hown hv (by decide)
  have n2 := own_ne hown h.res (by decide)
  have c4 : w4.heap[c0]? = some (.cells #[.int .i64 n, v] 27 (0, 0)) := by rw [hg.block c0 (by simp; omega) (fun e => n1 e.symm), b1, hv]
  have r4 : w4.heap[w.heap.size]? = some (.cells #[.int .i64 0, .slice none 0 0] 27 (0, 0)) := by rw [hg.block _ (by simp; omega) (fun e => n2 e.symm), b2, h.res]
  have hlow := h.low
  refine ⟨c4, ⟨?_, h.low, ?_, v', ?_, ?_⟩⟩
  · exact ((h.bel.alloc (by omega) _).grown hg (by simp; omega) (fun k hk => (hown.lt k hk).1)).setCell (p := ⟨c0, 1, none⟩) (by show w.heap.size ≤ c0; omega) _
  · rw [heap_setCell_other _ _ _ _ (by show w.heap.size ≠ c0; omega)]
    exact r4
  · rw [heap_setCell_same w4 c0 1 _ _ v' c4]
    rfl
  · have := ownsRow_setCell_other ho (a := ⟨c0, 1, none⟩) (own_ne ho c4 (by decide)) v'
    simpa using this
/-- How much is left. -/
def left (r m er : Value) : Nat := match m, er, r with
  | .bool true, .nilIface, .string s => s.size + 1
  | _, _, _ => 0

/-- What is told behind the groups. -/
def fin (l : List UInt8) (n : Int) : Option (List (List UInt8)) → Option (Int × List (List UInt8))
  | some gs => if nameB n gs = l then some (n, gs) else none
  | none => none

set_option maxHeartbeats 8000000 in
set_option maxRecDepth 1000000 in
theorem parse_core (s : ByteArray) (hs : s.size ≤ 16777216) (w : World) (hG : Globs w) (n : Int) (hn : -9223372036854775808 ≤ n ∧ n ≤ 9223372036854775807) (T T0 : Option (List (List UInt8)))
    (hT0 : T0 = if (Lib.cut s.data.toList [44]).2.2 then groups ((Lib.cut s.data.toList [44]).2.1.length + 1) (Lib.cut s.data.toList [44]).2.1 else some []) (hR : (Lib.cut s.data.toList [44]).2.1.length ≤ s.size)
    (hpi : ∀ (D : ByteArray), D.data.toList = (Lib.cut s.data.toList [44]).1 → ∀ w1, Globs w1 → Calls Tryz.prog 20 #[.string D, .int .i64 10, .int .i64 64] w1 fun e w' => ∃ er, e = .returned (.tuple #[.int .i64 n, er]) ∧ Below w1.heap.size w1 w' ∧ ErOk er T T0)
    (hP : parseB s.data.toList = fin s.data.toList n T) :
    Calls Tryz.prog 6 #[.string s] w (ParsePost s w) := by
  have HG := Lib.hid hG
  have HPI := Lib.hid hpi
  have HP := Lib.hid hP
  have HT0 := Lib.hid hT0
  have HR := Lib.hid hR
  clear hG hpi hP hT0 hR
  obtain ⟨M, hM⟩ : ∃ M, (Lib.cut s.data.toList [44]).2.2 = M := ⟨_, rfl⟩
  have HM := Lib.hid hM
  clear hM
  go_enter Tryz.func6, Tryz.ntmps6
  go_wp2_with (go_at_call 19; refine (cut_any s (by omega) _ (Globs.below HG.out ((Below.refl _ w).alloc (Nat.le_refl _) _))).mono ?_)
  rintro e w1 ⟨D, R, rfl, hD, hR1, hb1⟩
  rw [HM.out]
  have hb01 : Below w.heap.size w w1 := ((Below.refl _ w).alloc (Nat.le_refl _) _).trans (hb1.mono (by simp))
  have hres1 : w1.heap[w.heap.size]? = some (.cells #[.int .i64 0, .slice none 0 0] 27 (0, 0)) := by
    rw [hb1.block _ (by simp)]
    exact alloc_new _ _
  have hz1 : w.heap.size + 1 ≤ w1.heap.size := by have := hb1.size; simpa using this
  have HD := Lib.hid hD
  have HR1 := Lib.hid hR1
  have HB1 := Lib.hid hb01
  have HS1 := Lib.hid hres1
  clear hD hR1 hb1 hb01 hres1
  go_wp2_with (go_at_call 20; refine (HPI.out D HD.out w1 (Globs.below HG.out HB1.out)).mono ?_)
  rintro e w2 ⟨er, rfl, hb2, her⟩
  have HE := Lib.hid her
  have HB2 := Lib.hid (HB1.out.trans (hb2.mono (by omega)))
  have hz2 : w.heap.size + 1 ≤ w2.heap.size := by have := hb2.size; omega
  have HS2 : Hid (w2.heap[w.heap.size]? = some (.cells #[.int .i64 0, .slice none 0 0] 27 (0, 0))) := Lib.hid ((hb2.block _ (by omega)).trans HS1.out)
  clear her hb2
  go_wp2
  go_loopw [5, 6, 8] (fun rv mv ev wr => ∃ (rest : ByteArray) (more : Bool) (er : Value) (gs : List ByteArray), rv = .string rest ∧ mv = .bool more ∧ ev = er ∧ rest.size ≤ s.size ∧ Hid (Stands T s.size rest more er gs) ∧ Hid (Held w wr w2.heap.size n gs)) (fun rv mv ev _ => left rv mv ev)
  case atStart =>
    have hRs : R.size ≤ s.size := by rw [size_list, HR1.out]; exact HR.out
    refine ⟨R, M, er, [], rfl, rfl, rfl, hRs, Lib.hid ?_, Lib.hid ⟨(HB2.out).alloc (by have := HB2.out.size; omega) _, by omega, ?_, .slice none 0 0, alloc_new _ _, World.ownsRow_nil _ _ _ _⟩⟩
    · rcases HE.out with ⟨h1, h2⟩ | ⟨h1, h2⟩
      · cases M with
        | true =>
          refine .inl ⟨h1, rfl, by simpa using hRs, by simp [tailB]; omega, R.data.toList.length + 1, by omega, ?_⟩
          rw [h2, HT0.out, HM.out, HR1.out, if_pos rfl]
          simp
        | false =>
          refine .inr (.inl ⟨h1, rfl, by simp [tailB], ?_⟩)
          rw [h2, HT0.out, HM.out]
          rfl
      · exact .inr (.inr ⟨h1, h2⟩)
    · rw [Lib.alloc_old _ _ _ (by omega)]
      exact HS2.out
  case round =>
    obtain ⟨rest, more, er', gs, rfl, rfl, rfl, hrs, HST, HH⟩ := hrel
    rcases HST.out with ⟨rfl, rfl, k1, k2, f, k3, k4⟩ | ⟨rfl, rfl, k2, k4⟩ | ⟨k4, t, v, rfl⟩
    · -- a group is to be read
      have hrl : rest.size ≤ 35184372088832 := by omega
      have HK4 := Lib.hid k4
      have HK2 := Lib.hid k2
      have HK3 := Lib.hid k3
      have hgl : gs.length ≤ 16777216 := by omega
      clear k4 k3 k2
      go_wp2_with (go_at_call 21; refine (unescape_any rest _ hrl).mono ?_)
      rintro e w3 ⟨hb3, hm⟩
      obtain ⟨G, K, er2, rfl, hcase⟩ : ∃ (G : ByteArray) (K : Nat) (er2 : Value), e = .returned (.tuple #[.string G, .int .i64 K, er2]) ∧ ((er2 = .nilIface ∧ unesc rest.data.toList = some (G.data.toList, K)) ∨ (unesc rest.data.toList = none ∧ ∃ v, er2 = .iface 88 v)) := by
        cases hu : unesc rest.data.toList with
        | none =>
          rw [hu] at hm
          obtain ⟨ve, he⟩ := hm
          exact ⟨_, 0, _, he, .inr ⟨rfl, ve, rfl⟩⟩
        | some x =>
          rw [hu] at hm
          exact ⟨_, _, _, hm, .inl ⟨rfl, rfl⟩⟩
      have HC := Lib.hid hcase
      have HH3 := Lib.hid (HH.out.below hb3)
      clear hcase hm
      obtain ⟨v, hv3, hown3⟩ := HH3.out.cell
      obtain ⟨va, vn, vc, rfl⟩ := own_form hown3
      have c1c : w3.cell? ⟨w2.heap.size, 1, none⟩ = some (.slice va vn vc) := by rw [Lib.cell_of_heap hv3]; rfl
      have hw3 : w.heap.size ≤ w3.heap.size := HH3.out.bel.size
      obtain ⟨i0, hi, hz0, hz1, hz2⟩ := info_parts (P := Tryz.prog) (e := 9) (z := .string ByteArray.empty) (size := 1) (bytes := 16) (by kernel_rfl)
      clear hb3
      go_wp2_with (at_builtin; refine wpList_append_own _ rfl _ _ 22 rfl w.heap.size 9 i0 (.string ByteArray.empty) 1 16 Tryz.underlying22 hi hz0 hz1 hz2 rfl (by decide) _ _ _ rfl (hown3.alloc _) ⟨w3.heap.size, 0, none⟩ 1 1 [.string G] rfl rfl (cell_one_new _ _ _) (fun x hx => by simp at hx; subst hx; rfl) (by unfold maxLen; omega) (by omega) (by simp; omega) ?_)
      intro v' w4 hown' hgrow _
      obtain ⟨hc4, hh4⟩ := HH3.out.more hv3 hown3 hown' hgrow
      obtain ⟨vb, vm, vd, rfl⟩ := own_form hown'
      have f1c : w4.frozen? ⟨w2.heap.size, 1, none⟩ = false := Lib.frozen_of_heap hc4 1
      have d1c : w4.cell? ⟨w2.heap.size, 1, none⟩ = some (.slice va vn vc) := by rw [Lib.cell_of_heap hc4]; rfl
      have HH4 := Lib.hid hh4
      clear hc4 hh4 hown' hgrow hv3 hown3 c1c hi hz0 hz1 hz2
      rcases HC.out with ⟨rfl, hu⟩ | ⟨hu, ve, rfl⟩
      · have hkl := unesc_le _ _ (Nat.le_refl _) _ _ hu
        have hgk := unesc_len _ _ (Nat.le_refl _) _ _ hu
        rw [← size_list] at hkl
        have hes := esc_len G.data.toList
        have hx : (rest.extract K rest.size).data.toList = rest.data.toList.drop K := ext_drop rest K
        have htl : tailB (bytesOf (gs ++ [G])) = tailB (bytesOf gs) ++ (44 :: esc G.data.toList) := by rw [← tail_snoc]; simp
        have HX := Lib.hid hx
        have HU := Lib.hid hu
        have HTL := Lib.hid htl
        obtain ⟨f', rfl⟩ : ∃ f', f = f' + 1 := ⟨f - 1, by have := HK3.out; omega⟩
        clear hx hu htl
        by_cases hd : ∃ r, rest.data.toList.drop K = 44 :: r
        · obtain ⟨r, hd⟩ := hd
          have HD := Lib.hid hd
          have hlr : K + 1 + r.length = rest.size := by
            have := congrArg List.length hd
            rw [List.length_drop, ← size_list, List.length_cons] at this
            omega
          clear hd
          go_wp2_with (go_at_call 22; refine (pre_yes (rest.extract K rest.size) r (HX.out.trans HD.out) _).mono ?_)
          rintro e w' R2 rfl hR2 rfl
          have HR2 := Lib.hid hR2
          have hr2 : R2.size = r.length := by rw [size_list, hR2]
          clear hR2
          go_wp2
          go_roundw
          case rel =>
            refine ⟨R2, true, .nilIface, gs ++ [G], rfl, rfl, rfl, by omega, Lib.hid (.inl ⟨rfl, rfl, by simp; omega, ?_, f', ?_, ?_⟩), HH4⟩
            · rw [HTL.out, List.length_append, List.length_cons]
              have := HK2.out
              omega
            · rw [HR2.out]; have := HK3.out; rw [← size_list] at this; omega
            · rw [HK4.out, groups, HU.out]
              simp only [HD.out, beq_self_eq_true, if_true, Option.map_map, HR2.out]
              congr 1
              funext y
              simp
          case measure =>
            simp [left]; omega
        · have hnc : rest.data.toList.drop K = [] ∨ ∃ c r, rest.data.toList.drop K = c :: r ∧ c ≠ 44 := by
            cases hdd : rest.data.toList.drop K with
            | nil => exact .inl rfl
            | cons c r => exact .inr ⟨c, r, rfl, fun e => hd ⟨r, by rw [hdd, e]⟩⟩
          have HNC := Lib.hid hnc
          clear hnc hd
          go_wp2_with (go_at_call 22; refine (pre_no (rest.extract K rest.size) (by rw [HX.out]; exact HNC.out) _).mono ?_)
          rintro e w' R2 rfl hR2 rfl
          have hr2 : R2.size ≤ s.size := by omega
          clear hR2
          go_wp2
          go_roundw
          case rel =>
            refine ⟨R2, false, .nilIface, gs ++ [G], rfl, rfl, rfl, ?_, Lib.hid (.inr (.inl ⟨rfl, rfl, ?_, ?_⟩)), HH4⟩
            · exact hr2
            · rw [HTL.out, List.length_append, List.length_cons]
              have := HK2.out
              omega
            · rw [HK4.out, groups, HU.out]
              rcases HNC.out with h | ⟨c, r, h, hc⟩
              · simp [h]
              · have hcb : (c == 44) = false := by simpa using hc
                simp [h, hcb, hc]
          case measure => simp [left]
      · have HU := Lib.hid hu
        clear hu
        go_wp2
        go_roundw
        case rel =>
          refine ⟨rest, true, .iface 88 ve, gs ++ [G], rfl, rfl, rfl, hrs, Lib.hid (.inr (.inr ⟨?_, _, _, rfl⟩)), HH4⟩
          obtain ⟨f', rfl⟩ : ∃ f', f = f' + 1 := ⟨f - 1, by have := HK3.out; omega⟩
          rw [HK4.out, groups, HU.out]
          rfl
        case measure => simp [left]
    · -- all are read
      obtain ⟨v, hv, hown⟩ := HH.out.cell
      obtain ⟨va, vn, vc, rfl⟩ := own_form hown
      have hst := own_strs hown
      have c0c : wr.cell? ⟨w2.heap.size, 0, none⟩ = some (.int .i64 n) := by rw [Lib.cell_of_heap hv]; rfl
      have c1c : wr.cell? ⟨w2.heap.size, 1, none⟩ = some (.slice va vn vc) := by rw [Lib.cell_of_heap hv]; rfl
      have hnl : (nameB n (bytesOf gs)).length ≤ 35184372088832 := by
        unfold nameB
        have := itoa_len n hn.1 hn.2
        rw [List.length_append]
        omega
      have HV := Lib.hid hv
      have HNL := Lib.hid hnl
      have HST := Lib.hid hst
      have HK := Lib.hid k4
      clear hv hown hnl hst k4 k2
      go_wp2_with (go_at_call 11; refine (name_any n hn.1 hn.2 (.slice va vn vc) gs _ (Globs.below HG.out HH.out.bel) HST.out HNL.out).mono ?_)
      rintro e w3 ⟨Sn, rfl, hSn, hb3⟩
      have HS3 := Lib.hid hSn
      have HH3 := Lib.hid (HH.out.below hb3)
      have hv3 : w3.heap[w2.heap.size]? = some (.cells #[.int .i64 n, .slice va vn vc] 27 (0, 0)) := (hb3.block _ (Array.getElem?_eq_some_iff.1 HV.out).1).trans HV.out
      have d0c : w3.cell? ⟨w2.heap.size, 0, none⟩ = some (.int .i64 n) := by rw [Lib.cell_of_heap hv3]; rfl
      have d1c : w3.cell? ⟨w2.heap.size, 1, none⟩ = some (.slice va vn vc) := by rw [Lib.cell_of_heap hv3]; rfl
      have r0c : w3.cell? ⟨w.heap.size, 0, none⟩ = some (.int .i64 0) := by rw [Lib.cell_of_heap HH3.out.res]; rfl
      have r1c : w3.cell? ⟨w.heap.size, 1, none⟩ = some (.slice none 0 0) := by rw [Lib.cell_of_heap HH3.out.res]; rfl
      have f0c : w3.frozen? ⟨w.heap.size, 0, none⟩ = false := Lib.frozen_of_heap HH3.out.res 0
      have f1c : w3.frozen? ⟨w.heap.size, 1, none⟩ = false := Lib.frozen_of_heap HH3.out.res 1
      have HV3 := Lib.hid hv3
      clear hSn hb3 hv3 c0c c1c
      by_cases heq : Sn.data.toList = s.data.toList
      · have hS : Sn = s := by
          apply ByteArray.ext
          exact Array.ext' heq
        subst hS
        clear heq
        go_wp2
        refine bodyPost_ret (v := .tuple #[.agg #[.int .i64 n, .slice va vn vc], .nilIface]) (by simp [results, Tryz.results6, go_sem, r0c, r1c]) rfl ?_
        unfold ParsePost
        rw [HP.out, HK.out]
        have hf : fin Sn.data.toList n (some (bytesOf gs)) = some (n, bytesOf gs) := if_pos HS3.out.symm
        rw [hf]
        have ho := HH3.out.own HV3.out
        have n2 := own_ne ho HH3.out.res (by decide)
        have ho2 := ownsRow_setCell_other (ownsRow_setCell_other ho (a := ⟨w.heap.size, 0, none⟩) n2 (.int .i64 n)) (a := ⟨w.heap.size, 1, none⟩) n2 (.slice va vn vc)
        exact ⟨(HH3.out.bel.setCell (p := ⟨w.heap.size, 0, none⟩) (Nat.le_refl _) _).setCell (p := ⟨w.heap.size, 1, none⟩) (Nat.le_refl _) _, _, gs, rfl, own_strs ho2, rfl⟩
      · have HN := Lib.hid heq
        have hne : (Sn.toList == s.toList) = false := by
          rw [ByteArray.toList_eq, ByteArray.toList_eq]
          simpa using heq
        clear heq
        go_wp2_with (go_at_call 13; refine (new_any _).mono ?_)
        rintro e w' ⟨rfl, rfl⟩
        go_wp2
        refine bodyPost_ret (v := .tuple #[.agg #[.int .i64 0, .slice none 0 0], .iface 32 (.int .i64 31)]) (by simp [results, Tryz.results6, go_sem, r0c, r1c]) rfl ?_
        unfold ParsePost
        rw [HP.out, HK.out]
        have hf : fin s.data.toList n (some (bytesOf gs)) = none := if_neg fun e => HN.out (HS3.out.trans e)
        rw [hf]
        exact ⟨(HH3.out.bel.setCell (p := ⟨w.heap.size, 0, none⟩) (Nat.le_refl _) _).setCell (p := ⟨w.heap.size, 1, none⟩) (Nat.le_refl _) _, rfl⟩
    · have HK := Lib.hid k4
      have r0c : wr.cell? ⟨w.heap.size, 0, none⟩ = some (.int .i64 0) := by rw [Lib.cell_of_heap HH.out.res]; rfl
      have r1c : wr.cell? ⟨w.heap.size, 1, none⟩ = some (.slice none 0 0) := by rw [Lib.cell_of_heap HH.out.res]; rfl
      have f0c : wr.frozen? ⟨w.heap.size, 0, none⟩ = false := Lib.frozen_of_heap HH.out.res 0
      have f1c : wr.frozen? ⟨w.heap.size, 1, none⟩ = false := Lib.frozen_of_heap HH.out.res 1
      clear k4
      cases more with
      | true =>
        go_wp2_with (go_at_call 13; refine (new_any _).mono ?_)
        rintro e w' ⟨rfl, rfl⟩
        go_wp2
        refine bodyPost_ret (v := .tuple #[.agg #[.int .i64 0, .slice none 0 0], .iface 32 (.int .i64 31)]) (by simp [results, Tryz.results6, go_sem, r0c, r1c]) rfl ?_
        unfold ParsePost
        rw [HP.out, HK.out]
        exact ⟨(HH.out.bel.setCell (p := ⟨w.heap.size, 0, none⟩) (Nat.le_refl _) _).setCell (p := ⟨w.heap.size, 1, none⟩) (Nat.le_refl _) _, rfl⟩
      | false =>
        go_wp2_with (go_at_call 13; refine (new_any _).mono ?_)
        rintro e w' ⟨rfl, rfl⟩
        go_wp2
        refine bodyPost_ret (v := .tuple #[.agg #[.int .i64 0, .slice none 0 0], .iface 32 (.int .i64 31)]) (by simp [results, Tryz.results6, go_sem, r0c, r1c]) rfl ?_
        unfold ParsePost
        rw [HP.out, HK.out]
        exact ⟨(HH.out.bel.setCell (p := ⟨w.heap.size, 0, none⟩) (Nat.le_refl _) _).setCell (p := ⟨w.heap.size, 1, none⟩) (Nat.le_refl _) _, rfl⟩

theorem cut_len (l : List UInt8) : (Lib.cut l [44]).1.length ≤ l.length ∧ (Lib.cut l [44]).2.1.length ≤ l.length := by
  unfold Lib.cut
  split
  · simp only [List.length_take, List.length_drop]
    omega
  · exact ⟨Nat.le_refl _, Nat.zero_le _⟩
theorem sat_bounds (l : List UInt8) : -9223372036854775808 ≤ Lib.intSat 64 l ∧ Lib.intSat 64 l ≤ 9223372036854775807 := by
  have e : (2 : Nat) ^ (64 - 1) = 9223372036854775808 := by decide
  unfold Lib.intSat
  simp only [e]
  split <;> omega

/-- cell.Parse: WHAT IT GIVES. -/
theorem parse_any (s : ByteArray) (hs : s.size ≤ 16777216) (w : World) (hG : Globs w) : Calls Tryz.prog 6 #[.string s] w (ParsePost s w) := by
  obtain ⟨l1, l2⟩ := cut_len s.data.toList
  rw [← size_list] at l1 l2
  have hd : ∀ D : ByteArray, D.data.toList = (Lib.cut s.data.toList [44]).1 → D.size ≤ 281474976710656 := fun D h => by rw [size_list, h]; omega
  by_cases hp : ∃ n, Lib.parseIntB 64 (Lib.cut s.data.toList [44]).1 = .ok n
  · obtain ⟨n, hp⟩ := hp
    have hb := Lib.parseIntB_bounds hp
    have e : (2 : Nat) ^ (64 - 1) = 9223372036854775808 := by decide
    rw [e] at hb
    refine parse_core s hs w hG n (by omega) _ _ rfl l2 (fun D hD w1 h1 => int_ok D (hd D hD) n (by rw [hD]; exact hp) _ w1 h1) ?_
    unfold parseB
    rw [hp]
    simp only
    split
    · rename_i gs hg
      rw [hg]
      rfl
    · rename_i hg
      rw [hg]
      rfl
  · obtain ⟨n, h1, h2, h3⟩ : ∃ n : Int, -9223372036854775808 ≤ n ∧ n ≤ 9223372036854775807 ∧ ∀ (D : ByteArray), D.data.toList = (Lib.cut s.data.toList [44]).1 → ∀ w1, Globs w1 → Calls Tryz.prog 20 #[.string D, .int .i64 10, .int .i64 64] w1 fun e w' => ∃ er, e = .returned (.tuple #[.int .i64 n, er]) ∧ Below w1.heap.size w1 w' ∧ ErOk er none (if (Lib.cut s.data.toList [44]).2.2 then groups ((Lib.cut s.data.toList [44]).2.1.length + 1) (Lib.cut s.data.toList [44]).2.1 else some []) := by
      cases hq : Lib.parseIntB 64 (Lib.cut s.data.toList [44]).1 with
      | ok n => exact (hp ⟨n, hq⟩).elim
      | range =>
        refine ⟨Lib.intSat 64 (Lib.cut s.data.toList [44]).1, (sat_bounds _).1, (sat_bounds _).2, fun D hD w1 hG1 => ?_⟩
        obtain ⟨tp, p, hv⟩ := hG1.rng
        exact (Tryz.strconv_ParseInt_10_at64_range_var D (hd D hD) (by rw [hD]; exact hq) tp p w1 hv).mono fun e w' ⟨N, he, _, _, hb⟩ => by rw [← hD]; exact ⟨_, he, hb, .inr ⟨rfl, _, _, rfl⟩⟩
      | _ =>
        refine ⟨0, by omega, by omega, fun D hD w1 hG1 => ?_⟩
        obtain ⟨tp, p, hv⟩ := hG1.syn
        exact (Tryz.strconv_ParseInt_10_at64_syntax_var D (hd D hD) (by rw [hD]; exact hq) tp p w1 hv).mono fun e w' ⟨N, he, _, _, hb⟩ => ⟨_, he, hb, .inr ⟨rfl, _, _, rfl⟩⟩
    refine parse_core s hs w hG n ⟨h1, h2⟩ none _ rfl l2 h3 ?_
    unfold parseB
    split
    · rename_i n hn
      exact (hp ⟨n, hn⟩).elim
    · rfl
#print axioms parse_any
end Go.Proofs.YthfkednlgehchaaGreatDoor.Parse
