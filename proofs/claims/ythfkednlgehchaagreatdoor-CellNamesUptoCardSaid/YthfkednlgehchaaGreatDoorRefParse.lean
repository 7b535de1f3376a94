/- weirref23.Parse: its contract. -/
import Derived.Test.YthfkednlgehchaaGreatDoorParse2
import Derived.Test.YthfkednlgehchaaGreatDoorRefName
import Derived.Test.YthfkednlgehchaaGreatDoorRefPure
import Derived.Laws.DeepStrings4
set_option linter.unusedVariables false
set_option linter.unusedSimpArgs false
namespace Go.Proofs.YthfkednlgehchaaGreatDoor.RefParse
open Go Go.RowKit Go.Proofs Go.Am Go.Proofs.YthfkednlgehchaaGreatDoor.Esc Go.Proofs.YthfkednlgehchaaGreatDoor.Base Go.Proofs.YthfkednlgehchaaGreatDoor.Name Go.Joins Go.Proofs.YthfkednlgehchaaGreatDoor.RefEsc
open Go.Proofs.YthfkednlgehchaaGreatDoor.Parse (own_below own_form own_ne own_strs unesc_len itoa_len sat_bounds alloc_new ext_drop)

theorem new_any (w : World) : Calls Tryz.prog 16 #[.int .i64 31] w fun e w' => e = .returned (badOf 31) ∧ w' = w.alloc (.cells #[.int .i64 31, .int .i64 0, .int .i64 0, .bool false, .bool false] 34) := by
  go_enter Tryz.func16, Tryz.ntmps16
  go_wp2
  refine bodyPost_ret (v := badOf 31) (by simp [results, Tryz.results16, go_sem]) rfl ?_
  exact ⟨rfl, rfl⟩

/-- ParseInt, its error left aside. -/
theorem int_or (D : ByteArray) (hd : D.size ≤ 281474976710656) : ∃ m : Int, (-9223372036854775808 ≤ m ∧ m ≤ 9223372036854775807) ∧ (∀ n, Lib.parseIntB 64 D.data.toList = .ok n → m = n) ∧
    ∀ w1, Globs w1 → Calls Tryz.prog 20 #[.string D, .int .i64 10, .int .i64 64] w1 fun e w' => ∃ er, e = .returned (.tuple #[.int .i64 m, er]) ∧ Below w1.heap.size w1 w' := by
  cases hq : Lib.parseIntB 64 D.data.toList with
  | ok n =>
    have hb := Lib.parseIntB_bounds hq
    have e : (2 : Nat) ^ (64 - 1) = 9223372036854775808 := by decide
    rw [e] at hb
    exact ⟨n, by omega, fun k h => by cases h; rfl, fun w1 h1 => (Parse.int_ok D hd n hq none w1 h1).mono fun e w' ⟨er, he, hb, _⟩ => ⟨er, he, hb⟩⟩
  | range =>
    refine ⟨Lib.intSat 64 D.data.toList, sat_bounds _, fun k h => (by cases h), fun w1 hG1 => ?_⟩
    obtain ⟨tp, p, hv⟩ := hG1.rng
    exact (Tryz.strconv_ParseInt_10_at64_range_var D hd hq tp p w1 hv).mono fun e w' ⟨N, he, _, _, hb⟩ => ⟨_, he, hb⟩
  | _ =>
    refine ⟨0, by omega, fun k h => (by cases h), fun w1 hG1 => ?_⟩
    obtain ⟨tp, p, hv⟩ := hG1.syn
    exact (Tryz.strconv_ParseInt_10_at64_syntax_var D hd hq tp p w1 hv).mono fun e w' ⟨N, he, _, _, hb⟩ => ⟨_, he, hb⟩

/-- What Parse gives. -/
def ParsePost (s : ByteArray) (w : World) (e : Ending) (w' : World) : Prop := Below w.heap.size w w' ∧ match parseB s.data.toList with
  | some x => ∃ sl gs, e = .returned (.tuple #[.agg #[.int .i64 x.1, sl], fine]) ∧ Strs w' sl gs ∧ bytesOf gs = x.2
  | none => e = .returned (.tuple #[.agg #[.int .i64 0, .slice none 0 0], badOf 31])

/-- What lies in memory while the groups are read. -/
structure Held (w wr : World) (c0 : Nat) (n : Int) (gs : List ByteArray) : Prop where
  bel : Below w.heap.size w wr
  low : w.heap.size + 1 < c0
  res : wr.heap[w.heap.size]? = some (.cells #[.int .i64 0, .slice none 0 0] 27 (0, 0))
  bad : wr.heap[w.heap.size + 1]? = some (.cells #[.int .i64 0, .int .i64 0, .int .i64 0, .bool false, .bool false] 34 (0, 0))
  cell : ∃ v, wr.heap[c0]? = some (.cells #[.int .i64 n, v] 27 (0, 0)) ∧ wr.ownsRow w.heap.size 9 1 v gs.length (gs.map Value.string)
theorem Held.below {w wr w' : World} {c0 : Nat} {n : Int} {gs : List ByteArray} (h : Held w wr c0 n gs) (hb : Below wr.heap.size wr w') : Held w w' c0 n gs := by
  obtain ⟨v, h1, h2⟩ := h.cell
  have l1 : w.heap.size < wr.heap.size := (Array.getElem?_eq_some_iff.1 h.res).1
  have l3 : w.heap.size + 1 < wr.heap.size := (Array.getElem?_eq_some_iff.1 h.bad).1
  have l2 : c0 < wr.heap.size := (Array.getElem?_eq_some_iff.1 h1).1
  exact ⟨h.bel.trans (hb.mono h.bel.size), h.low, (hb.block _ l1).trans h.res, (hb.block _ l3).trans h.bad, v, (hb.block _ l2).trans h1, own_below h2 hb⟩
theorem Held.own {w wr : World} {c0 : Nat} {n : Int} {gs : List ByteArray} (h : Held w wr c0 n gs) {v : Value} (hv : wr.heap[c0]? = some (.cells #[.int .i64 n, v] 27 (0, 0))) : wr.ownsRow w.heap.size 9 1 v gs.length (gs.map Value.string) := by
  obtain ⟨v', h1, h2⟩ := h.cell
  rw [hv] at h1
  have e : v = v' := by
    have := Option.some.inj h1
    simp only [Obj.cells.injEq, Array.mk.injEq, List.cons.injEq, and_true, true_and] at this
    exact this
  subst e
  exact h2
/-- A group more. -/
theorem Held.more {w wr w4 : World} {c0 : Nat} {n : Int} {gs : List ByteArray} {g : ByteArray} {v v' : Value} {o : Obj} (h : Held w wr c0 n gs) (hv : wr.heap[c0]? = some (.cells #[.int .i64 n, v] 27 (0, 0))) (hown : wr.ownsRow w.heap.size 9 1 v gs.length (gs.map Value.string))
    (ho : w4.ownsRow w.heap.size 9 1 v' (gs.length + 1) (gs.map Value.string ++ [.string g])) (hg : (wr.alloc o).grownBy w4 v.ownBlock) :
    w4.heap[c0]? = some (.cells #[.int .i64 n, v] 27 (0, 0)) ∧ Held w (w4.setCell ⟨c0, 1, none⟩ v') c0 n (gs ++ [g]) := by
  have l1 : w.heap.size < wr.heap.size := (Array.getElem?_eq_some_iff.1 h.res).1
  have l3 : w.heap.size + 1 < wr.heap.size := (Array.getElem?_eq_some_iff.1 h.bad).1
  have l2 : c0 < wr.heap.size := (Array.getElem?_eq_some_iff.1 hv).1
  have b1 : (wr.alloc o).heap[c0]? = wr.heap[c0]? := Lib.alloc_old wr o c0 l2
  have b2 : (wr.alloc o).heap[w.heap.size]? = wr.heap[w.heap.size]? := Lib.alloc_old wr o _ l1
  have b3 : (wr.alloc o).heap[w.heap.size + 1]? = wr.heap[w.heap.size + 1]? := Lib.alloc_old wr o _ l3
  have n1 := own_ne hown hv (by decide)
  have n2 := own_ne hown h.res (by decide)
  have n3 := own_ne hown h.bad (by decide)
  have c4 : w4.heap[c0]? = some (.cells #[.int .i64 n, v] 27 (0, 0)) := by rw [hg.block c0 (by simp; omega) (fun e => n1 e.symm), b1, hv]
  have r4 : w4.heap[w.heap.size]? = some (.cells #[.int .i64 0, .slice none 0 0] 27 (0, 0)) := by rw [hg.block _ (by simp; omega) (fun e => n2 e.symm), b2, h.res]
  have r5 : w4.heap[w.heap.size + 1]? = some (.cells #[.int .i64 0, .int .i64 0, .int .i64 0, .bool false, .bool false] 34 (0, 0)) := by rw [hg.block _ (by simp; omega) (fun e => n3 e.symm), b3, h.bad]
  have hlow := h.low
  refine ⟨c4, ⟨?_, h.low, ?_, ?_, v', ?_, ?_⟩⟩
  · exact ((h.bel.alloc (by omega) _).grown hg (by simp; omega) (fun k hk => (hown.lt k hk).1)).setCell (p := ⟨c0, 1, none⟩) (by show w.heap.size ≤ c0; omega) _
  · rw [heap_setCell_other _ _ _ _ (by show w.heap.size ≠ c0; omega)]
    exact r4
  · rw [heap_setCell_other _ _ _ _ (by show w.heap.size + 1 ≠ c0; omega)]
    exact r5
  · rw [heap_setCell_same w4 c0 1 _ _ v' c4]
    rfl
  · have := ownsRow_setCell_other ho (a := ⟨c0, 1, none⟩) (own_ne ho c4 (by decide)) v'
    simpa using this

/-- Where the reading stands. -/
def Stands (T : Option (List (List UInt8) × List UInt8)) (s : ByteArray) (k : Nat) (gs : List ByteArray) : Prop :=
  gs.length ≤ k ∧ (tailB (bytesOf gs)).length ≤ 2 * k ∧ ∃ f, s.size - k < f ∧ T = (readR f (s.data.toList.drop k)).map fun x => (bytesOf gs ++ x.1, x.2)
theorem Stands.more {T : Option (List (List UInt8) × List UInt8)} {s : ByteArray} {k : Nat} {gs : List ByteArray} (h : Stands T s k gs) (hlt : k < s.size) (hc : s[k] = 44) {g : List UInt8} {K : Nat} (hu : unesc (s.data.toList.drop (k + 1)) = some (g, K)) :
    Stands T s (k + (1 + K)) (gs ++ [⟨g.toArray⟩]) ∧ k + (1 + K) ≤ s.size := by
  obtain ⟨h1, h2, f, h3, h4⟩ := h
  have hkl := unesc_le _ _ (Nat.le_refl _) _ _ hu
  have hgk := unesc_len _ _ (Nat.le_refl _) _ _ hu
  have hes := esc_len g
  rw [List.length_drop, ← size_list] at hkl
  obtain ⟨f', rfl⟩ : ∃ f', f = f' + 1 := ⟨f - 1, by omega⟩
  refine ⟨⟨by simp; omega, ?_, f', by omega, ?_⟩, by omega⟩
  · have htl : tailB (bytesOf (gs ++ [⟨g.toArray⟩])) = tailB (bytesOf gs) ++ (44 :: esc g) := by rw [← tail_snoc]; simp
    rw [htl, List.length_append, List.length_cons]
    omega
  · rw [h4, drop_cons s k hlt, hc, readR_some f' hu, List.drop_drop, Option.map_map, show k + 1 + K = k + (1 + K) from by omega]
    congr 1
    funext y
    simp
theorem Stands.bad {T : Option (List (List UInt8) × List UInt8)} {s : ByteArray} {k : Nat} {gs : List ByteArray} (h : Stands T s k gs) (hlt : k < s.size) (hc : s[k] = 44) (hu : unesc (s.data.toList.drop (k + 1)) = none) : T = none := by
  obtain ⟨h1, h2, f, h3, h4⟩ := h
  obtain ⟨f', rfl⟩ : ∃ f', f = f' + 1 := ⟨f - 1, by omega⟩
  rw [h4, drop_cons s k hlt, hc, readR_none f' hu]
  rfl
theorem Stands.stop {T : Option (List (List UInt8) × List UInt8)} {s : ByteArray} {k : Nat} {gs : List ByteArray} (h : Stands T s k gs) (hlt : k < s.size) (hc : s[k] ≠ 44) (m : Int) : finR s.data.toList m T = none := by
  obtain ⟨h1, h2, f, h3, h4⟩ := h
  obtain ⟨f', rfl⟩ : ∃ f', f = f' + 1 := ⟨f - 1, by omega⟩
  rw [h4, drop_cons s k hlt, readR_other f' _ hc]
  rfl
theorem Stands.fin {T : Option (List (List UInt8) × List UInt8)} {s : ByteArray} {gs : List ByteArray} (h : Stands T s s.size gs) : T = some (bytesOf gs, []) := by
  obtain ⟨h1, h2, f, h3, h4⟩ := h
  obtain ⟨f', rfl⟩ : ∃ f', f = f' + 1 := ⟨f - 1, by omega⟩
  have hd : s.data.toList.drop s.size = [] := List.drop_eq_nil_of_le (by simp)
  rw [h4, hd, readR_nil]
  simp
/-- The result's cells. -/
theorem Held.facts {w wr : World} {c0 : Nat} {n : Int} {gs : List ByteArray} (h : Held w wr c0 n gs) :
    wr.cell? ⟨w.heap.size, 0, none⟩ = some (.int .i64 0) ∧ wr.cell? ⟨w.heap.size, 1, none⟩ = some (.slice none 0 0) ∧ wr.frozen? ⟨w.heap.size, 0, none⟩ = false ∧ wr.frozen? ⟨w.heap.size, 1, none⟩ = false ∧
    wr.cell? ⟨w.heap.size + 1, 0, none⟩ = some (.int .i64 0) ∧ wr.cell? ⟨w.heap.size + 1, 1, none⟩ = some (.int .i64 0) ∧ wr.cell? ⟨w.heap.size + 1, 2, none⟩ = some (.int .i64 0) ∧ wr.cell? ⟨w.heap.size + 1, 3, none⟩ = some (.bool false) ∧ wr.cell? ⟨w.heap.size + 1, 4, none⟩ = some (.bool false) ∧
    wr.frozen? ⟨w.heap.size + 1, 0, none⟩ = false ∧ wr.frozen? ⟨w.heap.size + 1, 1, none⟩ = false ∧ wr.frozen? ⟨w.heap.size + 1, 2, none⟩ = false ∧ wr.frozen? ⟨w.heap.size + 1, 3, none⟩ = false ∧ wr.frozen? ⟨w.heap.size + 1, 4, none⟩ = false := by
  refine ⟨by rw [Lib.cell_of_heap h.res]; rfl, by rw [Lib.cell_of_heap h.res]; rfl, Lib.frozen_of_heap h.res 0, Lib.frozen_of_heap h.res 1, by rw [Lib.cell_of_heap h.bad]; rfl, by rw [Lib.cell_of_heap h.bad]; rfl, by rw [Lib.cell_of_heap h.bad]; rfl, by rw [Lib.cell_of_heap h.bad]; rfl, by rw [Lib.cell_of_heap h.bad]; rfl,
    Lib.frozen_of_heap h.bad 0, Lib.frozen_of_heap h.bad 1, Lib.frozen_of_heap h.bad 2, Lib.frozen_of_heap h.bad 3, Lib.frozen_of_heap h.bad 4⟩
/-- The result's cells are written over: nothing older is touched. -/
theorem Held.ends {w wr : World} {c0 : Nat} {n : Int} {gs : List ByteArray} (h : Held w wr c0 n gs) (v0 v1 u0 u1 u2 u3 u4 : Value) :
    Below w.heap.size w (((((((wr.setCell ⟨w.heap.size, 0, none⟩ v0).setCell ⟨w.heap.size, 1, none⟩ v1).setCell ⟨w.heap.size + 1, 0, none⟩ u0).setCell ⟨w.heap.size + 1, 1, none⟩ u1).setCell ⟨w.heap.size + 1, 2, none⟩ u2).setCell ⟨w.heap.size + 1, 3, none⟩ u3).setCell ⟨w.heap.size + 1, 4, none⟩ u4) := by
  have h0 : w.heap.size ≤ w.heap.size := Nat.le_refl _
  have h1 : w.heap.size ≤ w.heap.size + 1 := by omega
  exact ((((((h.bel.setCell (p := ⟨w.heap.size, 0, none⟩) h0 _).setCell (p := ⟨w.heap.size, 1, none⟩) h0 _).setCell (p := ⟨w.heap.size + 1, 0, none⟩) h1 _).setCell (p := ⟨w.heap.size + 1, 1, none⟩) h1 _).setCell (p := ⟨w.heap.size + 1, 2, none⟩) h1 _).setCell (p := ⟨w.heap.size + 1, 3, none⟩) h1 _).setCell (p := ⟨w.heap.size + 1, 4, none⟩) h1 _
theorem new_below (w : World) : Calls Tryz.prog 16 #[.int .i64 31] w fun e w' => e = .returned (badOf 31) ∧ Below w.heap.size w w' :=
  (new_any w).mono fun e w' ⟨he, hw⟩ => ⟨he, hw ▸ (Below.refl _ w).alloc (Nat.le_refl _) _⟩
theorem post_none {s : ByteArray} {w w' : World} {e : Ending} (hb : Below w.heap.size w w') (hp : parseB s.data.toList = none) (he : e = .returned (.tuple #[.agg #[.int .i64 0, .slice none 0 0], badOf 31])) : ParsePost s w e w' := by
  refine ⟨hb, ?_⟩
  rw [hp]
  exact he

theorem while_step (s : ByteArray) (k : Nat) (h : k < s.size) (hc : s[k] ≠ 44) : (s.data.toList.drop k).takeWhile (· != 44) = s[k] :: (s.data.toList.drop (k + 1)).takeWhile (· != 44) ∧ (s.data.toList.drop k).dropWhile (· != 44) = (s.data.toList.drop (k + 1)).dropWhile (· != 44) := by
  have hb : (s[k] != 44) = true := by simpa using hc
  rw [drop_cons s k h, List.takeWhile_cons, List.dropWhile_cons, hb]
  exact ⟨rfl, rfl⟩
theorem while_stop (s : ByteArray) (k : Nat) (h : k < s.size) (hc : s[k] = 44) : (s.data.toList.drop k).takeWhile (· != 44) = [] ∧ (s.data.toList.drop k).dropWhile (· != 44) = s.data.toList.drop k := by
  have hb : (s[k] != 44) = false := by simpa using hc
  rw [drop_cons s k h, List.takeWhile_cons, List.dropWhile_cons, hb]
  exact ⟨rfl, rfl⟩
theorem ext_take (s : ByteArray) (k : Nat) : (s.extract 0 k).data.toList = s.data.toList.take k := by
  rw [ByteArray.data_extract, Array.toList_extract]
  simp [List.extract_eq_take_drop]

set_option maxHeartbeats 8000000 in
set_option maxRecDepth 1000000 in
theorem parse_any (s : ByteArray) (hs : s.size ≤ 16777216) (w : World) (hG : Globs w) :
    Calls Tryz.prog 7 #[.string s] w (ParsePost s w) := by
  have HG := Lib.hid hG
  clear hG
  have HB0 := Lib.hid (((Below.refl _ w).alloc (Nat.le_refl _) (.cells #[.int .i64 0, .slice none 0 0] 27)).alloc (by simp) (.cells #[.int .i64 0, .int .i64 0, .int .i64 0, .bool false, .bool false] 34))
  go_enter Tryz.func7, Tryz.ntmps7
  go_wp2
  go_loopw [4] (fun i wr => ∃ k : Nat, k ≤ s.size ∧ i = .int .i64 k ∧ wr = (w.alloc (.cells #[.int .i64 0, .slice none 0 0] 27)).alloc (.cells #[.int .i64 0, .int .i64 0, .int .i64 0, .bool false, .bool false] 34) ∧ Hid (s.data.toList.takeWhile (· != 44) = s.data.toList.take k ++ (s.data.toList.drop k).takeWhile (· != 44) ∧ s.data.toList.dropWhile (· != 44) = (s.data.toList.drop k).dropWhile (· != 44))) (fun i _ => s.size - (intOf i).toNat)
  case atStart => exact ⟨0, Nat.zero_le _, rfl, rfl, Lib.hid ⟨by simp, by simp⟩⟩
  case round =>
    obtain ⟨k, hk, rfl, rfl, HW⟩ := hrel
    by_cases hgo : ∃ h : k < s.size, s[k] ≠ 44
    · obtain ⟨hlt, hc⟩ := hgo
      have HS := Lib.hid (while_step s k hlt hc)
      have HT := Lib.hid (take_snoc s k hlt)
      have g44 : ((s[k].toNat : Int) == 44) = false := int_ne fun e => hc (UInt8.toNat_inj.1 e)
      have g45 : ((s[k].toNat : Int) != 44) = true := by simp [bne, g44]
      clear hc
      go_wp2
      go_roundw
      case rel =>
        refine ⟨k + 1, by omega, by go_num, trivial, Lib.hid ⟨?_, ?_⟩⟩
        · rw [HW.out.1, HS.out.1, HT.out]; simp
        · rw [HW.out.2, HS.out.2]
      case measure => simp [intOf]; omega
    · have htw : s.data.toList.takeWhile (· != 44) = s.data.toList.take k ∧ s.data.toList.dropWhile (· != 44) = s.data.toList.drop k := by
        by_cases hlt : k < s.size
        · have hc : s[k] = 44 := by
            by_cases hc : s[k] = 44
            · exact hc
            · exact (hgo ⟨hlt, hc⟩).elim
          obtain ⟨h1, h2⟩ := while_stop s k hlt hc
          rw [HW.out.1, HW.out.2, h1, h2]; simp
        · have hd : s.data.toList.drop k = [] := List.drop_eq_nil_of_le (by simp; omega)
          rw [HW.out.1, HW.out.2, hd]; simp
      have HTW := Lib.hid htw
      obtain ⟨m, hm, hpi, hcall⟩ := int_or (s.extract 0 k) (by simp; omega)
      have HPI := Lib.hid hpi
      have HC := Lib.hid hcall
      clear htw hpi hcall
      have HP : Hid (finR s.data.toList m (readR (s.size + 1) (s.data.toList.drop k)) = parseB s.data.toList) := Lib.hid (by
        have := ref_parse s.data.toList m hm (by rw [HTW.out.1, ← ext_take]; exact HPI.out) (s.size + 1) (by rw [size_list]; omega)
        rw [HTW.out.2] at this
        exact this)
      have HST : Hid (Stands (readR (s.size + 1) (s.data.toList.drop k)) s k []) := Lib.hid ⟨Nat.zero_le _, Nat.zero_le _, s.size + 1, by omega, by cases readR (s.size + 1) (s.data.toList.drop k) <;> simp⟩
      obtain ⟨T, hT⟩ : ∃ T, readR (s.size + 1) (s.data.toList.drop k) = T := ⟨_, rfl⟩
      rw [hT] at HP HST
      clear hT
      have hcond : k = s.size ∨ ∃ h : k < s.size, s[k] = 44 := by
        by_cases hlt : k < s.size
        · refine .inr ⟨hlt, ?_⟩
          by_cases hc : s[k] = 44
          · exact hc
          · exact (hgo ⟨hlt, hc⟩).elim
        · exact .inl (by omega)
      clear hgo
      have HBC := Lib.hid (HB0.out.alloc (by simp; omega) (.cells #[.int .i64 0, .slice none 0 0] 27))
      have hnew : (((w.alloc (.cells #[.int .i64 0, .slice none 0 0] 27)).alloc (.cells #[.int .i64 0, .int .i64 0, .int .i64 0, .bool false, .bool false] 34)).alloc (.cells #[.int .i64 0, .slice none 0 0] 27)).heap[w.heap.size]? = some (.cells #[.int .i64 0, .slice none 0 0] 27 (0, 0)) ∧
          (((w.alloc (.cells #[.int .i64 0, .slice none 0 0] 27)).alloc (.cells #[.int .i64 0, .int .i64 0, .int .i64 0, .bool false, .bool false] 34)).alloc (.cells #[.int .i64 0, .slice none 0 0] 27)).heap[w.heap.size + 1]? = some (.cells #[.int .i64 0, .int .i64 0, .int .i64 0, .bool false, .bool false] 34 (0, 0)) ∧
          (((w.alloc (.cells #[.int .i64 0, .slice none 0 0] 27)).alloc (.cells #[.int .i64 0, .int .i64 0, .int .i64 0, .bool false, .bool false] 34)).alloc (.cells #[.int .i64 0, .slice none 0 0] 27)).heap[w.heap.size + 1 + 1]? = some (.cells #[.int .i64 0, .slice none 0 0] 27 (0, 0)) := by
        refine ⟨?_, ?_, ?_⟩
        · rw [Lib.alloc_old _ _ _ (by simp; omega), Lib.alloc_old _ _ _ (by simp)]; exact alloc_new _ _
        · rw [Lib.alloc_old _ _ _ (by simp)]; exact (by simpa using alloc_new (w.alloc (.cells #[.int .i64 0, .slice none 0 0] 27)) (.cells #[.int .i64 0, .int .i64 0, .int .i64 0, .bool false, .bool false] 34))
        · exact (by simpa using alloc_new ((w.alloc (.cells #[.int .i64 0, .slice none 0 0] 27)).alloc (.cells #[.int .i64 0, .int .i64 0, .int .i64 0, .bool false, .bool false] 34)) (.cells #[.int .i64 0, .slice none 0 0] 27))
      have HN := Lib.hid hnew
      clear hnew
      have hsz : (((w.alloc (.cells #[.int .i64 0, .slice none 0 0] 27)).alloc (.cells #[.int .i64 0, .int .i64 0, .int .i64 0, .bool false, .bool false] 34)).alloc (.cells #[.int .i64 0, .slice none 0 0] 27)).heap.size = w.heap.size + 1 + 1 + 1 := by simp
      have HZ := Lib.hid hsz
      clear hsz
      rcases hcond with rfl | ⟨hlt, hc⟩
      all_goals
        first | have g44 : ((s[k].toNat : Int) == 44) = true := by rw [hc]; rfl
              | (have hall : s.extract 0 s.size = s := by apply ByteArray.ext; simp
                 rw [hall] at HC)
        go_wp2_with (go_at_call 20; refine (HC.out _ (Globs.below HG.out HBC.out)).mono ?_)
        rintro e w2 er rfl hb2
        have hres := (hb2.block _ (by omega)).trans HN.out.1
        have hbad := (hb2.block _ (by omega)).trans HN.out.2.1
        have hcel := (hb2.block _ (by omega)).trans HN.out.2.2
        have hz2 : w.heap.size + 1 + 1 + 1 ≤ w2.heap.size := by have := hb2.size; simpa using this
        have q0 : w2.cell? ⟨w.heap.size + 1 + 1, 0, none⟩ = some (.int .i64 0) := by rw [Lib.cell_of_heap hcel]; rfl
        have f0 : w2.frozen? ⟨w.heap.size + 1 + 1, 0, none⟩ = false := Lib.frozen_of_heap hcel 0
        have HH0 : Hid (Held w (w2.setCell ⟨w.heap.size + 1 + 1, 0, none⟩ (.int .i64 m)) (w.heap.size + 1 + 1) m []) := Lib.hid {
          bel := (HBC.out.trans (hb2.mono (by omega))).setCell (p := ⟨w.heap.size + 1 + 1, 0, none⟩) (by show w.heap.size ≤ w.heap.size + 1 + 1; omega) _
          low := by omega
          res := by rw [heap_setCell_other _ _ _ _ (by show w.heap.size ≠ w.heap.size + 1 + 1; omega)]; exact hres
          bad := by rw [heap_setCell_other _ _ _ _ (by show w.heap.size + 1 ≠ w.heap.size + 1 + 1; omega)]; exact hbad
          cell := ⟨.slice none 0 0, by rw [heap_setCell_same _ _ 0 _ _ _ hcel]; rfl, World.ownsRow_nil _ _ _ _⟩ }
        clear hres hbad hcel hb2
        go_wp2
        go_loopw [4] (fun i wr => ∃ (k : Nat) (gs : List ByteArray), k ≤ s.size ∧ i = .int .i64 k ∧ Hid (Stands T s k gs) ∧ Hid (Held w wr (w.heap.size + 1 + 1) m gs)) (fun i _ => s.size - (intOf i).toNat)
        case atStart => exact ⟨_, [], by omega, rfl, HST, HH0⟩
        case round =>
          clear HST HH0 HC HPI q0 f0
          obtain ⟨j, gs, hj, rfl, HSJ, HH⟩ := hrel
          by_cases hgo : ∃ h : j < s.size, s[j] = 44
          · obtain ⟨hlj, hcj⟩ := hgo
            have HCJ := Lib.hid hcj
            have hsz : (s.extract (j + 1) s.size).size ≤ 35184372088832 := by simp; omega
            have gj : ((s[j].toNat : Int) == 44) = true := by rw [hcj]; rfl
            go_wp2_with (go_at_call 23; refine (RefEsc.unescape_any (s.extract (j + 1) s.size) _ hsz).mono ?_)
            rintro e w3 ⟨hb3, hmm⟩
            have hxx : (s.extract (j + 1) s.size).data.toList = s.data.toList.drop (j + 1) := ext_drop s (j + 1)
            rw [hxx] at hmm
            have HH3 := Lib.hid (HH.out.below hb3)
            have HHb := fun o => HH3.out.below ((Below.refl _ w3).alloc (Nat.le_refl _) o)
            have hgl := HSJ.out.1
            have hz3 : w.heap.size + 1 + 1 < w3.heap.size := by
              obtain ⟨v, hv, _⟩ := HH3.out.cell
              exact (Array.getElem?_eq_some_iff.1 hv).1
            clear hb3 hxx hcj
            cases hu : unesc (s.data.toList.drop (j + 1)) with
            | none =>
              rw [hu] at hmm
              have hTN := HSJ.out.bad hlj HCJ.out hu
              have hpn : parseB s.data.toList = none := by rw [← HP.out, hTN]; rfl
              have HPN := Lib.hid hpn
              obtain ⟨i, rfl⟩ := hmm
              clear hu hTN hpn
              go_wp2_with (go_at_call 16; refine (new_below _).mono ?_)
              rintro e w5 ⟨rfl, hb5⟩
              have HH5 := (HHb (.cells #[.int .i64 53, .int .i64 i, .int .i64 0, .bool true, .bool false] 34)).below hb5
              obtain ⟨r0, r1, r2, r3, s0, s1, s2, s3, s4, t0, t1, t2, t3, t4⟩ := HH5.facts
              have HE := Lib.hid HH5.ends
              clear HHb hb5 HH5
              go_wp2
              refine bodyPost_ret (v := .tuple #[.agg #[.int .i64 0, .slice none 0 0], badOf 31]) (by simp [results, Tryz.results7, go_sem, r0, r1, s0, s1, s2, s3, s4]) rfl ?_
              exact post_none (HE.out _ _ _ _ _ _ _) HPN.out rfl
            | some x =>
              obtain ⟨g, K⟩ := x
              rw [hu] at hmm
              simp only at hmm
              subst hmm
              have HSN := Lib.hid (HSJ.out.more hlj HCJ.out hu)
              have hkl := HSN.out.2
              clear hu
              have hv3' := (HHb (.cells #[.int .i64 0, .int .i64 0, .int .i64 0, .bool false, .bool false] 34)).cell
              have HH3b := Lib.hid (HHb (.cells #[.int .i64 0, .int .i64 0, .int .i64 0, .bool false, .bool false] 34))
              obtain ⟨v, hv3, hown3⟩ := hv3'
              obtain ⟨va, vn, vc, rfl⟩ := own_form hown3
              have c1c : (w3.alloc (.cells #[.int .i64 0, .int .i64 0, .int .i64 0, .bool false, .bool false] 34)).cell? ⟨w.heap.size + 1 + 1, 1, none⟩ = some (.slice va vn vc) := by rw [Lib.cell_of_heap hv3]; rfl
              obtain ⟨i0, hi, hi0, hi1, hi2⟩ := info_parts (P := Tryz.prog) (e := 9) (z := .string ByteArray.empty) (size := 1) (bytes := 16) (by kernel_rfl)
              clear HHb
              go_wp2_with (at_builtin; refine wpList_append_own _ rfl _ _ 22 rfl w.heap.size 9 i0 (.string ByteArray.empty) 1 16 Tryz.underlying22 hi hi0 hi1 hi2 rfl (by decide) _ _ _ rfl (hown3.alloc _) ⟨w3.heap.size + 1, 0, none⟩ 1 1 [.string ⟨g.toArray⟩] rfl rfl (by simpa using cell_one_new (w3.alloc (.cells #[.int .i64 0, .int .i64 0, .int .i64 0, .bool false, .bool false] 34)) _ _) (fun x hx => by simp at hx; subst hx; rfl) (by unfold maxLen; omega) (by omega) (by simp; omega) ?_)
              intro v' w4 hown' hgrow _
              obtain ⟨hc4, hh4⟩ := HH3b.out.more hv3 hown3 hown' hgrow
              obtain ⟨vb, vm, vd, rfl⟩ := own_form hown'
              have f1c : w4.frozen? ⟨w.heap.size + 1 + 1, 1, none⟩ = false := Lib.frozen_of_heap hc4 1
              have d1c : w4.cell? ⟨w.heap.size + 1 + 1, 1, none⟩ = some (.slice va vn vc) := by rw [Lib.cell_of_heap hc4]; rfl
              have HH4 := Lib.hid hh4
              clear hc4 hh4 hown' hgrow hv3 hown3 c1c hi hi0 hi1 hi2
              go_wp2
              go_roundw
              case rel => exact ⟨j + (1 + K), _, hkl, by go_num, Lib.hid HSN.out.1, HH4⟩
              case measure => simp [intOf]; omega
          · obtain ⟨v, hv, hown⟩ := HH.out.cell
            obtain ⟨va, vn, vc, rfl⟩ := own_form hown
            have c0c : wr.cell? ⟨w.heap.size + 1 + 1, 0, none⟩ = some (.int .i64 m) := by rw [Lib.cell_of_heap hv]; rfl
            have c1c : wr.cell? ⟨w.heap.size + 1 + 1, 1, none⟩ = some (.slice va vn vc) := by rw [Lib.cell_of_heap hv]; rfl
            by_cases hlj : j < s.size
            · have hcj : s[j] ≠ 44 := fun e => hgo ⟨hlj, e⟩
              have gj : ((s[j].toNat : Int) == 44) = false := int_ne fun e => hcj (UInt8.toNat_inj.1 e)
              have HPN : Hid (parseB s.data.toList = none) := Lib.hid (by rw [← HP.out]; exact HSJ.out.stop hlj hcj m)
              clear hcj hgo hv hown
              go_wp2_with (go_at_call 16; refine (new_below _).mono ?_)
              rintro e w5 ⟨rfl, hb5⟩
              have HH5 := HH.out.below hb5
              obtain ⟨r0, r1, r2, r3, s0, s1, s2, s3, s4, t0, t1, t2, t3, t4⟩ := HH5.facts
              have HE := Lib.hid HH5.ends
              clear hb5 HH5
              go_wp2
              refine bodyPost_ret (v := .tuple #[.agg #[.int .i64 0, .slice none 0 0], badOf 31]) (by simp [results, Tryz.results7, go_sem, r0, r1, s0, s1, s2, s3, s4]) rfl ?_
              exact post_none (HE.out _ _ _ _ _ _ _) HPN.out rfl
            · obtain rfl : j = s.size := by omega
              have hst := own_strs hown
              have hT := HSJ.out.fin
              have hnl : (nameB m (bytesOf gs)).length ≤ 35184372088832 := by
                unfold nameB
                have h1 := itoa_len m hm.1 hm.2
                have h2 := HSJ.out.2.1
                rw [List.length_append]
                omega
              have HTT := Lib.hid hT
              have HV := Lib.hid hv
              have HNL := Lib.hid hnl
              have HST := Lib.hid hst
              clear hT hnl hst hgo hv hown
              go_wp2_with (go_at_call 12; refine (RefName.name_any m hm.1 hm.2 (.slice va vn vc) gs _ (Globs.below HG.out HH.out.bel) HST.out HNL.out).mono ?_)
              rintro e w3 ⟨Sn, rfl, hSn, hb3⟩
              have HS3 := Lib.hid hSn
              have HH3 := Lib.hid (HH.out.below hb3)
              have hv3 : w3.heap[w.heap.size + 1 + 1]? = some (.cells #[.int .i64 m, .slice va vn vc] 27 (0, 0)) := (hb3.block _ (Array.getElem?_eq_some_iff.1 HV.out).1).trans HV.out
              have d0c : w3.cell? ⟨w.heap.size + 1 + 1, 0, none⟩ = some (.int .i64 m) := by rw [Lib.cell_of_heap hv3]; rfl
              have d1c : w3.cell? ⟨w.heap.size + 1 + 1, 1, none⟩ = some (.slice va vn vc) := by rw [Lib.cell_of_heap hv3]; rfl
              have HV3 := Lib.hid hv3
              clear hSn hb3 hv3 c0c c1c
              by_cases heq : Sn.data.toList = s.data.toList
              · have hS : Sn = s := ByteArray.ext (Array.ext' heq)
                subst hS
                clear heq
                obtain ⟨r0, r1, r2, r3, s0, s1, s2, s3, s4, t0, t1, t2, t3, t4⟩ := HH3.out.facts
                have HE := Lib.hid HH3.out.ends
                go_wp2
                refine bodyPost_ret (v := .tuple #[.agg #[.int .i64 m, .slice va vn vc], fine]) (by simp [results, Tryz.results7, go_sem, r0, r1, s0, s1, s2, s3, s4]) rfl ?_
                refine ⟨HE.out _ _ _ _ _ _ _, ?_⟩
                have hf : finR Sn.data.toList m (some (bytesOf gs, [])) = some (m, bytesOf gs) := if_pos HS3.out.symm
                rw [← HP.out, HTT.out, hf]
                have ho := HH3.out.own HV3.out
                have n2 := own_ne ho HH3.out.res (by decide)
                have n3 := own_ne ho HH3.out.bad (by decide)
                have ho2 := ownsRow_setCell_other (ownsRow_setCell_other ho (a := ⟨w.heap.size, 0, none⟩) n2 (.int .i64 m)) (a := ⟨w.heap.size, 1, none⟩) n2 (.slice va vn vc)
                have ho3 := ownsRow_setCell_other (ownsRow_setCell_other (ownsRow_setCell_other (ownsRow_setCell_other (ownsRow_setCell_other ho2 (a := ⟨w.heap.size + 1, 0, none⟩) n3 (.int .i64 0)) (a := ⟨w.heap.size + 1, 1, none⟩) n3 (.int .i64 0)) (a := ⟨w.heap.size + 1, 2, none⟩) n3 (.int .i64 0)) (a := ⟨w.heap.size + 1, 3, none⟩) n3 (.bool false)) (a := ⟨w.heap.size + 1, 4, none⟩) n3 (.bool false)
                exact ⟨_, gs, rfl, own_strs ho3, rfl⟩
              · have HN2 : Hid (parseB s.data.toList = none) := Lib.hid (by
                  rw [← HP.out, HTT.out]
                  exact if_neg fun e => heq (HS3.out.trans e))
                have hne : (Sn.toList == s.toList) = false := by
                  rw [ByteArray.toList_eq, ByteArray.toList_eq]
                  simpa using heq
                clear heq
                go_wp2_with (go_at_call 16; refine (new_below _).mono ?_)
                rintro e w5 ⟨rfl, hb5⟩
                have HH5 := HH3.out.below hb5
                obtain ⟨r0, r1, r2, r3, s0, s1, s2, s3, s4, t0, t1, t2, t3, t4⟩ := HH5.facts
                have HE := Lib.hid HH5.ends
                clear hb5 HH5
                go_wp2
                refine bodyPost_ret (v := .tuple #[.agg #[.int .i64 0, .slice none 0 0], badOf 31]) (by simp [results, Tryz.results7, go_sem, r0, r1, s0, s1, s2, s3, s4]) rfl ?_
                exact post_none (HE.out _ _ _ _ _ _ _) HN2.out rfl
end Go.Proofs.YthfkednlgehchaaGreatDoor.RefParse
