/- CellNames: the law's walk. -/
import Derived.Test.YthfkednlgehchaaGreatDoorOfThree
import Derived.Test.YthfkednlgehchaaGreatDoorRefCmp
import Derived.Test.YthfkednlgehchaaGreatDoorSame
import Derived.Deep.RegionHeld3
set_option linter.unusedVariables false
set_option linter.unusedSimpArgs false
namespace Go.Proofs.YthfkednlgehchaaGreatDoor.Names
open Go Go.RowKit Go.Proofs Go.Am Go.Proofs.YthfkednlgehchaaGreatDoor.Base Go.Proofs.YthfkednlgehchaaGreatDoor.Name Go.Proofs.YthfkednlgehchaaGreatDoor.Of
open Go.Proofs.YthfkednlgehchaaGreatDoor.RefEsc (fine badOf)
open Go.Proofs.YthfkednlgehchaaGreatDoor.Parse (alloc_new)

/-- An error of a number; none: 0. -/
def errOf (c : Int) : Value := if c = 0 then .nilIface else .iface 32 (.int .i64 c)
/-- What is told: a start, groups, an error. -/
def telN (r : Except Int Int) : Int := match r with
  | .error _ => 0
  | .ok s => s
def telG (r : Except Int Int) (gs : List ByteArray) : List ByteArray := match r with
  | .error _ => []
  | .ok _ => gs
def telC (r : Except Int Int) : Int := match r with
  | .error c => c
  | .ok _ => 0
def Tell (n : Int) (er : Value) (gs : List ByteArray) (w : World) (e : Ending) (w' : World) : Prop := Below w.heap.size w w' ∧ ∃ a m c, e = .returned (.tuple #[.agg #[.int .i64 n, .slice a m c], er]) ∧ Strs w' (.slice a m c) gs

theorem strs_none (w : World) : Strs w (.slice none 0 0) [] := ⟨0, 0, 0, Nat.le_refl _, .inl ⟨rfl, none, rfl, fun _ => rfl⟩⟩
theorem ofP_code {e o t c : Int} (h : ofP e o t = .error c) : c = 155 ∨ c = 2 := by
  unfold ofP at h
  split at h
  · cases h; exact .inl rfl
  · split at h
    · cases h; exact .inr rfl
    · cases h
theorem of_tell {e o t : Int} {gs : List ByteArray} {w : World} {r : Ending} {w' : World} (h : OfPost e o t gs w r w') : Tell (telN (ofP e o t)) (errOf (telC (ofP e o t))) (telG (ofP e o t) gs) w r w' := by
  obtain ⟨hb, hm⟩ := h
  refine ⟨hb, ?_⟩
  cases hp : ofP e o t with
  | error c =>
    rw [hp] at hm
    have hc := ofP_code hp
    have : errOf c = .iface 32 (.int .i64 c) := if_neg (by omega)
    exact ⟨_, _, _, by rw [hm]; simp only [telN, telC, this], strs_none _⟩
  | ok s =>
    rw [hp] at hm
    obtain ⟨sl, he, hst⟩ := hm
    obtain ⟨a, m, c, rfl⟩ := slice_strs hst
    exact ⟨a, m, c, he, hst⟩
theorem ref_tell {e o t : Int} {gs : List ByteArray} {w : World} {r : Ending} {w' : World} (h : RefOfPost e o t gs w r w') : Tell (telN (ofP e o t)) (badOf (telC (ofP e o t))) (telG (ofP e o t) gs) w r w' := by
  obtain ⟨hb, hm⟩ := h
  refine ⟨hb, ?_⟩
  cases hp : ofP e o t with
  | error c =>
    rw [hp] at hm
    exact ⟨_, _, _, hm, strs_none _⟩
  | ok s =>
    rw [hp] at hm
    obtain ⟨sl, he, hst⟩ := hm
    obtain ⟨a, m, c, rfl⟩ := slice_strs hst
    exact ⟨a, m, c, he, hst⟩
/-- A cell's name, read. -/
def parN (l : List UInt8) : Int := match parseB l with
  | some x => x.1
  | none => 0
def parG (l : List UInt8) : List ByteArray := match parseB l with
  | some x => x.2.map fun g => ⟨g.toArray⟩
  | none => []
def parC (l : List UInt8) : Int := match parseB l with
  | some _ => 0
  | none => 31
theorem bytes_back {gs : List ByteArray} {l : List (List UInt8)} (h : bytesOf gs = l) : gs = l.map fun g => ⟨g.toArray⟩ := by
  subst h
  rw [List.map_map]
  simp [Function.comp_def]
theorem parse_tell {s : ByteArray} {w : World} {r : Ending} {w' : World} (h : Parse.ParsePost s w r w') : Tell (parN s.data.toList) (errOf (parC s.data.toList)) (parG s.data.toList) w r w' := by
  obtain ⟨hb, hm⟩ := h
  refine ⟨hb, ?_⟩
  unfold parN parC parG
  cases hp : parseB s.data.toList with
  | none =>
    rw [hp] at hm
    exact ⟨_, _, _, hm, strs_none _⟩
  | some x =>
    rw [hp] at hm
    obtain ⟨sl, gs, he, hst, hg⟩ := hm
    obtain rfl := bytes_back hg
    obtain ⟨a, m, c, rfl⟩ := slice_strs hst
    exact ⟨a, m, c, he, hst⟩
theorem rparse_tell {s : ByteArray} {w : World} {r : Ending} {w' : World} (h : RefParse.ParsePost s w r w') : Tell (parN s.data.toList) (badOf (parC s.data.toList)) (parG s.data.toList) w r w' := by
  obtain ⟨hb, hm⟩ := h
  refine ⟨hb, ?_⟩
  unfold parN parC parG
  cases hp : parseB s.data.toList with
  | none =>
    rw [hp] at hm
    exact ⟨_, _, _, hm, strs_none _⟩
  | some x =>
    rw [hp] at hm
    obtain ⟨sl, gs, he, hst, hg⟩ := hm
    obtain rfl := bytes_back hg
    obtain ⟨a, m, c, rfl⟩ := slice_strs hst
    exact ⟨a, m, c, he, hst⟩
theorem same_any {c : Int} (h : c = 0 ∨ c = 155 ∨ c = 2 ∨ c = 31) (w : World) (hG : Globs w) : Calls Tryz.prog 9 #[errOf c, badOf c] w (Ret (.bool true) w) := by
  rcases h with rfl | rfl | rfl | rfl
  · exact Same.same_none w hG
  · exact Same.same_every w hG
  · exact Same.same_range w hG
  · exact Same.same_form w hG
theorem telC_code (e o t : Int) : telC (ofP e o t) = 0 ∨ telC (ofP e o t) = 155 ∨ telC (ofP e o t) = 2 ∨ telC (ofP e o t) = 31 := by
  unfold telC
  cases h : ofP e o t with
  | error c =>
    have := ofP_code h
    simp only
    omega
  | ok s => exact .inl rfl
theorem parC_code (l : List UInt8) : parC l = 0 ∨ parC l = 155 ∨ parC l = 2 ∨ parC l = 31 := by
  unfold parC
  split <;> simp
/-- The name of a cell, as a text. -/
def nameT (n : Int) (gs : List ByteArray) : ByteArray := ⟨(nameB n (bytesOf gs)).toArray⟩
theorem nameT_of {S : ByteArray} {n : Int} {gs : List ByteArray} (h : S.data.toList = nameB n (bytesOf gs)) : S = nameT n gs := by
  apply ByteArray.ext
  apply Array.ext'
  rw [h]
  rfl
theorem name_ret (n : Int) (h0 : -9223372036854775808 ≤ n) (h1 : n ≤ 9223372036854775807) (sl : Value) (gs : List ByteArray) (w : World) (hG : Globs w) (hs : Strs w sl gs) (hl : (nameB n (bytesOf gs)).length ≤ 35184372088832) :
    Calls Tryz.prog 11 #[.agg #[.int .i64 n, sl]] w (Ret (.string (nameT n gs)) w) :=
  (name_any n h0 h1 sl gs w hG hs hl).mono fun e w' ⟨S, he, hS, hb⟩ => ⟨by rw [he, nameT_of hS], hb⟩
theorem rname_ret (n : Int) (h0 : -9223372036854775808 ≤ n) (h1 : n ≤ 9223372036854775807) (sl : Value) (gs : List ByteArray) (w : World) (hG : Globs w) (hs : Strs w sl gs) (hl : (nameB n (bytesOf gs)).length ≤ 35184372088832) :
    Calls Tryz.prog 12 #[.agg #[.int .i64 n, sl]] w (Ret (.string (nameT n gs)) w) :=
  (RefName.name_any n h0 h1 sl gs w hG hs hl).mono fun e w' ⟨S, he, hS, hb⟩ => ⟨by rw [he, nameT_of hS], hb⟩
theorem parG_len (s : ByteArray) (hs : s.size ≤ 16777216) : (parG s.data.toList).length ≤ 4294967296 := by
  unfold parG
  cases hp : parseB s.data.toList with
  | none => exact Nat.zero_le _
  | some x =>
    have h1 := parse_said (n := x.1) (gs := x.2) hp
    have h2 := tail_len x.2
    have h3 := congrArg List.length h1
    rw [← size_list] at h3
    unfold nameB at h3
    rw [List.length_append] at h3
    simp only [List.length_map]
    omega
theorem telG_len {r : Except Int Int} {ts : List (ByteArray × ByteArray)} {gs : List ByteArray} (h : gs.length ≤ 2097152) : (telG r (grp ts gs)).length ≤ 4294967296 := by
  unfold telG
  split
  · exact Nat.zero_le _
  · unfold grp
    rw [List.length_map]
    omega

/-- A block's cells. -/
def Box (w : World) (b : Nat) (xs : Array Value) (t : TypeId) : Prop := w.heap[b]? = some (.cells xs t (0, 0))
theorem Box.below {w w' : World} {b : Nat} {xs : Array Value} {t : TypeId} (h : Box w b xs t) (hb : Below w.heap.size w w') : Box w' b xs t := (hb.block b (Array.getElem?_eq_some_iff.1 h).1).trans h
theorem Box.old {w : World} {b : Nat} {xs : Array Value} {t : TypeId} (h : Box w b xs t) (o : Obj) : Box (w.alloc o) b xs t := h.below ((Below.refl _ w).alloc (Nat.le_refl _) o)
theorem Box.new (w : World) (xs : Array Value) (t : TypeId) : Box (w.alloc (.cells xs t)) w.heap.size xs t := alloc_new _ _
theorem Box.new1 (w : World) (o : Obj) (xs : Array Value) (t : TypeId) : Box ((w.alloc o).alloc (.cells xs t)) (w.heap.size + 1) xs t := by
  unfold Box
  simpa using alloc_new (w.alloc o) (.cells xs t)
theorem Box.cell {w : World} {b : Nat} {xs : Array Value} {t : TypeId} (h : Box w b xs t) (i : Nat) : w.cell? ⟨b, i, none⟩ = xs[i]? := Lib.cell_of_heap h i
theorem strs_old {w : World} {v : Value} {gs : List ByteArray} (h : Strs w v gs) (o : Obj) : Strs (w.alloc o) v gs := h.below ((Below.refl _ w).alloc (Nat.le_refl _) o)
theorem bel_trans {a b c : World} (h1 : Below a.heap.size a b) (h2 : Below b.heap.size b c) : Below a.heap.size a c := h1.trans (h2.mono h1.size)
theorem bel_old {a b : World} (h1 : Below a.heap.size a b) (o : Obj) : Below a.heap.size a (b.alloc o) := h1.alloc h1.size o

set_option maxHeartbeats 8000000 in
set_option maxRecDepth 1000000 in
theorem law_calls (e o t : Int) (gs : List ByteArray) (ts : List (ByteArray × ByteArray)) (sg st : Value) (n : Int) (cg : List ByteArray) (sc : Value) (s : ByteArray) (he : I64 e) (ho : I64 o) (ht : I64 t) (w : World) (hG : Globs w) (hg : Strs w sg gs) (hgl : gs.length ≤ 2097152) (hT : Tags w st ts) (hl : ts.length ≤ 9223372036854775807)
    (hn0 : -9223372036854775808 ≤ n) (hn1 : n ≤ 9223372036854775807) (hc : Strs w sc cg) (hcl : (nameB n (bytesOf cg)).length ≤ 16777216) (hs : s.size ≤ 16777216) :
    Calls Tryz.prog 3 #[.agg #[.int .i64 e, .int .i64 o, sg, st, .int .i64 t], .agg #[.int .i64 n, sc], .string s] w fun r w' => r = .returned (.bool true) ∧ Below w.heap.size w w' := by
  obtain ⟨ag, mg, c1, rfl⟩ := slice_strs hg
  obtain ⟨at1, mt, c2, rfl⟩ := slice_tags hT
  obtain ⟨ac, mc, c3, rfl⟩ := slice_strs hc
  have HG := Lib.hid hG
  have HC := Lib.hid hc
  have HL := Lib.hid hcl
  have HB0 := Lib.hid (((Below.refl _ w).alloc (Nat.le_refl _) (.cells #[.int .i64 e, .int .i64 o, .slice ag mg c1, .slice at1 mt c2, .int .i64 t] 25)).alloc (by simp) (.cells #[.int .i64 n, .slice ac mc c3] 27))
  have HV0 := Lib.hid (Box.old (Box.new w #[.int .i64 e, .int .i64 o, .slice ag mg c1, .slice at1 mt c2, .int .i64 t] 25) (.cells #[.int .i64 n, .slice ac mc c3] 27))
  have HV1 := Lib.hid (Box.new1 w (.cells #[.int .i64 e, .int .i64 o, .slice ag mg c1, .slice at1 mt c2, .int .i64 t] 25) #[.int .i64 n, .slice ac mc c3] 27)
  have HOF := Lib.hid (fun W hb => (cell_of e o t (.slice ag mg c1) (.slice at1 mt c2) gs ts W he ho ht (hg.below (hb : Below w.heap.size w W)) hgl (hT.below hb) hl).mono fun r w' h => of_tell h)
  have HRF := Lib.hid (fun W hb => (ref_of e o t (.slice ag mg c1) (.slice at1 mt c2) gs ts W he ho ht (hg.below (hb : Below w.heap.size w W)) hgl (hT.below hb) hl).mono fun r w' h => ref_tell h)
  have HPA := Lib.hid (fun W hb => (Parse.parse_any s hs W (hG.below (hb : Below w.heap.size w W))).mono fun r w' h => parse_tell h)
  have HRP := Lib.hid (fun W hb => (RefParse.parse_any s hs W (hG.below (hb : Below w.heap.size w W))).mono fun r w' h => rparse_tell h)
  have HK := Lib.hid (telC_code e o t)
  have HK2 := Lib.hid (parC_code s.data.toList)
  have HL1 := Lib.hid (telG_len (r := ofP e o t) (ts := ts) hgl)
  have HL2 := Lib.hid (parG_len s hs)
  generalize telN (ofP e o t) = N1 at HOF HRF
  generalize telC (ofP e o t) = C1 at HOF HRF HK
  generalize telG (ofP e o t) (grp ts gs) = G1 at HOF HRF HL1
  generalize parN s.data.toList = N2 at HPA HRP
  generalize parC s.data.toList = C2 at HPA HRP HK2
  generalize parG s.data.toList = G2 at HPA HRP HL2
  clear hG hc hcl hg hT
  go_enter Tryz.func3, Tryz.ntmps3
  go_wp2_with (go_at_call 4; refine (HOF.out _ HB0.out).mono ?_)
  rintro e1 w1 hret
  obtain ⟨hb1, a1, m1, k1, rfl, hs1⟩ := hret
  have HB1 := Lib.hid (bel_old (bel_trans HB0.out hb1) (.cells #[.int .i64 N1, .slice a1 m1 k1] 27))
  have F1 := Lib.hid (Box.old (HV0.out.below hb1) (.cells #[.int .i64 N1, .slice a1 m1 k1] 27))
  have E1 := Lib.hid (Box.old (HV1.out.below hb1) (.cells #[.int .i64 N1, .slice a1 m1 k1] 27))
  have A1 := Lib.hid (Box.new w1 #[.int .i64 N1, .slice a1 m1 k1] 27)
  have S1 := Lib.hid (strs_old hs1 (.cells #[.int .i64 N1, .slice a1 m1 k1] 27))
  have f0 : (w1.alloc (.cells #[.int .i64 N1, .slice a1 m1 k1] 27)).cell? ⟨w.heap.size, 0, none⟩ = some (.int .i64 e) := F1.out.cell 0
  have f1 : (w1.alloc (.cells #[.int .i64 N1, .slice a1 m1 k1] 27)).cell? ⟨w.heap.size, 1, none⟩ = some (.int .i64 o) := F1.out.cell 1
  have f2 : (w1.alloc (.cells #[.int .i64 N1, .slice a1 m1 k1] 27)).cell? ⟨w.heap.size, 2, none⟩ = some (.slice ag mg c1) := F1.out.cell 2
  have f3 : (w1.alloc (.cells #[.int .i64 N1, .slice a1 m1 k1] 27)).cell? ⟨w.heap.size, 3, none⟩ = some (.slice at1 mt c2) := F1.out.cell 3
  have f4 : (w1.alloc (.cells #[.int .i64 N1, .slice a1 m1 k1] 27)).cell? ⟨w.heap.size, 4, none⟩ = some (.int .i64 t) := F1.out.cell 4
  have hz1 : w.heap.size + 1 < w1.heap.size := (Array.getElem?_eq_some_iff.1 (HV1.out.below hb1)).1
  clear hb1 hs1
  go_wp2_with (go_at_call 5; refine (HRF.out _ HB1.out).mono ?_)
  rintro e1 w2 hret
  obtain ⟨hb2, a2, m2, k2, rfl, hs2⟩ := hret
  have HB2 := Lib.hid (bel_old (bel_old (bel_trans HB1.out hb2) (.cells #[.int .i64 N1, .slice a2 m2 k2] 27)) (.cells #[.int .i64 C1, .int .i64 0, .int .i64 0, .bool false, .bool false] 34))
  have E2 := Lib.hid (Box.old (Box.old (E1.out.below hb2) (.cells #[.int .i64 N1, .slice a2 m2 k2] 27)) (.cells #[.int .i64 C1, .int .i64 0, .int .i64 0, .bool false, .bool false] 34))
  have A2 := Lib.hid (Box.old (Box.old (A1.out.below hb2) (.cells #[.int .i64 N1, .slice a2 m2 k2] 27)) (.cells #[.int .i64 C1, .int .i64 0, .int .i64 0, .bool false, .bool false] 34))
  have B2 := Lib.hid (Box.old (Box.new w2 #[.int .i64 N1, .slice a2 m2 k2] 27) (.cells #[.int .i64 C1, .int .i64 0, .int .i64 0, .bool false, .bool false] 34))
  have D2 := Lib.hid (Box.new1 w2 (.cells #[.int .i64 N1, .slice a2 m2 k2] 27) #[.int .i64 C1, .int .i64 0, .int .i64 0, .bool false, .bool false] 34)
  have S2 := Lib.hid (strs_old (strs_old (S1.out.below hb2) (.cells #[.int .i64 N1, .slice a2 m2 k2] 27)) (.cells #[.int .i64 C1, .int .i64 0, .int .i64 0, .bool false, .bool false] 34))
  have R2 := Lib.hid (strs_old (strs_old hs2 (.cells #[.int .i64 N1, .slice a2 m2 k2] 27)) (.cells #[.int .i64 C1, .int .i64 0, .int .i64 0, .bool false, .bool false] 34))
  have hz2 : w1.heap.size < w2.heap.size := (Array.getElem?_eq_some_iff.1 (A1.out.below hb2)).1
  clear hb2 hs2 f0 f1 f2 f3 f4
  go_wp2_with (go_at_call 6; refine (HPA.out _ HB2.out).mono ?_)
  rintro e1 w3 hret
  obtain ⟨hb3, a3, m3, k3, rfl, hs3⟩ := hret
  have HB3 := Lib.hid (bel_old (bel_trans HB2.out hb3) (.cells #[.int .i64 N2, .slice a3 m3 k3] 27))
  have E3 := Lib.hid (Box.old (E2.out.below hb3) (.cells #[.int .i64 N2, .slice a3 m3 k3] 27))
  have A3 := Lib.hid (Box.old (A2.out.below hb3) (.cells #[.int .i64 N2, .slice a3 m3 k3] 27))
  have B3 := Lib.hid (Box.old (B2.out.below hb3) (.cells #[.int .i64 N2, .slice a3 m3 k3] 27))
  have D3 := Lib.hid (Box.old (D2.out.below hb3) (.cells #[.int .i64 N2, .slice a3 m3 k3] 27))
  have X3 := Lib.hid (Box.new w3 #[.int .i64 N2, .slice a3 m3 k3] 27)
  have S3 := Lib.hid (strs_old (S2.out.below hb3) (.cells #[.int .i64 N2, .slice a3 m3 k3] 27))
  have R3 := Lib.hid (strs_old (R2.out.below hb3) (.cells #[.int .i64 N2, .slice a3 m3 k3] 27))
  have T3 := Lib.hid (strs_old hs3 (.cells #[.int .i64 N2, .slice a3 m3 k3] 27))
  have hz3 : w2.heap.size + 1 < w3.heap.size := (Array.getElem?_eq_some_iff.1 (D2.out.below hb3)).1
  clear hb3 hs3
  go_wp2_with (go_at_call 7; refine (HRP.out _ HB3.out).mono ?_)
  rintro e1 w4 hret
  obtain ⟨hb4, a4, m4, k4, rfl, hs4⟩ := hret
  have HB4 := Lib.hid (bel_old (bel_old (bel_trans HB3.out hb4) (.cells #[.int .i64 N2, .slice a4 m4 k4] 27)) (.cells #[.int .i64 C2, .int .i64 0, .int .i64 0, .bool false, .bool false] 34))
  have E4 := Lib.hid (Box.old (Box.old (E3.out.below hb4) (.cells #[.int .i64 N2, .slice a4 m4 k4] 27)) (.cells #[.int .i64 C2, .int .i64 0, .int .i64 0, .bool false, .bool false] 34))
  have A4 := Lib.hid (Box.old (Box.old (A3.out.below hb4) (.cells #[.int .i64 N2, .slice a4 m4 k4] 27)) (.cells #[.int .i64 C2, .int .i64 0, .int .i64 0, .bool false, .bool false] 34))
  have B4 := Lib.hid (Box.old (Box.old (B3.out.below hb4) (.cells #[.int .i64 N2, .slice a4 m4 k4] 27)) (.cells #[.int .i64 C2, .int .i64 0, .int .i64 0, .bool false, .bool false] 34))
  have D4 := Lib.hid (Box.old (Box.old (D3.out.below hb4) (.cells #[.int .i64 N2, .slice a4 m4 k4] 27)) (.cells #[.int .i64 C2, .int .i64 0, .int .i64 0, .bool false, .bool false] 34))
  have X4 := Lib.hid (Box.old (Box.old (X3.out.below hb4) (.cells #[.int .i64 N2, .slice a4 m4 k4] 27)) (.cells #[.int .i64 C2, .int .i64 0, .int .i64 0, .bool false, .bool false] 34))
  have Y4 := Lib.hid (Box.old (Box.new w4 #[.int .i64 N2, .slice a4 m4 k4] 27) (.cells #[.int .i64 C2, .int .i64 0, .int .i64 0, .bool false, .bool false] 34))
  have G4 := Lib.hid (Box.new1 w4 (.cells #[.int .i64 N2, .slice a4 m4 k4] 27) #[.int .i64 C2, .int .i64 0, .int .i64 0, .bool false, .bool false] 34)
  have S4 := Lib.hid (strs_old (strs_old (S3.out.below hb4) (.cells #[.int .i64 N2, .slice a4 m4 k4] 27)) (.cells #[.int .i64 C2, .int .i64 0, .int .i64 0, .bool false, .bool false] 34))
  have R4 := Lib.hid (strs_old (strs_old (R3.out.below hb4) (.cells #[.int .i64 N2, .slice a4 m4 k4] 27)) (.cells #[.int .i64 C2, .int .i64 0, .int .i64 0, .bool false, .bool false] 34))
  have T4 := Lib.hid (strs_old (strs_old (T3.out.below hb4) (.cells #[.int .i64 N2, .slice a4 m4 k4] 27)) (.cells #[.int .i64 C2, .int .i64 0, .int .i64 0, .bool false, .bool false] 34))
  have U4 := Lib.hid (strs_old (strs_old hs4 (.cells #[.int .i64 N2, .slice a4 m4 k4] 27)) (.cells #[.int .i64 C2, .int .i64 0, .int .i64 0, .bool false, .bool false] 34))
  clear hb4 hs4
  obtain ⟨wE, hE⟩ : ∃ wE, (w4.alloc (.cells #[.int .i64 N2, .slice a4 m4 k4] 27)).alloc (.cells #[.int .i64 C2, .int .i64 0, .int .i64 0, .bool false, .bool false] 34) = wE := ⟨_, rfl⟩
  rw [hE] at HB4 E4 A4 B4 D4 X4 Y4 G4 S4 R4 T4 U4
  have HKS : Hid (∀ W, Below wE.heap.size wE W → Below wE.heap.size wE W ∧ W.cell? ⟨w2.heap.size + 1, 0, none⟩ = some (.int .i64 C1) ∧ W.cell? ⟨w2.heap.size + 1, 1, none⟩ = some (.int .i64 0) ∧ W.cell? ⟨w2.heap.size + 1, 2, none⟩ = some (.int .i64 0) ∧ W.cell? ⟨w2.heap.size + 1, 3, none⟩ = some (.bool false) ∧ W.cell? ⟨w2.heap.size + 1, 4, none⟩ = some (.bool false) ∧ W.cell? ⟨w1.heap.size, 0, none⟩ = some (.int .i64 N1) ∧ W.cell? ⟨w1.heap.size, 1, none⟩ = some (.slice a1 m1 k1) ∧ W.cell? ⟨w2.heap.size, 0, none⟩ = some (.int .i64 N1) ∧ W.cell? ⟨w2.heap.size, 1, none⟩ = some (.slice a2 m2 k2) ∧ W.cell? ⟨w.heap.size + 1, 0, none⟩ = some (.int .i64 n) ∧ W.cell? ⟨w.heap.size + 1, 1, none⟩ = some (.slice ac mc c3) ∧ W.cell? ⟨w4.heap.size + 1, 0, none⟩ = some (.int .i64 C2) ∧ W.cell? ⟨w4.heap.size + 1, 1, none⟩ = some (.int .i64 0) ∧ W.cell? ⟨w4.heap.size + 1, 2, none⟩ = some (.int .i64 0) ∧ W.cell? ⟨w4.heap.size + 1, 3, none⟩ = some (.bool false) ∧ W.cell? ⟨w4.heap.size + 1, 4, none⟩ = some (.bool false) ∧ W.cell? ⟨w3.heap.size, 0, none⟩ = some (.int .i64 N2) ∧ W.cell? ⟨w3.heap.size, 1, none⟩ = some (.slice a3 m3 k3) ∧ W.cell? ⟨w4.heap.size, 0, none⟩ = some (.int .i64 N2) ∧ W.cell? ⟨w4.heap.size, 1, none⟩ = some (.slice a4 m4 k4)) := Lib.hid (fun W hb => ⟨hb, (D4.out.below hb).cell 0, (D4.out.below hb).cell 1, (D4.out.below hb).cell 2, (D4.out.below hb).cell 3, (D4.out.below hb).cell 4, (A4.out.below hb).cell 0, (A4.out.below hb).cell 1, (B4.out.below hb).cell 0, (B4.out.below hb).cell 1, (E4.out.below hb).cell 0, (E4.out.below hb).cell 1, (G4.out.below hb).cell 0, (G4.out.below hb).cell 1, (G4.out.below hb).cell 2, (G4.out.below hb).cell 3, (G4.out.below hb).cell 4, (X4.out.below hb).cell 0, (X4.out.below hb).cell 1, (Y4.out.below hb).cell 0, (Y4.out.below hb).cell 1⟩)
  have CL := Lib.hid (fun W (hb : Below wE.heap.size wE W) => (show Calls Tryz.prog 8 #[] W (Ret (.bool true) W) from YthfkednlgehchaaGreatDoor.Am.live_calls W (HG.out.below (bel_trans HB4.out hb))))
  have CS1 := Lib.hid (fun W (hb : Below wE.heap.size wE W) => same_any HK.out W (HG.out.below (bel_trans HB4.out hb)))
  have CS2 := Lib.hid (fun W (hb : Below wE.heap.size wE W) => same_any HK2.out W (HG.out.below (bel_trans HB4.out hb)))
  have CC1 := Lib.hid (fun W (hb : Below wE.heap.size wE W) => (show Calls Tryz.prog 10 #[.agg #[.int .i64 N1, .slice a1 m1 k1], .agg #[.int .i64 N1, .slice a2 m2 k2]] W (Ret (.int .i64 0) W) from RefCmp.compare_any N1 _ _ G1 HL1.out W (HG.out.below (bel_trans HB4.out hb)) (S4.out.below hb) (R4.out.below hb)))
  have CC2 := Lib.hid (fun W (hb : Below wE.heap.size wE W) => (show Calls Tryz.prog 10 #[.agg #[.int .i64 N2, .slice a3 m3 k3], .agg #[.int .i64 N2, .slice a4 m4 k4]] W (Ret (.int .i64 0) W) from RefCmp.compare_any N2 _ _ G2 HL2.out W (HG.out.below (bel_trans HB4.out hb)) (T4.out.below hb) (U4.out.below hb)))
  have CN := Lib.hid (fun W (hb : Below wE.heap.size wE W) => name_ret n hn0 hn1 (.slice ac mc c3) cg W (HG.out.below (bel_trans HB4.out hb)) (HC.out.below (bel_trans HB4.out hb)) (Nat.le_trans HL.out (by omega)))
  have CR := Lib.hid (fun W (hb : Below wE.heap.size wE W) => rname_ret n hn0 hn1 (.slice ac mc c3) cg W (HG.out.below (bel_trans HB4.out hb)) (HC.out.below (bel_trans HB4.out hb)) (Nat.le_trans HL.out (by omega)))
  generalize nameT n cg = NT at CN CR
  clear HOF HRF HPA HRP HK HK2 HL HL1 HL2 HV0 HV1 HB0 HB1 HB2 HB3 F1 E1 A1 S1 E2 A2 B2 D2 S2 R2 E3 A3 B3 D3 X3 S3 R3 T3 E4 A4 B4 D4 X4 Y4 G4 S4 R4 T4 U4 HC
  have HE := Lib.hid hE
  clear hE
  go_wp2
  rw [HE.out]
  clear HE
  go_region_held3 (fun W => Below wE.heap.size wE W ∧ W.cell? ⟨w2.heap.size + 1, 0, none⟩ = some (.int .i64 C1) ∧ W.cell? ⟨w2.heap.size + 1, 1, none⟩ = some (.int .i64 0) ∧ W.cell? ⟨w2.heap.size + 1, 2, none⟩ = some (.int .i64 0) ∧ W.cell? ⟨w2.heap.size + 1, 3, none⟩ = some (.bool false) ∧ W.cell? ⟨w2.heap.size + 1, 4, none⟩ = some (.bool false) ∧ W.cell? ⟨w1.heap.size, 0, none⟩ = some (.int .i64 N1) ∧ W.cell? ⟨w1.heap.size, 1, none⟩ = some (.slice a1 m1 k1) ∧ W.cell? ⟨w2.heap.size, 0, none⟩ = some (.int .i64 N1) ∧ W.cell? ⟨w2.heap.size, 1, none⟩ = some (.slice a2 m2 k2) ∧ W.cell? ⟨w.heap.size + 1, 0, none⟩ = some (.int .i64 n) ∧ W.cell? ⟨w.heap.size + 1, 1, none⟩ = some (.slice ac mc c3) ∧ W.cell? ⟨w4.heap.size + 1, 0, none⟩ = some (.int .i64 C2) ∧ W.cell? ⟨w4.heap.size + 1, 1, none⟩ = some (.int .i64 0) ∧ W.cell? ⟨w4.heap.size + 1, 2, none⟩ = some (.int .i64 0) ∧ W.cell? ⟨w4.heap.size + 1, 3, none⟩ = some (.bool false) ∧ W.cell? ⟨w4.heap.size + 1, 4, none⟩ = some (.bool false) ∧ W.cell? ⟨w3.heap.size, 0, none⟩ = some (.int .i64 N2) ∧ W.cell? ⟨w3.heap.size, 1, none⟩ = some (.slice a3 m3 k3) ∧ W.cell? ⟨w4.heap.size, 0, none⟩ = some (.int .i64 N2) ∧ W.cell? ⟨w4.heap.size, 1, none⟩ = some (.slice a4 m4 k4))
    (first | exact HKS.out _ (bel_trans (by assumption) hb) | exact HKS.out _ (bel_trans (And.left (by assumption)) hb) | exact HKS.out _ (Below.refl _ _).drew)
    (first
      | (go_at_call 8; refine (CL.out _ ?_).mono ?_; (first | assumption | exact And.left (by assumption)); intro e w' hret; obtain ⟨rfl, hb⟩ := hret)
      | (go_at_call_of 9 (errOf C1); refine (CS1.out _ ?_).mono ?_; (first | assumption | exact And.left (by assumption)); intro e w' hret; obtain ⟨rfl, hb⟩ := hret)
      | (go_at_call_of 9 (errOf C2); refine (CS2.out _ ?_).mono ?_; (first | assumption | exact And.left (by assumption)); intro e w' hret; obtain ⟨rfl, hb⟩ := hret)
      | (go_at_call_of 10 (Value.agg #[.int .i64 N1, .slice a1 m1 k1]); refine (CC1.out _ ?_).mono ?_; (first | assumption | exact And.left (by assumption)); intro e w' hret; obtain ⟨rfl, hb⟩ := hret)
      | (go_at_call_of 10 (Value.agg #[.int .i64 N2, .slice a3 m3 k3]); refine (CC2.out _ ?_).mono ?_; (first | assumption | exact And.left (by assumption)); intro e w' hret; obtain ⟨rfl, hb⟩ := hret)
      | (go_at_call 11; refine (CN.out _ ?_).mono ?_; (first | assumption | exact And.left (by assumption)); intro e w' hret; obtain ⟨rfl, hb⟩ := hret)
      | (go_at_call 12; refine (CR.out _ ?_).mono ?_; (first | assumption | exact And.left (by assumption)); intro e w' hret; obtain ⟨rfl, hb⟩ := hret))
  all_goals go_wp2
  all_goals go_ret
  all_goals exact ⟨rfl, bel_trans HB4.out (by first | assumption | exact And.left (by assumption) | exact bel_trans (And.left (by assumption)) hb | exact bel_trans (by assumption) hb)⟩
end Go.Proofs.YthfkednlgehchaaGreatDoor.Names
