/- lex.lower and lex.Key: their contracts, for every string. -/
import Derived.Test.YtlbjfomcgbiagaaGreatDoorProg
import Derived.Test.YtlbjfomcgbiagaaGreatDoorWAll
import Derived.WalkKit
import Derived.Below
import Derived.Outline
import Derived.Lib.ConvBytes
import Derived.Maps.Own
import Derived.Maps.OwnOps
import Derived.Maps.Views
namespace Go.Proofs.YtlbjfomcgbiagaaGreatDoor.Lex
open Go.RowKit Go.Maps Go.Proofs.YtlbjfomcgbiagaaGreatDoorW.PrintWords

def low (c : UInt8) : UInt8 := if 65 ≤ c.toNat ∧ c.toNat ≤ 90 then c + 32 else c
def lowerB (s : ByteArray) : ByteArray := ⟨(s.data.toList.map low).toArray⟩
def byteV (c : UInt8) : Value := .int .u8 (c.toNat : Int)

structure Low (w : World) (s : ByteArray) (k : Nat) (wr : World) : Prop where
  below : Below w.heap.size w wr
  size : w.heap.size < wr.heap.size
  cells : ∀ j, j < s.size → wr.cell? ⟨w.heap.size, j, none⟩ = some (byteV (if j < k then low (s.data.toList.getD j 0) else s.data.toList.getD j 0))
  free : ∀ j, j < s.size → wr.frozen? ⟨w.heap.size, j, none⟩ = false

theorem low_start (w : World) (s : ByteArray) : Low w s 0 (Lib.bytesWorld w 5 s) := {
  below := ⟨rfl, rfl, rfl, by rw [Lib.bytesWorld_size]; omega, fun j hj => Lib.bytesWorld_at_old w _ s j hj⟩
  size := by rw [Lib.bytesWorld_size]; omega
  cells := fun j hj => by rw [Lib.bytesWorld_cell w _ s j hj]; simp [byteV]
  free := fun j hj => by
    have hz : s.size ≤ (Lib.bytesCells w 5 s).size := by simp [Lib.bytesCells]
    simp [World.frozen?, Lib.bytesWorld_at_new]
    omega }

theorem low_kept {w : World} {s : ByteArray} {k : Nat} {wr : World} (h : Low w s k wr) (hk : k < s.size) (hl : low (s.data.toList.getD k 0) = s.data.toList.getD k 0) : Low w s (k + 1) wr := {
  below := h.below
  size := h.size
  cells := fun j hj => by
    rw [h.cells j hj]
    rcases Nat.lt_trichotomy j k with h1 | h1 | h1
    · rw [if_pos h1, if_pos (by omega)]
    · subst h1; rw [if_neg (by omega), if_pos (by omega), hl]
    · rw [if_neg (by omega), if_neg (by omega)]
  free := h.free }

theorem low_set {w : World} {s : ByteArray} {k : Nat} {wr : World} (h : Low w s k wr) (hk : k < s.size) : Low w s (k + 1) (wr.setCell ⟨w.heap.size, k, none⟩ (byteV (low (s.data.toList.getD k 0)))) := {
  below := h.below.setCell (Nat.le_refl _) _
  size := by simpa using h.size
  cells := fun j hj => by
    rcases Nat.lt_trichotomy j k with h1 | h1 | h1
    · rw [World.cell?_setCell_other _ _ _ _ (by simp <;> omega), h.cells j hj, if_pos h1, if_pos (by omega)]
    · subst h1
      rw [World.cell?_setCell_same _ _ _ (h.cells j hj), if_pos (by omega)]
    · rw [World.cell?_setCell_other _ _ _ _ (by simp <;> omega), h.cells j hj, if_neg (by omega), if_neg (by omega)]
  free := fun j hj => by simpa using h.free j hj }

set_option maxRecDepth 100000 in
set_option maxHeartbeats 1000000 in
theorem lower_any (s : ByteArray) (w : World) (hs : s.size ≤ 140737488351232) : Calls Tryz.prog 131 #[.string s] w fun e w' => e = .returned (.string (lowerB s)) ∧ Below w.heap.size w w' := by
  have hcv := fun W : World => Lib.run_convert_string_bytes W 9 124 5 s Tryz.underlying9 Tryz.underlying124 Tryz.underlying5
  go_enter Tryz.func131, Tryz.ntmps131
  go_wp2
  clear hcv
  go_loopw [4, 5, 10] (fun _ _ i wr => ∃ k : Nat, k ≤ s.size ∧ i = .int .i64 k ∧ Aside0 (Low w s k wr)) (fun _ _ i _ => s.size - (intOf i).toNat)
  case atStart => exact ⟨0, Nat.zero_le _, rfl, ⟨low_start w s⟩⟩
  case round =>
    obtain ⟨k, hk, rfl, HL⟩ := hrel
    by_cases hlt : k < s.size
    · obtain ⟨n, hn⟩ : ∃ n : Int, n = ((s.data.toList.getD k 0).toNat : Int) := ⟨_, rfl⟩
      have hc : wr.cell? ⟨w.heap.size, k, none⟩ = some (.int .u8 n) := by
        rw [HL.out.cells k hlt, if_neg (by omega), hn]; rfl
      have hf := HL.out.free k hlt
      have h0 : 0 ≤ n := by omega
      have h1 : n ≤ 255 := by have := (s.data.toList.getD k 0).toNat_lt; omega
      have HN := Aside0.mk hn
      clear hn
      by_cases ha : 65 ≤ n
      · by_cases hb : n ≤ 90
        · have hset : byteV (low (s.data.toList.getD k 0)) = .int .u8 (n + 32) := by
            have hn := HN.out
            have e : (low (s.data.toList.getD k 0)).toNat = (s.data.toList.getD k 0).toNat + 32 := by
              unfold low
              rw [if_pos (by omega), UInt8.toNat_add, show (32 : UInt8).toNat = 32 from rfl]
              omega
            unfold byteV
            rw [e]
            congr 1
            omega
          have HR := low_set HL.out hlt
          rw [hset] at HR
          have HR2 := Aside0.mk HR
          clear HR hset
          go_wp2
          go_roundw
          case rel => exact ⟨k + 1, by omega, by go_num, HR2⟩
          case measure => simp [intOf]; omega
        · have HR := low_kept HL.out hlt (by have hn := HN.out; unfold low; rw [if_neg (by omega)])
          have HR2 := Aside0.mk HR
          clear HR
          go_wp2
          go_roundw
          case rel => exact ⟨k + 1, by omega, by go_num, HR2⟩
          case measure => simp [intOf]; omega
      · have HR := low_kept HL.out hlt (by have hn := HN.out; unfold low; rw [if_neg (by omega)])
        have HR2 := Aside0.mk HR
        clear HR
        go_wp2
        go_roundw
        case rel => exact ⟨k + 1, by omega, by go_num, HR2⟩
        case measure => simp [intOf]; omega
    · obtain rfl : k = s.size := by omega
      have hcv2 := run_convert_bytes_arg wr 124 5 Tryz.underlying124 Tryz.underlying5 w.heap.size 0 s.size (grownCap w s.size 0 5) ((s.data.toList.map low).map fun c => (c.toNat : Int)) (by simp) (fun i hi => by
        have := HL.out.cells i hi
        rw [if_pos hi] at this
        simpa [byteV, List.getD_eq_getElem?_getD, hi] using this) 9 Tryz.underlying9
      have hst : (strOfNums ((s.data.toList.map low).map fun c => (c.toNat : Int))) = lowerB s := by
        unfold strOfNums lowerB
        rw [List.map_map]
        congr 2
        refine (List.map_congr_left fun c _ => ?_).trans (List.map_id _)
        simp
      rw [hst] at hcv2
      clear hst
      go_wp2
      go_ret
      exact ⟨rfl, HL.out.below⟩

/-! ### a map's literal -/
theorem wpList_insert_own {H : Type} {P : Program} (w : World) {ops : Array Oper} {rest : List Oper} {o : Oper} {a : Act} {Q : Exit → Act → World → Prop}
    (hg : o.guard = none) (m x v : Operand) (t : TypeId) (hop : o.op = Op.insert t m x v)
    (k e : TypeId) (K : Keyed P k) (ht : P.underlying t = some (.map k e)) (R : Value → Option (DataW H × List MemPlace)) (b n : Nat) (D : DataW H)
    (hm : a.eval m = .map (some b)) (hown : w.ownsMap P k R b n D) (hn : n < maxLen) (key val : Value) (kl : Lit) (hx : a.eval x = key) (hv : a.eval v = val) (hkey : keyOf P k key = some kl)
    (d : DataW H) (ps : List MemPlace) (hval : R val = some (d, ps))
    (hK : ∀ w', w'.ownsMap P k R b (n + 1) (D.put kl d) → w.grownBy w' (some b) → wpList P ops Q rest (a.put o.dst undef) w') :
    wpList P ops Q (o :: rest) a w := by
  refine wpList_plain hg fun K' hK' => ?_
  obtain ⟨w', hrun, r1, r2⟩ := hown.update K ht hn hkey hval
  unfold Oper.wp
  simp [execOp, hop, hm, hx, hv, hrun, Result.andThen]
  exact hK' _ _ (hK w' r1 r2)

/-- The words of the language. -/
def keyWords : List (List UInt8) := [[115, 101, 108, 101, 99, 116], [97, 115], [105, 110, 116, 111], [102, 114, 111, 109], [119, 104, 101, 114, 101], [103, 114, 111, 117, 112], [98, 121], [116, 105, 109, 101], [102, 105, 108, 108], [97, 110, 100], [111, 114], [110, 111, 116], [105, 110], [116, 114, 117, 101], [102, 97, 108, 115, 101]]
def isKey (s : ByteArray) : Bool := keyWords.contains (lowerB s).data.toList
def putAll {H : Type} : List (List UInt8) → DataW H → DataW H
  | [], D => D
  | k :: l, D => putAll l (D.put (.string k) (.lit (.int .i64 1)))
theorem isMap_putAll {H : Type} : ∀ (l : List (List UInt8)) (D : DataW H), IsMap D → IsMap (putAll l D)
  | [], _, h => h
  | _ :: l, _, h => isMap_putAll l _ (h.put _ _)
theorem atKey_putAll {H : Type} (q : List UInt8) (z : DataW H) : ∀ (l : List (List UInt8)) (D : DataW H), IsMap D → (putAll l D).atKey (.string q) z = if q ∈ l then .lit (.int .i64 1) else D.atKey (.string q) z
  | [], D, _ => by simp [putAll]
  | k :: l, D, h => by
    rw [putAll, atKey_putAll q z l _ (h.put _ _)]
    by_cases h1 : q ∈ l
    · rw [if_pos h1, if_pos (List.mem_cons_of_mem _ h1)]
    · rw [if_neg h1]
      by_cases h2 : q = k
      · subst h2
        rw [if_pos (List.mem_cons_self ..), atKey_put_same h (by simp [WideAt.IsKeyLit])]
      · rw [if_neg (by simp [h1, h2]), atKey_put_other (by simpa using h2)]

/-- A literal's map, as far as it has been built. -/
structure Built (P : Program) (k e : TypeId) (w : World) (n : Nat) (D : DataW Unit) (wr : World) : Prop where
  own : wr.ownsMap P k (plainElem P e) w.heap.size n D
  below : Below w.heap.size w wr
theorem Built.start (P : Program) (k e : TypeId) (w : World) : Built P k e w 0 (.map []) (w.alloc (.map #[] 0)) :=
  ⟨World.ownsMap_made _ _ _ _, (Below.refl _ _).alloc (Nat.le_refl _) _⟩
theorem Built.step {P : Program} {k e : TypeId} {w : World} {n n' : Nat} {D D' : DataW Unit} {wr w' : World} (h : Built P k e w n D wr) (ho : w'.ownsMap P k (plainElem P e) w.heap.size n' D') (hg : wr.grownBy w' (some w.heap.size)) : Built P k e w n' D' w' :=
  ⟨ho, h.below.grown hg h.below.size (fun j hj => by cases hj; exact Nat.le_refl _)⟩

theorem Built.later {P : Program} {k e : TypeId} {w : World} {n : Nat} {D : DataW Unit} {wr w' : World} (h : Built P k e w n D wr) (hb : Below wr.heap.size wr w') : Built P k e w n D w' :=
  ⟨h.own.kept (grown_of_below hb none) (by simp), below_then h.below h.below.size hb⟩
theorem lowerB_size (s : ByteArray) : (lowerB s).size = s.size := by
  show (List.map low s.data.toList).toArray.size = s.data.size
  rw [List.size_toArray, List.length_map, Array.length_toList]
theorem zeroE (w : World) : (zeroValue 3).run Tryz.prog w = .ok (.int .i64 0) w := by kernel_rfl

set_option maxRecDepth 100000 in
set_option maxHeartbeats 1000000 in
theorem key_any (s : ByteArray) (w : World) (hs : s.size ≤ 140737488351232) : Calls Tryz.prog 103 #[.string s] w fun e w' => e = .returned (.bool (isKey s)) ∧ Below w.heap.size w w' := by
  have hmm := @run_makeMap Tryz.prog
  have K : Keyed Tryz.prog 9 := string_keyed Tryz.underlying9
  have HB := Built.start Tryz.prog 9 3 w
  go_enter Tryz.func103, Tryz.ntmps103
  go_wp2_with (refine wpList_insert_own _ rfl _ _ _ 162 rfl 9 3 K Tryz.underlying162 (plainElem Tryz.prog 3) w.heap.size _ _ rfl HB.own (by unfold maxLen; omega) _ _ _ rfl rfl (Go.WideMaps.keyOf_string_mk Tryz.underlying9 (by decide)) _ [] (plainElem_int Tryz.underlying3 (a := 1) (by decide)) ?_; intro w1 hown hg1; replace HB := HB.step hown hg1; clear hown hg1)
  refine (lower_any s _ hs).mono ?_
  rintro e w2 ⟨rfl, hb2⟩
  have HC : Built Tryz.prog 9 3 w 15 (putAll keyWords (.map [])) w2 := HB.later hb2
  clear HB hb2
  have hls : (lowerB s).size ≤ maxLen := by rw [lowerB_size]; unfold maxLen; omega
  have hcl : ∀ c : Int, (putAll keyWords (.map [] : DataW Unit)).atKey (.string (lowerB s).data.toList) (.lit (.int .i64 0)) = .lit (.int .i64 c) → c = if isKey s then 1 else 0 := by
    intro c hc
    rw [atKey_putAll _ _ _ _ isMap_empty] at hc
    by_cases hm : (lowerB s).data.toList ∈ keyWords
    · rw [if_pos hm] at hc
      injection hc with hc; injection hc with _ hc
      have : isKey s = true := by simp [isKey, hm]
      rw [if_pos this, ← hc]
    · rw [if_neg hm] at hc
      change DataW.lit _ = _ at hc
      injection hc with hc; injection hc with _ hc
      have : isKey s = false := by simp [isKey, hm]
      rw [this, ← hc]; rfl
  have HCL := Aside0.mk hcl
  clear hcl
  cases hk : isKey s with
  | true =>
    have HK := Aside0.mk hk
    clear hk
    go_wp2_with (at_lookup; refine wpList_lookup_own_int _ rfl _ _ 162 rfl 9 3 .i64 K Tryz.underlying162 Tryz.underlying3 (zeroE _) w.heap.size _ _ rfl HC.own _ _ rfl (Go.WideMaps.keyOf_string_mk Tryz.underlying9 hls) ?_; intro c hat hwc; obtain rfl : c = 1 := (HCL.out c hat).trans (by rw [HK.out]; rfl); clear hat)
    go_ret
    exact ⟨by rw [HK.out]; rfl, HC.below⟩
  | false =>
    have HK := Aside0.mk hk
    clear hk
    go_wp2_with (at_lookup; refine wpList_lookup_own_int _ rfl _ _ 162 rfl 9 3 .i64 K Tryz.underlying162 Tryz.underlying3 (zeroE _) w.heap.size _ _ rfl HC.own _ _ rfl (Go.WideMaps.keyOf_string_mk Tryz.underlying9 hls) ?_; intro c hat hwc; obtain rfl : c = 0 := (HCL.out c hat).trans (by rw [HK.out]; rfl); clear hat)
    go_ret
    exact ⟨by rw [HK.out]; rfl, HC.below⟩

/-! ### in the print's form -/
def lex_lower.f (a0 : ByteArray) : Option ByteArray := if a0.size ≤ 140737488351232 then some (lowerB a0) else none
theorem lex_lower.calls (a0 : ByteArray) (r : ByteArray) (w : World) (h : lex_lower.f a0 = some r) :
    Calls Tryz.prog 131 #[.string a0] w fun e w' => e = .returned (.string r) ∧ Below w.heap.size w w' := by
  unfold lex_lower.f at h
  split at h
  · obtain rfl := Option.some.inj h
    exact lower_any a0 w (by assumption)
  · cases h
def lex_Key.f (a0 : ByteArray) : Option Bool := if a0.size ≤ 140737488351232 then some (isKey a0) else none
theorem lex_Key.calls (a0 : ByteArray) (r : Bool) (w : World) (h : lex_Key.f a0 = some r) :
    Calls Tryz.prog 103 #[.string a0] w fun e w' => e = .returned (.bool r) ∧ Below w.heap.size w w' := by
  unfold lex_Key.f at h
  split at h
  · obtain rfl := Option.some.inj h
    exact key_any a0 w (by assumption)
  · cases h
end Go.Proofs.YtlbjfomcgbiagaaGreatDoor.Lex
