/- Valid UTF-8 without controls: the library's way (decode, look for a control) and the document's (how wide is the sequence at the front) tell the same. -/
import Derived.Lib.ValidLaws
import Derived.Shelf.GgClosure.StringsIndexFunc
namespace Go.Proofs.YtlbjfomcgbiagaaGreatDoor.Utf
open Go
set_option linter.unusedVariables false
set_option linter.unusedSimpArgs false

def bN (l : List UInt8) (k : Nat) : Nat := (l.getD k 0).toNat
def cN (l : List UInt8) (k : Nat) : Bool := decide (k < l.length) && (decide (128 ≤ bN l k) && decide (bN l k < 192))
/-- How many bytes the sequence at the front has, as the document tells it; 0: none begins there. -/
def wide (l : List UInt8) : Nat :=
  if l = [] then 0
  else if bN l 0 < 128 then 1
  else if 194 ≤ bN l 0 ∧ bN l 0 < 224 then (if cN l 1 then 2 else 0)
  else if 224 ≤ bN l 0 ∧ bN l 0 < 240 then
    (if cN l 1 ∧ cN l 2 then (if ((bN l 0 - 224) * 64 + (bN l 1 - 128)) * 64 + (bN l 2 - 128) < 2048 ∨ (55296 ≤ ((bN l 0 - 224) * 64 + (bN l 1 - 128)) * 64 + (bN l 2 - 128) ∧ ((bN l 0 - 224) * 64 + (bN l 1 - 128)) * 64 + (bN l 2 - 128) < 57344) then 0 else 3) else 0)
  else if 240 ≤ bN l 0 ∧ bN l 0 < 245 then
    (if cN l 1 ∧ cN l 2 ∧ cN l 3 then (if (((bN l 0 - 240) * 64 + (bN l 1 - 128)) * 64 + (bN l 2 - 128)) * 64 + (bN l 3 - 128) < 65536 ∨ 1114111 < (((bN l 0 - 240) * 64 + (bN l 1 - 128)) * 64 + (bN l 2 - 128)) * 64 + (bN l 3 - 128) then 0 else 4) else 0)
  else 0

theorem bN_lt (l : List UInt8) (k : Nat) : bN l k < 256 := (l.getD k 0).toNat_lt
theorem get_at (l : List UInt8) (k : Nat) : ((⟨l.toArray⟩ : ByteArray).get! k).toNat = bN l k := by
  simp only [ByteArray.get!, bN]
  congr 1
  simp only [List.getD_eq_getElem?_getD, List.getElem!_toArray, List.getElem!_eq_getElem?_getD]
  rfl

set_option maxHeartbeats 8000000 in
theorem decode_wide (l : List UInt8) (hl : l ≠ []) :
    (wide l = 0 → Lib.decodeL l = (65533, 1)) ∧
    (wide l ≠ 0 → (Lib.decodeL l).2 = wide l ∧ ¬ ((Lib.decodeL l).1 = 65533 ∧ (Lib.decodeL l).2 = 1) ∧ ((Lib.decodeL l).1 = bN l 0 ∧ bN l 0 < 128 ∨ 128 ≤ (Lib.decodeL l).1 ∧ 128 ≤ bN l 0)) := by
  have b0 := bN_lt l 0
  have b1 := bN_lt l 1
  have b2 := bN_lt l 2
  have b3 := bN_lt l 3
  have hz : (⟨l.toArray⟩ : ByteArray).size = l.length := by simp [ByteArray.size]
  have hc : ∀ k, (decide (k < (⟨l.toArray⟩ : ByteArray).size) && bN l k / 64 == 2) = cN l k := by
    intro k
    rw [hz, cN, Bool.eq_iff_iff]
    simp only [Bool.and_eq_true, decide_eq_true_eq, beq_iff_eq]
    constructor
    · rintro ⟨h1, h2⟩; exact ⟨h1, by omega, by omega⟩
    · rintro ⟨h1, h2, h3⟩; exact ⟨h1, by omega⟩
  have c1 : cN l 1 = true → 128 ≤ bN l 1 ∧ bN l 1 < 192 := by intro h; simp only [cN, Bool.and_eq_true, decide_eq_true_eq] at h; exact h.2
  have c2 : cN l 2 = true → 128 ≤ bN l 2 ∧ bN l 2 < 192 := by intro h; simp only [cN, Bool.and_eq_true, decide_eq_true_eq] at h; exact h.2
  have c3 : cN l 3 = true → 128 ≤ bN l 3 ∧ bN l 3 < 192 := by intro h; simp only [cN, Bool.and_eq_true, decide_eq_true_eq] at h; exact h.2
  unfold Lib.decodeL Utf8.decode wide
  have h1 := hc 1
  have h2 := hc 2
  have h3 := hc 3
  simp only [Nat.zero_add, get_at, hl, if_false, Utf8.runeError, Utf8.valid]
  simp only [h1, h2, h3]
  clear h1 h2 h3 hc hz
  generalize bN l 0 = a at *
  generalize bN l 1 = b at *
  generalize bN l 2 = c at *
  generalize bN l 3 = d at *
  generalize cN l 1 = k1 at *
  generalize cN l 2 = k2 at *
  generalize cN l 3 = k3 at *
  have hre : ∃ re : Nat, re = 65533 := ⟨_, rfl⟩
  obtain ⟨re, hre⟩ := hre
  rw [← hre]
  have hr2 : 128 ≤ re := by omega
  clear hre
  rcases Bool.eq_false_or_eq_true k1 with rfl | rfl <;> rcases Bool.eq_false_or_eq_true k2 with rfl | rfl <;> rcases Bool.eq_false_or_eq_true k3 with rfl | rfl <;> simp only [Bool.and_true, Bool.and_false, Bool.false_eq_true, forall_const, false_implies, true_and, and_true, false_and, and_false, if_false, if_true, beq_iff_eq, Bool.and_eq_true, Bool.or_eq_true, decide_eq_true_eq, ge_iff_le] at c1 c2 c3 ⊢
  all_goals (refine ⟨fun h => ?_, fun h => ?_⟩ <;> (repeat' split at h) <;> (repeat' split) <;> first | omega | rfl | (exfalso; omega) | (refine ⟨rfl, ?_, ?_⟩ <;> first | omega | (simp; omega)) | skip)
/-- Valid, without controls, as the document tells it. -/
def docGo : Nat → List UInt8 → Bool
  | 0, _ => true
  | n + 1, l => if l = [] then true else if wide l = 0 ∨ bN l 0 < 32 ∨ bN l 0 = 127 then false else docGo n (l.drop (wide l))
theorem doc_eq (s : ByteArray) (p : Nat → Bool) (hp : ∀ r, p r = (decide (r < 32) || decide (r = 127))) : ∀ (n pos : Nat), s.size ≤ pos + n →
    (Lib.validD (s.data.toList.drop pos) && !decide (0 ≤ Lib.idxFuncFrom p true s n pos)) = docGo n (s.data.toList.drop pos)
  | 0, pos, h => by
    have e : s.data.toList.drop pos = [] := List.drop_eq_nil_of_le (by rw [← Lib.size_eq]; omega)
    rw [e]
    simp [docGo, Lib.validD_nil, Lib.idxFuncFrom]
  | n + 1, pos, h => by
    have hsz : s.data.toList.length = s.size := Lib.size_eq s
    by_cases hpos : pos < s.size
    · have hne : s.data.toList.drop pos ≠ [] := by
        intro h0
        have := congrArg List.length h0
        simp only [List.length_drop, List.length_nil] at this
        omega
      have hd := Lib.decodeL_drop s pos
      obtain ⟨w0, w1⟩ := decode_wide _ hne
      have hw := Lib.decodeL_width (s.data.toList.drop pos)
      unfold docGo Lib.idxFuncFrom
      rw [if_neg hne, if_pos hpos, Lib.validD_step _ hne, ← hd, hp]
      by_cases hz : wide (s.data.toList.drop pos) = 0
      · rw [w0 hz, if_pos (Or.inl hz)]
        simp
      · obtain ⟨e2, hnb, hb⟩ := w1 hz
        rw [if_neg hnb]
        by_cases hc : bN (s.data.toList.drop pos) 0 < 32 ∨ bN (s.data.toList.drop pos) 0 = 127
        · rw [if_pos (Or.inr hc)]
          rcases hb with ⟨e1, h1⟩ | ⟨h1, h2⟩
          · have : (decide ((Lib.decodeL (s.data.toList.drop pos)).1 < 32) || decide ((Lib.decodeL (s.data.toList.drop pos)).1 = 127)) = true := by rw [e1]; simpa using hc
            rw [if_pos this]
            simp
          · omega
        · have hcn : ¬ (wide (s.data.toList.drop pos) = 0 ∨ bN (s.data.toList.drop pos) 0 < 32 ∨ bN (s.data.toList.drop pos) 0 = 127) := by omega
          rw [if_neg hcn]
          have : ¬ (decide ((Lib.decodeL (s.data.toList.drop pos)).1 < 32) || decide ((Lib.decodeL (s.data.toList.drop pos)).1 = 127)) = true := by
            simp only [Bool.or_eq_true, decide_eq_true_eq]
            omega
          rw [if_neg this, e2, List.drop_drop]
          exact doc_eq s p hp n (pos + wide (s.data.toList.drop pos)) (by omega)
    · have e : s.data.toList.drop pos = [] := List.drop_eq_nil_of_le (by omega)
      rw [e]
      simp [docGo, Lib.validD_nil, Lib.idxFuncFrom, hpos]
end Go.Proofs.YtlbjfomcgbiagaaGreatDoor.Utf
