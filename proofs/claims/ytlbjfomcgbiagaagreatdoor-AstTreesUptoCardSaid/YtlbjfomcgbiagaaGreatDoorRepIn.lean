/- lex.inQuotes: a text in quotes, its quotes and backslashes each behind a backslash. -/
import Derived.Test.YtlbjfomcgbiagaaGreatDoorRepRun
set_option linter.unusedVariables false
set_option linter.unusedSimpArgs false
namespace Go.Proofs.YtlbjfomcgbiagaaGreatDoor.Rep
open Go Go.RowKit Go.Proofs.YtlbjfomcgbiagaaGreatDoorW.PrintWords Go.Proofs

set_option maxRecDepth 100000 in
set_option maxHeartbeats 4000000 in
theorem replace_any (q : UInt8) (hq : q = 34 ∨ q = 39) (s : ByteArray) (hs : s.size ≤ 70368744177664) (n B O c : Nat) (hn : n ≤ B) (w : World) (hnw : n ≤ w.heap.size) (hM : Made q w B O c) :
    Calls Tryz.prog 133 #[.pointer (some ⟨B, 0, none⟩), .string s] w fun e w' => e = .returned (.string ⟨(esc q s.data.toList).toArray⟩) ∧ Below n w w' := by
  have hmf : ∀ (fn : Fn) (first cap : Array Value) (w : World), (Instr.makeFunc fn first cap).run Tryz.prog w = .ok (.func fn first cap) w := fun _ _ _ _ => rfl
  have hmt : ∀ (R : Nat) (w : World), (method 389 216 (.pointer (some ⟨R, 0, none⟩)) "Replace").run Tryz.prog w = .ok (232, .pointer (some ⟨R, 0, none⟩)) w := fun _ _ => by kernel_rfl
  have HD := Aside0.mk (do_any q hq n B O c hn w hM)
  have hq2 : q ≠ 92 := by rcases hq with rfl | rfl <;> decide
  clear hM
  go_enter Tryz.func133, Tryz.ntmps133
  go_wp2_with (go_at_call 146; refine HD.out.mono ?_; rintro e w2 ⟨rfl, R, T, Q, S, cT, cQ, cS, hR, hsz⟩; have k3 := hR.r; have HR := Aside0.mk hR; have HZ := Aside0.mk hsz; have hrun := run_any q hq2 s hs w2 R T Q S cT cQ cS hR.tab; have HRun := Aside0.mk hrun; clear hR hsz hrun)
  go_wp2_with (go_at_call 232; refine HRun.out.mono ?_; rintro e w3 ⟨rfl, hb⟩; have HB3 := Aside0.mk hb; clear hb)
  go_ret
  exact ⟨rfl, below_then HR.out.bel (Nat.le_trans hnw HZ.out) HB3.out⟩

/-- A text in quotes. -/
def inQ (q : UInt8) (l : List UInt8) : List UInt8 := q :: (esc q l ++ [q])
set_option maxRecDepth 100000 in
set_option maxHeartbeats 4000000 in
theorem quotes_any (q : UInt8) (hq : q = 34 ∨ q = 39) (s : ByteArray) (hs : s.size ≤ 70368744177664) (w : World) :
    Calls Tryz.prog 104 #[.string s, .string ⟨#[q]⟩] w fun e w' => e = .returned (.string ⟨(inQ q s.data.toList).toArray⟩) ∧ Below w.heap.size w w' := by
  have hcat : (⟨#[92]⟩ : ByteArray) ++ (⟨#[q]⟩ : ByteArray) = ⟨#[92, q]⟩ := rfl
  have HA : ∀ W : World, ∀ j u, (four q)[j]? = some u → (W.alloc (.cells #[.string ⟨#[92]⟩, .string ⟨#[92, 92]⟩, .string ⟨#[q]⟩, .string ⟨#[92, q]⟩] 9)).cell? ⟨W.heap.size, j, none⟩ = some u := by
    intro W j u hj
    rw [new_cell _ none rfl]
    show (four q).toArray[j]? = some u
    rw [List.getElem?_toArray]
    exact hj
  have HA := Aside0.mk HA
  have hL : (esc q s.data.toList).length ≤ 140737488355328 := by rw [esc_length]; have h1 := cnt_le q s.data.toList; have h2 := Lib.size_eq s; omega
  have hl1 : ¬ 9223372036854775807 < 1 + (esc q s.data.toList).length := by omega
  have hl2 : ¬ 9223372036854775807 < 1 + (esc q s.data.toList).length + 1 := by omega
  go_enter Tryz.func104, Tryz.ntmps104
  go_wp2_with (first
    | (go_at_call 132; refine (new_any q w.heap.size _ (HA.out w)).mono ?_; rintro e w1 ⟨B, O, c, rfl, hO, hb, hM⟩; have HB1 := Aside0.mk hb; have HO := Aside0.mk hO; have HM := Aside0.mk hM; clear hb hO hM)
    | (go_at_call 133; refine (replace_any q hq s hs w.heap.size B O c (by have := HM.out.ne; have := HO.out; simp at this; omega) _ (by have := HB1.out.size; simp at this; omega) HM.out).mono ?_; rintro e w2 ⟨rfl, hb⟩; have HB2 := Aside0.mk hb; clear hb))
  go_ret
  have hst : ((⟨#[q]⟩ : ByteArray) ++ ⟨(esc q s.data.toList).toArray⟩ ++ ⟨#[q]⟩ : ByteArray) = ⟨(inQ q s.data.toList).toArray⟩ := by
    apply ByteArray.ext
    rw [ByteArray.data_append, ByteArray.data_append]
    apply Array.ext'
    simp [inQ]
  refine ⟨?_, ?_⟩
  · rw [← hst]
    rfl
  · exact (((Below.refl _ _).alloc (Nat.le_refl _) _).trans (HB1.out.mono (by simp))).trans HB2.out
end Go.Proofs.YtlbjfomcgbiagaaGreatDoor.Rep
