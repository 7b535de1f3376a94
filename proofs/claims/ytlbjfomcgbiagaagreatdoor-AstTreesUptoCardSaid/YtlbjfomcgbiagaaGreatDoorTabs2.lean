/- weirref13.FuncName: an array's literal in a variable, indexed. -/
import Derived.Test.YtlbjfomcgbiagaaGreatDoorTabs
import Derived.Test.YtlbjfomcgbiagaaGreatDoorWAll
set_option linter.unusedVariables false
set_option linter.unusedSimpArgs false
namespace Go.Proofs.YtlbjfomcgbiagaaGreatDoor.Tabs
open Go.RowKit Go.Proofs.YtlbjfomcgbiagaaGreatDoorW.PrintWords

set_option maxRecDepth 100000 in
set_option maxHeartbeats 1000000 in
theorem ref_name.at0 (w : World) : Calls Tryz.prog 67 #[.int .u8 0] w fun e w' => e = .returned (.string ⟨#[]⟩) ∧ Below w.heap.size w w' := by
  go_enter Tryz.func67, Tryz.ntmps67
  go_wp2
  go_ret
  exact ⟨rfl, by repeat (first | exact Below.refl _ _ | apply below_alloc | (refine Below.setCell ?_ (Nat.le_refl _) _))⟩
set_option maxRecDepth 100000 in
set_option maxHeartbeats 1000000 in
theorem ref_name.at1 (w : World) : Calls Tryz.prog 67 #[.int .u8 1] w fun e w' => e = .returned (.string ⟨#[99, 111, 117, 110, 116]⟩) ∧ Below w.heap.size w w' := by
  go_enter Tryz.func67, Tryz.ntmps67
  go_wp2
  go_ret
  exact ⟨rfl, by repeat (first | exact Below.refl _ _ | apply below_alloc | (refine Below.setCell ?_ (Nat.le_refl _) _))⟩
set_option maxRecDepth 100000 in
set_option maxHeartbeats 1000000 in
theorem ref_name.at2 (w : World) : Calls Tryz.prog 67 #[.int .u8 2] w fun e w' => e = .returned (.string ⟨#[115, 117, 109]⟩) ∧ Below w.heap.size w w' := by
  go_enter Tryz.func67, Tryz.ntmps67
  go_wp2
  go_ret
  exact ⟨rfl, by repeat (first | exact Below.refl _ _ | apply below_alloc | (refine Below.setCell ?_ (Nat.le_refl _) _))⟩
set_option maxRecDepth 100000 in
set_option maxHeartbeats 1000000 in
theorem ref_name.at3 (w : World) : Calls Tryz.prog 67 #[.int .u8 3] w fun e w' => e = .returned (.string ⟨#[109, 101, 97, 110]⟩) ∧ Below w.heap.size w w' := by
  go_enter Tryz.func67, Tryz.ntmps67
  go_wp2
  go_ret
  exact ⟨rfl, by repeat (first | exact Below.refl _ _ | apply below_alloc | (refine Below.setCell ?_ (Nat.le_refl _) _))⟩
set_option maxRecDepth 100000 in
set_option maxHeartbeats 1000000 in
theorem ref_name.at4 (w : World) : Calls Tryz.prog 67 #[.int .u8 4] w fun e w' => e = .returned (.string ⟨#[109, 105, 110]⟩) ∧ Below w.heap.size w w' := by
  go_enter Tryz.func67, Tryz.ntmps67
  go_wp2
  go_ret
  exact ⟨rfl, by repeat (first | exact Below.refl _ _ | apply below_alloc | (refine Below.setCell ?_ (Nat.le_refl _) _))⟩
set_option maxRecDepth 100000 in
set_option maxHeartbeats 1000000 in
theorem ref_name.at5 (w : World) : Calls Tryz.prog 67 #[.int .u8 5] w fun e w' => e = .returned (.string ⟨#[109, 97, 120]⟩) ∧ Below w.heap.size w w' := by
  go_enter Tryz.func67, Tryz.ntmps67
  go_wp2
  go_ret
  exact ⟨rfl, by repeat (first | exact Below.refl _ _ | apply below_alloc | (refine Below.setCell ?_ (Nat.le_refl _) _))⟩
set_option maxRecDepth 100000 in
set_option maxHeartbeats 1000000 in
theorem ref_name.at6 (w : World) : Calls Tryz.prog 67 #[.int .u8 6] w fun e w' => e = .returned (.string ⟨#[102, 105, 114, 115, 116]⟩) ∧ Below w.heap.size w w' := by
  go_enter Tryz.func67, Tryz.ntmps67
  go_wp2
  go_ret
  exact ⟨rfl, by repeat (first | exact Below.refl _ _ | apply below_alloc | (refine Below.setCell ?_ (Nat.le_refl _) _))⟩
set_option maxRecDepth 100000 in
set_option maxHeartbeats 1000000 in
theorem ref_name.at7 (w : World) : Calls Tryz.prog 67 #[.int .u8 7] w fun e w' => e = .returned (.string ⟨#[108, 97, 115, 116]⟩) ∧ Below w.heap.size w w' := by
  go_enter Tryz.func67, Tryz.ntmps67
  go_wp2
  go_ret
  exact ⟨rfl, by repeat (first | exact Below.refl _ _ | apply below_alloc | (refine Below.setCell ?_ (Nat.le_refl _) _))⟩
set_option maxRecDepth 100000 in
set_option maxHeartbeats 1000000 in
theorem ref_name.at8 (w : World) : Calls Tryz.prog 67 #[.int .u8 8] w fun e w' => e = .returned (.string ⟨#[115, 112, 114, 101, 97, 100]⟩) ∧ Below w.heap.size w w' := by
  go_enter Tryz.func67, Tryz.ntmps67
  go_wp2
  go_ret
  exact ⟨rfl, by repeat (first | exact Below.refl _ _ | apply below_alloc | (refine Below.setCell ?_ (Nat.le_refl _) _))⟩
theorem ref_name.any (a0 : Int) (r : ByteArray) (w : World) (h : ast_name.f a0 = some r) : Calls Tryz.prog 67 #[.int .u8 a0] w fun e w' => e = .returned (.string r) ∧ Below w.heap.size w w' := by
  unfold ast_name.f at h
  split at h
  · rename_i hb
    obtain rfl := Option.some.inj h
    have hc : a0 = 0 ∨ a0 = 1 ∨ a0 = 2 ∨ a0 = 3 ∨ a0 = 4 ∨ a0 = 5 ∨ a0 = 6 ∨ a0 = 7 ∨ a0 = 8 := by omega
    rcases hc with rfl | rfl | rfl | rfl | rfl | rfl | rfl | rfl | rfl
    · exact ref_name.at0 w
    · exact ref_name.at1 w
    · exact ref_name.at2 w
    · exact ref_name.at3 w
    · exact ref_name.at4 w
    · exact ref_name.at5 w
    · exact ref_name.at6 w
    · exact ref_name.at7 w
    · exact ref_name.at8 w
  · cases h
end Go.Proofs.YtlbjfomcgbiagaaGreatDoor.Tabs
