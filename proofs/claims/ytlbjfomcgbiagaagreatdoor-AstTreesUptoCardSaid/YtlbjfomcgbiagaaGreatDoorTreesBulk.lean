/- AstTrees over a short list: the law's call. -/
import Derived.Test.YtlbjfomcgbiagaaGreatDoorTreesPure
import Derived.Test.YtlbjfomcgbiagaaGreatDoorLive13
import Derived.Test.YtlbjfomcgbiagaaGreatDoorBulk
set_option linter.unusedVariables false
set_option linter.unusedSimpArgs false
namespace Go.Proofs.YtlbjfomcgbiagaaGreatDoor.TreesBulk
open Go Go.RowKit Go.Proofs.YtlbjfomcgbiagaaGreatDoorW.PrintWords Go.Proofs Go.Proofs.YtlbjfomcgbiagaaGreatDoor Go.Proofs.YtlbjfomcgbiagaaGreatDoor.Base Go.Proofs.YtlbjfomcgbiagaaGreatDoor.Print Go.Proofs.YtlbjfomcgbiagaaGreatDoor.CondT Go.Proofs.YtlbjfomcgbiagaaGreatDoor.Nodes Go.Proofs.YtlbjfomcgbiagaaGreatDoor.SumPure

theorem node_bulk {H : Type} (n : ND) : Rows.uptoBulk (nodeD (H := H) n) = n.f2.size + 7 := by
  unfold nodeD
  simp only [Rows.uptoBulk, Rows.uptoBulkAll]
  have : n.f2.data.toList.length = n.f2.size := Array.length_toList
  omega
theorem wt_le {H : Type} : ∀ l : List ND, (l.map wt).sum ≤ 10 * Rows.uptoBulkAll (l.map (nodeD (H := H)))
  | [] => by simp [Rows.uptoBulkAll]
  | n :: l => by
    have ih := wt_le (H := H) l
    have h := node_bulk (H := H) n
    simp only [List.map_cons, List.sum_cons, Rows.uptoBulkAll]
    have hw : wt n = 2 * n.f2.size + 64 := rfl
    omega
theorem txt_le {H : Type} (l : List ND) (n : ND) (hn : n ∈ l) : n.f2.size ≤ Rows.uptoBulkAll (l.map (nodeD (H := H))) := by
  have h := bulks.part_le (H := H) (d := nodeD n) (l := l.map nodeD) (List.mem_map_of_mem hn)
  rw [node_bulk] at h
  omega
theorem small {H : Type} {l : List ND} {d : DataW H} (hd : (d = .nil ∧ l = []) ∨ ∃ sp, d = .slice (l.map nodeD) sp) (hb : Rows.uptoBulkAll ([d] ++ []) ≤ 1048576) (hf : ∀ n ∈ l, Fine n ∧ n.f2.size ≤ maxLen) : Small l := by
  have h2 := bulks.part_le (H := H) (d := d) (l := [d] ++ []) (by simp)
  rcases hd with ⟨rfl, rfl⟩ | ⟨sp, rfl⟩
  · exact ⟨by simp, (fun n hn => by cases hn), (fun n hn => by cases hn), by simp⟩
  · have h1 := bulks.slice_le (l.map (nodeD (H := H))) sp
    have h3 := bulks.slice_elems (l.map (nodeD (H := H))) sp
    rw [List.length_map] at h1
    exact ⟨by omega, fun n hn => (hf n hn).1, fun n hn => by have := txt_le (H := H) l n hn; omega, by have := wt_le (H := H) l; omega⟩
theorem law_calls (A : Option Addr) (c : Nat) (l : List ND) (W : World) (hr : Kd.C k56 W A l.length l) (hc : l.length ≤ c) (hS : Small l) (hG : Globs W) :
    Calls Tryz.prog 3 #[.slice A l.length c] W fun e w' => e = .returned (.bool true) ∧ Below W.heap.size W w' := by
  obtain ⟨s, t, hT⟩ := TreesPure.tells l hS
  have hln := hS.len
  exact TreesLaw.trees_calls A c l _ _ s t W hr hc (by omega) hG hT Live13.live_calls
end Go.Proofs.YtlbjfomcgbiagaaGreatDoor.TreesBulk
