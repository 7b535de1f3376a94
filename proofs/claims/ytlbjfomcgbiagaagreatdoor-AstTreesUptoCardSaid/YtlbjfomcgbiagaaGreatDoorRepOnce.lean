/- strings.Replacer: built once, by sync.Once (one goroutine), and ready. -/
import Derived.Test.YtlbjfomcgbiagaaGreatDoorRep
set_option linter.unusedVariables false
set_option linter.unusedSimpArgs false
namespace Go.Proofs.YtlbjfomcgbiagaaGreatDoor.Rep
open Go Go.RowKit Go.Proofs.YtlbjfomcgbiagaaGreatDoorW.PrintWords

theorem Tab.below {q : UInt8} {w w' : World} {R T Q S cT cQ cS : Nat} (h : Tab q w R T Q S cT cQ cS) {n : Nat} (hb : Below n w w') (hn : R < n ∧ T < n ∧ Q < n ∧ S < n) (hs : w.heap.size ≤ w'.heap.size) : Tab q w' R T Q S cT cQ cS := {
  tab := fun i hi => (hb.cell hn.1).trans (h.tab i hi)
  row := (hb.cell hn.1).trans h.row
  t0 := (hb.cell hn.2.1).trans h.t0
  t1 := (hb.cell hn.2.1).trans h.t1
  q0 := (hb.cell hn.2.2.1).trans h.q0
  q1 := (hb.cell hn.2.2.1).trans h.q1
  s0 := (hb.cell hn.2.2.2).trans h.s0
  s1 := (hb.cell hn.2.2.2).trans h.s1
  lt := by have := h.lt; omega }

theorem cell_apart {w : World} {a b : Nat} (h : a ≠ b) (i j : Nat) (u : Value) : (w.setCell ⟨b, j, none⟩ u).cell? ⟨a, i, none⟩ = w.cell? ⟨a, i, none⟩ :=
  World.cell?_setCell_other _ _ _ _ (fun e => h (by cases e; rfl))
theorem Tab.set {q : UInt8} {w : World} {R T Q S cT cQ cS : Nat} (h : Tab q w R T Q S cT cQ cS) (B j : Nat) (u : Value) (n1 : R ≠ B) (n2 : T ≠ B) (n3 : Q ≠ B) (n4 : S ≠ B) : Tab q (w.setCell ⟨B, j, none⟩ u) R T Q S cT cQ cS := {
  tab := fun i hi => (cell_apart n1 _ _ _).trans (h.tab i hi)
  row := (cell_apart n1 _ _ _).trans h.row
  t0 := (cell_apart n2 _ _ _).trans h.t0
  t1 := (cell_apart n2 _ _ _).trans h.t1
  q0 := (cell_apart n3 _ _ _).trans h.q0
  q1 := (cell_apart n3 _ _ _).trans h.q1
  s0 := (cell_apart n4 _ _ _).trans h.s0
  s1 := (cell_apart n4 _ _ _).trans h.s1
  lt := by simpa using h.lt }
/-- A replacer that is built. -/
structure Ready (q : UInt8) (n : Nat) (w w' : World) (B : Nat) (d s : Int) (R T Q S cT cQ cS : Nat) : Prop where
  v : w'.cell? ⟨B, 0, none⟩ = some (.int .u32 d)
  st : w'.cell? ⟨B, 1, none⟩ = some (.int .i32 s)
  r : w'.cell? ⟨B, 3, none⟩ = some (.iface 216 (.pointer (some ⟨R, 0, none⟩)))
  fr : ∀ j, w'.frozen? ⟨B, j, none⟩ = false
  tab : Tab q w' R T Q S cT cQ cS
  bel : Below n w w'
  ne : R ≠ B ∧ T ≠ B ∧ Q ≠ B ∧ S ≠ B

set_option maxRecDepth 100000 in
set_option maxHeartbeats 1000000 in
theorem once_any (q : UInt8) (hq : q = 34 ∨ q = 39) (n : Nat) (B O c : Nat) (d s : Int) (hn : n ≤ B) (w : World) (hv : w.cell? ⟨B, 0, none⟩ = some (.int .u32 d)) (hs : w.cell? ⟨B, 1, none⟩ = some (.int .i32 s))
    (h3 : w.cell? ⟨B, 3, none⟩ = some .nilIface) (hO : Old q w B O c) (hf : ∀ j, w.frozen? ⟨B, j, none⟩ = false) :
    Calls Tryz.prog 147 #[.pointer (some ⟨B, 0, none⟩)] w fun e w' => e = .returned (.tuple #[]) ∧ ∃ R T Q S cT cQ cS, Ready q n w w' B d s R T Q S cT cQ cS ∧ w.heap.size ≤ w'.heap.size := by
  have hlt : B < w.heap.size := lt_of_cell? hv
  have hb := build_any q hq B O c w hO
  have HB := Aside0.mk hb
  have HV := Aside0.mk hv
  have HS := Aside0.mk hs
  have H3 := Aside0.mk h3
  have HO := Aside0.mk hO
  have HF := Aside0.mk hf
  clear hb hv hs h3 hO hf
  go_enter Tryz.func147, Tryz.ntmps147
  go_wp2_with (go_at_call 155; refine HB.out.mono ?_; rintro e w1 ⟨R, T, Q, S, cT, cQ, cS, rfl, hbel, htab⟩; have k3 := (hbel.cell hlt).trans H3.out; have k4 := (hbel.cell hlt).trans HO.out.1; have f3 : w1.frozen? ⟨B, 3, none⟩ = false := (World.frozen?_of_block (hbel.block B hlt)).trans (HF.out 3); have f4 : w1.frozen? ⟨B, 4, none⟩ = false := (World.frozen?_of_block (hbel.block B hlt)).trans (HF.out 4); have HBel := Aside0.mk hbel; have HTab := Aside0.mk htab; clear hbel htab)
  go_end0
  have v1 := (HBel.out.cell hlt).trans HV.out
  have s1 := (HBel.out.cell hlt).trans HS.out
  have hT := HTab.out
  have n1 : R ≠ B := fun e => by have := hT.tab 0 (by omega); rw [e, v1] at this; have := Option.some.inj this; split at this <;> (try split at this) <;> cases this
  have n2 : T ≠ B := fun e => by have := hT.t0; rw [e, v1] at this; cases this
  have n3 : Q ≠ B := fun e => by have := hT.q0; rw [e, v1] at this; cases this
  have n4 : S ≠ B := fun e => by have := hT.s0; rw [e, v1] at this; cases this
  have hB1 : B < w1.heap.size := Nat.lt_of_lt_of_le hlt HBel.out.size
  refine ⟨rfl, R, T, Q, S, cT, cQ, cS, { v := ?_, st := ?_, r := ?_, fr := fun j => ?_, tab := ?_, bel := ?_, ne := ⟨n1, n2, n3, n4⟩ }, by simpa using HBel.out.size⟩
  · rw [World.cell?_setCell_other _ _ _ _ (by simp), World.cell?_setCell_other _ _ _ _ (by simp)]; exact v1
  · rw [World.cell?_setCell_other _ _ _ _ (by simp), World.cell?_setCell_other _ _ _ _ (by simp)]; exact s1
  · rw [World.cell?_setCell_other _ _ _ _ (by simp)]; exact World.cell?_setCell_same _ _ _ k3
  · rw [World.frozen?_setCell, World.frozen?_setCell]; exact (World.frozen?_of_block (HBel.out.block B hlt)).trans (HF.out j)
  · exact (hT.set B _ _ n1 n2 n3 n4).set B _ _ n1 n2 n3 n4
  · exact ((HBel.out.mono (by omega)).setCell hn _).setCell hn _

/-! ### sync.Once, by one goroutine -/
theorem disable (w : World) : (callFunc 168 #[]).run Tryz.prog w = .ok (.value (.tuple #[])) w := run_call_mark0 Tryz.func168 (by kernel_rfl) (by kernel_rfl) (by kernel_rfl) .disable (by kernel_rfl) w
theorem enable (w : World) : (callFunc 170 #[]).run Tryz.prog w = .ok (.value (.tuple #[])) w := run_call_mark0 Tryz.func170 (by kernel_rfl) (by kernel_rfl) (by kernel_rfl) .enable (by kernel_rfl) w
theorem acquire (a : Addr) (w : World) : (callFunc 171 #[.pointer (some a)]).run Tryz.prog w = .ok (.value (.tuple #[])) w := run_call_marked Tryz.func171 (by kernel_rfl) (by kernel_rfl) (by kernel_rfl) .acquire (by kernel_rfl) a w
theorem releaseMerge (a : Addr) (w : World) : (callFunc 173 #[.pointer (some a)]).run Tryz.prog w = .ok (.value (.tuple #[])) w := run_call_marked Tryz.func173 (by kernel_rfl) (by kernel_rfl) (by kernel_rfl) .releaseMerge (by kernel_rfl) a w

set_option maxRecDepth 100000 in
theorem store_deferred (a : Addr) (x : Value) (u : FrameMode) (w : World) (hc : w.cell? a = some x) (hz : w.frozen? a = false) :
    CallsD Tryz.prog 159 #[.pointer (some a), .bool true] u w fun e u' w' => u' = u ∧ (e = .returned (.tuple #[]) ∧ w' = w.drew.setCell a (.int .u32 1)) := by
  have hc' : w.drew.cell? a = some x := by go_simp
  have hz' : w.drew.frozen? a = false := by go_simp
  have hst := run_call_store (P := Tryz.prog) Tryz.func164 (by kernel_rfl) (by kernel_rfl) (by kernel_rfl) (by kernel_rfl) (k := .u32) (y := 1) hc' hz'
  go_enter_d Tryz.func159, Tryz.ntmps159
  go_wp2
  go_region_calls
  all_goals (go_end0; exact ⟨rfl, rfl⟩)

set_option maxRecDepth 100000 in
theorem unlock_deferred (a : Addr) (u : FrameMode) (w : World) (hc : w.cell? a = some (.int .i32 1)) (hz : w.frozen? a = false) :
    CallsD Tryz.prog 158 #[.pointer (some a)] u w fun e u' w' => u' = u ∧ (e = .returned (.tuple #[]) ∧ w' = w.setCell a (.int .i32 0)) := by
  have hd := disable
  have he := enable
  have hr := releaseMerge
  have hadd := run_call_add (P := Tryz.prog) Tryz.func174 (by kernel_rfl) (by kernel_rfl) (by kernel_rfl) .i32 (by kernel_rfl) (y := -1) (s := 0) hc hz (by simp [go_sem]; rfl)
  have hcv := run_convert_to_unsafe (P := Tryz.prog) (src := 231) (dst := 95) Tryz.underlying231 Tryz.underlying95 (by kernel_rfl) hc
  go_enter_d Tryz.func158, Tryz.ntmps158
  go_wp2
  go_end0
  go_wp2
  go_end0
  exact ⟨rfl, rfl⟩

set_option maxRecDepth 100000 in
theorem lock_free (a : Addr) (w : World) (hc : w.cell? a = some (.int .i32 0)) (hz : w.frozen? a = false) :
    Calls Tryz.prog 157 #[.pointer (some a)] w fun e w' => e = .returned (.tuple #[]) ∧ w' = w.setCell a (.int .i32 1) := by
  have hd := disable
  have he := enable
  have ha := acquire
  have hcas := run_call_cas_hit (P := Tryz.prog) Tryz.func169 (by kernel_rfl) (by kernel_rfl) (by kernel_rfl) .i32 (by kernel_rfl) (y := 1) hc hz
  have hc' : (w.setCell a (.int .i32 1)).cell? a = some (.int .i32 1) := World.cell?_setCell_same w a _ hc
  have hcv := run_convert_to_unsafe (P := Tryz.prog) (src := 231) (dst := 95) Tryz.underlying231 Tryz.underlying95 (by kernel_rfl) hc'
  go_enter Tryz.func157, Tryz.ntmps157
  go_wp2
  first | go_end0 | (simp only [Exit.inBlock, Exit.then]; refine bodyPost_ret (results_none rfl _ _ _) rfl ?_) | refine bodyPost_ret (results_none rfl _ _ _) rfl ?_
  go_wp2
  go_end0
  exact ⟨rfl, rfl⟩

set_option maxRecDepth 100000 in
set_option maxHeartbeats 1600000 in
theorem slow_any (q : UInt8) (hq : q = 34 ∨ q = 39) (n B O c : Nat) (hn : n ≤ B) (w : World) (hM : Made q w B O c) :
    Calls Tryz.prog 154 #[.pointer (some ⟨B, 0, none⟩), .func (.func 147) #[.pointer (some ⟨B, 0, none⟩)] #[]] w fun e w' => e = .returned (.tuple #[]) ∧
      ∃ R T Q S cT cQ cS, Ready q n w w' B 1 0 R T Q S cT cQ cS ∧ w.heap.size ≤ w'.heap.size := by
  have v0 := hM.v
  have s0 := hM.st
  have f1 := hM.fr 1
  have v1 : (w.setCell ⟨B, 1, none⟩ (.int .i32 1)).cell? ⟨B, 0, none⟩ = some (.int .u32 0) := (World.cell?_setCell_other _ _ _ _ (by simp)).trans v0
  have s1 : (w.setCell ⟨B, 1, none⟩ (.int .i32 1)).cell? ⟨B, 1, none⟩ = some (.int .i32 1) := World.cell?_setCell_same _ _ _ s0
  have hO1 : Old q (w.setCell ⟨B, 1, none⟩ (.int .i32 1)) B O c := ⟨(World.cell?_setCell_other _ _ _ _ (by simp)).trans hM.old, fun j u hj => (cell_apart (by have := hM.ne; omega) _ _ _).trans (hM.row j u hj)⟩
  have hl := run_call_load (P := Tryz.prog) Tryz.func156 (by kernel_rfl) (by kernel_rfl) (by kernel_rfl) .u32 (by kernel_rfl) v1
  have hnot : ∀ (x : Bool) (w : World), (Op.unary .not (.bool x)).run Tryz.prog w = .ok (.bool (!x)) w := fun _ _ => rfl
  have hC := once_any q hq n B O c 0 1 hn _ v1 s1 ((World.cell?_setCell_other _ _ _ _ (by simp)).trans hM.r) hO1 (fun j => by rw [World.frozen?_setCell]; exact hM.fr j)
  have HC := Aside0.mk hC
  have HM := Aside0.mk hM
  clear hC hM v1 s1 hO1
  go_enter_defers Tryz.func154, Tryz.ntmps154
  go_wp2_with (first | (go_at_call 157; refine (lock_free ⟨B, 1, none⟩ _ s0 f1).mono ?_; rintro e w' ⟨rfl, rfl⟩) | (go_at_call 153; go_in) | (go_at_call 147; refine HC.out.mono ?_; rintro e w2 ⟨rfl, R, T, Q, S, cT, cQ, cS, hR, hsz⟩; have HR := Aside0.mk hR; have HZ := Aside0.mk hsz; clear hR hsz))
  have r0 := HR.out.v
  have r1 := HR.out.st
  have g0 := HR.out.fr 0
  have g1 := HR.out.fr 1
  refine leaves_cons (f := 159) (args := #[.pointer (some ⟨B, 0, none⟩), .bool true]) (by simp) (by simp [go_sem]) ?_
  refine (store_deferred ⟨B, 0, none⟩ (.int .u32 0) .returning _ r0 g0).mono ?_
  rintro e u' w'' ⟨rfl, rfl, rfl⟩
  refine leaves_cons (f := 158) (args := #[.pointer (some ⟨B, 1, none⟩)]) (by simp [settle]) (by simp [go_sem]) ?_
  refine (unlock_deferred ⟨B, 1, none⟩ _ _ ?_ ?_).mono ?_
  · rw [World.cell?_setCell_other _ _ _ _ (by simp), World.cell?_drew]; exact r1
  · rw [World.frozen?_setCell, World.frozen?_drew]; exact g1
  rintro e u' w'' ⟨rfl, rfl, rfl⟩
  simp [Leaves, settle, results, Tryz.results154]
  have hR := HR.out
  obtain ⟨n1, n2, n3, n4⟩ := hR.ne
  have htab : Tab q w2.drew R T Q S cT cQ cS := hR.tab.below (n := w2.heap.size) (below_drew1 (Below.refl _ _)) hR.tab.lt (by simp)
  refine ⟨⟨R, T, Q, S, cT, cQ, cS, { v := ?_, st := ?_, r := ?_, fr := fun j => ?_, tab := (htab.set B _ _ n1 n2 n3 n4).set B _ _ n1 n2 n3 n4, bel := ?_, ne := hR.ne }⟩, by simpa using HZ.out⟩
  · rw [World.cell?_setCell_other _ _ _ _ (by simp)]; exact World.cell?_setCell_same _ _ _ (by rw [World.cell?_drew]; exact hR.v)
  · exact World.cell?_setCell_same _ _ _ (by rw [World.cell?_setCell_other _ _ _ _ (by simp), World.cell?_drew]; exact hR.st)
  · rw [World.cell?_setCell_other _ _ _ _ (by simp), World.cell?_setCell_other _ _ _ _ (by simp), World.cell?_drew]; exact hR.r
  · rw [World.frozen?_setCell, World.frozen?_setCell, World.frozen?_drew]; exact hR.fr j
  · exact (((((Below.refl n w).setCell hn _).trans hR.bel).drew).setCell hn _).setCell hn _

set_option maxRecDepth 100000 in
set_option maxHeartbeats 1600000 in
theorem do_any (q : UInt8) (hq : q = 34 ∨ q = 39) (n B O c : Nat) (hn : n ≤ B) (w : World) (hM : Made q w B O c) :
    Calls Tryz.prog 146 #[.pointer (some ⟨B, 0, none⟩), .func (.func 147) #[.pointer (some ⟨B, 0, none⟩)] #[]] w fun e w' => e = .returned (.tuple #[]) ∧
      ∃ R T Q S cT cQ cS, Ready q n w w' B 1 0 R T Q S cT cQ cS ∧ w.heap.size ≤ w'.heap.size := by
  have hl := run_call_load (P := Tryz.prog) Tryz.func156 (by kernel_rfl) (by kernel_rfl) (by kernel_rfl) .u32 (by kernel_rfl) hM.v
  have hnot : ∀ (x : Bool) (w : World), (Op.unary .not (.bool x)).run Tryz.prog w = .ok (.bool (!x)) w := fun _ _ => rfl
  have HC := Aside0.mk (slow_any q hq n B O c hn w hM)
  clear hM
  go_enter Tryz.func146, Tryz.ntmps146
  go_wp2_with (first | (go_at_call 154; refine HC.out.mono ?_; rintro e w2 ⟨rfl, hR⟩; have HR := Aside0.mk hR; clear hR) | (go_at_call 153; go_in))
  go_end0
  exact ⟨rfl, HR.out⟩
end Go.Proofs.YtlbjfomcgbiagaaGreatDoor.Rep
