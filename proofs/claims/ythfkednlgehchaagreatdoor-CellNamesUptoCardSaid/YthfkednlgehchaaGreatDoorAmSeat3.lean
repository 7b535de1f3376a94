/- The abstract machine over this program: which functions it runs; live. -/
import Derived.Test.YthfkednlgehchaaGreatDoorAm3
import Derived.Test.YthfkednlgehchaaGreatDoorBase3
set_option linter.unusedSimpArgs false
set_option linter.unusedVariables false
namespace Go.Proofs.YthfkednlgehchaaGreatDoor.Am
open Go Go.Am Go.RowKit

def fns : List Nat := [4, 8, 11, 13, 14, 15, 24, 25, 26, 28, 29, 31, 32, 33, 40, 42, 43, 47, 48, 49, 50, 51, 52, 53, 54, 58, 59, 66, 68, 69, 70, 71, 72, 73, 74, 75, 76, 77, 78, 79, 80, 81, 82, 83, 84, 85, 86, 87, 88, 89, 90, 91, 92, 93, 94, 98, 99, 100, 101, 112, 113, 114, 115, 116, 117, 118, 119, 120, 121, 122, 123, 124, 125, 126, 127, 128, 129, 130, 131, 132, 133, 134, 135, 136, 137, 138, 139, 140, 141, 142, 143, 144, 145, 146, 147, 148, 149, 150, 151, 152, 153, 154, 155, 156, 157, 158, 159, 160, 161, 162, 163, 164, 168, 169, 170, 171, 172, 173, 174, 175, 176, 177, 178, 179, 180, 181, 182, 183, 184, 185, 187, 188, 189, 190, 191, 192, 193, 194, 195, 196, 197, 198, 199, 200, 201, 202, 203, 204, 205, 206, 207, 208, 209, 210, 211, 212, 213, 214, 215, 218, 219, 220, 221, 222, 223, 224, 225, 226, 227, 228, 232, 234, 238]
noncomputable def fnAt (f : Nat) : Option Func := match fns.any fun g => g.beq f with
  | true => Tryz.prog.funcs[f]?
  | false => none
theorem fns_ok : (fns.all fun f => match Tryz.prog.funcs[f]? with | some fn => fnOk Tryz.prog fn | none => false) = true := by kernel_rfl
theorem zok : ZOk Tryz.prog := ZOk.of (by kernel_rfl)
theorem mixed : Tryz.prog.follows .mixedOrders = true := by kernel_rfl

theorem fn_ok (f : Nat) (fn : Func) (h : fnAt f = some fn) : Tryz.prog.funcs[f]? = some fn ∧ fnOk Tryz.prog fn = true := by
  unfold fnAt at h
  split at h
  · rename_i hc
    obtain ⟨g, hg, hb⟩ := List.any_eq_true.1 hc
    obtain rfl := Nat.eq_of_beq_eq_true hb
    have := List.all_eq_true.1 fns_ok g hg
    rw [h] at this
    exact ⟨h, this⟩
  · cases h

theorem none_ok : CallOk Tryz.prog fun _ _ _ => none := fun _ _ _ _ _ h => by cases h
noncomputable def orc0 : Callf := carryOrc 233 false
theorem orc0_ok : CallOk Tryz.prog orc0 := carry_ok (P := Tryz.prog) Tryz.func233 (by kernel_rfl) (by kernel_rfl) (by kernel_rfl) (by kernel_rfl)
noncomputable def cfg0 : Cfg := { P := Tryz.prog, fn := fnAt, orc := orc0 }
theorem cfg0_ok : cfg0.Ok := ⟨zok, mixed, fn_ok, orc0_ok⟩

/-- The start: of the variables the units of spans alone are told. -/
def H0 : AH := { blk := T.nil.set 5 (.cells Base.unitRow 1 .ext), fam := .nil, next := 12, base := 12 }
theorem H0_read : H0.Read := ⟨by decide, by decide, fun b k h => by
  unfold H0 at h
  rw [T.get_set] at h
  split at h
  · rename_i e; subst e; cases h; exact ⟨by decide, _, _, rfl⟩
  · cases h⟩
def ρ0 : Rho := fun b => if b < 12 then some ⟨b, 0, 0, 1⟩ else none

theorem unit_same (ρ : Rho) : ∀ v ∈ Base.unitRow, VR ρ v v := by
  intro v hv
  unfold Base.unitRow at hv
  simp only [List.mem_cons, List.mem_nil_iff, or_false] at hv
  rcases hv with rfl | rfl | rfl | rfl | rfl | rfl | rfl | rfl | rfl | rfl | rfl | rfl | rfl | rfl | rfl | rfl <;> first | exact .string _ | exact .int _ _

theorem start0 {w : World} (hG : Base.Globs w) : WR Tryz.prog H0 ρ0 w.heap := by
  refine WR.start H0_read ?_ ?_ ?_ ?_
  · intro b m h; unfold ρ0 at h; split at h
    · assumption
    · cases h
  · intro g hg
    have : Tryz.prog.globals.size = 12 := by decide +kernel
    exact ⟨⟨g, 0, 0, 1⟩, by unfold ρ0; rw [if_pos (by omega)], rfl, rfl⟩
  · intro b m h; unfold ρ0 at h; split at h
    · cases h; have := hG.size; simp only; omega
    · cases h
  · intro b m c e h hb
    unfold H0 at hb
    rw [T.get_set] at hb
    split at hb
    · rename_i e0; subst e0; cases hb
      unfold ρ0 at h; cases h
      refine ⟨rfl, ?_⟩
      have hE := hG.units
      unfold World.cell? at hE
      simp only at hE ⊢
      cases ho : w.heap[5]? with
      | none =>
        have := hE 0 _ rfl
        rw [ho] at this; cases this
      | some ob =>
        rw [ho] at hE
        cases ob with
        | cells C ty fz =>
          refine ⟨C, ty, fz, rfl, fun i x hx => ?_⟩
          have h1 := hE i x hx
          simp only at h1
          exact ⟨x, by simpa using h1, unit_same _ x (List.mem_of_getElem? hx)⟩
        | _ => have := hE 0 _ rfl; cases this
    · cases hb

/-- live's answer. -/
theorem live_run : (aCall cfg0 400 8 [] H0).map (·.1) = some (.bool true) := by kernel_rfl

theorem live_calls (w : World) (hG : Base.Globs w) :
    Calls Tryz.prog 8 #[] w fun e w' => e = .returned (.bool true) ∧ Below w.heap.size w w' := by
  have h : Wf cfg0 8 [] H0 fun v _ => v = .bool true := by
    have h := live_run
    cases hr : aCall cfg0 400 8 [] H0 with
    | none => rw [hr] at h; cases h
    | some r =>
      obtain ⟨v, H'⟩ := r
      rw [hr] at h; cases h; exact ⟨400, _, H', hr, rfl⟩
  refine (h.told cfg0_ok ⟨Tryz.f8, Tryz.func8, by decide, by kernel_rfl⟩ H0_read (start0 hG) .nil).mono fun e w' ⟨v, H', v', ρ', hq, he, hv, hb⟩ => ?_
  subst hq
  cases hv
  exact ⟨he, hb⟩
end Go.Proofs.YthfkednlgehchaaGreatDoor.Am
