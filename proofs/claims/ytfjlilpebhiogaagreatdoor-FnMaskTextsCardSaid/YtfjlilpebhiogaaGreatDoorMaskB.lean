import Derived.Test.YtfjlilpebhiogaaGreatDoorMaskA
import Derived.Test.YtfjlilpebhiogaaGreatDoorPackAb
import Derived.Deep.OwnRows
/- Copies of points and masks, their comparison, their size. -/
set_option linter.unusedSimpArgs false
set_option linter.unusedVariables false
namespace Go.Proofs.YtfjlilpebhiogaaGreatDoor
open Go.RowKit

theorem info_bool : (Tryz.prog.info? 4).map (fun i => (i.zero, i.size, i.bytes)) = some (some (.bool false), 1, 1) := by kernel_rfl
theorem info_bool' : ∃ i, Tryz.prog.info? 4 = some i ∧ i.zero = some (.bool false) ∧ i.size = 1 ∧ i.bytes = 1 := by
  have h := info_bool
  cases hi : Tryz.prog.info? 4 with
  | none => rw [hi] at h; cases h
  | some i =>
    rw [hi] at h
    simp only [Option.map_some, Option.some.injEq, Prod.mk.injEq] at h
    exact ⟨i, rfl, h.1, h.2.1, h.2.2⟩

section
variable (x y W H x' y' W' H' : Int) (l l' : List Bool) (a a' : Option Addr) (n c n' c' : Nat) (w : World)
end
end Go.Proofs.YtfjlilpebhiogaaGreatDoor
