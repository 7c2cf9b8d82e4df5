import Derived.Test.YtokbolgaokbdcaaDoorUseS
import Derived.Test.YtokbolgaokbdcaaDoorPackPb
/- The signs and texts of rules by their places, both sides. -/
set_option linter.unusedSimpArgs false
set_option linter.unusedVariables false
namespace Go.Proofs.YtokbolgaokbdcaaDoor
open Go.RowKit
/-- All numbers are places of rules. -/
def inT (T : List Rul) (l : List Int) : Prop := ∀ x ∈ l, 0 ≤ x ∧ x < T.length
theorem inT_at {T : List Rul} {l : List Int} (h : inT T l) {i : Nat} (hi : i < l.length) : ∃ k : Nat, ∃ hk : k < T.length, l[i] = k := by
  obtain ⟨h1, h2⟩ := h _ (List.getElem_mem hi)
  exact ⟨l[i].toNat, by omega, by omega⟩
theorem one_ints (l : List Int) : ∀ u ∈ intCells l, u.oneCell' = true := by
  intro u hu
  unfold intCells at hu
  obtain ⟨x, _, rfl⟩ := List.mem_map.1 hu
  rfl
end Go.Proofs.YtokbolgaokbdcaaDoor
