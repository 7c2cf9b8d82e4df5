import Derived.Test.YtokbolgaokbdcaaDoorBase
import Derived.Test.YtokbolgaokbdcaaDoorInts
import Derived.Laws.StructEq
/- A number of a list (as in the text LikeC, for seats without claims). -/
set_option linter.unusedSimpArgs false
set_option linter.unusedVariables false
namespace Go.Proofs.YtokbolgaokbdcaaDoor
open Go.RowKit
theorem Row.int {w : World} {a : Option Addr} {l : List Int} (h : Row w a (intCells l)) {k : Nat} (hk : k < l.length) : ∃ b o, a = some ⟨b, o, none⟩ ∧ b < w.heap.size ∧ w.cell? ⟨b, o + k, none⟩ = some (.int .i64 l[k]) := by
  obtain ⟨b, o, rfl, hc⟩ := h k _ (intCells_get hk)
  exact ⟨b, o, rfl, World.block_lt_of_cell? w _ hc, hc⟩
theorem contains_false {S : List Int} {x : Int} (h : ∀ j (hj : j < S.length), S[j] ≠ x) : S.contains x = false := by
  rw [Bool.eq_false_iff]
  intro hc
  rw [List.contains_iff_mem] at hc
  obtain ⟨j, hj, e⟩ := List.mem_iff_getElem.1 hc
  exact h j hj e
theorem contains_true {S : List Int} {x : Int} {j : Nat} (hj : j < S.length) (h : S[j] = x) : S.contains x = true := by
  rw [List.contains_iff_mem]; exact h ▸ List.getElem_mem hj
end Go.Proofs.YtokbolgaokbdcaaDoor
