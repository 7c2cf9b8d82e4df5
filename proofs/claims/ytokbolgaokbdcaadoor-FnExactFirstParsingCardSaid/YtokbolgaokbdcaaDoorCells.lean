import Derived.Test.YtokbolgaokbdcaaDoorBase
/- Cells of bools; when two lists are told to be the same. -/
set_option linter.unusedSimpArgs false
set_option linter.unusedVariables false
namespace Go.Proofs.YtokbolgaokbdcaaDoor
open Go.RowKit
def boolCells (l : List Bool) : List Value := l.map Value.bool
theorem boolCells_get {l : List Bool} {k : Nat} (h : k < l.length) : (boolCells l)[k]? = some (.bool l[k]) := by simp [boolCells, h]
theorem beq_of_len {α : Type} [BEq α] [LawfulBEq α] {l l' : List α} (h : l.length ≠ l'.length) : (l == l') = false := by
  rw [beq_eq_false_iff_ne]; rintro rfl; exact h rfl
theorem beq_of_all {α : Type} [BEq α] [LawfulBEq α] {l l' : List α} (h : l.length = l'.length) (ha : ∀ j (h1 : j < l.length) (h2 : j < l'.length), l[j] = l'[j]) : (l == l') = true := by
  rw [beq_iff_eq]; exact List.ext_getElem h ha
theorem beq_of_diff {α : Type} [BEq α] [LawfulBEq α] {l l' : List α} {k : Nat} (h1 : k < l.length) (h2 : k < l'.length) (hd : l[k] ≠ l'[k]) : (l == l') = false := by
  rw [beq_eq_false_iff_ne]; rintro rfl; exact hd rfl

end Go.Proofs.YtokbolgaokbdcaaDoor
