import Derived.Test.YtklcaphkfdlipaaGreatDoorSrcV
import Derived.Test.YtklcaphkfdlipaaGreatDoorPackVb
import Derived.Test.YtklcaphkfdlipaaGreatDoorPackVa
/- Texts in order, each once: spec.l08Insert. -/
set_option linter.unusedSimpArgs false
set_option linter.unusedVariables false
namespace Go.Proofs.YtklcaphkfdlipaaGreatDoor
open Go.RowKit
theorem one_str1 (x : ByteArray) : ∀ u ∈ [Value.string x], u.oneCell' = true := by intro u hu; simp at hu; subst hu; rfl
/-- The call handed back texts that lie in memory from a place on. -/
def RetTexts (lo : Nat) (w : World) (A : List ByteArray) (e : Ending) (w' : World) : Prop :=
  ∃ (a : Option Addr) (c : Nat), e = .returned (.slice a A.length c) ∧ Owns w' lo w'.heap.size 9 1 A.length a c (strCells A) ∧ ∃ y : Later w, w' = y.w
theorem RetTexts.mk {lo : Nat} {w w' : World} {A B : List ByteArray} {a : Option Addr} {n m c : Nat} (h : A = B) (ho : w'.ownsRow lo 9 1 (.slice a m c) m (strCells B)) (hmn : m = n) (hn : B.length = n) (hb : Below w.heap.size w w') : RetTexts lo w A (.returned (.slice a n c)) w' := by
  subst h hmn hn
  exact ⟨a, c, rfl, Owns.of ho, ⟨w', hb⟩, rfl⟩
end Go.Proofs.YtklcaphkfdlipaaGreatDoor
