import Derived.Test.YtflcfdiochohgaaGreatDoorPackC
import Derived.Test.YtflcfdiochohgaaGreatDoorPackAb
import Derived.Test.YtflcfdiochohgaaGreatDoorPackB
import Derived.Test.YtflcfdiochohgaaGreatDoorShelf2
import Derived.Test.YtflcfdiochohgaaGreatDoorPackA
import Derived.Shelf.Sort.Plain
import Derived.Shelf.Slices.CompactS
import Derived.Shelf.Slices.In.SortNone
import Derived.Sort.OwnSorted
/- Several of my texts, one behind the other: Shp, Strs, Src, Ins, Srcs. -/
/- The shape of a slice. -/
set_option linter.unusedSimpArgs false
set_option linter.unusedVariables false
namespace Go.Proofs.YtflcfdiochohgaaGreatDoor
open Go.RowKit
/-- The shape of a slice that a call made. -/
structure Shp (a : Option Addr) (n c : Nat) : Prop where
  cap : n ≤ c
  nil : a = none → c = 0
  spot : ∀ p : Addr, a = some p → p.spot = none
theorem Owns.shp {w : World} {lo hi e s n : Nat} {a : Option Addr} {c : Nat} {xs : List Value} (h : Owns w lo hi e s n a c xs) : Shp a n c := by
  refine ⟨h.cap, ?_, ?_⟩ <;> rcases h.own.2 with ⟨hv, hn⟩ | ⟨g, cap, cur, hv, _⟩
  · intro _; injection hv
  · rintro rfl; injection hv with e; cases e
  · rintro p rfl; injection hv with e; cases e
  · rintro p rfl
    have e : some p = some ⟨g, 0, none⟩ := by injection hv
    cases e
    rfl
end Go.Proofs.YtflcfdiochohgaaGreatDoor

/- Slices of texts: comparison and marks. -/
set_option linter.unusedSimpArgs false
set_option linter.unusedVariables false
namespace Go.Proofs.YtflcfdiochohgaaGreatDoor
open Go.RowKit
end Go.Proofs.YtflcfdiochohgaaGreatDoor

/- Texts in order, each once: the plain law; impl.sorted. -/
set_option linter.unusedSimpArgs false
set_option linter.unusedVariables false
namespace Go.Proofs.YtflcfdiochohgaaGreatDoor
open Go.RowKit
def key (s : ByteArray) : List UInt8 := s.data.toList
end Go.Proofs.YtflcfdiochohgaaGreatDoor

/- Texts in order, each once: spec.l08Insert. -/
set_option linter.unusedSimpArgs false
set_option linter.unusedVariables false
namespace Go.Proofs.YtflcfdiochohgaaGreatDoor
open Go.RowKit
/-- The call handed back texts that lie in memory from a place on. -/
def RetTexts (lo : Nat) (w : World) (A : List ByteArray) (e : Ending) (w' : World) : Prop :=
  ∃ (a : Option Addr) (c : Nat), e = .returned (.slice a A.length c) ∧ Owns w' lo w'.heap.size 9 1 A.length a c (strCells A) ∧ ∃ y : Later w, w' = y.w
theorem RetTexts.mk {lo : Nat} {w w' : World} {A B : List ByteArray} {a : Option Addr} {n m c : Nat} (h : A = B) (ho : w'.ownsRow lo 9 1 (.slice a m c) m (strCells B)) (hmn : m = n) (hn : B.length = n) (hb : Below w.heap.size w w') : RetTexts lo w A (.returned (.slice a n c)) w' := by
  subst h hmn hn
  exact ⟨a, c, rfl, Owns.of ho, ⟨w', hb⟩, rfl⟩
end Go.Proofs.YtflcfdiochohgaaGreatDoor

/- The sources of claims: both sides. -/
set_option linter.unusedSimpArgs false
set_option linter.unusedVariables false
namespace Go.Proofs.YtflcfdiochohgaaGreatDoor
open Go.RowKit
section
variable (L : List Clm) (a : Option Addr) (n c : Nat) (w : World) (hn : L.length = n) (hm : n ≤ 900) (hr : Row w a (clmsCells L))
include hn hm hr
end
end Go.Proofs.YtflcfdiochohgaaGreatDoor
