import Derived.Test.YtfjlilpebhiogaaGreatDoorDrawC
import Derived.Test.YtfjlilpebhiogaaGreatDoorOwnsD
import Derived.Test.YtfjlilpebhiogaaGreatDoorApp2
import Derived.Test.YtfjlilpebhiogaaGreatDoorPick
import Derived.Test.YtfjlilpebhiogaaGreatDoorPackAb
/- The draws of claims: one claim, a list of them, and indices. -/
set_option linter.unusedSimpArgs false
set_option linter.unusedVariables false
namespace Go.Proofs.YtfjlilpebhiogaaGreatDoor
open Go.RowKit
def lenOf : Value → Nat
  | .slice _ n _ => n
  | _ => 0
/-- Some claims, whatever they are. -/
def RetClmsD (w : World) (g M : Nat) (e : Ending) (w' : World) : Prop :=
  ∃ (L : List Clm) (a : Option Addr) (c : Nat), (∀ x ∈ L, OkC x) ∧ L.length ≤ M ∧ e = .returned (.slice a L.length c) ∧ ∃ z : After w g (g + 1), w' = z.w ∧ SrcOk z.w g ∧ Owns z.w w.heap.size z.w.heap.size 27 7 L.length a c (clmsCells L)
theorem RetClmsD.mk {w w' : World} {g M : Nat} {e : Ending} {L : List Clm} {a : Option Addr} {c : Nat} (hok : ∀ x ∈ L, OkC x) (hl : L.length ≤ M) (he : e = .returned (.slice a L.length c)) (hb : Between g (g + 1) w w') (hs : SrcOk w' g) (ho : Owns w' w.heap.size w'.heap.size 27 7 L.length a c (clmsCells L)) : RetClmsD w g M e w' :=
  ⟨L, a, c, hok, hl, he, ⟨w', hb⟩, rfl, hs, ho⟩
end Go.Proofs.YtfjlilpebhiogaaGreatDoor
