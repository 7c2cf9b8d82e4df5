import Derived.Test.YtfjlilpebhiogaaGreatDoorSou
import Derived.Test.YtfjlilpebhiogaaGreatDoorPackAb
import Derived.Test.YtfjlilpebhiogaaGreatDoorPackA
/- The draws of spans: two numbers, whatever they are, that are small. -/
set_option linter.unusedSimpArgs false
set_option linter.unusedVariables false
namespace Go.Proofs.YtfjlilpebhiogaaGreatDoor
open Go.RowKit
def RetSpanD (w : World) (g : Nat) (M : Int) (e : Ending) (w' : World) : Prop :=
  ∃ f t : Int, (-M ≤ f ∧ f ≤ M ∧ -M ≤ t ∧ t ≤ M) ∧ e = .returned (.agg #[.int .i64 f, .int .i64 t]) ∧ ∃ z : After w g (g + 1), w' = z.w ∧ SrcOk z.w g
theorem RetSpanD.mk {w w' : World} {g : Nat} {M : Int} {e : Ending} (f t : Int) (h : -M ≤ f ∧ f ≤ M ∧ -M ≤ t ∧ t ≤ M) (he : e = .returned (.agg #[.int .i64 f, .int .i64 t])) (hb : Between g (g + 1) w w') (hs : SrcOk w' g) : RetSpanD w g M e w' := ⟨f, t, h, he, ⟨w', hb⟩, rfl, hs⟩
end Go.Proofs.YtfjlilpebhiogaaGreatDoor
