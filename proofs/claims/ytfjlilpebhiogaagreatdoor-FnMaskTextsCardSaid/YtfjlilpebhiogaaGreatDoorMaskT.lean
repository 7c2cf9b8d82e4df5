import Derived.Test.YtfjlilpebhiogaaGreatDoorMaskU
set_option linter.unusedSimpArgs false
set_option linter.unusedVariables false
namespace Go.Proofs.YtfjlilpebhiogaaGreatDoor
open Go.RowKit
theorem own_lift {w : World} {base e s n g c : Nat} {xs : List Value} (h : w.ownsRow base e s (.slice (some ⟨g, 0, none⟩) n c) n xs) : w.ownsRow g e s (.slice (some ⟨g, 0, none⟩) n c) n xs := by
  refine ⟨h.1, ?_⟩
  rcases h.2 with ⟨h2, _⟩ | ⟨g', cap, cur, hv, hg, r⟩
  · simp at h2
  · have : g = g' := by injection hv with h1 h2 h3; injection h1 with h1; injection h1
    subst this
    exact .inr ⟨g, cap, cur, hv, Nat.le_refl _, r⟩
end Go.Proofs.YtfjlilpebhiogaaGreatDoor
