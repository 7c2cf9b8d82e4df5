import Derived.Test.YtfjlilpebhiogaaGreatDoorDrawD
import Derived.Test.YtfjlilpebhiogaaGreatDoorIdx
import Derived.Test.YtfjlilpebhiogaaGreatDoorPackA
import Derived.Test.YtfjlilpebhiogaaGreatDoorPackAb
/- The draws of indices and of lists of claims with circles. -/
set_option linter.unusedSimpArgs false
set_option linter.unusedVariables false
namespace Go.Proofs.YtfjlilpebhiogaaGreatDoor
open Go.RowKit
/-- Some numbers, whatever they are. -/
def RetIxD (w : World) (g M : Nat) (e : Ending) (w' : World) : Prop :=
  ∃ (S : List Int) (a : Option Addr) (c : Nat), S.length ≤ M ∧ e = .returned (.slice a S.length c) ∧ ∃ z : After w g (g + 1), w' = z.w ∧ SrcOk z.w g ∧ Owns z.w w.heap.size z.w.heap.size 2 1 S.length a c (intCells S)
theorem RetIxD.mk {w w' : World} {g M : Nat} {e : Ending} {S : List Int} {a : Option Addr} {c : Nat} (hl : S.length ≤ M) (he : e = .returned (.slice a S.length c)) (hb : Between g (g + 1) w w') (hs : SrcOk w' g) (ho : Owns w' w.heap.size w'.heap.size 2 1 S.length a c (intCells S)) : RetIxD w g M e w' :=
  ⟨S, a, c, hl, he, ⟨w', hb⟩, rfl, hs, ho⟩
theorem StrBlk.apart {w : World} {b m p p' lo hi n : Nat} {a : Option Addr} {c : Nat} {xs : List Value} (h : StrBlk w b m) (h6 : ∀ k, p ≤ k → k < p' → (Value.slice a n c).ownBlock = some k ∧ ∃ cur fr, w.heap[k]? = some (.cells cur 27 fr)) : b < p ∨ p' ≤ b := by
  obtain ⟨cs, fr, h1, _⟩ := h
  by_cases hb : p ≤ b ∧ b < p'
  · obtain ⟨_, cur, fr', h2⟩ := h6 b hb.1 hb.2
    rw [h1] at h2
    cases h2
  · omega
theorem StrBlk.btw {w w' : World} {b m lo hi : Nat} (h : StrBlk w b m) (hb : Between lo hi w w') (ho : b < lo ∨ hi ≤ b) : StrBlk w' b m := by
  obtain ⟨cs, fr, h1, h2⟩ := h
  exact ⟨cs, fr, (hb.block b (lt_of_heap h1) ho).trans h1, h2⟩
theorem StrBlk.bel {w w' : World} {b m : Nat} (h : StrBlk w b m) (hb : Below w.heap.size w w') : StrBlk w' b m := by
  obtain ⟨cs, fr, h1, h2⟩ := h
  exact ⟨cs, fr, (hb.block b (lt_of_heap h1)).trans h1, h2⟩
theorem okC_ok {c : Clm} (h : OkC c) : ClmOk c := ⟨by have := h.1; omega, by have := h.2.1; omega, by have := h.2.2.1; omega⟩

end Go.Proofs.YtfjlilpebhiogaaGreatDoor
