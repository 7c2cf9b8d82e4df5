import Derived.Test.YtfjlilpebhiogaaDoorMaskU
set_option linter.unusedSimpArgs false
set_option linter.unusedVariables false
namespace Go.Proofs.YtfjlilpebhiogaaDoor
open Go.RowKit
/-- Two lists joined cell by cell. -/
def joinL (f : Bool → Bool → Bool) (l l' : List Bool) : List Bool := List.zipWith f l l'
theorem length_joinL (f : Bool → Bool → Bool) (l l' : List Bool) (h : l.length = l'.length) : (joinL f l l').length = l.length := by simp [joinL, h]
theorem joinL_get (f : Bool → Bool → Bool) (l l' : List Bool) (j : Nat) (h : j < l.length) (h' : j < l'.length) : (joinL f l l')[j]? = some (f l[j] l'[j]) := by
  simp [joinL, List.getElem?_zipWith, h, h']
theorem own_lift {w : World} {base e s n g c : Nat} {xs : List Value} (h : w.ownsRow base e s (.slice (some ⟨g, 0, none⟩) n c) n xs) : w.ownsRow g e s (.slice (some ⟨g, 0, none⟩) n c) n xs := by
  refine ⟨h.1, ?_⟩
  rcases h.2 with ⟨h2, _⟩ | ⟨g', cap, cur, hv, hg, r⟩
  · simp at h2
  · have : g = g' := by injection hv with h1 h2 h3; injection h1 with h1; injection h1
    subst this
    exact .inr ⟨g, cap, cur, hv, Nat.le_refl _, r⟩
def fillPart (L : List Bool) (n k : Nat) : List Value := boolCells (L.take k) ++ List.replicate (n - k) (Value.bool false)
theorem fillPart_zero (L : List Bool) (n : Nat) : fillPart L n 0 = List.replicate n (.bool false) := by simp [fillPart, boolCells]
theorem fillPart_full (L : List Bool) (n : Nat) (h : L.length = n) : fillPart L n n = boolCells L := by subst h; simp [fillPart]
theorem fillPart_step (L : List Bool) (n k : Nat) (b : Bool) (hl : L.length = n) (h : L[k]? = some b) : (fillPart L n k).set k (.bool b) = fillPart L n (k + 1) := by
  subst hl
  obtain ⟨hk, hb⟩ := List.getElem?_eq_some_iff.1 h
  subst hb
  exact boolPart_step L k hk
theorem fillPart_old (L : List Bool) (n k : Nat) (hl : L.length = n) (h : k < n) : (fillPart L n k)[k]? = some (.bool false) := by
  subst hl
  exact boolPart_old L k h

end Go.Proofs.YtfjlilpebhiogaaDoor
