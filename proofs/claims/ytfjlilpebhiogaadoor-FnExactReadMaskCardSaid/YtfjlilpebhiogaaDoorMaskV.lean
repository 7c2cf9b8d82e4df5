import Derived.Test.YtfjlilpebhiogaaDoorMaskT
/- Unions, meetings and differences of two masks: the program's and the reference's. -/
set_option linter.unusedSimpArgs false
set_option linter.unusedVariables false
namespace Go.Proofs.YtfjlilpebhiogaaDoor
open Go.RowKit
section
variable (x y W H x' y' W' H' : Int) (l l' : List Bool) (a a' : Option Addr) (n n' c c' : Nat) (w : World)
/-- What two masks give: the box, the error, the cells. -/
def comb (f : Bool → Bool → Bool) : (Int × Int × Int × Int × Int) × List Bool :=
  if twoCode x y W H x' y' W' H' l.length l'.length = 0 then ((x, y, W, H, 0), joinL f l l') else ((0, 0, 0, 0, twoCode x y W H x' y' W' H' l.length l'.length), [])
theorem mask_len {x y W H : Int} {n : Nat} (h : isMaskB x y W H n = true) : (n : Int) = W * H ∧ 0 < n ∧ n ≤ 576 := by
  simp only [isMaskB, Bool.and_eq_true, beq_iff_eq] at h
  obtain ⟨⟨⟨⟨h1, h2⟩, _⟩, _⟩, h5⟩ := h
  have := area_bd h1 h2
  exact ⟨h5, by omega, by omega⟩
theorem fits_eq {x y W H x' y' W' H' : Int} (h : fitsB x y W H x' y' W' H' = true) : x = x' ∧ y = y' ∧ W = W' ∧ H = H' := by
  simp only [fitsB, Bool.and_eq_true, beq_iff_eq] at h
  obtain ⟨⟨⟨h1, h2⟩, h3⟩, h4⟩ := h
  exact ⟨h1, h2, h3, h4⟩
end

end Go.Proofs.YtfjlilpebhiogaaDoor
