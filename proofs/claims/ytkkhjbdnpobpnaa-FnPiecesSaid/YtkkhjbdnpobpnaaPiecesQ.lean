import Derived.Test.YtkkhjbdnpobpnaaPiecesL
import Derived.Test.YtkkhjbdnpobpnaaCountPoints
/- All pieces of a mask: the numbers of points, cell by cell; lists half turned. -/
set_option linter.unusedSimpArgs false
set_option linter.unusedVariables false
namespace Go.Proofs.Ytkkhjbdnpobpnaa
open Go.RowKit
section
variable (l : List Bool) (Nb : Nat → Int → Prop)
open Classical in
/-- What has been found in the first k cells: the cells of the pieces, the numbers of points. -/
noncomputable def pcs : Nat → List Bool × List Int
  | 0 => (List.replicate l.length false, [])
  | k + 1 => if l[k]? = some true ∧ (pcs k).1[k]? = some false then (plus (pcs k).1 (pieceL l Nb k), (pcs k).2 ++ [(cntB (pieceL l Nb k) l.length : Int)]) else pcs k
theorem pcs_whole (k : Nat) : Whole l Nb (pcs l Nb k).1 := by
  induction k with
  | zero => exact Whole.none
  | succ k ih =>
    simp only [pcs]
    split
    · exact ih.more
    · exact ih
theorem pcs_len (k : Nat) : (pcs l Nb k).1.length = l.length := (pcs_whole l Nb k).len
theorem pcs_le (k : Nat) : (pcs l Nb k).2.length ≤ k := by
  induction k with
  | zero => simp [pcs]
  | succ k ih =>
    simp only [pcs]
    split
    · simp; omega
    · omega
theorem pcs_no {k : Nat} (h : l[k]? ≠ some true ∨ (pcs l Nb k).1[k]? ≠ some false) : pcs l Nb (k + 1) = pcs l Nb k := by
  simp only [pcs]
  rw [if_neg]
  rintro ⟨h1, h2⟩
  rcases h with h | h
  · exact h h1
  · exact h h2
theorem pcs_yes {k : Nat} (h1 : l[k]? = some true) (h2 : (pcs l Nb k).1[k]? = some false) : pcs l Nb (k + 1) = (plus (pcs l Nb k).1 (pieceL l Nb k), (pcs l Nb k).2 ++ [(cntB (pieceL l Nb k) l.length : Int)]) := by
  simp only [pcs]
  rw [if_pos ⟨h1, h2⟩]
end
/-- The first j cells are of `new`, the others of `old`. -/
def mixL (new old : List Bool) (j : Nat) : List Bool := new.take j ++ old.drop j
theorem mixL_zero (new old : List Bool) : mixL new old 0 = old := by simp [mixL]
theorem mixL_full {new old : List Bool} {n : Nat} (h1 : new.length = n) (h2 : old.length = n) : mixL new old n = new := by
  subst h1
  simp [mixL, h2]
theorem mixL_get {new old : List Bool} {j : Nat} (h : new.length = old.length) (hj : j < old.length) : (mixL new old j)[j]? = some old[j] := by
  unfold mixL
  rw [List.getElem?_append_right (by simp; omega)]
  simp [show min j new.length = j by omega, hj]
theorem mixL_set {new old : List Bool} {j : Nat} (h : new.length = old.length) (hj : j < new.length) : (boolCells (mixL new old j)).set j (.bool new[j]) = boolCells (mixL new old (j + 1)) := by
  have hl : (new.take j).length = j := by simp; omega
  have e : (mixL new old j).set j new[j] = mixL new old (j + 1) := by
    unfold mixL
    rw [List.set_append_right _ _ (by omega), hl, Nat.sub_self, List.drop_eq_getElem_cons (by omega), List.set_cons_zero, List.take_succ_eq_append_getElem hj]
    simp only [List.append_assoc, List.singleton_append]
  rw [← e]
  simp [boolCells, List.map_set]
theorem minus_at {m D : List Bool} {k : Nat} (h1 : k < m.length) (h2 : k < D.length) : (minus m D)[k]? = some (m[k] && !D[k]) := by
  simp [minus, h1, h2, List.getElem?_eq_getElem]
theorem plus_at {D P : List Bool} {k : Nat} (h1 : k < D.length) (h2 : k < P.length) : (plus D P)[k]? = some (D[k] || P[k]) := by
  simp [plus, h1, h2, List.getElem?_eq_getElem]
end Go.Proofs.Ytkkhjbdnpobpnaa
