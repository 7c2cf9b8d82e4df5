import Derived.Test.YtokbolgaokbdcaaDoorIntK
/- A row of counts. -/
set_option linter.unusedSimpArgs false
set_option linter.unusedVariables false
namespace Go.Proofs.YtokbolgaokbdcaaDoor
open Go.RowKit
def cntL (W : Nat → Int) (N : Nat) : List Int := (List.range N).map W
theorem length_cntL (W : Nat → Int) (N : Nat) : (cntL W N).length = N := by simp [cntL]
theorem cntL_at (W : Nat → Int) {N i : Nat} (h : i < N) : (cntL W N)[i]? = some (W i) := by simp [cntL, h]
theorem cntL_get (W : Nat → Int) {N i : Nat} (h : i < N) : (intCells (cntL W N))[i]? = some (.int .i64 (W i)) := by
  unfold intCells
  rw [List.getElem?_map, cntL_at W h]
  rfl
theorem cntL_zero (N : Nat) : intCells (cntL (fun _ => 0) N) = List.replicate N (.int .i64 0) := by
  apply List.ext_getElem?
  intro i
  by_cases hi : i < N
  · rw [cntL_get _ hi, List.getElem?_replicate, if_pos hi]
  · rw [List.getElem?_eq_none (by rw [length_intCells, length_cntL]; omega), List.getElem?_eq_none (by rw [List.length_replicate]; omega)]
theorem cntL_ext {F G : Nat → Int} {N : Nat} (h : ∀ j, j < N → F j = G j) : cntL F N = cntL G N := by
  unfold cntL
  exact List.map_congr_left fun j hj => h j (List.mem_range.1 hj)
theorem cntL_set (F : Nat → Int) {N p : Nat} {v : Int} (h : p < N) : (intCells (cntL F N)).set p (.int .i64 v) = intCells (cntL (fun j => if j = p then v else F j) N) := by
  apply List.ext_getElem?
  intro i
  by_cases hi : i < N
  · rw [cntL_get _ hi]
    by_cases e : i = p
    · subst e
      rw [List.getElem?_set_self (by rw [length_intCells, length_cntL]; exact hi), if_pos rfl]
    · rw [List.getElem?_set_ne (by omega), cntL_get _ hi, if_neg e]
  · rw [List.getElem?_eq_none (by rw [List.length_set, length_intCells, length_cntL]; omega), List.getElem?_eq_none (by rw [length_intCells, length_cntL]; omega)]
end Go.Proofs.YtokbolgaokbdcaaDoor
