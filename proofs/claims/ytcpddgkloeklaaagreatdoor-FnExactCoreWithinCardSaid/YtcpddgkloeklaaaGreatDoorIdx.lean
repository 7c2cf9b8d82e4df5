import Derived.Test.YtcpddgkloeklaaaGreatDoorToI
/- The indices of those claims of which a function value tells true. -/
set_option linter.unusedSimpArgs false
set_option linter.unusedVariables false
namespace Go.Proofs.YtcpddgkloeklaaaGreatDoor
open Go.RowKit
/-- The indices below `k` at which `p` holds. -/
def idxsTo (p : Clm → Bool) (L : List Clm) (k : Nat) : List Int := ((List.range k).filter fun i => match L[i]? with | some c => p c | none => false).map fun (i : Nat) => (i : Int)
def idxs (p : Clm → Bool) (L : List Clm) : List Int := idxsTo p L L.length
theorem idxsTo_zero (p : Clm → Bool) (L : List Clm) : idxsTo p L 0 = [] := rfl
theorem idxsTo_yes {p : Clm → Bool} {L : List Clm} {k : Nat} (hk : k < L.length) (h : p L[k] = true) : idxsTo p L (k + 1) = idxsTo p L k ++ [(k : Int)] := by
  simp [idxsTo, List.range_succ, List.getElem?_eq_getElem hk, h]
theorem idxsTo_no {p : Clm → Bool} {L : List Clm} {k : Nat} (hk : k < L.length) (h : p L[k] = false) : idxsTo p L (k + 1) = idxsTo p L k := by
  simp [idxsTo, List.range_succ, List.getElem?_eq_getElem hk, h]
theorem length_idxsTo (p : Clm → Bool) (L : List Clm) (k : Nat) : (idxsTo p L k).length ≤ k := by
  unfold idxsTo
  rw [List.length_map]
  have := List.length_filter_le (fun i => match L[i]? with | some c => p c | none => false) (List.range k)
  simpa using this
theorem idxs_le (p : Clm → Bool) (L : List Clm) : (idxs p L).length ≤ L.length := length_idxsTo p L _
theorem one_int1 (x : Int) : ∀ u ∈ [Value.int .i64 x], u.oneCell' = true := by intro u hu; simp at hu; subst hu; rfl
end Go.Proofs.YtcpddgkloeklaaaGreatDoor
