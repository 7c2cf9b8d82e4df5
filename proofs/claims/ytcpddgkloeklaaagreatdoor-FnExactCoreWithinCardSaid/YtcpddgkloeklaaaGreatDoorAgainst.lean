import Derived.Test.YtcpddgkloeklaaaGreatDoorAbout
import Derived.Test.YtcpddgkloeklaaaGreatDoorContra
import Derived.Test.YtcpddgkloeklaaaGreatDoorExist
import Derived.Test.YtcpddgkloeklaaaGreatDoorWt
/- ContradictionsOf, both sides. -/
set_option linter.unusedSimpArgs false
set_option linter.unusedVariables false
namespace Go.Proofs.YtcpddgkloeklaaaGreatDoor
open Go.RowKit
theorem enters_contra : ∀ args w, (callFunc 135 args).run Tryz.prog w = .ok (.enter 135 args) w := fun _ _ => by kernel_rfl
theorem tells_contra (d : Clm) (L : List Clm) (w : World) : Tells 135 #[clmV d] #[] (contraB d) L w := fun c _ w' _ => by
  have := contradicts_any d c w'
  simpa using this
theorem idxs_congr {p q : Clm → Bool} {L : List Clm} (h : ∀ c ∈ L, p c = q c) (k : Nat) : idxsTo p L k = idxsTo q L k := by
  unfold idxsTo
  congr 1
  apply List.filter_congr
  intro i hi
  cases hL : L[i]? with
  | none => rfl
  | some c => simp only; exact h c (List.mem_of_getElem? hL)
/-- The claims that contradict the one at an index. -/
def againstB (L : List Clm) (i : Int) (c : Clm) : Bool := match L[i.toNat]? with | some d => contraB d c | none => false
noncomputable def againstK (L : List Clm) (i : Int) : Int := if claimsB L then (if inB i 0 ((L.length : Int) - 1) then 0 else 2) else 1
noncomputable def againstR (L : List Clm) (i : Int) : List Int := if againstK L i = 0 then idxs (againstB L i) L else []
theorem againstR_len (L : List Clm) (i : Int) {n : Nat} (hn : L.length = n) (hm : n ≤ 1048576) : (againstR L i).length ≤ 1048576 := by
  unfold againstR
  split
  · have := idxs_le (againstB L i) L; omega
  · simp
end Go.Proofs.YtcpddgkloeklaaaGreatDoor
