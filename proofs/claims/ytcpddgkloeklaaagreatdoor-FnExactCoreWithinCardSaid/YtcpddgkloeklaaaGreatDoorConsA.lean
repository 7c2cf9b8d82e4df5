import Derived.Test.YtcpddgkloeklaaaGreatDoorCirW
import Derived.Test.YtcpddgkloeklaaaGreatDoorAgainst
/- Consistency of claims: what both sides speak of. -/
set_option linter.unusedSimpArgs false
set_option linter.unusedVariables false
namespace Go.Proofs.YtcpddgkloeklaaaGreatDoor
open Go.RowKit
theorem own_cap {w : World} {base e s n c : Nat} {a : Option Addr} {xs : List Value} (h : w.ownsRow base e s (.slice a n c) n xs) : n ≤ c := by
  rcases h.2 with ⟨hv, rfl⟩ | ⟨g, cap, cur, hv, _, _, hnc, _⟩
  · exact Nat.zero_le _
  · injection hv with _ _ h3; omega
theorem Owns.cap {w : World} {lo hi e s n c : Nat} {a : Option Addr} {xs : List Value} (h : Owns w lo hi e s n a c xs) : n ≤ c := own_cap h.own
theorem ClmAt.bel {w w' : World} {b o : Nat} {c : Clm} (h : ClmAt w b o c) (hb : Below w.heap.size w w') : ClmAt w' b o c := by
  have key : ∀ {p : Addr} {v : Value}, w.cell? p = some v → w'.cell? p = some v := fun hp => (hb.cell (World.block_lt_of_cell? w _ hp)).trans hp
  exact ⟨key h.c0, key h.c1, key h.c2, key h.c3, key h.c4, key h.c5, key h.c6⟩
theorem ClmAt.lt {w : World} {b o : Nat} {c : Clm} (h : ClmAt w b o c) : b < w.heap.size := World.block_lt_of_cell? w _ h.c0
theorem Row.clm_take {w : World} {a : Option Addr} {L : List Clm} (h : Row w a (clmsCells L)) (k : Nat) : Row w a (clmsCells (L.take k)) := h.sub fun j v hj => by
  have e : clmsCells L = clmsCells (L.take k) ++ clmsCells (L.drop k) := by rw [← clmsCells_append, List.take_append_drop]
  rw [e, List.getElem?_append_left (List.getElem?_eq_some_iff.1 hj).1]
  exact hj
/-- No two of the first `k` claims contradict each other. -/
def PairTo (L : List Clm) (k : Nat) : Prop := ∀ i j (hi : i < L.length) (hj : j < L.length), i < k → j < i → contraB L[i] L[j] = false
theorem PairTo.all {L : List Clm} (h : PairTo L L.length) : NoPair L := noPair_iff.2 fun i k hi hk hki => h i k hi hk hi hki
theorem PairTo.succ {L : List Clm} {k : Nat} (h : PairTo L k) (hk : ∀ j (hj : j < L.length) (hk : k < L.length), j < k → contraB L[k] L[j] = false) : PairTo L (k + 1) := fun i j hi hj hik hji => by
  rcases Nat.lt_or_ge i k with h1 | h1
  · exact h i j hi hj h1 hji
  · obtain rfl : i = k := by omega
    exact hk j hj hi hji
end Go.Proofs.YtcpddgkloeklaaaGreatDoor
