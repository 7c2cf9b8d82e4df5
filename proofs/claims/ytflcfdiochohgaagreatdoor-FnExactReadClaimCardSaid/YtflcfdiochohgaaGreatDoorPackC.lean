import Derived.Test.YtflcfdiochohgaaGreatDoorPackB
import Derived.Test.YtflcfdiochohgaaGreatDoorContra
import Derived.Test.YtflcfdiochohgaaGreatDoorPackAb
import Derived.Lib.AppendZerosOnto
/- Several of my texts, one behind the other: Against, ConsA, Kept, Lack, Lack2, Cons, ConsS, Rep, Core, Code, Minim. -/
/- ContradictionsOf, both sides. -/
set_option linter.unusedSimpArgs false
set_option linter.unusedVariables false
namespace Go.Proofs.YtflcfdiochohgaaGreatDoor
open Go.RowKit
section
variable (L : List Clm) (i : Int) (a : Option Addr) (n c : Nat) (w : World) (hn : L.length = n) (hm : n ≤ 1048576) (hr : Row w a (clmsCells L)) (ok : ∀ c ∈ L, ClmOk c)
include hn hm hr ok
end
end Go.Proofs.YtflcfdiochohgaaGreatDoor

/- Consistency of claims: what both sides speak of. -/
set_option linter.unusedSimpArgs false
set_option linter.unusedVariables false
namespace Go.Proofs.YtflcfdiochohgaaGreatDoor
open Go.RowKit
theorem own_cap {w : World} {base e s n c : Nat} {a : Option Addr} {xs : List Value} (h : w.ownsRow base e s (.slice a n c) n xs) : n ≤ c := by
  rcases h.2 with ⟨hv, rfl⟩ | ⟨g, cap, cur, hv, _, _, hnc, _⟩
  · exact Nat.zero_le _
  · injection hv with _ _ h3; omega
theorem Owns.cap {w : World} {lo hi e s n c : Nat} {a : Option Addr} {xs : List Value} (h : Owns w lo hi e s n a c xs) : n ≤ c := own_cap h.own
theorem ClmAt.bel {w w' : World} {b o : Nat} {c : Clm} (h : ClmAt w b o c) (hb : Below w.heap.size w w') : ClmAt w' b o c := by
  have key : ∀ {p : Addr} {v : Value}, w.cell? p = some v → w'.cell? p = some v := fun hp => (hb.cell (World.block_lt_of_cell? w _ hp)).trans hp
  exact ⟨key h.c0, key h.c1, key h.c2, key h.c3, key h.c4, key h.c5, key h.c6⟩
theorem ClmAt.lt {w : World} {b o : Nat} {c : Clm} (h : ClmAt w b o c) : b < w.heap.size := World.block_lt_of_cell? w _ h.c0
/-- No two of the first `k` claims contradict each other. -/
def PairTo (L : List Clm) (k : Nat) : Prop := ∀ i j (hi : i < L.length) (hj : j < L.length), i < k → j < i → contraB L[i] L[j] = false
theorem PairTo.all {L : List Clm} (h : PairTo L L.length) : NoPair L := noPair_iff.2 fun i k hi hk hki => h i k hi hk hi hki
theorem PairTo.succ {L : List Clm} {k : Nat} (h : PairTo L k) (hk : ∀ j (hj : j < L.length) (hk : k < L.length), j < k → contraB L[k] L[j] = false) : PairTo L (k + 1) := fun i j hi hj hik hji => by
  rcases Nat.lt_or_ge i k with h1 | h1
  · exact h i j hi hj h1 hji
  · obtain rfl : i = k := by omega
    exact hk j hj hi hji
end Go.Proofs.YtflcfdiochohgaaGreatDoor

/- Claims that are chosen or left: both sides. -/
set_option linter.unusedSimpArgs false
set_option linter.unusedVariables false
namespace Go.Proofs.YtflcfdiochohgaaGreatDoor
open Go.RowKit
end Go.Proofs.YtflcfdiochohgaaGreatDoor

/- A list without one of its elements: both sides; slices.Grow and slices.Concat of numbers. -/
set_option linter.unusedSimpArgs false
set_option linter.unusedVariables false
namespace Go.Proofs.YtflcfdiochohgaaGreatDoor
open Go.RowKit
end Go.Proofs.YtflcfdiochohgaaGreatDoor

/- A list without one of its elements: both sides. -/
set_option linter.unusedSimpArgs false
set_option linter.unusedVariables false
namespace Go.Proofs.YtflcfdiochohgaaGreatDoor
open Go.RowKit
end Go.Proofs.YtflcfdiochohgaaGreatDoor

/- Consistency of claims: the program's side. -/
set_option linter.unusedSimpArgs false
set_option linter.unusedVariables false
namespace Go.Proofs.YtflcfdiochohgaaGreatDoor
open Go.RowKit
end Go.Proofs.YtflcfdiochohgaaGreatDoor

/- Consistency of claims: the reference's side. -/
set_option linter.unusedSimpArgs false
set_option linter.unusedVariables false
namespace Go.Proofs.YtflcfdiochohgaaGreatDoor
open Go.RowKit
end Go.Proofs.YtflcfdiochohgaaGreatDoor

/- Repairs: both sides; chosen claims of the program. -/
set_option linter.unusedSimpArgs false
set_option linter.unusedVariables false
namespace Go.Proofs.YtflcfdiochohgaaGreatDoor
open Go.RowKit
section
variable (L : List Clm) (S : List Int) (a a' : Option Addr) (n c n' c' : Nat) (w : World) (hn : L.length = n) (hn' : S.length = n') (hm : n ≤ 1048576) (hm' : n' ≤ 1048576) (hr : Row w a (clmsCells L)) (hr' : Row w a' (intCells S))
include hn hn' hm hm' hr hr'
end
end Go.Proofs.YtflcfdiochohgaaGreatDoor

/- Cores: both sides. -/
set_option linter.unusedSimpArgs false
set_option linter.unusedVariables false
namespace Go.Proofs.YtflcfdiochohgaaGreatDoor
open Go.RowKit
section
variable (L : List Clm) (S : List Int) (a a' : Option Addr) (n c n' c' : Nat) (w : World) (hn : L.length = n) (hn' : S.length = n') (hm : n ≤ 1048576) (hm' : n' ≤ 1000) (hcap : n' ≤ c') (hr : Row w a (clmsCells L)) (hr' : Row w a' (intCells S)) (hin : Within L.length S)
include hn hn' hm hm' hcap hr hr' hin
end
end Go.Proofs.YtflcfdiochohgaaGreatDoor

/- The code of a choice of claims: the reference's side, and what it says. -/
set_option linter.unusedSimpArgs false
set_option linter.unusedVariables false
namespace Go.Proofs.YtflcfdiochohgaaGreatDoor
open Go.RowKit
section
variable (L : List Clm) (l : List Int) (a a' : Option Addr) (n c n' c' : Nat) (w : World) (hn : L.length = n) (hn' : l.length = n') (hm : n ≤ 1048576) (hm' : n' ≤ 1048576) (hr : Row w a (clmsCells L)) (hr' : Row w a' (intCells l)) (ok : ∀ c ∈ L, ClmOk c)
include hn hn' hm hm' hr hr' ok
end
end Go.Proofs.YtflcfdiochohgaaGreatDoor

/- Minimal repairs: both sides. -/
set_option linter.unusedSimpArgs false
set_option linter.unusedVariables false
namespace Go.Proofs.YtflcfdiochohgaaGreatDoor
open Go.RowKit
section
variable (L : List Clm) (S : List Int) (a a' : Option Addr) (n c n' c' : Nat) (w : World) (hn : L.length = n) (hn' : S.length = n') (hm : n ≤ 1048576) (hm' : n' ≤ 1000) (hcap : n' ≤ c') (hr : Row w a (clmsCells L)) (hr' : Row w a' (intCells S))
include hn hn' hm hm' hcap hr hr'
end
end Go.Proofs.YtflcfdiochohgaaGreatDoor
