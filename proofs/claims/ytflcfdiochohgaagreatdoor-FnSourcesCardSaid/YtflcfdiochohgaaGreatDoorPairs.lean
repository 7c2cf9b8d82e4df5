import Derived.Test.YtflcfdiochohgaaGreatDoorPackAb
import Derived.Test.YtflcfdiochohgaaGreatDoorPackC
/- PairsOf, both sides. -/
set_option linter.unusedSimpArgs false
set_option linter.unusedVariables false
namespace Go.Proofs.YtflcfdiochohgaaGreatDoor
open Go.RowKit
theorem ClmAt.btw {w w' : World} {b o lo hi : Nat} {c : Clm} (h : ClmAt w b o c) (hb : Between lo hi w w') (ho : b < lo ∨ hi ≤ b) : ClmAt w' b o c := by
  have key : ∀ {o : Nat} {v : Value}, w.cell? ⟨b, o, none⟩ = some v → w'.cell? ⟨b, o, none⟩ = some v := fun hp => (hb.cell (World.block_lt_of_cell? w _ hp) ho).trans hp
  exact ⟨key h.c0, key h.c1, key h.c2, key h.c3, key h.c4, key h.c5, key h.c6⟩
section
variable (L : List Clm) (a : Option Addr) (n c : Nat) (w : World) (hn : L.length = n) (hm : n ≤ 1048576) (hr : Row w a (clmsCells L)) (ok : ∀ c ∈ L, ClmOk c)
include hn hm hr ok
end
end Go.Proofs.YtflcfdiochohgaaGreatDoor
