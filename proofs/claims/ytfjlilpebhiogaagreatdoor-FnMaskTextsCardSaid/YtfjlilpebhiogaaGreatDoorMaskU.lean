import Derived.Test.YtfjlilpebhiogaaGreatDoorMaskC
/- Two masks: whether they have the same box; unions, meetings, differences. -/
set_option linter.unusedSimpArgs false
set_option linter.unusedVariables false
namespace Go.Proofs.YtfjlilpebhiogaaGreatDoor
open Go.RowKit
section
variable (x y W H x' y' W' H' : Int) (l l' : List Bool) (a a' : Option Addr) (n n' c c' : Nat) (w : World)
end

/-- What the closure of two masks finds: the operation, and the two masks' cells. -/
structure Cap (w : World) (F b0 b1 b2 n c n' c' : Nat) (a a' : Option Addr) (l l' : List Bool) : Prop where
  c0 : w.cell? ⟨b0, 0, none⟩ = some (.func (.func F) #[] #[])
  c1 : w.cell? ⟨b1, 4, none⟩ = some (.slice a n c)
  c2 : w.cell? ⟨b2, 4, none⟩ = some (.slice a' n' c')
  r1 : Row w a (boolCells l)
  r2 : Row w a' (boolCells l')
  e1 : l.length = n
  e2 : l'.length = n'
theorem Cap.bel {w w' : World} {F b0 b1 b2 n c n' c' : Nat} {a a' : Option Addr} {l l' : List Bool} (h : Cap w F b0 b1 b2 n c n' c' a a' l l') (hb : Below w.heap.size w w') : Cap w' F b0 b1 b2 n c n' c' a a' l l' :=
  ⟨(hb.cell (World.block_lt_of_cell? w _ h.c0)).trans h.c0, (hb.cell (World.block_lt_of_cell? w _ h.c1)).trans h.c1, (hb.cell (World.block_lt_of_cell? w _ h.c2)).trans h.c2, h.r1.bel hb, h.r2.bel hb, h.e1, h.e2⟩

end Go.Proofs.YtfjlilpebhiogaaGreatDoor
