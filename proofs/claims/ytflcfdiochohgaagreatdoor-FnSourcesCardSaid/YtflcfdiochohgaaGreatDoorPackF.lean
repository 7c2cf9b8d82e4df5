import Derived.Test.YtflcfdiochohgaaGreatDoorPackEa
import Derived.Test.YtflcfdiochohgaaGreatDoorPackC
import Derived.Test.YtflcfdiochohgaaGreatDoorPackE
/- Several of my texts, one behind the other: RowF, ResL, ResA, ResI. -/
/- The search in a table by a function value; what the table is used for: lengths, counts, what is never removed. -/
set_option linter.unusedSimpArgs false
set_option linter.unusedVariables false
namespace Go.Proofs.YtflcfdiochohgaaGreatDoor
open Go.RowKit
end Go.Proofs.YtflcfdiochohgaaGreatDoor

/- LeastRemoved and AlwaysKept: both sides. -/
set_option linter.unusedSimpArgs false
set_option linter.unusedVariables false
namespace Go.Proofs.YtflcfdiochohgaaGreatDoor
open Go.RowKit
section
variable (L : List Clm) (a : Option Addr) (n c : Nat) (w : World) (hn : L.length = n) (hm : n ≤ 1048576) (hr : Row w a (clmsCells L)) (ok : ∀ c ∈ L, ClmOk c)
include hn hm hr ok
end
end Go.Proofs.YtflcfdiochohgaaGreatDoor

/- AlwaysKept: both sides. -/
set_option linter.unusedSimpArgs false
set_option linter.unusedVariables false
namespace Go.Proofs.YtflcfdiochohgaaGreatDoor
open Go.RowKit
section
variable (L : List Clm) (a : Option Addr) (n c : Nat) (w : World) (hn : L.length = n) (hm : n ≤ 1048576) (hr : Row w a (clmsCells L)) (ok : ∀ c ∈ L, ClmOk c)
include hn hm hr ok
end
end Go.Proofs.YtflcfdiochohgaaGreatDoor

/- InCores: both sides. -/
set_option linter.unusedSimpArgs false
set_option linter.unusedVariables false
namespace Go.Proofs.YtflcfdiochohgaaGreatDoor
open Go.RowKit
theorem Nest.cells {w : World} {lo hi : Nat} {a : Option Addr} {n c : Nat} {S : List (List Int)} {vs : List Value} (h : Nest w lo hi a n c S vs) {k : Nat} (hk : k < n) :
    ∃ b ai ci, a = some ⟨b, 0, none⟩ ∧ lo ≤ b ∧ b < hi ∧ w.cell? ⟨b, k, none⟩ = some (.slice ai (atL S k).length ci) ∧ ∀ m (hm : m < (atL S k).length), ∃ bi, ai = some ⟨bi, 0, none⟩ ∧ lo ≤ bi ∧ bi < hi ∧ w.cell? ⟨bi, m, none⟩ = some (.int .i64 ((atL S k).getD m 0)) := by
  have hv := h.vlen
  have hn := h.len
  obtain ⟨b, rfl, h1, h2, h3, _⟩ := h.own.at_ (j := k) (by omega)
  obtain ⟨ai, ci, h4, h5⟩ := h.at_ k (by omega)
  have e : atL S k = S[k] := by unfold atL; rw [getD_at (by omega)]
  rw [e]
  refine ⟨b, ai, ci, rfl, h1, h2, by rw [h3, h4], fun m hm => ?_⟩
  obtain ⟨bi, rfl, g1, g2, g3, _⟩ := h5.at_ (j := m) (by omega)
  exact ⟨bi, rfl, g1, g2, by rw [g3, getD_at hm]; simp [intCells, hm]⟩
/-- One more at a place. -/
def addAt (l : List Int) (i : Int) : List Int := l.set i.toNat (l.getD i.toNat 0 + 1)
theorem addAt_len (l : List Int) (i : Int) : (addAt l i).length = l.length := by simp [addAt]
/-- So many numbers, none negative and none above a bound. -/
def Few (n b : Nat) (l : List Int) : Prop := l.length = n ∧ ∀ i, 0 ≤ l.getD i 0 ∧ l.getD i 0 ≤ b
theorem Few.add {n b : Nat} {l : List Int} (h : Few n b l) (i : Int) : Few n (b + 1) (addAt l i) := by
  refine ⟨(addAt_len l i).trans h.1, fun j => ?_⟩
  unfold addAt
  have h1 := h.2 i.toNat
  have h2 := h.2 j
  by_cases hj : j < l.length
  · rw [getD_at (by simpa using hj), List.getElem_set]
    split
    · omega
    · rw [getD_at hj] at h2; omega
  · rw [getD_out (by simp; omega)]
    omega
theorem Few.mono {n b b' : Nat} {l : List Int} (h : Few n b l) (hb : b ≤ b') : Few n b' l := ⟨h.1, fun i => by have := h.2 i; omega⟩
section
variable (L : List Clm) (a : Option Addr) (n c : Nat) (w : World) (hn : L.length = n) (hm : n ≤ 1048576) (hr : Row w a (clmsCells L)) (ok : ∀ c ∈ L, ClmOk c)
include hn hm hr ok
end
end Go.Proofs.YtflcfdiochohgaaGreatDoor
