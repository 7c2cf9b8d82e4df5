import Derived.Test.YtcpddgkloeklaaaGreatDoorWords
import Derived.Test.YtcpddgkloeklaaaGreatDoorIn
/- Claims: what one is, in plain terms; its cells; lists of claims as rows of cells. -/
set_option linter.unusedSimpArgs false
set_option linter.unusedVariables false
namespace Go.Proofs.YtcpddgkloeklaaaGreatDoor
open Go.RowKit
/-- What a source tells about a place. -/
structure Clm where
  src : ByteArray
  kind : Int
  place : ByteArray
  val : ByteArray
  fr : Int
  to : Int
  wt : Int
theorem Clm.ext' {c d : Clm} (h1 : c.src = d.src) (h2 : c.kind = d.kind) (h3 : c.place = d.place) (h4 : c.val = d.val) (h5 : c.fr = d.fr) (h6 : c.to = d.to) (h7 : c.wt = d.wt) : c = d := by
  cases c; cases d; simp_all
def clmCells (c : Clm) : List Value := [.string c.src, .int .i64 c.kind, .string c.place, .string c.val, .int .i64 c.fr, .int .i64 c.to, .int .i64 c.wt]
abbrev clmV (c : Clm) : Value := .agg #[.string c.src, .int .i64 c.kind, .string c.place, .string c.val, .int .i64 c.fr, .int .i64 c.to, .int .i64 c.wt]
def clmsCells (L : List Clm) : List Value := L.flatMap clmCells
theorem length_clmsCells (L : List Clm) : (clmsCells L).length = L.length * 7 := by
  induction L with
  | nil => rfl
  | cons c L ih => simp only [clmsCells, List.flatMap_cons, List.length_append, List.length_cons] at ih ⊢; rw [ih]; simp [clmCells]; omega
theorem clmsCells_append (L M : List Clm) : clmsCells (L ++ M) = clmsCells L ++ clmsCells M := by simp [clmsCells]
theorem clms_get {L : List Clm} : ∀ {k : Nat} (h : k < L.length) {i : Nat} {v : Value}, (clmCells L[k])[i]? = some v → (clmsCells L)[k * 7 + i]? = some v := by
  induction L with
  | nil => intro k h; simp at h
  | cons c L ih =>
    intro k h i v hv
    have hi : i < 7 := (List.getElem?_eq_some_iff.1 hv).1
    cases k with
    | zero =>
      show (clmCells c ++ clmsCells L)[0 * 7 + i]? = some v
      rw [Nat.zero_mul, Nat.zero_add, List.getElem?_append_left (by simpa [clmCells] using hi)]
      exact hv
    | succ k =>
      show (clmCells c ++ clmsCells L)[(k + 1) * 7 + i]? = some v
      have hl : (clmCells c).length = 7 := rfl
      rw [List.getElem?_append_right (by omega), hl, show (k + 1) * 7 + i - 7 = k * 7 + i by omega]
      exact ih (by simpa using h) hv
/-- The seven cells of a claim. -/
structure ClmAt (w : World) (b o : Nat) (c : Clm) : Prop where
  c0 : w.cell? ⟨b, o, none⟩ = some (.string c.src)
  c1 : w.cell? ⟨b, o + 1, none⟩ = some (.int .i64 c.kind)
  c2 : w.cell? ⟨b, o + 2, none⟩ = some (.string c.place)
  c3 : w.cell? ⟨b, o + 3, none⟩ = some (.string c.val)
  c4 : w.cell? ⟨b, o + 4, none⟩ = some (.int .i64 c.fr)
  c5 : w.cell? ⟨b, o + 5, none⟩ = some (.int .i64 c.to)
  c6 : w.cell? ⟨b, o + 6, none⟩ = some (.int .i64 c.wt)
theorem Row.clm {w : World} {a : Option Addr} {L : List Clm} (h : Row w a (clmsCells L)) {k : Nat} (hk : k < L.length) : ∃ b o, a = some ⟨b, o, none⟩ ∧ b < w.heap.size ∧ ClmAt w b (o + k * 7) L[k] := by
  obtain ⟨b, o, rfl, h0⟩ := h (k * 7 + 0) _ (clms_get hk (i := 0) rfl)
  have hb := World.block_lt_of_cell? w _ h0
  have key : ∀ i v, (clmCells L[k])[i]? = some v → w.cell? ⟨b, o + k * 7 + i, none⟩ = some v := by
    intro i v hv
    obtain ⟨b', o', he, hc⟩ := h (k * 7 + i) _ (clms_get hk hv)
    cases he
    rw [Nat.add_assoc]; exact hc
  exact ⟨b, o, rfl, hb, by simpa using key 0 _ rfl, key 1 _ rfl, key 2 _ rfl, key 3 _ rfl, key 4 _ rfl, key 5 _ rfl, key 6 _ rfl⟩
/-! ### The plain notions -/
def meetsB (c d : Clm) : Bool := decide (c.fr ≤ d.to) && decide (d.fr ≤ c.to)
def hasB (c : Clm) (y : Int) : Bool := decide (c.fr ≤ y) && decide (y ≤ c.to)
def spanB (f t : Int) : Bool := inB f (-3000) 3000 && inB t (-3000) 3000 && decide (f ≤ t)
def valueB (c : Clm) : Bool :=
  if c.kind = 0 then phraseB c.val else if c.kind = 1 then wordB c.val && !(decide (c.val = c.place)) else if c.kind = 2 ∨ c.kind = 3 then decide (c.val = ByteArray.empty) else false
def claimB (c : Clm) : Bool := wordB c.src && wordB c.place && valueB c && spanB c.fr c.to && inB c.wt 1 100
def claimsB (L : List Clm) : Bool := decide (L.length ≤ 12) && L.all claimB
/-- `c` tells a parent that `d` tells to be missing. -/
def withoutB (c d : Clm) : Bool := decide (c.kind = 1) && decide (d.kind = 3) && decide (d.place = c.val)
def contraB (c d : Clm) : Bool :=
  meetsB c d && (withoutB c d || withoutB d c || (decide (c.place = d.place) && ((decide (c.kind = 3) != decide (d.kind = 3)) || (decide (c.kind = d.kind) && (decide (c.kind = 0) || decide (c.kind = 1)) && !(decide (c.val = d.val))))))
end Go.Proofs.YtcpddgkloeklaaaGreatDoor
