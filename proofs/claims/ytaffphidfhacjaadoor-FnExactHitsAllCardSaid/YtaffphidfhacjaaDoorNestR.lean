import Derived.Test.YtaffphidfhacjaaDoorNest
/- Slices of slices of numbers as results. -/
set_option linter.unusedSimpArgs false
set_option linter.unusedVariables false
namespace Go.Proofs.YtaffphidfhacjaaDoor
open Go.RowKit
theorem info_ints : (Tryd.prog.info? 23).map (fun i => (i.zero, i.size, i.bytes)) = some (some (.slice none 0 0), 1, 24) := by kernel_rfl
theorem info_ints' : ∃ i, Tryd.prog.info? 23 = some i ∧ i.zero = some (.slice none 0 0) ∧ i.size = 1 ∧ i.bytes = 24 := by
  have h := info_ints
  cases hi : Tryd.prog.info? 23 with
  | none => rw [hi] at h; cases h
  | some i =>
    rw [hi] at h
    simp only [Option.map_some, Option.some.injEq, Prod.mk.injEq] at h
    exact ⟨i, rfl, h.1, h.2.1, h.2.2⟩
/-- The call handed back slices of its own. -/
def RetNest (w : World) (S : List (List Int)) (mk : Value → Value) (e : Ending) (w' : World) : Prop :=
  ∃ (a : Option Addr) (c : Nat) (vs : List Value), e = .returned (mk (.slice a S.length c)) ∧ Nest w' w.heap.size w'.heap.size a S.length c S vs ∧ ∃ y : Later w, w' = y.w
theorem RetNest.mk' {w w' : World} {S : List (List Int)} {mk : Value → Value} {e : Ending} {a : Option Addr} {n c : Nat} {vs : List Value} (h : e = .returned (mk (.slice a n c))) (hn : Nest w' w.heap.size w'.heap.size a n c S vs) (hb : Below w.heap.size w w') : RetNest w S mk e w' := by
  obtain rfl := hn.len
  exact ⟨a, c, vs, h, hn, ⟨w', hb⟩, rfl⟩
end Go.Proofs.YtaffphidfhacjaaDoor
