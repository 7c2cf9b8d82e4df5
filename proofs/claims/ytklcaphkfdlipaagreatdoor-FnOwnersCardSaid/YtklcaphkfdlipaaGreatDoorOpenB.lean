import Derived.Test.YtklcaphkfdlipaaGreatDoorPackVi
import Derived.Test.YtklcaphkfdlipaaGreatDoorSou
/- An argument that is a slice of bytes. -/
set_option linter.unusedSimpArgs false
set_option linter.unusedVariables false
namespace Go.Proofs.YtklcaphkfdlipaaGreatDoor
open Go.RowKit Go.ChangeShapes Go.WideShapes Go.Deep
theorem u8_range {x : Int} (h : (Lit.int .u8 x).wf = true) : 0 ≤ x ∧ x ≤ 255 := by
  simp [Lit.wf, IntKind.min, IntKind.max, IntKind.signed, IntKind.bits] at h
  omega
theorem Good.bytes {w : World} {cs : List Value} (h : Good w (.slice (.int .u8)) cs) : ∃ (a : Option Addr) (n c : Nat) (l : List Int), cs = [.slice a n c] ∧ n ≤ maxLen ∧ l.length = n ∧ (∀ x ∈ l, 0 ≤ x ∧ x ≤ 255) ∧ Row w a (byteCells l) := by
  obtain ⟨a, n, c, xs, rfl, hn, hc, hl, hr, hx⟩ := h
  have : ∀ xs : List (List Value), (∀ x ∈ xs, x.length = 1 ∧ Good w (.int .u8) x) → ∃ l : List Int, l.length = xs.length ∧ (∀ x ∈ l, 0 ≤ x ∧ x ≤ 255) ∧ xs.flatten = byteCells l := by
    intro xs
    induction xs with
    | nil => intro _; exact ⟨[], rfl, by simp, rfl⟩
    | cons x xs ih =>
      intro hh
      obtain ⟨l, h1, h2, h3⟩ := ih fun y hy => hh y (by simp [hy])
      obtain ⟨_, b, rfl, hb⟩ := hh x (by simp)
      have := u8_range hb
      exact ⟨b :: l, by simp [h1], by intro y hy; rcases List.mem_cons.1 hy with rfl | hy; exact this; exact h2 y hy, by simp [h3, byteCells]⟩
  obtain ⟨l, h1, h2, h3⟩ := this xs hx
  exact ⟨a, n, c, l, rfl, by omega, by omega, h2, h3 ▸ hr⟩
theorem sliceB_of_good {P : Program} {w : World} {r : Go.Reach} {b t : Nat} {e : TypeId} {v : Value} (ht : P.underlying t = some (.slice e)) (hv : Value.okWide P w r b t v) {a : Option Addr} {n c : Nat} (h : v.cells.toList = [.slice a n c]) : v = .slice a n c := by
  obtain ⟨a', n', c', rfl⟩ := okWide_slice ht hv
  simpa [Value.cells] using h
end Go.Proofs.YtklcaphkfdlipaaGreatDoor
