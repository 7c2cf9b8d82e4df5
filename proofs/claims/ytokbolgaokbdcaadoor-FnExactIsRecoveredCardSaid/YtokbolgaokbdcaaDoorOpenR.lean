import Derived.Test.YtokbolgaokbdcaaDoorOpenS
import Derived.Test.YtokbolgaokbdcaaDoorPackPb
/- Arguments of the laws on tables. -/
set_option linter.unusedSimpArgs false
set_option linter.unusedVariables false
namespace Go.Proofs.YtokbolgaokbdcaaDoor
open Go.RowKit Go.ChangeShapes Go.WideShapes Go.Deep
def ruleTy : Ty := .pair (.slice (.int .i64)) (.pair .string .unit)
theorem Good.intsC {w : World} {cs : List Value} (h : Good w (.slice (.int .i64)) cs) : ∃ (a : Option Addr) (n c : Nat) (l : List Int), cs = [.slice a n c] ∧ n ≤ c ∧ c ≤ maxLen ∧ l.length = n ∧ Row w a (intCells l) ∧ ∀ x ∈ l, (Lit.int .i64 x).wf = true := by
  obtain ⟨a, n, c, xs, rfl, hn, hc, hl, hr, hx⟩ := h
  have : ∀ xs : List (List Value), (∀ x ∈ xs, x.length = 1 ∧ Good w (.int .i64) x) → ∃ l : List Int, l.length = xs.length ∧ xs.flatten = intCells l ∧ ∀ x ∈ l, (Lit.int .i64 x).wf = true := by
    intro xs
    induction xs with
    | nil => intro _; exact ⟨[], rfl, rfl, fun x hx => by cases hx⟩
    | cons x xs ih =>
      intro hh
      obtain ⟨l, h1, h2, h3⟩ := ih fun y hy => hh y (by simp [hy])
      obtain ⟨_, b, rfl, hb⟩ := hh x (by simp)
      refine ⟨b :: l, by simp [h1], by simp [h2, intCells], fun y hy => ?_⟩
      rcases List.mem_cons.1 hy with rfl | hy
      · exact hb
      · exact h3 y hy
  obtain ⟨l, h1, h2, h3⟩ := this xs hx
  exact ⟨a, n, c, l, rfl, hn, hc, by omega, h2 ▸ hr, h3⟩
theorem Good.rule {w : World} {cs : List Value} (h : Good w ruleTy cs) : ∃ (r : Rul) (a : Option Addr) (c : Nat), cs = [.slice a r.sg.length c, .string r.rom] ∧ RulIn r ∧ Row w a (intCells r.sg) ∧ r.sg.length ≤ c ∧ c ≤ maxLen := by
  obtain ⟨c1, c2, rfl, _, hi, c3, c4, rfl, _, ⟨s, rfl, hs⟩, rfl⟩ := h
  obtain ⟨a, n, c, l, rfl, h1, h2, rfl, h4, h5⟩ := hi.intsC
  exact ⟨⟨l, s⟩, a, c, rfl, ⟨by dsimp only; omega, hs, h5⟩, h4, h1, h2⟩
theorem flatten_two : ∀ (xs : List (List Value)) (i j : Nat) (x : List Value) (v : Value), (∀ y ∈ xs, y.length = 2) → xs[i]? = some x → x[j]? = some v → xs.flatten[i * 2 + j]? = some v
  | [], i, j, x, v, _, h, _ => by simp at h
  | y :: xs, 0, j, x, v, hall, h, hj => by
    obtain rfl : y = x := by simpa using h
    have := (List.getElem?_eq_some_iff.1 hj).1
    rw [List.flatten_cons, Nat.zero_mul, Nat.zero_add, List.getElem?_append_left this]
    exact hj
  | y :: xs, i + 1, j, x, v, hall, h, hj => by
    have hy := hall y (by simp)
    rw [List.flatten_cons, List.getElem?_append_right (by omega), hy, show (i + 1) * 2 + j - 2 = i * 2 + j by omega]
    exact flatten_two xs i j x v (fun z hz => hall z (by simp [hz])) (by simpa using h) hj
theorem Good.rules {w : World} {cs : List Value} (h : Good w (.slice ruleTy) cs) : ∃ (a : Option Addr) (n c : Nat) (T : List Rul), cs = [.slice a n c] ∧ n ≤ c ∧ c ≤ maxLen ∧ T.length = n ∧ RulesR w a T ∧ ∀ x ∈ T, RulIn x := by
  obtain ⟨a, n, c, xs, rfl, hn, hc, hl, hr, hx⟩ := h
  have : ∀ xs : List (List Value), (∀ x ∈ xs, x.length = ruleTy.cells ∧ Good w ruleTy x) → ∃ T : List Rul, T.length = xs.length ∧ (∀ i (h : i < T.length), ∃ ai ci, xs[i]? = some [.slice ai T[i].sg.length ci, .string T[i].rom] ∧ Row w ai (intCells T[i].sg) ∧ T[i].sg.length ≤ ci ∧ ci ≤ maxLen) ∧ ∀ x ∈ T, RulIn x := by
    intro xs
    induction xs with
    | nil => intro _; exact ⟨[], rfl, fun i h => absurd h (by simp), fun x hx => by cases hx⟩
    | cons x xs ih =>
      intro hh
      obtain ⟨T, h1, h2, h3⟩ := ih fun y hy => hh y (by simp [hy])
      obtain ⟨r, ar, cr, rfl, hri, hrow, hc1, hc2⟩ := (hh x (by simp)).2.rule
      refine ⟨r :: T, by simp [h1], fun i hi => ?_, fun y hy => ?_⟩
      · cases i with
        | zero => exact ⟨ar, cr, by simp, hrow, hc1, hc2⟩
        | succ i =>
          obtain ⟨ai, ci, h4, h5⟩ := h2 i (by simpa using hi)
          exact ⟨ai, ci, by simpa using h4, by simpa using h5⟩
      · rcases List.mem_cons.1 hy with rfl | hy
        · exact hri
        · exact h3 y hy
  obtain ⟨T, h1, h2, h3⟩ := this xs hx
  refine ⟨a, n, c, T, rfl, hn, hc, by omega, fun i hi => ?_, h3⟩
  obtain ⟨ai, ci, h4, h5, h6⟩ := h2 i hi
  have e2 : ∀ y ∈ xs, y.length = 2 := fun y hy => (hx y hy).1
  obtain ⟨b, o, rfl, k0⟩ := hr (i * 2 + 0) _ (flatten_two xs i 0 _ _ e2 h4 rfl)
  obtain ⟨b', o', he, k1⟩ := hr (i * 2 + 1) _ (flatten_two xs i 1 _ _ e2 h4 rfl)
  cases he
  exact ⟨b, o, ai, ci, rfl, World.block_lt_of_cell? w _ k0, by simpa using k0, by rw [Nat.add_assoc]; exact k1, h5, h6⟩
end Go.Proofs.YtokbolgaokbdcaaDoor
