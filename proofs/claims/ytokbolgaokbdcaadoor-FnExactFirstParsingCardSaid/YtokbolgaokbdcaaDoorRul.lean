import Derived.Test.YtokbolgaokbdcaaDoorTextS
import Derived.Test.YtokbolgaokbdcaaDoorHasI
import Derived.Test.YtokbolgaokbdcaaDoorSizes
/- Rules and tables: what they are in plain terms, rows for reading, rows of one's own. -/
set_option linter.unusedSimpArgs false
set_option linter.unusedVariables false
namespace Go.Proofs.YtokbolgaokbdcaaDoor
open Go.RowKit
structure Rul where
  sg : List Int
  rom : ByteArray
/-- Numbers that are signs, at most so many. -/
def signsB (l : List Int) (most : Int) : Bool := inB l.length 1 most && l.all fun x => inB x 0 19
def ruleB (r : Rul) : Bool := signsB r.sg 3 && smallB r.rom 0 4
/-- The first place at which `p` holds, -1 if none. -/
def idxU (p : Rul → Bool) (T : List Rul) : Int := match T.findIdx? p with
  | some i => i
  | none => -1
theorem idxU_none {p : Rul → Bool} {L : List Rul} (h : ∀ j (hj : j < L.length), p L[j] = false) : idxU p L = -1 := by
  have : L.findIdx? p = none := by
    rw [List.findIdx?_eq_none_iff]
    intro x hx
    obtain ⟨j, hj, rfl⟩ := List.mem_iff_getElem.1 hx
    exact h j hj
  simp [idxU, this]
theorem idxU_some {p : Rul → Bool} {L : List Rul} {k : Nat} (hk : k < L.length) (h1 : p L[k] = true) (h : ∀ j (hj : j < L.length), j < k → p L[j] = false) : idxU p L = k := by
  have : L.findIdx? p = some k := by
    rw [List.findIdx?_eq_some_iff_getElem]
    exact ⟨hk, h1, fun j hj => by rw [h j (by omega) hj]; simp⟩
  simp [idxU, this]
theorem idxU_nonneg (p : Rul → Bool) (L : List Rul) : decide (0 ≤ idxU p L) = L.any p := by
  unfold idxU
  cases h : L.findIdx? p with
  | none =>
    rw [List.findIdx?_eq_none_iff] at h
    have : L.any p = false := by rw [Bool.eq_false_iff]; intro hh; obtain ⟨x, hx, hp⟩ := List.any_eq_true.1 hh; rw [h x hx] at hp; cases hp
    simp [this]
  | some i =>
    rw [List.findIdx?_eq_some_iff_getElem] at h
    obtain ⟨hi, hp, _⟩ := h
    have : L.any p = true := List.any_eq_true.2 ⟨L[i], List.getElem_mem hi, hp⟩
    simp [this]
/-- What an index that a search tells is. -/
theorem idxU_cases (p : Rul → Bool) (L : List Rul) : (idxU p L = -1 ∧ ∀ j (hj : j < L.length), p L[j] = false) ∨ (∃ k : Nat, ∃ hk : k < L.length, idxU p L = k ∧ p L[k] = true ∧ ∀ j (hj : j < L.length), j < k → p L[j] = false) := by
  unfold idxU
  cases h : L.findIdx? p with
  | none =>
    rw [List.findIdx?_eq_none_iff] at h
    exact .inl ⟨rfl, fun j hj => by simpa using h _ (List.getElem_mem hj)⟩
  | some i =>
    rw [List.findIdx?_eq_some_iff_getElem] at h
    obtain ⟨hi, hp, h3⟩ := h
    exact .inr ⟨i, hi, rfl, hp, fun j hj hji => by simpa using h3 j hji⟩
/-- The index of the rule with these signs, -1 if there is none. -/
def findR (T : List Rul) (s : List Int) : Int := idxU (fun r => r.sg == s) T
/-- The rule at `i` is as described, and none ahead of it has its signs. -/
def tabAt (T : List Rul) (i : Nat) : Bool := match T[i]? with
  | some r => ruleB r && !decide (0 ≤ findR (T.take i) r.sg)
  | none => true
theorem tabAt_get {T : List Rul} {i : Nat} (h : i < T.length) : tabAt T i = (ruleB T[i] && !decide (0 ≤ findR (T.take i) T[i].sg)) := by simp [tabAt, h]
def tableB (T : List Rul) : Bool := decide (T.length ≤ 30) && (List.range T.length).all (tabAt T)
theorem tableB_bad {T : List Rul} {i : Nat} (h : i < T.length) (hf : tabAt T i = false) : tableB T = false := by
  unfold tableB
  rw [Bool.and_eq_false_iff]
  refine .inr ?_
  rw [Bool.eq_false_iff]
  intro hh
  rw [List.all_eq_true] at hh
  rw [hh i (List.mem_range.2 h)] at hf
  cases hf
theorem tableB_all {T : List Rul} (h : ∀ i, i < T.length → tabAt T i = true) : tableB T = decide (T.length ≤ 30) := by
  unfold tableB
  rw [List.all_eq_true.2 fun i hi => h i (List.mem_range.1 hi), Bool.and_true]
theorem tableB_at {T : List Rul} (h : tableB T = true) {i : Nat} (hi : i < T.length) : tabAt T i = true := by
  unfold tableB at h
  rw [Bool.and_eq_true] at h
  exact List.all_eq_true.1 h.2 i (List.mem_range.2 hi)
theorem tableB_len {T : List Rul} (h : tableB T = true) : T.length ≤ 30 := by
  unfold tableB at h
  rw [Bool.and_eq_true, decide_eq_true_eq] at h
  exact h.1
theorem tableB_rule {T : List Rul} (h : tableB T = true) {i : Nat} (hi : i < T.length) : ruleB T[i] = true := by
  have := tableB_at h hi
  rw [tabAt_get hi, Bool.and_eq_true] at this
  exact this.1
/-- The search in the whole table tells the rule itself exactly if none ahead of it has its signs. -/
theorem findR_self {T : List Rul} {i : Nat} (h : i < T.length) : decide (findR T T[i].sg = i) = !decide (0 ≤ findR (T.take i) T[i].sg) := by
  have hlt : (T.take i).length = i := by rw [List.length_take]; omega
  rcases idxU_cases (fun r => r.sg == T[i].sg) (T.take i) with ⟨e, h1⟩ | ⟨k, hk, e, h1, h2⟩
  · have : findR T T[i].sg = i := idxU_some h (by simp) fun j hj hji => by
      have := h1 j (by omega)
      rwa [List.getElem_take] at this
    rw [this]
    unfold findR
    rw [e]
    simp
  · rw [List.getElem_take] at h1
    have : findR T T[i].sg = k := idxU_some (by omega) h1 fun j hj hji => by
      have := h2 j (by omega) hji
      rwa [List.getElem_take] at this
    rw [this]
    unfold findR
    rw [e]
    have : ¬ ((k : Int) = i) := by omega
    simp [this]
/-- Sizes that a rule in a table has: its text is short, its signs few. -/
theorem ruleB_sizes {r : Rul} (h : ruleB r = true) : 1 ≤ r.sg.length ∧ r.sg.length ≤ 3 ∧ r.rom.size ≤ 4 := by
  unfold ruleB signsB smallB at h
  simp only [Bool.and_eq_true, inB_iff] at h
  omega
/-! ### Rows -/
/-- A table for reading. -/
def RulesR (w : World) (a : Option Addr) (T : List Rul) : Prop :=
  ∀ i (h : i < T.length), ∃ b o ai ci, a = some ⟨b, o, none⟩ ∧ b < w.heap.size ∧ w.cell? ⟨b, o + i * 2, none⟩ = some (.slice ai T[i].sg.length ci) ∧ w.cell? ⟨b, o + i * 2 + 1, none⟩ = some (.string T[i].rom) ∧ Row w ai (intCells T[i].sg) ∧ T[i].sg.length ≤ ci ∧ ci ≤ maxLen
theorem RulesR.bel {w w' : World} {a : Option Addr} {T : List Rul} (h : RulesR w a T) (hb : Below w.heap.size w w') : RulesR w' a T := fun i hi => by
  obtain ⟨b, o, ai, ci, h1, h2, h3, h4, h5, h6⟩ := h i hi
  exact ⟨b, o, ai, ci, h1, Nat.lt_of_lt_of_le h2 hb.size, (hb.cell h2).trans h3, (hb.cell h2).trans h4, h5.bel hb, h6⟩
theorem RulesR.take {w : World} {a : Option Addr} {T : List Rul} (h : RulesR w a T) (k : Nat) : RulesR w a (T.take k) := fun i hi => by
  have hi' : i < T.length := by rw [List.length_take] at hi; omega
  obtain ⟨b, o, ai, ci, h1, h2, h3⟩ := h i hi'
  exact ⟨b, o, ai, ci, h1, h2, by rw [List.getElem_take]; exact h3⟩
theorem RulesR.at_ {w : World} {a : Option Addr} {T : List Rul} (h : RulesR w a T) {i : Nat} (hi : i < T.length) :
    ∃ b o ai ci, a = some ⟨b, o, none⟩ ∧ b < w.heap.size ∧ w.cell? ⟨b, o + i * 2, none⟩ = some (.slice ai T[i].sg.length ci) ∧ w.cell? ⟨b, o + i * 2 + 1, none⟩ = some (.string T[i].rom) ∧ Row w ai (intCells T[i].sg) ∧ T[i].sg.length ≤ ci ∧ ci ≤ maxLen := h i hi
/-- A table of one's own: the rules in the block `g`, their signs in later ones. -/
structure OTab (w : World) (g hi n c : Nat) (T : List Rul) (vs : List Value) : Prop where
  own : Owns w g (g + 1) 49 2 n (some ⟨g, 0, none⟩) c vs
  len : T.length ≤ n
  lt : g < w.heap.size
  at_ : ∀ i (h : i < T.length), ∃ ai ci, vs[i * 2]? = some (.slice ai T[i].sg.length ci) ∧ vs[i * 2 + 1]? = some (.string T[i].rom) ∧ Owns w (g + 1) hi 2 1 T[i].sg.length ai ci (intCells T[i].sg) ∧ T[i].sg.length ≤ ci ∧ ci ≤ maxLen
  sep : ∀ i j gi gj ni nj ci cj, i < j → j < T.length → vs[i * 2]? = some (.slice (some ⟨gi, 0, none⟩) ni ci) → vs[j * 2]? = some (.slice (some ⟨gj, 0, none⟩) nj cj) → gi ≠ gj
theorem OTab.bel {w w' : World} {g hi n c : Nat} {T : List Rul} {vs : List Value} (h : OTab w g hi n c T vs) (hb : Below w.heap.size w w') (hh : hi ≤ w.heap.size) : OTab w' g hi n c T vs :=
  ⟨h.own.bel hb h.lt, h.len, Nat.lt_of_lt_of_le h.lt hb.size, fun i hi' => by
    obtain ⟨ai, ci, h1, h2, h3, h4⟩ := h.at_ i hi'
    exact ⟨ai, ci, h1, h2, h3.bel hb hh, h4⟩, h.sep⟩
theorem OTab.wide {w : World} {g hi hi' n c : Nat} {T : List Rul} {vs : List Value} (h : OTab w g hi n c T vs) (hh : hi ≤ hi') : OTab w g hi' n c T vs :=
  ⟨h.own, h.len, h.lt, fun i hi0 => by
    obtain ⟨ai, ci, h1, h2, h3, h4⟩ := h.at_ i hi0
    exact ⟨ai, ci, h1, h2, ⟨h3.own, fun p hp => Nat.lt_of_lt_of_le (h3.lt p hp) hh⟩, h4⟩, h.sep⟩
theorem OTab.rules {w : World} {g hi n c : Nat} {T : List Rul} {vs : List Value} (h : OTab w g hi n c T vs) : RulesR w (some ⟨g, 0, none⟩) T := fun i hi' => by
  obtain ⟨ai, ci, h1, h2, h3, h4, h5⟩ := h.at_ i hi'
  have hl := h.len
  have hv := h.own.own.1
  have c1 := h.own.own.cellAt (i * 2) (by omega)
  have c2 := h.own.own.cellAt (i * 2 + 1) (by omega)
  exact ⟨g, 0, ai, ci, rfl, h.lt, by rw [Nat.zero_add, c1]; exact h1, by rw [Nat.zero_add, c2]; exact h2, h3.row, h4, h5⟩
end Go.Proofs.YtokbolgaokbdcaaDoor
