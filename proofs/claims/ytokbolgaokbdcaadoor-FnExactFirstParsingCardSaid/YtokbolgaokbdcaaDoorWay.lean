import Derived.Test.YtokbolgaokbdcaaDoorRul
/- How many parsings a text has, and the first one: the plain law. -/
set_option linter.unusedSimpArgs false
set_option linter.unusedVariables false
namespace Go.Proofs.YtokbolgaokbdcaaDoor
open Go.RowKit
def M1 : Int := 1000000000001
/-- The rule has a text that is not empty and stands at `i`. -/
def fitsAt (r : Rul) (s : ByteArray) (i : Nat) : Bool := decide (0 < r.rom.size) && decide (i + r.rom.size ≤ s.size) && decide (s.extract i (i + r.rom.size) = r.rom)
theorem fitsAt_iff {r : Rul} {s : ByteArray} {i : Nat} : fitsAt r s i = true ↔ 0 < r.rom.size ∧ i + r.rom.size ≤ s.size ∧ s.extract i (i + r.rom.size) = r.rom := by
  simp only [fitsAt, Bool.and_eq_true, decide_eq_true_eq, and_assoc]
/-- One rule's share. -/
def wayS (s : ByteArray) (W : Nat → Int) (i : Nat) (acc : Int) (r : Rul) : Int := if fitsAt r s i then min (acc + W (i + r.rom.size)) M1 else acc
def wayF (T : List Rul) (s : ByteArray) (W : Nat → Int) (i : Nat) : Int := T.foldl (wayS s W i) 0
theorem wayF_succ {T : List Rul} {s : ByteArray} {W : Nat → Int} {i k : Nat} (h : k < T.length) : wayF (T.take (k + 1)) s W i = wayS s W i (wayF (T.take k) s W i) T[k] := by
  unfold wayF
  rw [List.take_succ_eq_append_getElem h, List.foldl_append]
  rfl
/-- The counts when the last `n` places of the text are done. -/
def wayN (T : List Rul) (s : ByteArray) : Nat → Nat → Int
  | 0, i => if i = s.size then 1 else 0
  | n + 1, i => if i + (n + 1) = s.size then wayF T s (wayN T s n) i else wayN T s n i
theorem wayS_bd {s : ByteArray} {W : Nat → Int} {i : Nat} {acc : Int} {r : Rul} (h0 : 0 ≤ acc) (h1 : acc ≤ M1) (hW : ∀ j, 0 ≤ W j) : 0 ≤ wayS s W i acc r ∧ wayS s W i acc r ≤ M1 := by
  unfold wayS
  split
  · have := hW (i + r.rom.size)
    unfold M1 at *
    omega
  · exact ⟨h0, h1⟩
theorem wayF_bd {s : ByteArray} {W : Nat → Int} {i : Nat} (hW : ∀ j, 0 ≤ W j) : ∀ (T : List Rul) (acc : Int), 0 ≤ acc → acc ≤ M1 → 0 ≤ T.foldl (wayS s W i) acc ∧ T.foldl (wayS s W i) acc ≤ M1
  | [], acc, h0, h1 => ⟨h0, h1⟩
  | r :: T, acc, h0, h1 => by
    obtain ⟨h2, h3⟩ := wayS_bd (r := r) (i := i) (s := s) h0 h1 hW
    exact wayF_bd hW T _ h2 h3
theorem wayN_bd (T : List Rul) (s : ByteArray) : ∀ n i, 0 ≤ wayN T s n i ∧ wayN T s n i ≤ M1
  | 0, i => by unfold wayN M1; split <;> omega
  | n + 1, i => by
    unfold wayN
    split
    · exact wayF_bd (fun j => (wayN_bd T s n j).1) T 0 (by omega) (by unfold M1; omega)
    · exact wayN_bd T s n i
theorem wayN_far (T : List Rul) (s : ByteArray) : ∀ n i, i + n < s.size → wayN T s n i = 0
  | 0, i, h => by unfold wayN; rw [if_neg (by omega)]
  | n + 1, i, h => by unfold wayN; rw [if_neg (by omega)]; exact wayN_far T s n i (by omega)
theorem wayN_out (T : List Rul) (s : ByteArray) : ∀ n i, s.size < i → wayN T s n i = 0
  | 0, i, h => by unfold wayN; rw [if_neg (by omega)]
  | n + 1, i, h => by unfold wayN; rw [if_neg (by omega)]; exact wayN_out T s n i h
/-- What is done stays. -/
theorem wayN_done (T : List Rul) (s : ByteArray) {n i : Nat} (h : s.size ≤ i + n) : ∀ m, wayN T s (n + m) i = wayN T s n i
  | 0 => rfl
  | m + 1 => by
    rw [show wayN T s (n + (m + 1)) i = if i + (n + m + 1) = s.size then wayF T s (wayN T s (n + m)) i else wayN T s (n + m) i from rfl, if_neg (by omega)]
    exact wayN_done T s h m
/-- The counts of all places. -/
def ways (T : List Rul) (s : ByteArray) (i : Nat) : Int := wayN T s s.size i
theorem ways_eq {T : List Rul} {s : ByteArray} {i : Nat} (h : i < s.size) : ways T s i = wayF T s (ways T s) i := by
  have hn : s.size = (s.size - i - 1 + 1) + i := by omega
  have e1 : ways T s i = wayF T s (wayN T s (s.size - i - 1)) i := by
    unfold ways
    rw [hn, wayN_done T s (by omega) i]
    conv => lhs; unfold wayN
    rw [if_pos (by omega)]
    congr 2
    omega
  rw [e1]
  have key : ∀ (T' : List Rul) (acc : Int), T'.foldl (wayS s (wayN T s (s.size - i - 1)) i) acc = T'.foldl (wayS s (ways T s) i) acc := by
    intro T'
    induction T' with
    | nil => intro acc; rfl
    | cons r T' ih =>
      intro acc
      simp only [List.foldl_cons]
      rw [ih]
      congr 1
      unfold wayS
      split
      · rename_i hf
        have hf := fitsAt_iff.1 hf
        have e : ways T s (i + r.rom.size) = wayN T s (s.size - i - 1) (i + r.rom.size) := by
          have := wayN_done T s (n := s.size - i - 1) (i := i + r.rom.size) (by omega) (i + 1)
          unfold ways
          rw [← this]
          congr 1
          omega
        rw [e]
      · rfl
  exact key T 0
theorem ways_end (T : List Rul) (s : ByteArray) : ways T s s.size = 1 := by
  have := wayN_done T s (n := 0) (i := s.size) (by omega) s.size
  unfold ways
  rw [Nat.zero_add] at this
  rw [this]
  unfold wayN
  rw [if_pos rfl]
theorem ways_nonneg (T : List Rul) (s : ByteArray) (i : Nat) : 0 ≤ ways T s i := (wayN_bd T s _ i).1
theorem foldl_pos {s : ByteArray} {W : Nat → Int} {i : Nat} (hW : ∀ j, 0 ≤ W j) : ∀ (T : List Rul) (acc : Int), 0 ≤ acc → acc ≤ M1 → (0 < T.foldl (wayS s W i) acc ↔ 0 < acc ∨ ∃ k, ∃ h : k < T.length, fitsAt T[k] s i = true ∧ 0 < W (i + T[k].rom.size))
  | [], acc, _, _ => by simp
  | r :: T, acc, h0, h1 => by
    obtain ⟨h2, h3⟩ := wayS_bd (r := r) (i := i) (s := s) h0 h1 hW
    simp only [List.foldl_cons]
    rw [foldl_pos hW T _ h2 h3]
    have hs : 0 < wayS s W i acc r ↔ 0 < acc ∨ (fitsAt r s i = true ∧ 0 < W (i + r.rom.size)) := by
      have := hW (i + r.rom.size)
      unfold wayS
      split
      · rename_i hf
        simp only [hf, true_and]
        unfold M1 at *
        omega
      · rename_i hf
        simp [hf]
    rw [hs, or_assoc]
    constructor
    · rintro (h | h | ⟨k, hk, h⟩)
      · exact .inl h
      · exact .inr ⟨0, by simp, h⟩
      · exact .inr ⟨k + 1, by simpa using hk, by simpa using h⟩
    · rintro (h | ⟨k, hk, h⟩)
      · exact .inl h
      · cases k with
        | zero => exact .inr (.inl h)
        | succ k => exact .inr (.inr ⟨k, by simpa using hk, by simpa using h⟩)
theorem ways_pos {T : List Rul} {s : ByteArray} {i : Nat} (h : i < s.size) : 0 < ways T s i ↔ ∃ k, ∃ h : k < T.length, fitsAt T[k] s i = true ∧ 0 < ways T s (i + T[k].rom.size) := by
  rw [ways_eq h]
  unfold wayF
  rw [foldl_pos (ways_nonneg T s) T 0 (by omega) (by unfold M1; omega)]
  simp
/-- A rule that the first parsing takes at `i`. -/
def goesB (T : List Rul) (s : ByteArray) (i : Nat) (r : Rul) : Bool := fitsAt r s i && decide (0 < ways T s (i + r.rom.size))
def firstL (T : List Rul) (s : ByteArray) : Nat → Nat → List Int
  | 0, _ => []
  | f + 1, i => if i < s.size then (match T.findIdx? (goesB T s i) with | some k => (k : Int) :: firstL T s f (i + (T.getD k ⟨[], ByteArray.empty⟩).rom.size) | none => []) else []
theorem firstL_end {T : List Rul} {s : ByteArray} {f i : Nat} (h : s.size ≤ i) : firstL T s f i = [] := by
  cases f with
  | zero => rfl
  | succ f => unfold firstL; rw [if_neg (by omega)]
/-- One step of the first parsing. -/
theorem first_step {T : List Rul} {s : ByteArray} {f i : Nat} (hi : i < s.size) (hw : 0 < ways T s i) (hf : s.size - i ≤ f) :
    ∃ k, ∃ hk : k < T.length, idxU (goesB T s i) T = k ∧ fitsAt T[k] s i = true ∧ 0 < ways T s (i + T[k].rom.size) ∧ (∀ j (hj : j < T.length), j < k → goesB T s i T[j] = false) ∧ firstL T s f i = (k : Int) :: firstL T s (f - 1) (i + T[k].rom.size) := by
  obtain ⟨k0, hk0, h1, h2⟩ := (ways_pos hi).1 hw
  rcases idxU_cases (goesB T s i) T with ⟨e, h⟩ | ⟨k, hk, e, h3, h4⟩
  · have := h k0 hk0
    unfold goesB at this
    rw [h1] at this
    simp [h2] at this
  · have h5 : T.findIdx? (goesB T s i) = some k := by
      rw [List.findIdx?_eq_some_iff_getElem]
      exact ⟨hk, h3, fun j hj => by simpa using h4 j (by omega) hj⟩
    have h3' := h3
    unfold goesB at h3'
    rw [Bool.and_eq_true, decide_eq_true_eq] at h3'
    refine ⟨k, hk, e, h3'.1, h3'.2, h4, ?_⟩
    obtain ⟨f', rfl⟩ : ∃ f', f = f' + 1 := ⟨f - 1, by omega⟩
    conv => lhs; unfold firstL
    rw [if_pos hi, h5]
    simp [hk]
/-- What the program answers: the number of parsings. -/
def countR (T : List Rul) (s : ByteArray) : Int × Int := if tableB T && smallB s 0 48 then (if 1000000000000 < ways T s 0 then (0, 3) else (ways T s 0, 0)) else (0, 1)
/-- The first parsing and a code. -/
def firstR (T : List Rul) (s : ByteArray) : List Int × Int := if tableB T && smallB s 0 48 then (if ways T s 0 = 0 then ([], 4) else (firstL T s s.size 0, 0)) else ([], 1)
end Go.Proofs.YtokbolgaokbdcaaDoor
