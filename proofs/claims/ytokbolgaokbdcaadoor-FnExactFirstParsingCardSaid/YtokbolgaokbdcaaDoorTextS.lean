import Derived.Test.YtokbolgaokbdcaaDoorText
import Derived.Test.YtokbolgaokbdcaaDoorApp
/- Words and phrases, the reference's way. -/
set_option linter.unusedSimpArgs false
set_option linter.unusedVariables false
namespace Go.Proofs.YtokbolgaokbdcaaDoor
open Go.RowKit
theorem byteAt {s : ByteArray} {k : Nat} (h : k < s.size) : s.data.toList[k]? = some s[k] := by
  rw [List.getElem?_eq_getElem (by rw [Array.length_toList]; exact h)]
  rfl
theorem all_take_succ {s : ByteArray} {k : Nat} {p : UInt8 → Bool} (h : k < s.size) (ha : (s.data.toList.take k).all p = true) (hp : p s[k] = true) : (s.data.toList.take (k + 1)).all p = true := by
  rw [List.take_add_one, byteAt h, List.all_append, ha]
  simp [hp]
theorem all_false_at {s : ByteArray} {k : Nat} {p : UInt8 → Bool} (h : k < s.size) (hp : p s[k] = false) : s.data.toList.all p = false := by
  rw [Bool.eq_false_iff]
  intro hh
  have := List.all_eq_true.1 hh s[k] (List.mem_of_getElem? (byteAt h))
  rw [hp] at this
  cases this
theorem wordB_not {s : ByteArray} (h : s.data.toList.all letterB = false) : wordB s = false := by simp [wordB, wordL, h]
theorem wordB_all {s : ByteArray} (h : s.data.toList.all letterB = true) : wordB s = inB s.size 1 16 := by
  rw [← smallB_word]; simp [smallB, h]
theorem extract_list (s : ByteArray) (f i : Nat) (h : i ≤ s.size) : (s.extract f i).data.toList = (s.data.toList.drop f).take (i - f) := by
  rw [Lib.extract_data]
/-- What a cut at every `c` keeps true: `O` the pieces so far, `f` where the next begins. -/
def Cut (c : UInt8) (s : ByteArray) (i f : Nat) (O : List ByteArray) : Prop :=
  (i ≤ s.size ∧ f ≤ i ∧ c ∉ (s.data.toList.drop f).take (i - f) ∧ O.map (·.data.toList) ++ splitL c (s.data.toList.drop f) = splitL c s.data.toList) ∨ (i = s.size + 1 ∧ f = s.size + 1 ∧ O = piecesS c s)
theorem pieces_of_map {c : UInt8} {s : ByteArray} {O : List ByteArray} (h : O.map (·.data.toList) = splitL c s.data.toList) : O = piecesS c s := by
  unfold piecesS
  rw [← h, List.map_map]
  have : (bytesOf ∘ fun (x : ByteArray) => x.data.toList) = id := by funext x; exact bytesOf_data x
  rw [this, List.map_id]
theorem Cut.start (c : UInt8) (s : ByteArray) : Cut c s 0 0 [] := .inl ⟨Nat.zero_le _, Nat.le_refl _, by simp, by simp⟩
theorem Cut.pass {c : UInt8} {s : ByteArray} {i f : Nat} {O : List ByteArray} (h : Cut c s i f O) (hi : i < s.size) (hc : s[i] ≠ c) : Cut c s (i + 1) f O := by
  rcases h with ⟨h1, h2, h3, h4⟩ | ⟨h1, _⟩
  · refine .inl ⟨hi, by omega, ?_, h4⟩
    rw [show i + 1 - f = (i - f) + 1 by omega, List.take_add_one, List.getElem?_drop, show f + (i - f) = i by omega, byteAt hi]
    simp only [List.mem_append, Option.toList_some, List.mem_singleton]
    rintro (h | h)
    · exact h3 h
    · exact hc h.symm
  · omega
theorem Cut.hit {c : UInt8} {s : ByteArray} {i f : Nat} {O : List ByteArray} (h : Cut c s i f O) (hi : i < s.size) (hc : s[i] = c) : Cut c s (i + 1) (i + 1) (O ++ [s.extract f i]) := by
  rcases h with ⟨h1, h2, h3, h4⟩ | ⟨h1, _⟩
  · refine .inl ⟨hi, by omega, by simp, ?_⟩
    have e : s.data.toList.drop f = (s.data.toList.drop f).take (i - f) ++ c :: s.data.toList.drop (i + 1) := by
      have e1 : s.data.toList.drop i = c :: s.data.toList.drop (i + 1) := by
        rw [List.drop_eq_getElem_cons (by rw [Array.length_toList]; exact hi)]
        congr 1
      conv => lhs; rw [← List.take_append_drop (i - f) (s.data.toList.drop f)]
      rw [List.drop_drop, show f + (i - f) = i by omega, e1]
    rw [← h4, List.map_append, List.append_assoc]
    congr 1
    rw [e, splitL_hit h3]
    simp [extract_list s f i h1]
  · omega
theorem Cut.last {c : UInt8} {s : ByteArray} {f : Nat} {O : List ByteArray} (h : Cut c s s.size f O) : Cut c s (s.size + 1) (s.size + 1) (O ++ [s.extract f s.size]) := by
  rcases h with ⟨h1, h2, h3, h4⟩ | ⟨h1, _⟩
  · refine .inr ⟨rfl, rfl, pieces_of_map ?_⟩
    have e : (s.data.toList.drop f).take (s.size - f) = s.data.toList.drop f := List.take_of_length_le (by rw [List.length_drop, Array.length_toList]; exact Nat.le_refl _)
    rw [e] at h3
    rw [← h4, splitL_miss h3, List.map_append]
    simp [extract_list s f s.size (Nat.le_refl _), e]
  · omega
/-- The call returned `f v` for some `v`. -/
def RetSome (w : World) (f : Value → Value) (e : Ending) (w' : World) : Prop := ∃ v, e = .returned (f v) ∧ ∃ y : Later w, w' = y.w
theorem RetSome.mk {w w' : World} {f : Value → Value} {e : Ending} (v : Value) (h : e = .returned (f v)) (hb : Below w.heap.size w w') : RetSome w f e w' := ⟨v, h, ⟨w', hb⟩, rfl⟩
end Go.Proofs.YtokbolgaokbdcaaDoor
