import Derived.Test.YtaffphidfhacjaaDoorExist
import Derived.Test.YtaffphidfhacjaaDoorIn
/- What claims tell of the existence of a place, claim by claim. -/
set_option linter.unusedSimpArgs false
set_option linter.unusedVariables false
namespace Go.Proofs.YtaffphidfhacjaaDoor
variable {p : ByteArray} {y : Int} {c : Clm}
theorem exV_no (h : inB y c.fr c.to = false) : exV p y c = none := by
  have : hasB c y = false := h
  simp [exV, this]
theorem exV_miss (h : inB y c.fr c.to = true) (h1 : c.place = p) (h2 : c.kind = 3) : exV p y c = some (-1) := by
  have : hasB c y = true := h
  simp [exV, this, h1, h2]
theorem exV_is (h : inB y c.fr c.to = true) (h1 : c.place = p) (h2 : ¬ c.kind = 3) : exV p y c = some 1 := by
  have : hasB c y = true := h
  simp [exV, this, h1, h2]
theorem exV_par (h : inB y c.fr c.to = true) (h1 : ¬ c.place = p) (h2 : c.kind = 1) (h3 : c.val = p) : exV p y c = some 1 := by
  have : hasB c y = true := h
  simp [exV, this, h1, h2, h3]
theorem exV_oth (h1 : ¬ c.place = p) (h3 : ¬ c.val = p) : exV p y c = none := by
  simp [exV, h1, h3]
theorem exV_kind (h1 : ¬ c.place = p) (h2 : ¬ c.kind = 1) : exV p y c = none := by
  simp [exV, h1, h2]
theorem exFst_none {L : List Clm} {k : Nat} (hk : k < L.length) (h : exV p y L[k] = none) : exFst p y (L.drop k) = exFst p y (L.drop (k + 1)) := by
  rw [List.drop_eq_getElem_cons hk, exFst, h]
theorem exFst_some {L : List Clm} {k : Nat} {v : Int} (hk : k < L.length) (h : exV p y L[k] = some v) : exFst p y (L.drop k) = v := by
  rw [List.drop_eq_getElem_cons hk, exFst, h]
theorem exFst_end (L : List Clm) : exFst p y (L.drop L.length) = 0 := by rw [List.drop_length]; rfl
theorem exLst_none {L : List Clm} {k : Nat} (hk : k < L.length) (h : exV p y L[k] = none) : exLst p y 0 (L.take (k + 1)) = exLst p y 0 (L.take k) := by
  rw [List.take_succ_eq_append_getElem hk, exLst_snoc, h]
theorem exLst_some {L : List Clm} {k : Nat} {v : Int} (hk : k < L.length) (h : exV p y L[k] = some v) : exLst p y 0 (L.take (k + 1)) = v := by
  rw [List.take_succ_eq_append_getElem hk, exLst_snoc, h]
end Go.Proofs.YtaffphidfhacjaaDoor
