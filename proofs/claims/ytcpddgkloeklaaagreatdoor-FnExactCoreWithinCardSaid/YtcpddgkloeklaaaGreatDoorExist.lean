import Derived.Test.YtcpddgkloeklaaaGreatDoorCirc
/- What consistent claims tell of the existence of a place: the first that tells is as good as the last. -/
set_option linter.unusedSimpArgs false
set_option linter.unusedVariables false
namespace Go.Proofs.YtcpddgkloeklaaaGreatDoor
theorem contra_symm (c d : Clm) : contraB c d = contraB d c := by
  have h1 : meetsB c d = meetsB d c := by unfold meetsB; exact Bool.and_comm _ _
  have h2 : (withoutB c d || withoutB d c) = (withoutB d c || withoutB c d) := Bool.or_comm _ _
  have h3 : decide (c.place = d.place) = decide (d.place = c.place) := by rw [decide_eq_decide]; exact eq_comm
  have h4 : (decide (c.kind = 3) != decide (d.kind = 3)) = (decide (d.kind = 3) != decide (c.kind = 3)) := by cases decide (c.kind = 3) <;> cases decide (d.kind = 3) <;> rfl
  have h5 : (decide (c.kind = d.kind) && (decide (c.kind = 0) || decide (c.kind = 1)) && !(decide (c.val = d.val))) = (decide (d.kind = c.kind) && (decide (d.kind = 0) || decide (d.kind = 1)) && !(decide (d.val = c.val))) := by
    by_cases h : c.kind = d.kind
    · have e : decide (c.val = d.val) = decide (d.val = c.val) := by rw [decide_eq_decide]; exact eq_comm
      rw [h, e]
    · have h' : ¬ d.kind = c.kind := fun e => h e.symm
      simp [h, h']
  unfold contraB
  rw [h1, h2, h3, h4, h5]
theorem contra_self (c : Clm) : contraB c c = false := by
  have h1 : withoutB c c = false := by
    unfold withoutB
    by_cases hk : c.kind = 1
    · simp [hk]
    · simp [hk]
  unfold contraB
  rw [h1]
  simp
theorem NoPair.all {L : List Clm} (h : NoPair L) {c d : Clm} (hc : c ∈ L) (hd : d ∈ L) : contraB c d = false := by
  rw [noPair_iff] at h
  obtain ⟨i, hi, rfl⟩ := List.mem_iff_getElem.1 hc
  obtain ⟨k, hk, rfl⟩ := List.mem_iff_getElem.1 hd
  rcases Nat.lt_trichotomy i k with hlt | rfl | hlt
  · rw [contra_symm]; exact h k i hk hi hlt
  · exact contra_self _
  · exact h i k hi hk hlt
/-- What one claim tells of the existence of a place. -/
def exV (p : ByteArray) (y : Int) (c : Clm) : Option Int :=
  if hasB c y then (if c.place = p ∧ c.kind = 3 then some (-1) else if c.place = p ∨ (c.kind = 1 ∧ c.val = p) then some 1 else none) else none
/-- The first that is told. -/
def exFst (p : ByteArray) (y : Int) : List Clm → Int
  | [] => 0
  | c :: L => match exV p y c with | some v => v | none => exFst p y L
/-- The last that is told, `v` ahead of it. -/
def exLst (p : ByteArray) (y : Int) : Int → List Clm → Int
  | v, [] => v
  | v, c :: L => match exV p y c with | some u => exLst p y u L | none => exLst p y v L
theorem exV_same {L : List Clm} (h : NoPair L) {c d : Clm} (hc : c ∈ L) (hd : d ∈ L) {p : ByteArray} {y u v : Int} (h1 : exV p y c = some u) (h2 : exV p y d = some v) : u = v := by
  have key : ∀ c d : Clm, c ∈ L → d ∈ L → hasB c y = true → hasB d y = true → c.place = p → c.kind = 3 → ¬ (d.place = p ∧ d.kind = 3) → (d.place = p ∨ (d.kind = 1 ∧ d.val = p)) → False := by
    intro c d hc hd hy1 hy2 hp hk hn hor
    have hcd := h.all hc hd
    have hm : meetsB c d = true := by
      simp only [hasB, Bool.and_eq_true, decide_eq_true_eq] at hy1 hy2
      simp only [meetsB, Bool.and_eq_true, decide_eq_true_eq]; omega
    have : contraB c d = true := by
      unfold contraB
      rw [hm]
      by_cases hdp : d.place = p
      · have hdk : ¬ d.kind = 3 := fun e => hn ⟨hdp, e⟩
        simp [hp, hdp, hk, hdk]
      · obtain ⟨h3, h4⟩ := hor.resolve_left hdp
        simp [withoutB, h3, hk, hp, h4]
    rw [hcd] at this
    cases this
  unfold exV at h1 h2
  split at h1
  · rename_i hy1
    split at h2
    · rename_i hy2
      split at h1
      · rename_i e1
        split at h2
        · rw [← Option.some.inj h1, ← Option.some.inj h2]
        · rename_i e2
          split at h2
          · rename_i e3
            exact (key c d hc hd hy1 hy2 e1.1 e1.2 e2 e3).elim
          · cases h2
      · rename_i e1
        split at h1
        · rename_i e3
          split at h2
          · rename_i e2
            exact (key d c hd hc hy2 hy1 e2.1 e2.2 e1 e3).elim
          · split at h2
            · rw [← Option.some.inj h1, ← Option.some.inj h2]
            · cases h2
        · cases h1
    · cases h2
  · cases h1
theorem exLst_const {p : ByteArray} {y v : Int} : ∀ {L : List Clm}, (∀ c ∈ L, ∀ u, exV p y c = some u → u = v) → exLst p y v L = v
  | [], _ => rfl
  | c :: L, h => by
    rw [exLst]
    cases hc : exV p y c with
    | none => exact exLst_const fun d hd => h d (by simp [hd])
    | some u =>
      simp only
      rw [h c (by simp) u hc]
      exact exLst_const fun d hd => h d (by simp [hd])
theorem exFst_eq {p : ByteArray} {y : Int} : ∀ {L : List Clm}, (∀ c ∈ L, ∀ d ∈ L, ∀ u v, exV p y c = some u → exV p y d = some v → u = v) → exFst p y L = exLst p y 0 L
  | [], _ => rfl
  | c :: L, h => by
    rw [exFst, exLst]
    cases hc : exV p y c with
    | none => exact exFst_eq fun d hd e he => h d (by simp [hd]) e (by simp [he])
    | some u => exact (exLst_const fun d hd v hv => h d (by simp [hd]) c (by simp) v u hv hc).symm
theorem exist_eq {L : List Clm} (h : NoPair L) (p : ByteArray) (y : Int) : exFst p y L = exLst p y 0 L :=
  exFst_eq fun c hc d hd u v h1 h2 => exV_same h hc hd h1 h2
theorem exLst_snoc {p : ByteArray} {y : Int} : ∀ {v : Int} {L : List Clm} {c : Clm}, exLst p y v (L ++ [c]) = match exV p y c with | some u => u | none => exLst p y v L
  | v, [], c => by simp only [List.nil_append, exLst]
  | v, d :: L, c => by
    simp only [List.cons_append, exLst]
    cases exV p y d with
    | none => exact exLst_snoc
    | some u => exact exLst_snoc
end Go.Proofs.YtcpddgkloeklaaaGreatDoor
