import Derived.Test.YtcpddgkloeklaaaGreatDoorTextS
import Derived.Test.YtcpddgkloeklaaaGreatDoorClm
import Derived.Laws.StructEq
/- Is it a claim: both sides. -/
set_option linter.unusedSimpArgs false
set_option linter.unusedVariables false
namespace Go.Proofs.YtcpddgkloeklaaaGreatDoor
open Go.RowKit
structure ClmOk (c : Clm) : Prop where
  s1 : c.src.size ≤ 1048576
  s2 : c.place.size ≤ 1048576
  s3 : c.val.size ≤ 1048576
theorem spanB_0 {f t : Int} (h : inB f (-3000) 3000 = false) : spanB f t = false := by simp [spanB, h]
theorem spanB_1 {f t : Int} (h : inB t (-3000) 3000 = false) : spanB f t = false := by simp [spanB, h]
theorem spanB_2 {f t : Int} (h : inB f (-3000) 3000 = true) (h2 : inB t (-3000) 3000 = true) : spanB f t = decide (f ≤ t) := by simp [spanB, h, h2]
theorem isYear_any (y : Int) (w : World) : Calls Tryz.prog 164 #[.int .i64 y] w (Ret w (.bool (inB y (-3000) 3000))) := by
  go_enter Tryz.func164, Tryz.ntmps164
  go_wp2_with fail
  with_reducible refine (within_any _ _ _ _).mono ?_
  rintro e w' ⟨rfl, y1, rfl⟩
  have hsy1 := y1.bel.size
  (try simp only [World.size_alloc, World.size_setCell, World.size_drew] at hsy1)
  go_wp2_with fail
  go_ret
  exact .mk rfl (by (repeat (first | (with_reducible exact Below.refl _ _) | (with_reducible assumption) | (with_reducible refine Later.out _ ?_) | (with_reducible refine bel_alloc ?_ _) | (with_reducible refine bel_drew ?_) | (with_reducible refine bel_drewN ?_ _) | (with_reducible refine bel_set ?_ ?_ _) | (with_reducible refine After.out _ ?_ ?_) | (dsimp only; omega) | omega | (simp only [World.size_alloc, World.size_setCell, World.size_drew]; omega))))
theorem isYear_b {y : Int} {b : Bool} (w : World) (h : inB y (-3000) 3000 = b) : Calls Tryz.prog 164 #[.int .i64 y] w (Ret w (.bool b)) := by subst h; exact isYear_any _ _
theorem l02Year_any (y : Int) (w : World) : Calls Tryz.prog 160 #[.int .i64 y] w (Ret w (.bool (inB y (-3000) 3000))) := by
  go_enter Tryz.func160, Tryz.ntmps160
  go_wp2_with fail
  with_reducible refine (l01In_any _ _ _ _).mono ?_
  rintro e w' ⟨rfl, y1, rfl⟩
  have hsy1 := y1.bel.size
  (try simp only [World.size_alloc, World.size_setCell, World.size_drew] at hsy1)
  go_wp2_with fail
  go_ret
  exact .mk rfl (by (repeat (first | (with_reducible exact Below.refl _ _) | (with_reducible assumption) | (with_reducible refine Later.out _ ?_) | (with_reducible refine bel_alloc ?_ _) | (with_reducible refine bel_drew ?_) | (with_reducible refine bel_drewN ?_ _) | (with_reducible refine bel_set ?_ ?_ _) | (with_reducible refine After.out _ ?_ ?_) | (dsimp only; omega) | omega | (simp only [World.size_alloc, World.size_setCell, World.size_drew]; omega))))
theorem l02Year_b {y : Int} {b : Bool} (w : World) (h : inB y (-3000) 3000 = b) : Calls Tryz.prog 160 #[.int .i64 y] w (Ret w (.bool b)) := by subst h; exact l02Year_any _ _
section
variable (f t : Int) (w : World)
set_option maxHeartbeats 400000 in
theorem isSpan_any : Calls Tryz.prog 147 #[.agg #[.int .i64 f, .int .i64 t]] w (Ret w (.bool (spanB f t))) := by
  cases h1 : inB f (-3000) 3000
  · have X := Lib.hid (spanB_0 (t := t) h1)
    go_enter Tryz.func147, Tryz.ntmps147
    go_wp2_with fail
    with_reducible refine (isYear_b _ h1).mono ?_
    rintro e w' ⟨rfl, y1, rfl⟩
    have hsy1 := y1.bel.size
    (try simp only [World.size_alloc, World.size_setCell, World.size_drew] at hsy1)
    go_wp2_with fail
    go_ret
    exact .mk (by rw [X.out]; rfl) (by (repeat (first | (with_reducible exact Below.refl _ _) | (with_reducible assumption) | (with_reducible refine Later.out _ ?_) | (with_reducible refine bel_alloc ?_ _) | (with_reducible refine bel_drew ?_) | (with_reducible refine bel_drewN ?_ _) | (with_reducible refine bel_set ?_ ?_ _) | (with_reducible refine After.out _ ?_ ?_) | (dsimp only; omega) | omega | (simp only [World.size_alloc, World.size_setCell, World.size_drew]; omega))))
  cases h2 : inB t (-3000) 3000
  · have X := Lib.hid (spanB_1 (f := f) h2)
    go_enter Tryz.func147, Tryz.ntmps147
    go_wp2_with fail
    with_reducible refine (isYear_b _ h1).mono ?_
    rintro e w' ⟨rfl, y1, rfl⟩
    have hsy1 := y1.bel.size
    (try simp only [World.size_alloc, World.size_setCell, World.size_drew] at hsy1)
    go_wp2_with fail
    with_reducible refine (isYear_b _ h2).mono ?_
    rintro e w' ⟨rfl, y2, rfl⟩
    have hsy2 := y2.bel.size
    (try simp only [World.size_alloc, World.size_setCell, World.size_drew] at hsy2)
    go_wp2_with fail
    go_ret
    exact .mk (by rw [X.out]; rfl) (by (repeat (first | (with_reducible exact Below.refl _ _) | (with_reducible assumption) | (with_reducible refine Later.out _ ?_) | (with_reducible refine bel_alloc ?_ _) | (with_reducible refine bel_drew ?_) | (with_reducible refine bel_drewN ?_ _) | (with_reducible refine bel_set ?_ ?_ _) | (with_reducible refine After.out _ ?_ ?_) | (dsimp only; omega) | omega | (simp only [World.size_alloc, World.size_setCell, World.size_drew]; omega))))
  have X := Lib.hid (spanB_2 h1 h2)
  go_enter Tryz.func147, Tryz.ntmps147
  go_wp2_with fail
  with_reducible refine (isYear_b _ h1).mono ?_
  rintro e w' ⟨rfl, y1, rfl⟩
  have hsy1 := y1.bel.size
  (try simp only [World.size_alloc, World.size_setCell, World.size_drew] at hsy1)
  go_wp2_with fail
  with_reducible refine (isYear_b _ h2).mono ?_
  rintro e w' ⟨rfl, y2, rfl⟩
  have hsy2 := y2.bel.size
  (try simp only [World.size_alloc, World.size_setCell, World.size_drew] at hsy2)
  go_wp2_with fail
  go_ret
  exact .mk (by rw [X.out]; rfl) (by (repeat (first | (with_reducible exact Below.refl _ _) | (with_reducible assumption) | (with_reducible refine Later.out _ ?_) | (with_reducible refine bel_alloc ?_ _) | (with_reducible refine bel_drew ?_) | (with_reducible refine bel_drewN ?_ _) | (with_reducible refine bel_set ?_ ?_ _) | (with_reducible refine After.out _ ?_ ?_) | (dsimp only; omega) | omega | (simp only [World.size_alloc, World.size_setCell, World.size_drew]; omega))))
theorem isSpan_b {f t w} {b : Bool} (h : spanB f t = b) : Calls Tryz.prog 147 #[.agg #[.int .i64 f, .int .i64 t]] w (Ret w (.bool b)) := by subst h; exact isSpan_any _ _ _
set_option maxHeartbeats 400000 in
theorem sIsSpan_any : Calls Tryz.prog 142 #[.agg #[.int .i64 f, .int .i64 t]] w (Ret w (.bool (spanB f t))) := by
  cases h1 : inB f (-3000) 3000
  · have X := Lib.hid (spanB_0 (t := t) h1)
    go_enter Tryz.func142, Tryz.ntmps142
    go_wp2_with fail
    with_reducible refine (l02Year_b _ h1).mono ?_
    rintro e w' ⟨rfl, y1, rfl⟩
    have hsy1 := y1.bel.size
    (try simp only [World.size_alloc, World.size_setCell, World.size_drew] at hsy1)
    go_wp2_with fail
    go_ret
    exact .mk (by rw [X.out]; rfl) (by (repeat (first | (with_reducible exact Below.refl _ _) | (with_reducible assumption) | (with_reducible refine Later.out _ ?_) | (with_reducible refine bel_alloc ?_ _) | (with_reducible refine bel_drew ?_) | (with_reducible refine bel_drewN ?_ _) | (with_reducible refine bel_set ?_ ?_ _) | (with_reducible refine After.out _ ?_ ?_) | (dsimp only; omega) | omega | (simp only [World.size_alloc, World.size_setCell, World.size_drew]; omega))))
  cases h2 : inB t (-3000) 3000
  · have X := Lib.hid (spanB_1 (f := f) h2)
    go_enter Tryz.func142, Tryz.ntmps142
    go_wp2_with fail
    with_reducible refine (l02Year_b _ h1).mono ?_
    rintro e w' ⟨rfl, y1, rfl⟩
    have hsy1 := y1.bel.size
    (try simp only [World.size_alloc, World.size_setCell, World.size_drew] at hsy1)
    go_wp2_with fail
    with_reducible refine (l02Year_b _ h2).mono ?_
    rintro e w' ⟨rfl, y2, rfl⟩
    have hsy2 := y2.bel.size
    (try simp only [World.size_alloc, World.size_setCell, World.size_drew] at hsy2)
    go_wp2_with fail
    go_ret
    exact .mk (by rw [X.out]; rfl) (by (repeat (first | (with_reducible exact Below.refl _ _) | (with_reducible assumption) | (with_reducible refine Later.out _ ?_) | (with_reducible refine bel_alloc ?_ _) | (with_reducible refine bel_drew ?_) | (with_reducible refine bel_drewN ?_ _) | (with_reducible refine bel_set ?_ ?_ _) | (with_reducible refine After.out _ ?_ ?_) | (dsimp only; omega) | omega | (simp only [World.size_alloc, World.size_setCell, World.size_drew]; omega))))
  have X := Lib.hid (spanB_2 h1 h2)
  go_enter Tryz.func142, Tryz.ntmps142
  go_wp2_with fail
  with_reducible refine (l02Year_b _ h1).mono ?_
  rintro e w' ⟨rfl, y1, rfl⟩
  have hsy1 := y1.bel.size
  (try simp only [World.size_alloc, World.size_setCell, World.size_drew] at hsy1)
  go_wp2_with fail
  with_reducible refine (l02Year_b _ h2).mono ?_
  rintro e w' ⟨rfl, y2, rfl⟩
  have hsy2 := y2.bel.size
  (try simp only [World.size_alloc, World.size_setCell, World.size_drew] at hsy2)
  go_wp2_with fail
  go_ret
  exact .mk (by rw [X.out]; rfl) (by (repeat (first | (with_reducible exact Below.refl _ _) | (with_reducible assumption) | (with_reducible refine Later.out _ ?_) | (with_reducible refine bel_alloc ?_ _) | (with_reducible refine bel_drew ?_) | (with_reducible refine bel_drewN ?_ _) | (with_reducible refine bel_set ?_ ?_ _) | (with_reducible refine After.out _ ?_ ?_) | (dsimp only; omega) | omega | (simp only [World.size_alloc, World.size_setCell, World.size_drew]; omega))))
theorem sIsSpan_b {f t w} {b : Bool} (h : spanB f t = b) : Calls Tryz.prog 142 #[.agg #[.int .i64 f, .int .i64 t]] w (Ret w (.bool b)) := by subst h; exact sIsSpan_any _ _ _
end
/-! ### The value of a claim -/
theorem kindFacts (k : Int) : ((k == 0) = decide (k = 0)) ∧ ((k == 1) = decide (k = 1)) ∧ ((k == 2) = decide (k = 2)) ∧ ((k == 3) = decide (k = 3)) := ⟨rfl, rfl, rfl, rfl⟩
theorem valueB_name {c : Clm} (h : c.kind = 0) : valueB c = phraseB c.val := by simp [valueB, h]
theorem valueB_parent {c : Clm} (h : c.kind = 1) : valueB c = (wordB c.val && !(decide (c.val = c.place))) := by simp [valueB, h]
theorem valueB_plain {c : Clm} (h : c.kind = 2 ∨ c.kind = 3) : valueB c = c.val.toList.isEmpty := by
  rw [← decide_eq_emptyBytes]
  rcases h with h | h <;> simp [valueB, h]
theorem valueB_else {c : Clm} (h0 : c.kind ≠ 0) (h1 : c.kind ≠ 1) (h2 : c.kind ≠ 2) (h3 : c.kind ≠ 3) : valueB c = false := by simp [valueB, h0, h1, h2, h3]
theorem beq_bytes (a b : ByteArray) : (a == b) = decide (a = b) := by
  cases a; cases b
  rename_i x y
  show (x == y) = _
  by_cases h : x = y
  · subst h; simp
  · have h1 : (x == y) = false := by rw [beq_eq_false_iff_ne]; exact h
    rw [h1]; simp [h]
theorem toList_eq (a b : ByteArray) : (a.toList == b.toList) = decide (a = b) := by rw [← beq_toListBytes, beq_bytes]
theorem sameB (a b : ByteArray) : (a = b ∧ (a.toList == b.toList) = true) ∨ (a ≠ b ∧ (a.toList == b.toList) = false) := by
  by_cases h : a = b
  · exact .inl ⟨h, by simp [toList_eq, h]⟩
  · exact .inr ⟨h, by simp [toList_eq, h]⟩
section
variable (c : Clm) (w : World)
set_option maxHeartbeats 1000000 in
theorem isClaimValue_any (ok : ClmOk c) (hx : Max w) : Calls Tryz.prog 146 #[clmV c] w (Ret w (.bool (valueB c))) := by
  obtain ⟨s1, s2, s3⟩ := ok
  replace hx := Lib.hid hx
  by_cases k0 : c.kind = 0
  · have X := Lib.hid (valueB_name k0)
    unfold clmV
    rw [k0]
    clear k0
    go_enter Tryz.func146, Tryz.ntmps146
    go_wp2_with fail
    with_reducible refine (isPhrase_any _ _ (hx.out.bel (by (repeat (first | (with_reducible exact Below.refl _ _) | (with_reducible assumption) | (with_reducible refine Later.out _ ?_) | (with_reducible refine bel_alloc ?_ _) | (with_reducible refine bel_drew ?_) | (with_reducible refine bel_drewN ?_ _) | (with_reducible refine bel_set ?_ ?_ _) | (with_reducible refine After.out _ ?_ ?_) | (dsimp only; omega) | omega | (simp only [World.size_alloc, World.size_setCell, World.size_drew]; omega))))) s3).mono ?_
    rintro e w' ⟨rfl, y1, rfl⟩
    have hsy1 := y1.bel.size
    (try simp only [World.size_alloc, World.size_setCell, World.size_drew] at hsy1)
    go_wp2_with fail
    go_ret
    exact .mk (by rw [X.out]; rfl) (by (repeat (first | (with_reducible exact Below.refl _ _) | (with_reducible assumption) | (with_reducible refine Later.out _ ?_) | (with_reducible refine bel_alloc ?_ _) | (with_reducible refine bel_drew ?_) | (with_reducible refine bel_drewN ?_ _) | (with_reducible refine bel_set ?_ ?_ _) | (with_reducible refine After.out _ ?_ ?_) | (dsimp only; omega) | omega | (simp only [World.size_alloc, World.size_setCell, World.size_drew]; omega))))
  by_cases k1 : c.kind = 1
  · have X := Lib.hid (valueB_parent k1)
    unfold clmV
    rw [k1]
    clear k0 k1
    cases hw : wordB c.val
    · have Y := Lib.hid (show valueB c = false by rw [X.out, hw]; rfl)
      go_enter Tryz.func146, Tryz.ntmps146
      go_wp2_with fail
      with_reducible refine (isWord_b _ s3 hw).mono ?_
      rintro e w' ⟨rfl, y1, rfl⟩
      have hsy1 := y1.bel.size
      (try simp only [World.size_alloc, World.size_setCell, World.size_drew] at hsy1)
      go_wp2_with fail
      go_ret
      exact .mk (by rw [Y.out]; rfl) (by (repeat (first | (with_reducible exact Below.refl _ _) | (with_reducible assumption) | (with_reducible refine Later.out _ ?_) | (with_reducible refine bel_alloc ?_ _) | (with_reducible refine bel_drew ?_) | (with_reducible refine bel_drewN ?_ _) | (with_reducible refine bel_set ?_ ?_ _) | (with_reducible refine After.out _ ?_ ?_) | (dsimp only; omega) | omega | (simp only [World.size_alloc, World.size_setCell, World.size_drew]; omega))))
    · rcases sameB c.val c.place with ⟨h1, h2⟩ | ⟨h1, h2⟩
      · have Y := Lib.hid (show valueB c = false by rw [X.out, hw]; simp [h1])
        clear h1
        go_enter Tryz.func146, Tryz.ntmps146
        go_wp2_with fail
        with_reducible refine (isWord_b _ s3 hw).mono ?_
        rintro e w' ⟨rfl, y1, rfl⟩
        have hsy1 := y1.bel.size
        (try simp only [World.size_alloc, World.size_setCell, World.size_drew] at hsy1)
        go_wp2_with fail
        go_ret
        exact .mk (by rw [Y.out]; rfl) (by (repeat (first | (with_reducible exact Below.refl _ _) | (with_reducible assumption) | (with_reducible refine Later.out _ ?_) | (with_reducible refine bel_alloc ?_ _) | (with_reducible refine bel_drew ?_) | (with_reducible refine bel_drewN ?_ _) | (with_reducible refine bel_set ?_ ?_ _) | (with_reducible refine After.out _ ?_ ?_) | (dsimp only; omega) | omega | (simp only [World.size_alloc, World.size_setCell, World.size_drew]; omega))))
      · have Y := Lib.hid (show valueB c = true by rw [X.out, hw]; simp [h1])
        clear h1
        go_enter Tryz.func146, Tryz.ntmps146
        go_wp2_with fail
        with_reducible refine (isWord_b _ s3 hw).mono ?_
        rintro e w' ⟨rfl, y1, rfl⟩
        have hsy1 := y1.bel.size
        (try simp only [World.size_alloc, World.size_setCell, World.size_drew] at hsy1)
        go_wp2_with fail
        go_ret
        exact .mk (by rw [Y.out]; rfl) (by (repeat (first | (with_reducible exact Below.refl _ _) | (with_reducible assumption) | (with_reducible refine Later.out _ ?_) | (with_reducible refine bel_alloc ?_ _) | (with_reducible refine bel_drew ?_) | (with_reducible refine bel_drewN ?_ _) | (with_reducible refine bel_set ?_ ?_ _) | (with_reducible refine After.out _ ?_ ?_) | (dsimp only; omega) | omega | (simp only [World.size_alloc, World.size_setCell, World.size_drew]; omega))))
  by_cases k23 : c.kind = 2 ∨ c.kind = 3
  · have X := Lib.hid (valueB_plain k23)
    rcases k23 with k | k
    all_goals
      unfold clmV
      rw [k]
      clear k k0 k1
      go_enter Tryz.func146, Tryz.ntmps146
      go_wp2_with fail
      go_ret
      exact .mk (by rw [X.out]; rfl) (by (repeat (first | (with_reducible exact Below.refl _ _) | (with_reducible assumption) | (with_reducible refine Later.out _ ?_) | (with_reducible refine bel_alloc ?_ _) | (with_reducible refine bel_drew ?_) | (with_reducible refine bel_drewN ?_ _) | (with_reducible refine bel_set ?_ ?_ _) | (with_reducible refine After.out _ ?_ ?_) | (dsimp only; omega) | omega | (simp only [World.size_alloc, World.size_setCell, World.size_drew]; omega))))
  have X := Lib.hid (valueB_else k0 k1 (fun h => k23 (.inl h)) (fun h => k23 (.inr h)))
  have e0 : (c.kind == 0) = false := by simp [k0]
  have e1 : (c.kind == 1) = false := by simp [k1]
  have e2 : (c.kind == 2) = false := by rw [beq_eq_false_iff_ne]; exact fun h => k23 (.inl h)
  have e3 : (c.kind == 3) = false := by rw [beq_eq_false_iff_ne]; exact fun h => k23 (.inr h)
  clear k0 k1 k23
  go_enter Tryz.func146, Tryz.ntmps146
  go_wp2_with fail
  go_ret
  exact .mk (by rw [X.out]; rfl) (by (repeat (first | (with_reducible exact Below.refl _ _) | (with_reducible assumption) | (with_reducible refine Later.out _ ?_) | (with_reducible refine bel_alloc ?_ _) | (with_reducible refine bel_drew ?_) | (with_reducible refine bel_drewN ?_ _) | (with_reducible refine bel_set ?_ ?_ _) | (with_reducible refine After.out _ ?_ ?_) | (dsimp only; omega) | omega | (simp only [World.size_alloc, World.size_setCell, World.size_drew]; omega))))
theorem isClaimValue_b {c w} {b : Bool} (ok : ClmOk c) (hx : Max w) (h : valueB c = b) : Calls Tryz.prog 146 #[clmV c] w (Ret w (.bool b)) := by subst h; exact isClaimValue_any _ _ ok hx
theorem wordsB_two (a b : ByteArray) : wordsB [a, b] = (wordB a && wordB b) := by simp [wordsB]
set_option maxHeartbeats 1000000 in
theorem isClaim_any (ok : ClmOk c) (hx : Max w) : Calls Tryz.prog 111 #[clmV c] w (Ret w (.bool (claimB c))) := by
  have s1 := ok.s1
  have s2 := ok.s2
  have OK := Lib.hid ok
  have hin : ∀ s ∈ [c.src, c.place], s.size ≤ 1048576 := by simp [s1, s2]
  replace hin := Lib.hid hin
  replace hx := Lib.hid hx
  have HW := fun a w hr => areWords_any [c.src, c.place] a 2 2 w rfl (by omega) hr hin.out
  cases h1 : wordsB [c.src, c.place]
  · rw [h1] at HW
    replace HW := Lib.hid HW
    have X := Lib.hid (show claimB c = false by rw [wordsB_two] at h1; simp [claimB, h1])
    clear h1 ok
    go_enter Tryz.func111, Tryz.ntmps111
    go_wp2_with fail
    with_reducible refine (HW.out _ _ (Row.madeAt (by simp only [World.size_alloc]) (by simp [strCells]))).mono ?_
    rintro e w' ⟨rfl, y1, rfl⟩
    have hsy1 := y1.bel.size
    (try simp only [World.size_alloc, World.size_setCell, World.size_drew] at hsy1)
    go_wp2_with fail
    go_ret
    exact .mk (by rw [X.out]; rfl) (by (repeat (first | (with_reducible exact Below.refl _ _) | (with_reducible assumption) | (with_reducible refine Later.out _ ?_) | (with_reducible refine bel_alloc ?_ _) | (with_reducible refine bel_drew ?_) | (with_reducible refine bel_drewN ?_ _) | (with_reducible refine bel_set ?_ ?_ _) | (with_reducible refine After.out _ ?_ ?_) | (dsimp only; omega) | omega | (simp only [World.size_alloc, World.size_setCell, World.size_drew]; omega))))
  rw [h1] at HW
  replace HW := Lib.hid HW
  have E : claimB c = (valueB c && spanB c.fr c.to && inB c.wt 1 100) := by rw [wordsB_two] at h1; simp only [claimB, h1, Bool.true_and]
  clear h1 ok
  cases h2 : valueB c
  · have X := Lib.hid (show claimB c = false by simp [E, h2])
    clear E
    go_enter Tryz.func111, Tryz.ntmps111
    go_wp2_with fail
    with_reducible refine (HW.out _ _ (Row.madeAt (by simp only [World.size_alloc]) (by simp [strCells]))).mono ?_
    rintro e w' ⟨rfl, y1, rfl⟩
    have hsy1 := y1.bel.size
    (try simp only [World.size_alloc, World.size_setCell, World.size_drew] at hsy1)
    go_wp2_with fail
    with_reducible refine (isClaimValue_b OK.out (hx.out.bel (by (repeat (first | (with_reducible exact Below.refl _ _) | (with_reducible assumption) | (with_reducible refine Later.out _ ?_) | (with_reducible refine bel_alloc ?_ _) | (with_reducible refine bel_drew ?_) | (with_reducible refine bel_drewN ?_ _) | (with_reducible refine bel_set ?_ ?_ _) | (with_reducible refine After.out _ ?_ ?_) | (dsimp only; omega) | omega | (simp only [World.size_alloc, World.size_setCell, World.size_drew]; omega))))) h2).mono ?_
    rintro e w' ⟨rfl, y2, rfl⟩
    have hsy2 := y2.bel.size
    (try simp only [World.size_alloc, World.size_setCell, World.size_drew] at hsy2)
    go_wp2_with fail
    go_ret
    exact .mk (by rw [X.out]; rfl) (by (repeat (first | (with_reducible exact Below.refl _ _) | (with_reducible assumption) | (with_reducible refine Later.out _ ?_) | (with_reducible refine bel_alloc ?_ _) | (with_reducible refine bel_drew ?_) | (with_reducible refine bel_drewN ?_ _) | (with_reducible refine bel_set ?_ ?_ _) | (with_reducible refine After.out _ ?_ ?_) | (dsimp only; omega) | omega | (simp only [World.size_alloc, World.size_setCell, World.size_drew]; omega))))
  cases h3 : spanB c.fr c.to
  · have X := Lib.hid (show claimB c = false by simp [E, h3])
    clear E
    go_enter Tryz.func111, Tryz.ntmps111
    go_wp2_with fail
    with_reducible refine (HW.out _ _ (Row.madeAt (by simp only [World.size_alloc]) (by simp [strCells]))).mono ?_
    rintro e w' ⟨rfl, y1, rfl⟩
    have hsy1 := y1.bel.size
    (try simp only [World.size_alloc, World.size_setCell, World.size_drew] at hsy1)
    go_wp2_with fail
    with_reducible refine (isClaimValue_b OK.out (hx.out.bel (by (repeat (first | (with_reducible exact Below.refl _ _) | (with_reducible assumption) | (with_reducible refine Later.out _ ?_) | (with_reducible refine bel_alloc ?_ _) | (with_reducible refine bel_drew ?_) | (with_reducible refine bel_drewN ?_ _) | (with_reducible refine bel_set ?_ ?_ _) | (with_reducible refine After.out _ ?_ ?_) | (dsimp only; omega) | omega | (simp only [World.size_alloc, World.size_setCell, World.size_drew]; omega))))) h2).mono ?_
    rintro e w' ⟨rfl, y2, rfl⟩
    have hsy2 := y2.bel.size
    (try simp only [World.size_alloc, World.size_setCell, World.size_drew] at hsy2)
    go_wp2_with fail
    with_reducible refine (isSpan_b h3).mono ?_
    rintro e w' ⟨rfl, y3, rfl⟩
    have hsy3 := y3.bel.size
    (try simp only [World.size_alloc, World.size_setCell, World.size_drew] at hsy3)
    go_wp2_with fail
    go_ret
    exact .mk (by rw [X.out]; rfl) (by (repeat (first | (with_reducible exact Below.refl _ _) | (with_reducible assumption) | (with_reducible refine Later.out _ ?_) | (with_reducible refine bel_alloc ?_ _) | (with_reducible refine bel_drew ?_) | (with_reducible refine bel_drewN ?_ _) | (with_reducible refine bel_set ?_ ?_ _) | (with_reducible refine After.out _ ?_ ?_) | (dsimp only; omega) | omega | (simp only [World.size_alloc, World.size_setCell, World.size_drew]; omega))))
  have X := Lib.hid (show claimB c = inB c.wt 1 100 by simp [E, h2, h3])
  clear E
  go_enter Tryz.func111, Tryz.ntmps111
  go_wp2_with fail
  with_reducible refine (HW.out _ _ (Row.madeAt (by simp only [World.size_alloc]) (by simp [strCells]))).mono ?_
  rintro e w' ⟨rfl, y1, rfl⟩
  have hsy1 := y1.bel.size
  (try simp only [World.size_alloc, World.size_setCell, World.size_drew] at hsy1)
  go_wp2_with fail
  with_reducible refine (isClaimValue_b OK.out (hx.out.bel (by (repeat (first | (with_reducible exact Below.refl _ _) | (with_reducible assumption) | (with_reducible refine Later.out _ ?_) | (with_reducible refine bel_alloc ?_ _) | (with_reducible refine bel_drew ?_) | (with_reducible refine bel_drewN ?_ _) | (with_reducible refine bel_set ?_ ?_ _) | (with_reducible refine After.out _ ?_ ?_) | (dsimp only; omega) | omega | (simp only [World.size_alloc, World.size_setCell, World.size_drew]; omega))))) h2).mono ?_
  rintro e w' ⟨rfl, y2, rfl⟩
  have hsy2 := y2.bel.size
  (try simp only [World.size_alloc, World.size_setCell, World.size_drew] at hsy2)
  go_wp2_with fail
  with_reducible refine (isSpan_b h3).mono ?_
  rintro e w' ⟨rfl, y3, rfl⟩
  have hsy3 := y3.bel.size
  (try simp only [World.size_alloc, World.size_setCell, World.size_drew] at hsy3)
  go_wp2_with fail
  with_reducible refine (within_any _ _ _ _).mono ?_
  rintro e w' ⟨rfl, y4, rfl⟩
  have hsy4 := y4.bel.size
  (try simp only [World.size_alloc, World.size_setCell, World.size_drew] at hsy4)
  go_wp2_with fail
  go_ret
  exact .mk (by rw [X.out]; rfl) (by (repeat (first | (with_reducible exact Below.refl _ _) | (with_reducible assumption) | (with_reducible refine Later.out _ ?_) | (with_reducible refine bel_alloc ?_ _) | (with_reducible refine bel_drew ?_) | (with_reducible refine bel_drewN ?_ _) | (with_reducible refine bel_set ?_ ?_ _) | (with_reducible refine After.out _ ?_ ?_) | (dsimp only; omega) | omega | (simp only [World.size_alloc, World.size_setCell, World.size_drew]; omega))))
theorem isClaim_b {c w} {b : Bool} (ok : ClmOk c) (hx : Max w) (h : claimB c = b) : Calls Tryz.prog 111 #[clmV c] w (Ret w (.bool b)) := by subst h; exact isClaim_any _ _ ok hx
end
end Go.Proofs.YtcpddgkloeklaaaGreatDoor
