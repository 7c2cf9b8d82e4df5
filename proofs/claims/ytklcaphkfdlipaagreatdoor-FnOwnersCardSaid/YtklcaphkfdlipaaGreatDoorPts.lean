import Derived.Test.YtklcaphkfdlipaaGreatDoorPackVa
/- Points of the plane: turns, segments, both sides. -/
set_option linter.unusedSimpArgs false
set_option linter.unusedVariables false
namespace Go.Proofs.YtklcaphkfdlipaaGreatDoor
open Go.RowKit
structure Pt where
  x : Int
  y : Int
theorem Pt.ext' {p q : Pt} (h1 : p.x = q.x) (h2 : p.y = q.y) : p = q := by cases p; cases q; simp_all
abbrev ptV (p : Pt) : Value := .agg #[.int .i64 p.x, .int .i64 p.y]
def ptCells (p : Pt) : List Value := [.int .i64 p.x, .int .i64 p.y]
def ptsCells (L : List Pt) : List Value := L.flatMap ptCells
theorem length_ptsCells (L : List Pt) : (ptsCells L).length = L.length * 2 := by
  induction L with
  | nil => rfl
  | cons c L ih => simp only [ptsCells, List.flatMap_cons, List.length_append, List.length_cons] at ih ⊢; rw [ih]; simp [ptCells]; omega
theorem pts_get {L : List Pt} : ∀ {k : Nat} (h : k < L.length) {i : Nat} {v : Value}, (ptCells L[k])[i]? = some v → (ptsCells L)[k * 2 + i]? = some v := by
  induction L with
  | nil => intro k h; simp at h
  | cons c L ih =>
    intro k h i v hv
    have hi : i < 2 := (List.getElem?_eq_some_iff.1 hv).1
    cases k with
    | zero =>
      show (ptCells c ++ ptsCells L)[0 * 2 + i]? = some v
      rw [Nat.zero_mul, Nat.zero_add, List.getElem?_append_left (by simpa [ptCells] using hi)]
      exact hv
    | succ k =>
      show (ptCells c ++ ptsCells L)[(k + 1) * 2 + i]? = some v
      have hl : (ptCells c).length = 2 := rfl
      rw [List.getElem?_append_right (by omega), hl, show (k + 1) * 2 + i - 2 = k * 2 + i by omega]
      exact ih (by simpa using h) hv
theorem Row.pt {w : World} {a : Option Addr} {L : List Pt} (h : Row w a (ptsCells L)) {k : Nat} (hk : k < L.length) : ∃ b o, a = some ⟨b, o, none⟩ ∧ b < w.heap.size ∧ w.cell? ⟨b, o + k * 2, none⟩ = some (.int .i64 L[k].x) ∧ w.cell? ⟨b, o + k * 2 + 1, none⟩ = some (.int .i64 L[k].y) := by
  obtain ⟨b, o, rfl, h0⟩ := h (k * 2 + 0) _ (pts_get hk (i := 0) rfl)
  obtain ⟨b', o', he, h1⟩ := h (k * 2 + 1) _ (pts_get hk (i := 1) rfl)
  cases he
  exact ⟨b, o, rfl, World.block_lt_of_cell? w _ h0, by simpa using h0, by rw [Nat.add_assoc]; exact h1⟩
/-- Coordinates that leave room for a turn. -/
structure PtB (p : Pt) : Prop where
  x1 : -2100 ≤ p.x
  x2 : p.x ≤ 2100
  y1 : -2100 ≤ p.y
  y2 : p.y ≤ 2100
theorem mul_bd {p q M : Int} (h1 : -M ≤ p) (h2 : p ≤ M) (h3 : -M ≤ q) (h4 : q ≤ M) : -(M * M) ≤ p * q ∧ p * q ≤ M * M := by
  have hM : 0 ≤ M := by omega
  have a : (p * q).natAbs ≤ M.toNat * M.toNat := by
    rw [Int.natAbs_mul]
    exact Nat.mul_le_mul (by omega) (by omega)
  have b : ((M.toNat * M.toNat : Nat) : Int) = M * M := by
    rw [Int.natCast_mul, Int.toNat_of_nonneg hM]
  omega
def turnZ (a b c : Pt) : Int := (b.x - a.x) * (c.y - a.y) - (b.y - a.y) * (c.x - a.x)
section
variable (a b c p : Pt) (w : World)
theorem turn_bd (ha : PtB a) (hb : PtB b) (hc : PtB c) : (-17640000 ≤ (b.x - a.x) * (c.y - a.y) ∧ (b.x - a.x) * (c.y - a.y) ≤ 17640000) ∧ (-17640000 ≤ (b.y - a.y) * (c.x - a.x) ∧ (b.y - a.y) * (c.x - a.x) ≤ 17640000) := by
  obtain ⟨a1, a2, a3, a4⟩ := ha
  obtain ⟨b1, b2, b3, b4⟩ := hb
  obtain ⟨c1, c2, c3, c4⟩ := hc
  exact ⟨mul_bd (M := 4200) (by omega) (by omega) (by omega) (by omega), mul_bd (M := 4200) (by omega) (by omega) (by omega) (by omega)⟩
set_option maxHeartbeats 1000000 in
theorem turn_any (ha : PtB a) (hb : PtB b) (hc : PtB c) : Calls Tryz.prog 135 #[ptV a, ptV b, ptV c] w (Ret w (.int .i64 (turnZ a b c))) := by
  obtain ⟨⟨m1, m2⟩, m3, m4⟩ := turn_bd a b c ha hb hc
  obtain ⟨a1, a2, a3, a4⟩ := ha
  obtain ⟨b1, b2, b3, b4⟩ := hb
  obtain ⟨c1, c2, c3, c4⟩ := hc
  go_enter Tryz.func135, Tryz.ntmps135
  go_wp2_with fail
  go_ret
  exact .mk rfl bb
set_option maxHeartbeats 1000000 in
theorem sTurn_any (ha : PtB a) (hb : PtB b) (hc : PtB c) : Calls Tryz.prog 137 #[ptV a, ptV b, ptV c] w (Ret w (.int .i64 (turnZ a b c))) := by
  obtain ⟨⟨m1, m2⟩, m3, m4⟩ := turn_bd a b c ha hb hc
  obtain ⟨a1, a2, a3, a4⟩ := ha
  obtain ⟨b1, b2, b3, b4⟩ := hb
  obtain ⟨c1, c2, c3, c4⟩ := hc
  go_enter Tryz.func137, Tryz.ntmps137
  go_wp2_with fail
  go_ret
  exact .mk rfl bb
def signZ (n : Int) : Int := if n < 0 then -1 else if 0 < n then 1 else 0
theorem sign3 (n : Int) : (n < 0 ∧ signZ n = -1) ∨ (n = 0 ∧ signZ n = 0) ∨ (0 < n ∧ signZ n = 1) := by
  unfold signZ
  rcases Int.lt_trichotomy n 0 with h | h | h
  · exact .inl ⟨h, by rw [if_pos h]⟩
  · subst h; exact .inr (.inl ⟨rfl, rfl⟩)
  · exact .inr (.inr ⟨h, by rw [if_neg (by omega), if_pos h]⟩)
set_option maxHeartbeats 1000000 in
theorem sign_any (n : Int) : Calls Tryz.prog 195 #[.int .i64 n] w (Ret w (.int .i64 (signZ n))) := by
  rcases sign3 n with ⟨h, e⟩ | ⟨h, e⟩ | ⟨h, e⟩
  · replace e := Lib.hid e
    have h1 : n < 1 := by omega
    have h2 : ¬ (-1 < n) := by omega
    go_enter Tryz.func195, Tryz.ntmps195
    go_wp2_with fail
    go_ret
    exact .mk (by rw [e.out]; rfl) bb
  · subst h
    replace e := Lib.hid e
    go_enter Tryz.func195, Tryz.ntmps195
    go_wp2_with fail
    go_ret
    exact .mk (by rw [e.out]; rfl) bb
  · replace e := Lib.hid e
    have h1 : ¬ (n < 1) := by omega
    go_enter Tryz.func195, Tryz.ntmps195
    go_wp2_with fail
    go_ret
    exact .mk (by rw [e.out]; rfl) bb
set_option maxHeartbeats 1000000 in
theorem sSign_any (n : Int) : Calls Tryz.prog 181 #[.int .i64 n] w (Ret w (.int .i64 (signZ n))) := by
  rcases sign3 n with ⟨h, e⟩ | ⟨h, e⟩ | ⟨h, e⟩
  · replace e := Lib.hid e
    go_enter Tryz.func181, Tryz.ntmps181
    go_wp2_with fail
    go_ret
    exact .mk (by rw [e.out]; rfl) bb
  · subst h
    replace e := Lib.hid e
    go_enter Tryz.func181, Tryz.ntmps181
    go_wp2_with fail
    go_ret
    exact .mk (by rw [e.out]; rfl) bb
  · replace e := Lib.hid e
    have h1 : ¬ (n < 0) := by omega
    go_enter Tryz.func181, Tryz.ntmps181
    go_wp2_with fail
    go_ret
    exact .mk (by rw [e.out]; rfl) bb
theorem sign_bd (n : Int) : -1 ≤ signZ n ∧ signZ n ≤ 1 := by unfold signZ; split <;> (try split) <;> omega
theorem sign_mul_bd (m n : Int) : -1 ≤ signZ m * signZ n ∧ signZ m * signZ n ≤ 1 := by
  have h1 := sign_bd m
  have h2 := sign_bd n
  have := mul_bd (M := 1) h1.1 h1.2 h2.1 h2.2
  omega
/-- `p` lies on the segment from `a` to `b`. -/
def isOnB : Bool := turnZ a b p == 0 && inB p.x (min a.x b.x) (max a.x b.x) && inB p.y (min a.y b.y) (max a.y b.y)
set_option maxHeartbeats 4000000 in
theorem isOn_any (ha : PtB a) (hb : PtB b) (hp : PtB p) : Calls Tryz.prog 134 #[ptV a, ptV b, ptV p] w (Ret w (.bool (isOnB a b p))) := by
  have CT := fun w => turn_any a b p w ha hb hp
  cases ht : (turnZ a b p == 0)
  · have X := Lib.hid (show isOnB a b p = false by simp [isOnB, ht])
    obtain ⟨t, hte⟩ : ∃ t, turnZ a b p = t := ⟨_, rfl⟩
    rw [hte] at ht
    simp only [hte] at CT
    replace CT := Lib.hid CT
    clear hte
    go_enter Tryz.func134, Tryz.ntmps134
    go_wp2_with fail
    with_reducible refine (CT.out _).mono ?_
    rintro e w' ⟨rfl, y1, rfl⟩
    have hsy1 := y1.bel.size
    (try simp only [World.size_alloc, World.size_setCell, World.size_drew] at hsy1)
    go_wp2_with fail
    go_ret
    exact .mk (by rw [X.out]; rfl) bb
  have h0 : turnZ a b p = 0 := by simpa using ht
  simp only [h0] at CT
  have E : isOnB a b p = (inB p.x (min a.x b.x) (max a.x b.x) && inB p.y (min a.y b.y) (max a.y b.y)) := by simp [isOnB, ht]
  generalize isOnB a b p = B at E ⊢
  clear ht h0 ha hb hp
  obtain ⟨ax, ay⟩ := a
  obtain ⟨bx, bz⟩ := b
  obtain ⟨px, py⟩ := p
  simp only at E CT ⊢
  replace CT := Lib.hid CT
  rcases Int.lt_trichotomy ax bx with hx | hx | hx
  · have hx1 := Int.le_of_lt hx
    rw [Int.min_eq_left hx1, Int.max_eq_right hx1] at E
    cases hi : inB px ax bx
    · have X := Lib.hid (show B = false by rw [E, hi]; rfl)
      clear E
      go_enter Tryz.func134, Tryz.ntmps134
      go_wp2_with fail
      with_reducible refine (CT.out _).mono ?_
      rintro e w' ⟨rfl, y1, rfl⟩
      have hsy1 := y1.bel.size
      (try simp only [World.size_alloc, World.size_setCell, World.size_drew] at hsy1)
      go_wp2_with fail
      with_reducible refine (within_b _ hi).mono ?_
      rintro e w' ⟨rfl, y2, rfl⟩
      have hsy2 := y2.bel.size
      (try simp only [World.size_alloc, World.size_setCell, World.size_drew] at hsy2)
      go_wp2_with fail
      go_ret
      exact .mk (by rw [X.out]; rfl) bb
    rcases Int.lt_trichotomy ay bz with hy | hy | hy
    · have hy1 := Int.le_of_lt hy
      rw [Int.min_eq_left hy1, Int.max_eq_right hy1] at E
      have X := Lib.hid (show B = inB py ay bz by rw [E, hi]; rfl)
      clear E
      go_enter Tryz.func134, Tryz.ntmps134
      go_wp2_with fail
      with_reducible refine (CT.out _).mono ?_
      rintro e w' ⟨rfl, y1, rfl⟩
      have hsy1 := y1.bel.size
      (try simp only [World.size_alloc, World.size_setCell, World.size_drew] at hsy1)
      go_wp2_with fail
      with_reducible refine (within_b _ hi).mono ?_
      rintro e w' ⟨rfl, y2, rfl⟩
      have hsy2 := y2.bel.size
      (try simp only [World.size_alloc, World.size_setCell, World.size_drew] at hsy2)
      go_wp2_with fail
      with_reducible refine (within_b _ rfl).mono ?_
      rintro e w' ⟨rfl, y3, rfl⟩
      have hsy3 := y3.bel.size
      (try simp only [World.size_alloc, World.size_setCell, World.size_drew] at hsy3)
      go_wp2_with fail
      go_ret
      exact .mk (by rw [X.out]; rfl) bb
    · subst hy
      rw [Int.min_self, Int.max_self] at E
      have X := Lib.hid (show B = inB py ay ay by rw [E, hi]; rfl)
      clear E
      go_enter Tryz.func134, Tryz.ntmps134
      go_wp2_with fail
      with_reducible refine (CT.out _).mono ?_
      rintro e w' ⟨rfl, y1, rfl⟩
      have hsy1 := y1.bel.size
      (try simp only [World.size_alloc, World.size_setCell, World.size_drew] at hsy1)
      go_wp2_with fail
      with_reducible refine (within_b _ hi).mono ?_
      rintro e w' ⟨rfl, y2, rfl⟩
      have hsy2 := y2.bel.size
      (try simp only [World.size_alloc, World.size_setCell, World.size_drew] at hsy2)
      go_wp2_with fail
      with_reducible refine (within_b _ rfl).mono ?_
      rintro e w' ⟨rfl, y3, rfl⟩
      have hsy3 := y3.bel.size
      (try simp only [World.size_alloc, World.size_setCell, World.size_drew] at hsy3)
      go_wp2_with fail
      go_ret
      exact .mk (by rw [X.out]; rfl) bb
    · have hy1 := Int.le_of_lt hy
      rw [Int.min_eq_right hy1, Int.max_eq_left hy1] at E
      have X := Lib.hid (show B = inB py bz ay by rw [E, hi]; rfl)
      clear E
      go_enter Tryz.func134, Tryz.ntmps134
      go_wp2_with fail
      with_reducible refine (CT.out _).mono ?_
      rintro e w' ⟨rfl, y1, rfl⟩
      have hsy1 := y1.bel.size
      (try simp only [World.size_alloc, World.size_setCell, World.size_drew] at hsy1)
      go_wp2_with fail
      with_reducible refine (within_b _ hi).mono ?_
      rintro e w' ⟨rfl, y2, rfl⟩
      have hsy2 := y2.bel.size
      (try simp only [World.size_alloc, World.size_setCell, World.size_drew] at hsy2)
      go_wp2_with fail
      with_reducible refine (within_b _ rfl).mono ?_
      rintro e w' ⟨rfl, y3, rfl⟩
      have hsy3 := y3.bel.size
      (try simp only [World.size_alloc, World.size_setCell, World.size_drew] at hsy3)
      go_wp2_with fail
      go_ret
      exact .mk (by rw [X.out]; rfl) bb
  · subst hx
    rw [Int.min_self, Int.max_self] at E
    cases hi : inB px ax ax
    · have X := Lib.hid (show B = false by rw [E, hi]; rfl)
      clear E
      go_enter Tryz.func134, Tryz.ntmps134
      go_wp2_with fail
      with_reducible refine (CT.out _).mono ?_
      rintro e w' ⟨rfl, y1, rfl⟩
      have hsy1 := y1.bel.size
      (try simp only [World.size_alloc, World.size_setCell, World.size_drew] at hsy1)
      go_wp2_with fail
      with_reducible refine (within_b _ hi).mono ?_
      rintro e w' ⟨rfl, y2, rfl⟩
      have hsy2 := y2.bel.size
      (try simp only [World.size_alloc, World.size_setCell, World.size_drew] at hsy2)
      go_wp2_with fail
      go_ret
      exact .mk (by rw [X.out]; rfl) bb
    rcases Int.lt_trichotomy ay bz with hy | hy | hy
    · have hy1 := Int.le_of_lt hy
      rw [Int.min_eq_left hy1, Int.max_eq_right hy1] at E
      have X := Lib.hid (show B = inB py ay bz by rw [E, hi]; rfl)
      clear E
      go_enter Tryz.func134, Tryz.ntmps134
      go_wp2_with fail
      with_reducible refine (CT.out _).mono ?_
      rintro e w' ⟨rfl, y1, rfl⟩
      have hsy1 := y1.bel.size
      (try simp only [World.size_alloc, World.size_setCell, World.size_drew] at hsy1)
      go_wp2_with fail
      with_reducible refine (within_b _ hi).mono ?_
      rintro e w' ⟨rfl, y2, rfl⟩
      have hsy2 := y2.bel.size
      (try simp only [World.size_alloc, World.size_setCell, World.size_drew] at hsy2)
      go_wp2_with fail
      with_reducible refine (within_b _ rfl).mono ?_
      rintro e w' ⟨rfl, y3, rfl⟩
      have hsy3 := y3.bel.size
      (try simp only [World.size_alloc, World.size_setCell, World.size_drew] at hsy3)
      go_wp2_with fail
      go_ret
      exact .mk (by rw [X.out]; rfl) bb
    · subst hy
      rw [Int.min_self, Int.max_self] at E
      have X := Lib.hid (show B = inB py ay ay by rw [E, hi]; rfl)
      clear E
      go_enter Tryz.func134, Tryz.ntmps134
      go_wp2_with fail
      with_reducible refine (CT.out _).mono ?_
      rintro e w' ⟨rfl, y1, rfl⟩
      have hsy1 := y1.bel.size
      (try simp only [World.size_alloc, World.size_setCell, World.size_drew] at hsy1)
      go_wp2_with fail
      with_reducible refine (within_b _ hi).mono ?_
      rintro e w' ⟨rfl, y2, rfl⟩
      have hsy2 := y2.bel.size
      (try simp only [World.size_alloc, World.size_setCell, World.size_drew] at hsy2)
      go_wp2_with fail
      with_reducible refine (within_b _ rfl).mono ?_
      rintro e w' ⟨rfl, y3, rfl⟩
      have hsy3 := y3.bel.size
      (try simp only [World.size_alloc, World.size_setCell, World.size_drew] at hsy3)
      go_wp2_with fail
      go_ret
      exact .mk (by rw [X.out]; rfl) bb
    · have hy1 := Int.le_of_lt hy
      rw [Int.min_eq_right hy1, Int.max_eq_left hy1] at E
      have X := Lib.hid (show B = inB py bz ay by rw [E, hi]; rfl)
      clear E
      go_enter Tryz.func134, Tryz.ntmps134
      go_wp2_with fail
      with_reducible refine (CT.out _).mono ?_
      rintro e w' ⟨rfl, y1, rfl⟩
      have hsy1 := y1.bel.size
      (try simp only [World.size_alloc, World.size_setCell, World.size_drew] at hsy1)
      go_wp2_with fail
      with_reducible refine (within_b _ hi).mono ?_
      rintro e w' ⟨rfl, y2, rfl⟩
      have hsy2 := y2.bel.size
      (try simp only [World.size_alloc, World.size_setCell, World.size_drew] at hsy2)
      go_wp2_with fail
      with_reducible refine (within_b _ rfl).mono ?_
      rintro e w' ⟨rfl, y3, rfl⟩
      have hsy3 := y3.bel.size
      (try simp only [World.size_alloc, World.size_setCell, World.size_drew] at hsy3)
      go_wp2_with fail
      go_ret
      exact .mk (by rw [X.out]; rfl) bb
  · have hx1 := Int.le_of_lt hx
    rw [Int.min_eq_right hx1, Int.max_eq_left hx1] at E
    cases hi : inB px bx ax
    · have X := Lib.hid (show B = false by rw [E, hi]; rfl)
      clear E
      go_enter Tryz.func134, Tryz.ntmps134
      go_wp2_with fail
      with_reducible refine (CT.out _).mono ?_
      rintro e w' ⟨rfl, y1, rfl⟩
      have hsy1 := y1.bel.size
      (try simp only [World.size_alloc, World.size_setCell, World.size_drew] at hsy1)
      go_wp2_with fail
      with_reducible refine (within_b _ hi).mono ?_
      rintro e w' ⟨rfl, y2, rfl⟩
      have hsy2 := y2.bel.size
      (try simp only [World.size_alloc, World.size_setCell, World.size_drew] at hsy2)
      go_wp2_with fail
      go_ret
      exact .mk (by rw [X.out]; rfl) bb
    rcases Int.lt_trichotomy ay bz with hy | hy | hy
    · have hy1 := Int.le_of_lt hy
      rw [Int.min_eq_left hy1, Int.max_eq_right hy1] at E
      have X := Lib.hid (show B = inB py ay bz by rw [E, hi]; rfl)
      clear E
      go_enter Tryz.func134, Tryz.ntmps134
      go_wp2_with fail
      with_reducible refine (CT.out _).mono ?_
      rintro e w' ⟨rfl, y1, rfl⟩
      have hsy1 := y1.bel.size
      (try simp only [World.size_alloc, World.size_setCell, World.size_drew] at hsy1)
      go_wp2_with fail
      with_reducible refine (within_b _ hi).mono ?_
      rintro e w' ⟨rfl, y2, rfl⟩
      have hsy2 := y2.bel.size
      (try simp only [World.size_alloc, World.size_setCell, World.size_drew] at hsy2)
      go_wp2_with fail
      with_reducible refine (within_b _ rfl).mono ?_
      rintro e w' ⟨rfl, y3, rfl⟩
      have hsy3 := y3.bel.size
      (try simp only [World.size_alloc, World.size_setCell, World.size_drew] at hsy3)
      go_wp2_with fail
      go_ret
      exact .mk (by rw [X.out]; rfl) bb
    · subst hy
      rw [Int.min_self, Int.max_self] at E
      have X := Lib.hid (show B = inB py ay ay by rw [E, hi]; rfl)
      clear E
      go_enter Tryz.func134, Tryz.ntmps134
      go_wp2_with fail
      with_reducible refine (CT.out _).mono ?_
      rintro e w' ⟨rfl, y1, rfl⟩
      have hsy1 := y1.bel.size
      (try simp only [World.size_alloc, World.size_setCell, World.size_drew] at hsy1)
      go_wp2_with fail
      with_reducible refine (within_b _ hi).mono ?_
      rintro e w' ⟨rfl, y2, rfl⟩
      have hsy2 := y2.bel.size
      (try simp only [World.size_alloc, World.size_setCell, World.size_drew] at hsy2)
      go_wp2_with fail
      with_reducible refine (within_b _ rfl).mono ?_
      rintro e w' ⟨rfl, y3, rfl⟩
      have hsy3 := y3.bel.size
      (try simp only [World.size_alloc, World.size_setCell, World.size_drew] at hsy3)
      go_wp2_with fail
      go_ret
      exact .mk (by rw [X.out]; rfl) bb
    · have hy1 := Int.le_of_lt hy
      rw [Int.min_eq_right hy1, Int.max_eq_left hy1] at E
      have X := Lib.hid (show B = inB py bz ay by rw [E, hi]; rfl)
      clear E
      go_enter Tryz.func134, Tryz.ntmps134
      go_wp2_with fail
      with_reducible refine (CT.out _).mono ?_
      rintro e w' ⟨rfl, y1, rfl⟩
      have hsy1 := y1.bel.size
      (try simp only [World.size_alloc, World.size_setCell, World.size_drew] at hsy1)
      go_wp2_with fail
      with_reducible refine (within_b _ hi).mono ?_
      rintro e w' ⟨rfl, y2, rfl⟩
      have hsy2 := y2.bel.size
      (try simp only [World.size_alloc, World.size_setCell, World.size_drew] at hsy2)
      go_wp2_with fail
      with_reducible refine (within_b _ rfl).mono ?_
      rintro e w' ⟨rfl, y3, rfl⟩
      have hsy3 := y3.bel.size
      (try simp only [World.size_alloc, World.size_setCell, World.size_drew] at hsy3)
      go_wp2_with fail
      go_ret
      exact .mk (by rw [X.out]; rfl) bb
theorem isOn_b {a b p : Pt} {w : World} {B : Bool} (ha : PtB a) (hb : PtB b) (hp : PtB p) (h : isOnB a b p = B) : Calls Tryz.prog 134 #[ptV a, ptV b, ptV p] w (Ret w (.bool B)) := by subst h; exact isOn_any _ _ _ _ ha hb hp
set_option maxHeartbeats 4000000 in
theorem sOn_any (ha : PtB a) (hb : PtB b) (hp : PtB p) : Calls Tryz.prog 136 #[ptV a, ptV b, ptV p] w (Ret w (.bool (isOnB a b p))) := by
  have CT := fun w => sTurn_any a b p w ha hb hp
  cases ht : (turnZ a b p == 0)
  · have X := Lib.hid (show isOnB a b p = false by simp [isOnB, ht])
    obtain ⟨t, hte⟩ : ∃ t, turnZ a b p = t := ⟨_, rfl⟩
    rw [hte] at ht
    simp only [hte] at CT
    replace CT := Lib.hid CT
    clear hte
    go_enter Tryz.func136, Tryz.ntmps136
    go_wp2_with fail
    with_reducible refine (CT.out _).mono ?_
    rintro e w' ⟨rfl, y1, rfl⟩
    have hsy1 := y1.bel.size
    (try simp only [World.size_alloc, World.size_setCell, World.size_drew] at hsy1)
    go_wp2_with fail
    go_ret
    exact .mk (by rw [X.out]; rfl) bb
  have h0 : turnZ a b p = 0 := by simpa using ht
  simp only [h0] at CT
  have E : isOnB a b p = (inB p.x (min a.x b.x) (max a.x b.x) && inB p.y (min a.y b.y) (max a.y b.y)) := by simp [isOnB, ht]
  generalize isOnB a b p = B at E ⊢
  clear ht h0 ha hb hp
  obtain ⟨ax, ay⟩ := a
  obtain ⟨bx, bz⟩ := b
  obtain ⟨px, py⟩ := p
  simp only at E CT ⊢
  replace CT := Lib.hid CT
  rcases Int.lt_trichotomy ax bx with hx | hx | hx
  · have hx1 := Int.le_of_lt hx
    rw [Int.min_eq_left hx1, Int.max_eq_right hx1] at E
    cases hi : inB px ax bx
    · have X := Lib.hid (show B = false by rw [E, hi]; rfl)
      clear E
      go_enter Tryz.func136, Tryz.ntmps136
      go_wp2_with fail
      with_reducible refine (CT.out _).mono ?_
      rintro e w' ⟨rfl, y1, rfl⟩
      have hsy1 := y1.bel.size
      (try simp only [World.size_alloc, World.size_setCell, World.size_drew] at hsy1)
      go_wp2_with fail
      with_reducible refine (l01In_b _ hi).mono ?_
      rintro e w' ⟨rfl, y2, rfl⟩
      have hsy2 := y2.bel.size
      (try simp only [World.size_alloc, World.size_setCell, World.size_drew] at hsy2)
      go_wp2_with fail
      go_ret
      exact .mk (by rw [X.out]; rfl) bb
    rcases Int.lt_trichotomy ay bz with hy | hy | hy
    · have hy1 := Int.le_of_lt hy
      rw [Int.min_eq_left hy1, Int.max_eq_right hy1] at E
      have X := Lib.hid (show B = inB py ay bz by rw [E, hi]; rfl)
      clear E
      go_enter Tryz.func136, Tryz.ntmps136
      go_wp2_with fail
      with_reducible refine (CT.out _).mono ?_
      rintro e w' ⟨rfl, y1, rfl⟩
      have hsy1 := y1.bel.size
      (try simp only [World.size_alloc, World.size_setCell, World.size_drew] at hsy1)
      go_wp2_with fail
      with_reducible refine (l01In_b _ hi).mono ?_
      rintro e w' ⟨rfl, y2, rfl⟩
      have hsy2 := y2.bel.size
      (try simp only [World.size_alloc, World.size_setCell, World.size_drew] at hsy2)
      go_wp2_with fail
      with_reducible refine (l01In_b _ rfl).mono ?_
      rintro e w' ⟨rfl, y3, rfl⟩
      have hsy3 := y3.bel.size
      (try simp only [World.size_alloc, World.size_setCell, World.size_drew] at hsy3)
      go_wp2_with fail
      go_ret
      exact .mk (by rw [X.out]; rfl) bb
    · subst hy
      rw [Int.min_self, Int.max_self] at E
      have X := Lib.hid (show B = inB py ay ay by rw [E, hi]; rfl)
      clear E
      go_enter Tryz.func136, Tryz.ntmps136
      go_wp2_with fail
      with_reducible refine (CT.out _).mono ?_
      rintro e w' ⟨rfl, y1, rfl⟩
      have hsy1 := y1.bel.size
      (try simp only [World.size_alloc, World.size_setCell, World.size_drew] at hsy1)
      go_wp2_with fail
      with_reducible refine (l01In_b _ hi).mono ?_
      rintro e w' ⟨rfl, y2, rfl⟩
      have hsy2 := y2.bel.size
      (try simp only [World.size_alloc, World.size_setCell, World.size_drew] at hsy2)
      go_wp2_with fail
      with_reducible refine (l01In_b _ rfl).mono ?_
      rintro e w' ⟨rfl, y3, rfl⟩
      have hsy3 := y3.bel.size
      (try simp only [World.size_alloc, World.size_setCell, World.size_drew] at hsy3)
      go_wp2_with fail
      go_ret
      exact .mk (by rw [X.out]; rfl) bb
    · have hy1 := Int.le_of_lt hy
      rw [Int.min_eq_right hy1, Int.max_eq_left hy1] at E
      have X := Lib.hid (show B = inB py bz ay by rw [E, hi]; rfl)
      clear E
      go_enter Tryz.func136, Tryz.ntmps136
      go_wp2_with fail
      with_reducible refine (CT.out _).mono ?_
      rintro e w' ⟨rfl, y1, rfl⟩
      have hsy1 := y1.bel.size
      (try simp only [World.size_alloc, World.size_setCell, World.size_drew] at hsy1)
      go_wp2_with fail
      with_reducible refine (l01In_b _ hi).mono ?_
      rintro e w' ⟨rfl, y2, rfl⟩
      have hsy2 := y2.bel.size
      (try simp only [World.size_alloc, World.size_setCell, World.size_drew] at hsy2)
      go_wp2_with fail
      with_reducible refine (l01In_b _ rfl).mono ?_
      rintro e w' ⟨rfl, y3, rfl⟩
      have hsy3 := y3.bel.size
      (try simp only [World.size_alloc, World.size_setCell, World.size_drew] at hsy3)
      go_wp2_with fail
      go_ret
      exact .mk (by rw [X.out]; rfl) bb
  · subst hx
    rw [Int.min_self, Int.max_self] at E
    cases hi : inB px ax ax
    · have X := Lib.hid (show B = false by rw [E, hi]; rfl)
      clear E
      go_enter Tryz.func136, Tryz.ntmps136
      go_wp2_with fail
      with_reducible refine (CT.out _).mono ?_
      rintro e w' ⟨rfl, y1, rfl⟩
      have hsy1 := y1.bel.size
      (try simp only [World.size_alloc, World.size_setCell, World.size_drew] at hsy1)
      go_wp2_with fail
      with_reducible refine (l01In_b _ hi).mono ?_
      rintro e w' ⟨rfl, y2, rfl⟩
      have hsy2 := y2.bel.size
      (try simp only [World.size_alloc, World.size_setCell, World.size_drew] at hsy2)
      go_wp2_with fail
      go_ret
      exact .mk (by rw [X.out]; rfl) bb
    rcases Int.lt_trichotomy ay bz with hy | hy | hy
    · have hy1 := Int.le_of_lt hy
      rw [Int.min_eq_left hy1, Int.max_eq_right hy1] at E
      have X := Lib.hid (show B = inB py ay bz by rw [E, hi]; rfl)
      clear E
      go_enter Tryz.func136, Tryz.ntmps136
      go_wp2_with fail
      with_reducible refine (CT.out _).mono ?_
      rintro e w' ⟨rfl, y1, rfl⟩
      have hsy1 := y1.bel.size
      (try simp only [World.size_alloc, World.size_setCell, World.size_drew] at hsy1)
      go_wp2_with fail
      with_reducible refine (l01In_b _ hi).mono ?_
      rintro e w' ⟨rfl, y2, rfl⟩
      have hsy2 := y2.bel.size
      (try simp only [World.size_alloc, World.size_setCell, World.size_drew] at hsy2)
      go_wp2_with fail
      with_reducible refine (l01In_b _ rfl).mono ?_
      rintro e w' ⟨rfl, y3, rfl⟩
      have hsy3 := y3.bel.size
      (try simp only [World.size_alloc, World.size_setCell, World.size_drew] at hsy3)
      go_wp2_with fail
      go_ret
      exact .mk (by rw [X.out]; rfl) bb
    · subst hy
      rw [Int.min_self, Int.max_self] at E
      have X := Lib.hid (show B = inB py ay ay by rw [E, hi]; rfl)
      clear E
      go_enter Tryz.func136, Tryz.ntmps136
      go_wp2_with fail
      with_reducible refine (CT.out _).mono ?_
      rintro e w' ⟨rfl, y1, rfl⟩
      have hsy1 := y1.bel.size
      (try simp only [World.size_alloc, World.size_setCell, World.size_drew] at hsy1)
      go_wp2_with fail
      with_reducible refine (l01In_b _ hi).mono ?_
      rintro e w' ⟨rfl, y2, rfl⟩
      have hsy2 := y2.bel.size
      (try simp only [World.size_alloc, World.size_setCell, World.size_drew] at hsy2)
      go_wp2_with fail
      with_reducible refine (l01In_b _ rfl).mono ?_
      rintro e w' ⟨rfl, y3, rfl⟩
      have hsy3 := y3.bel.size
      (try simp only [World.size_alloc, World.size_setCell, World.size_drew] at hsy3)
      go_wp2_with fail
      go_ret
      exact .mk (by rw [X.out]; rfl) bb
    · have hy1 := Int.le_of_lt hy
      rw [Int.min_eq_right hy1, Int.max_eq_left hy1] at E
      have X := Lib.hid (show B = inB py bz ay by rw [E, hi]; rfl)
      clear E
      go_enter Tryz.func136, Tryz.ntmps136
      go_wp2_with fail
      with_reducible refine (CT.out _).mono ?_
      rintro e w' ⟨rfl, y1, rfl⟩
      have hsy1 := y1.bel.size
      (try simp only [World.size_alloc, World.size_setCell, World.size_drew] at hsy1)
      go_wp2_with fail
      with_reducible refine (l01In_b _ hi).mono ?_
      rintro e w' ⟨rfl, y2, rfl⟩
      have hsy2 := y2.bel.size
      (try simp only [World.size_alloc, World.size_setCell, World.size_drew] at hsy2)
      go_wp2_with fail
      with_reducible refine (l01In_b _ rfl).mono ?_
      rintro e w' ⟨rfl, y3, rfl⟩
      have hsy3 := y3.bel.size
      (try simp only [World.size_alloc, World.size_setCell, World.size_drew] at hsy3)
      go_wp2_with fail
      go_ret
      exact .mk (by rw [X.out]; rfl) bb
  · have hx1 := Int.le_of_lt hx
    rw [Int.min_eq_right hx1, Int.max_eq_left hx1] at E
    cases hi : inB px bx ax
    · have X := Lib.hid (show B = false by rw [E, hi]; rfl)
      clear E
      go_enter Tryz.func136, Tryz.ntmps136
      go_wp2_with fail
      with_reducible refine (CT.out _).mono ?_
      rintro e w' ⟨rfl, y1, rfl⟩
      have hsy1 := y1.bel.size
      (try simp only [World.size_alloc, World.size_setCell, World.size_drew] at hsy1)
      go_wp2_with fail
      with_reducible refine (l01In_b _ hi).mono ?_
      rintro e w' ⟨rfl, y2, rfl⟩
      have hsy2 := y2.bel.size
      (try simp only [World.size_alloc, World.size_setCell, World.size_drew] at hsy2)
      go_wp2_with fail
      go_ret
      exact .mk (by rw [X.out]; rfl) bb
    rcases Int.lt_trichotomy ay bz with hy | hy | hy
    · have hy1 := Int.le_of_lt hy
      rw [Int.min_eq_left hy1, Int.max_eq_right hy1] at E
      have X := Lib.hid (show B = inB py ay bz by rw [E, hi]; rfl)
      clear E
      go_enter Tryz.func136, Tryz.ntmps136
      go_wp2_with fail
      with_reducible refine (CT.out _).mono ?_
      rintro e w' ⟨rfl, y1, rfl⟩
      have hsy1 := y1.bel.size
      (try simp only [World.size_alloc, World.size_setCell, World.size_drew] at hsy1)
      go_wp2_with fail
      with_reducible refine (l01In_b _ hi).mono ?_
      rintro e w' ⟨rfl, y2, rfl⟩
      have hsy2 := y2.bel.size
      (try simp only [World.size_alloc, World.size_setCell, World.size_drew] at hsy2)
      go_wp2_with fail
      with_reducible refine (l01In_b _ rfl).mono ?_
      rintro e w' ⟨rfl, y3, rfl⟩
      have hsy3 := y3.bel.size
      (try simp only [World.size_alloc, World.size_setCell, World.size_drew] at hsy3)
      go_wp2_with fail
      go_ret
      exact .mk (by rw [X.out]; rfl) bb
    · subst hy
      rw [Int.min_self, Int.max_self] at E
      have X := Lib.hid (show B = inB py ay ay by rw [E, hi]; rfl)
      clear E
      go_enter Tryz.func136, Tryz.ntmps136
      go_wp2_with fail
      with_reducible refine (CT.out _).mono ?_
      rintro e w' ⟨rfl, y1, rfl⟩
      have hsy1 := y1.bel.size
      (try simp only [World.size_alloc, World.size_setCell, World.size_drew] at hsy1)
      go_wp2_with fail
      with_reducible refine (l01In_b _ hi).mono ?_
      rintro e w' ⟨rfl, y2, rfl⟩
      have hsy2 := y2.bel.size
      (try simp only [World.size_alloc, World.size_setCell, World.size_drew] at hsy2)
      go_wp2_with fail
      with_reducible refine (l01In_b _ rfl).mono ?_
      rintro e w' ⟨rfl, y3, rfl⟩
      have hsy3 := y3.bel.size
      (try simp only [World.size_alloc, World.size_setCell, World.size_drew] at hsy3)
      go_wp2_with fail
      go_ret
      exact .mk (by rw [X.out]; rfl) bb
    · have hy1 := Int.le_of_lt hy
      rw [Int.min_eq_right hy1, Int.max_eq_left hy1] at E
      have X := Lib.hid (show B = inB py bz ay by rw [E, hi]; rfl)
      clear E
      go_enter Tryz.func136, Tryz.ntmps136
      go_wp2_with fail
      with_reducible refine (CT.out _).mono ?_
      rintro e w' ⟨rfl, y1, rfl⟩
      have hsy1 := y1.bel.size
      (try simp only [World.size_alloc, World.size_setCell, World.size_drew] at hsy1)
      go_wp2_with fail
      with_reducible refine (l01In_b _ hi).mono ?_
      rintro e w' ⟨rfl, y2, rfl⟩
      have hsy2 := y2.bel.size
      (try simp only [World.size_alloc, World.size_setCell, World.size_drew] at hsy2)
      go_wp2_with fail
      with_reducible refine (l01In_b _ rfl).mono ?_
      rintro e w' ⟨rfl, y3, rfl⟩
      have hsy3 := y3.bel.size
      (try simp only [World.size_alloc, World.size_setCell, World.size_drew] at hsy3)
      go_wp2_with fail
      go_ret
      exact .mk (by rw [X.out]; rfl) bb
theorem sOn_b {a b p : Pt} {w : World} {B : Bool} (ha : PtB a) (hb : PtB b) (hp : PtB p) (h : isOnB a b p = B) : Calls Tryz.prog 136 #[ptV a, ptV b, ptV p] w (Ret w (.bool B)) := by subst h; exact sOn_any _ _ _ _ ha hb hp
end
end Go.Proofs.YtklcaphkfdlipaaGreatDoor
