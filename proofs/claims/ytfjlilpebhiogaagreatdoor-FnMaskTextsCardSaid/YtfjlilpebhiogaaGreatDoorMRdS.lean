import Derived.Test.YtfjlilpebhiogaaGreatDoorMTextW
import Derived.Test.YtfjlilpebhiogaaGreatDoorMReadL
import Derived.Test.YtfjlilpebhiogaaGreatDoorRdN
import Derived.Test.YtfjlilpebhiogaaGreatDoorMkM
/- ReadMask, the reference's way: points, and plain facts. -/
set_option linter.unusedSimpArgs false
set_option linter.unusedVariables false
namespace Go.Proofs.YtfjlilpebhiogaaGreatDoor
open Go.RowKit
theorem strs_at {w : World} {b o : Nat} {L : List ByteArray} (h : Row w (some ⟨b, o, none⟩) (strCells L)) {k : Nat} (hk : k < L.length) : w.cell? ⟨b, o + k, none⟩ = some (.string L[k]) := by
  obtain ⟨b', o', e, hc⟩ := h k _ (strCells_get hk)
  cases e
  exact hc
set_option maxHeartbeats 4000000 in
theorem sReadPoint_no {s : ByteArray} {n : Nat} {xs : List Value} (hn : n ≠ 2) (hm : n ≤ 2000000) (w : World) (C0 : ∀ w, Calls Tryz.prog 33 #[.string s, .int .u8 58] w (RetOwn w 9 1 n xs id)) :
    Calls Tryz.prog 52 #[.string s] w (Ret w (.tuple #[.agg #[.int .i64 0, .int .i64 0], .int .i64 6])) := by
  have hne : ((n : Int) == 2) = false := by rw [beq_eq_false_iff_ne]; omega
  replace C0 := Lib.hid C0
  go_enter Tryz.func52, Tryz.ntmps52
  go_wp2_with fail
  with_reducible refine (C0.out _).mono ?_
  rintro e w' ⟨a1, c1, rfl, hown, y1, rfl⟩
  have hsy1 := y1.bel.size
  (try simp only [World.size_alloc, World.size_setCell, World.size_drew] at hsy1)
  have HO := Lib.hid (Owns.of hown)
  clear hown
  go_wp2_with fail
  refine bodyPost_ret (by simp [results, Tryz.results52, go_sem, ↓IntWalk.iteOmega, *]; try rfl) rfl ?_
  exact .mk rfl (by (repeat (first | (with_reducible exact Below.refl _ _) | (with_reducible assumption) | (with_reducible refine Later.out _ ?_) | (with_reducible refine bel_alloc ?_ _) | (with_reducible refine bel_drew ?_) | (with_reducible refine bel_drewN ?_ _) | (with_reducible refine bel_set ?_ ?_ _) | (with_reducible refine After.out _ ?_ ?_) | (dsimp only; omega) | omega | (simp only [World.size_alloc, World.size_setCell, World.size_drew]; omega))))
set_option maxHeartbeats 8000000 in
theorem sReadPoint_at {s a b X : ByteArray} {F T : Int} {KA KB KI K4 : Bool} (w : World) (C0 : ∀ w, Calls Tryz.prog 33 #[.string s, .int .u8 58] w (RetOwn w 9 1 2 (strCells [a, b]) id))
    (CA : ∀ w, Calls Tryz.prog 71 #[.string a] w (Ret w (.tuple #[.int .i64 F, .bool KA]))) (CB : ∀ w, Calls Tryz.prog 71 #[.string b] w (Ret w (.tuple #[.int .i64 T, .bool KB])))
    (CI : ∀ w, Calls Tryz.prog 78 #[.agg #[.int .i64 F, .int .i64 T]] w (Ret w (.bool KI))) (CX : KI = true → ∀ w, Calls Tryz.prog 79 #[.agg #[.int .i64 F, .int .i64 T]] w (Ret w (.string X))) (h4 : (X.toList == s.toList) = K4) :
    Calls Tryz.prog 52 #[.string s] w (Ret w (.tuple #[.agg #[.int .i64 (if KA && KB && KI && K4 then F else 0), .int .i64 (if KA && KB && KI && K4 then T else 0)], .int .i64 (if KA && KB && KI && K4 then 0 else 6)])) := by
  replace C0 := Lib.hid C0
  replace CA := Lib.hid CA
  replace CB := Lib.hid CB
  replace CI := Lib.hid CI
  replace CX := Lib.hid CX
  cases KA
  · go_enter Tryz.func52, Tryz.ntmps52
    go_wp2_with fail
    with_reducible refine (C0.out _).mono ?_
    rintro e w' ⟨a1, c1, rfl, hown, y1, rfl⟩
    have hsy1 := y1.bel.size
    (try simp only [World.size_alloc, World.size_setCell, World.size_drew] at hsy1)
    have HO := Lib.hid (Owns.of hown)
    clear hown
    obtain ⟨g, rfl, g1, g2, -, -⟩ := HO.out.at_ (j := 0) (by omega)
    have q0 : y1.w.cell? ⟨g, 0, none⟩ = some (.string a) := strs_at HO.out.row (k := 0) (by simp)
    have q1 : y1.w.cell? ⟨g, 1, none⟩ = some (.string b) := strs_at HO.out.row (k := 1) (by simp)
    go_wp2_with fail
    with_reducible refine (CA.out _).mono ?_
    rintro e w' ⟨rfl, y2, rfl⟩
    have hsy2 := y2.bel.size
    (try simp only [World.size_alloc, World.size_setCell, World.size_drew] at hsy2)
    go_wp2_with fail
    with_reducible refine (CB.out _).mono ?_
    rintro e w' ⟨rfl, y3, rfl⟩
    have hsy3 := y3.bel.size
    (try simp only [World.size_alloc, World.size_setCell, World.size_drew] at hsy3)
    go_wp2_with fail
    refine bodyPost_ret (by simp [results, Tryz.results52, go_sem, ↓IntWalk.iteOmega, *]; try rfl) rfl ?_
    exact .mk rfl (by (repeat (first | (with_reducible exact Below.refl _ _) | (with_reducible assumption) | (with_reducible refine Later.out _ ?_) | (with_reducible refine bel_alloc ?_ _) | (with_reducible refine bel_drew ?_) | (with_reducible refine bel_drewN ?_ _) | (with_reducible refine bel_set ?_ ?_ _) | (with_reducible refine After.out _ ?_ ?_) | (dsimp only; omega) | omega | (simp only [World.size_alloc, World.size_setCell, World.size_drew]; omega))))
  cases KB
  · go_enter Tryz.func52, Tryz.ntmps52
    go_wp2_with fail
    with_reducible refine (C0.out _).mono ?_
    rintro e w' ⟨a1, c1, rfl, hown, y1, rfl⟩
    have hsy1 := y1.bel.size
    (try simp only [World.size_alloc, World.size_setCell, World.size_drew] at hsy1)
    have HO := Lib.hid (Owns.of hown)
    clear hown
    obtain ⟨g, rfl, g1, g2, -, -⟩ := HO.out.at_ (j := 0) (by omega)
    have q0 : y1.w.cell? ⟨g, 0, none⟩ = some (.string a) := strs_at HO.out.row (k := 0) (by simp)
    have q1 : y1.w.cell? ⟨g, 1, none⟩ = some (.string b) := strs_at HO.out.row (k := 1) (by simp)
    go_wp2_with fail
    with_reducible refine (CA.out _).mono ?_
    rintro e w' ⟨rfl, y2, rfl⟩
    have hsy2 := y2.bel.size
    (try simp only [World.size_alloc, World.size_setCell, World.size_drew] at hsy2)
    go_wp2_with fail
    with_reducible refine (CB.out _).mono ?_
    rintro e w' ⟨rfl, y3, rfl⟩
    have hsy3 := y3.bel.size
    (try simp only [World.size_alloc, World.size_setCell, World.size_drew] at hsy3)
    go_wp2_with fail
    refine bodyPost_ret (by simp [results, Tryz.results52, go_sem, ↓IntWalk.iteOmega, *]; try rfl) rfl ?_
    exact .mk rfl (by (repeat (first | (with_reducible exact Below.refl _ _) | (with_reducible assumption) | (with_reducible refine Later.out _ ?_) | (with_reducible refine bel_alloc ?_ _) | (with_reducible refine bel_drew ?_) | (with_reducible refine bel_drewN ?_ _) | (with_reducible refine bel_set ?_ ?_ _) | (with_reducible refine After.out _ ?_ ?_) | (dsimp only; omega) | omega | (simp only [World.size_alloc, World.size_setCell, World.size_drew]; omega))))
  cases KI
  · go_enter Tryz.func52, Tryz.ntmps52
    go_wp2_with fail
    with_reducible refine (C0.out _).mono ?_
    rintro e w' ⟨a1, c1, rfl, hown, y1, rfl⟩
    have hsy1 := y1.bel.size
    (try simp only [World.size_alloc, World.size_setCell, World.size_drew] at hsy1)
    have HO := Lib.hid (Owns.of hown)
    clear hown
    obtain ⟨g, rfl, g1, g2, -, -⟩ := HO.out.at_ (j := 0) (by omega)
    have q0 : y1.w.cell? ⟨g, 0, none⟩ = some (.string a) := strs_at HO.out.row (k := 0) (by simp)
    have q1 : y1.w.cell? ⟨g, 1, none⟩ = some (.string b) := strs_at HO.out.row (k := 1) (by simp)
    go_wp2_with fail
    with_reducible refine (CA.out _).mono ?_
    rintro e w' ⟨rfl, y2, rfl⟩
    have hsy2 := y2.bel.size
    (try simp only [World.size_alloc, World.size_setCell, World.size_drew] at hsy2)
    go_wp2_with fail
    with_reducible refine (CB.out _).mono ?_
    rintro e w' ⟨rfl, y3, rfl⟩
    have hsy3 := y3.bel.size
    (try simp only [World.size_alloc, World.size_setCell, World.size_drew] at hsy3)
    go_wp2_with fail
    with_reducible refine (CI.out _).mono ?_
    rintro e w' ⟨rfl, y4, rfl⟩
    have hsy4 := y4.bel.size
    (try simp only [World.size_alloc, World.size_setCell, World.size_drew] at hsy4)
    go_wp2_with fail
    refine bodyPost_ret (by simp [results, Tryz.results52, go_sem, ↓IntWalk.iteOmega, *]; try rfl) rfl ?_
    exact .mk rfl (by (repeat (first | (with_reducible exact Below.refl _ _) | (with_reducible assumption) | (with_reducible refine Later.out _ ?_) | (with_reducible refine bel_alloc ?_ _) | (with_reducible refine bel_drew ?_) | (with_reducible refine bel_drewN ?_ _) | (with_reducible refine bel_set ?_ ?_ _) | (with_reducible refine After.out _ ?_ ?_) | (dsimp only; omega) | omega | (simp only [World.size_alloc, World.size_setCell, World.size_drew]; omega))))
  replace CX := Lib.hid (CX.out rfl)
  cases K4
  all_goals
    go_enter Tryz.func52, Tryz.ntmps52
    go_wp2_with fail
    with_reducible refine (C0.out _).mono ?_
    rintro e w' ⟨a1, c1, rfl, hown, y1, rfl⟩
    have hsy1 := y1.bel.size
    (try simp only [World.size_alloc, World.size_setCell, World.size_drew] at hsy1)
    have HO := Lib.hid (Owns.of hown)
    clear hown
    obtain ⟨g, rfl, g1, g2, -, -⟩ := HO.out.at_ (j := 0) (by omega)
    have q0 : y1.w.cell? ⟨g, 0, none⟩ = some (.string a) := strs_at HO.out.row (k := 0) (by simp)
    have q1 : y1.w.cell? ⟨g, 1, none⟩ = some (.string b) := strs_at HO.out.row (k := 1) (by simp)
    go_wp2_with fail
    with_reducible refine (CA.out _).mono ?_
    rintro e w' ⟨rfl, y2, rfl⟩
    have hsy2 := y2.bel.size
    (try simp only [World.size_alloc, World.size_setCell, World.size_drew] at hsy2)
    go_wp2_with fail
    with_reducible refine (CB.out _).mono ?_
    rintro e w' ⟨rfl, y3, rfl⟩
    have hsy3 := y3.bel.size
    (try simp only [World.size_alloc, World.size_setCell, World.size_drew] at hsy3)
    go_wp2_with fail
    with_reducible refine (CI.out _).mono ?_
    rintro e w' ⟨rfl, y4, rfl⟩
    have hsy4 := y4.bel.size
    (try simp only [World.size_alloc, World.size_setCell, World.size_drew] at hsy4)
    go_wp2_with fail
    with_reducible refine (CX.out _).mono ?_
    rintro e w' ⟨rfl, y5, rfl⟩
    have hsy5 := y5.bel.size
    (try simp only [World.size_alloc, World.size_setCell, World.size_drew] at hsy5)
    go_wp2_with fail
    refine bodyPost_ret (by simp [results, Tryz.results52, go_sem, ↓IntWalk.iteOmega, *]; try rfl) rfl ?_
    exact .mk rfl (by (repeat (first | (with_reducible exact Below.refl _ _) | (with_reducible assumption) | (with_reducible refine Later.out _ ?_) | (with_reducible refine bel_alloc ?_ _) | (with_reducible refine bel_drew ?_) | (with_reducible refine bel_drewN ?_ _) | (with_reducible refine bel_set ?_ ?_ _) | (with_reducible refine After.out _ ?_ ?_) | (dsimp only; omega) | omega | (simp only [World.size_alloc, World.size_setCell, World.size_drew]; omega))))
theorem ptS_no {s : ByteArray} (h : (piecesS 58 s).length ≠ 2) : ptS s = false ∧ ptSx s = 0 ∧ ptSy s = 0 := by
  have k : ptS s = false := by
    unfold ptS
    split
    · rename_i e; rw [e] at h; simp at h
    · rfl
  refine ⟨k, ?_, ?_⟩
  · unfold ptSx; rw [k]; rfl
  · unfold ptSy; rw [k]; rfl
theorem two_of {s : ByteArray} (h : (piecesS 58 s).length = 2) : ∃ a b, piecesS 58 s = [a, b] := by
  match hL : piecesS 58 s, h with
  | [a, b], _ => exact ⟨a, b, rfl⟩
theorem sReadPoint_any (s : ByteArray) (w : World) (hs : s.size ≤ 1048576) :
    Calls Tryz.prog 52 #[.string s] w (Ret w (.tuple #[.agg #[.int .i64 (ptSx s), .int .i64 (ptSy s)], .int .i64 (if ptS s then 0 else 6)])) := by
  have C0 : ∀ w, Calls Tryz.prog 33 #[.string s, .int .u8 58] w _ := fun w => l01Split_any s 58 w hs
  have hle := piecesS_length_le 58 s
  by_cases h2 : (piecesS 58 s).length = 2
  · have hsz : ∀ t ∈ piecesS 58 s, t.size ≤ 1048576 := fun t h => Nat.le_trans (piecesS_size h) hs
    obtain ⟨a, b, hp⟩ := two_of h2
    simp only [hp] at C0 hsz
    have za := hsz a (by simp)
    have zb := hsz b (by simp)
    have e0 : ptS s = (sgnK a && sgnK b && isPointB (sgnV a) (sgnV b) && decide (ptT (sgnV a) (sgnV b) = s)) := by unfold ptS; rw [hp]
    have e1 : ptSx s = if sgnK a && sgnK b && isPointB (sgnV a) (sgnV b) && decide (ptT (sgnV a) (sgnV b) = s) then sgnV a else 0 := by unfold ptSx; rw [e0, hp]
    have e2 : ptSy s = if sgnK a && sgnK b && isPointB (sgnV a) (sgnV b) && decide (ptT (sgnV a) (sgnV b) = s) then sgnV b else 0 := by unfold ptSy; rw [e0, hp]
    rw [e1, e2, e0]
    exact sReadPoint_at w C0 (fun w => sSigned_any a w za) (fun w => sSigned_any b w zb) (fun w => sIsPoint_any _ _ w) (fun hk w => by
      obtain ⟨b1, b2, b3, b4⟩ := isPointB_iff.1 hk
      exact sPointText_any _ _ w ⟨b1, b2⟩ ⟨b3, b4⟩) (toList_eq _ _)
  · obtain ⟨e1, e2, e3⟩ := ptS_no h2
    rw [e1, e2, e3]
    exact sReadPoint_no h2 (by omega) w C0
/-- The cells that the words of a text tell, the top row first. -/
def FillTo (R : List ByteArray) (W k m : Nat) (l : List Bool) : Prop :=
  ∀ j x, x < W → (j < k ∨ (j = k ∧ x < m)) → ∀ hj : j < R.length, ∀ hx : x < (wordC R[j]).length, l[(R.length - 1 - j) * W + x]? = some (wordC R[j])[x]
theorem fill_zero (R : List ByteArray) (W : Nat) (l : List Bool) : FillTo R W 0 0 l := fun j x hx h => absurd h (by omega)
theorem fill_next {R : List ByteArray} {W k : Nat} {l : List Bool} (h : FillTo R W k W l) : FillTo R W (k + 1) 0 l := fun j x hx hj => h j x hx (by omega)
theorem fill_inj {W a b x y : Nat} (hx : x < W) (hy : y < W) (h : a * W + x = b * W + y) : a = b ∧ x = y := by
  have h1 : (a * W + x) / W = a := by rw [Nat.mul_comm, Nat.mul_add_div (by omega), Nat.div_eq_of_lt hx]; omega
  have h2 : (b * W + y) / W = b := by rw [Nat.mul_comm, Nat.mul_add_div (by omega), Nat.div_eq_of_lt hy]; omega
  have h3 : a = b := by rw [← h1, h, h2]
  subst h3
  exact ⟨rfl, by omega⟩
theorem fill_set {R : List ByteArray} {W k m : Nat} {l : List Bool} (h : FillTo R W k m l) (hk : k < R.length) (hm : m < W) (hw : m < (wordC R[k]).length) (hl : l.length = R.length * W) : FillTo R W k (m + 1) (l.set ((R.length - 1 - k) * W + m) (wordC R[k])[m]) := fun j x hx hj hjR hxj => by
  by_cases hjk : j = k ∧ x = m
  · obtain ⟨rfl, rfl⟩ := hjk
    have : (R.length - 1 - j) * W + x < l.length := by
      rw [hl]
      have h1 := Nat.mul_le_mul_right W (show (R.length - 1 - j) + 1 ≤ R.length by omega)
      rw [Nat.succ_mul] at h1
      omega
    simp [this]
  · have hne : (R.length - 1 - k) * W + m ≠ (R.length - 1 - j) * W + x := fun he => by
      obtain ⟨h1, h2⟩ := fill_inj hm hx he
      exact hjk ⟨by omega, h2.symm⟩
    rw [List.getElem?_set_ne hne]
    exact h j x hx (by omega) hjR hxj
theorem fill_all {R : List ByteArray} {W : Nat} {l : List Bool} (h : FillTo R W R.length 0 l) (hl : l.length = R.length * W) (hW : 0 < W) (hR : ∀ (j : Nat) (h : j < R.length), R[j].size = W) : l = cellsR R := by
  have hL : ∀ x ∈ R.reverse.map wordC, x.length = W := fun x hx => by
    simp only [List.mem_map, List.mem_reverse] at hx
    obtain ⟨t, ht, rfl⟩ := hx
    obtain ⟨j, hj, rfl⟩ := List.getElem_of_mem ht
    rw [wordC_len, hR j hj]
  have hlen : (cellsR R).length = R.length * W := by
    have e : ∀ (L : List (List Bool)), (∀ x ∈ L, x.length = W) → L.flatten.length = L.length * W := fun L => by
      induction L with
      | nil => intro _; simp
      | cons a L ih =>
        intro h
        rw [List.flatten_cons, List.length_append, ih fun x hx => h x (by simp [hx]), h a (by simp), List.length_cons, Nat.succ_mul]
        omega
    unfold cellsR
    rw [e _ hL]
    simp
  apply List.ext_getElem?
  intro i
  by_cases hi : i < R.length * W
  · have hd : i / W < R.length := (Nat.div_lt_iff_lt_mul hW).2 hi
    have hmod : i % W < W := Nat.mod_lt _ hW
    have he : (i / W) * W + i % W = i := by rw [Nat.mul_comm]; exact Nat.div_add_mod i W
    obtain ⟨q, hq⟩ : ∃ q, i / W = q := ⟨_, rfl⟩
    obtain ⟨r, hr⟩ : ∃ r, i % W = r := ⟨_, rfl⟩
    rw [hq] at hd he
    rw [hr] at hmod he
    clear hq hr
    have hj : R.length - 1 - q < R.length := by omega
    have h1 := h (R.length - 1 - q) (r) hmod (.inl hj) hj (by rw [wordC_len, hR _ hj]; exact hmod)
    rw [show R.length - 1 - (R.length - 1 - q) = q by omega, he] at h1
    rw [h1]
    have h2 : q < (R.reverse.map wordC).length := by simpa using hd
    have h3 := flat_row (W := W) (R.reverse.map wordC) (q) h2 hL
    have h4 := rowL_get (W := W) (l := cellsR R) (r := q) (k := r) hmod (by
      rw [hlen]
      have h5 := Nat.mul_le_mul_right W (show q + 1 ≤ R.length by omega)
      rw [Nat.succ_mul] at h5
      exact h5)
    obtain ⟨h5, h6⟩ := h4
    have h7 : rowL W (cellsR R) (q) = (R.reverse.map wordC)[q] := h3
    rw [h7] at h6
    simp only [he] at h6
    rw [List.getElem?_eq_getElem (by omega : i < (cellsR R).length), ← h6]
    simp only [List.getElem_map, List.getElem_reverse]
    rw [List.getElem?_eq_getElem]
  · rw [List.getElem?_eq_none (by omega), List.getElem?_eq_none (by omega)]
end Go.Proofs.YtfjlilpebhiogaaGreatDoor
