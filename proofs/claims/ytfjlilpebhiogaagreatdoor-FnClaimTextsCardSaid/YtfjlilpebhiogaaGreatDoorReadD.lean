import Derived.Test.YtfjlilpebhiogaaGreatDoorReadN
/- Reading spans: the reference. -/
set_option linter.unusedSimpArgs false
set_option linter.unusedVariables false
namespace Go.Proofs.YtfjlilpebhiogaaGreatDoor
open Go.RowKit

/-- Where a row of texts lies. -/
theorem texts_at {w : World} {a : Option Addr} {L : List ByteArray} (h : Row w a (strCells L)) (hL : 0 < L.length) : ∃ b o, a = some ⟨b, o, none⟩ ∧ ∀ (j : Nat) (hj : j < L.length), w.cell? ⟨b, o + j, none⟩ = some (.string L[j]) := by
  obtain ⟨b, o, rfl, h0⟩ := h 0 _ (strCells_get hL)
  refine ⟨b, o, rfl, fun j hj => ?_⟩
  obtain ⟨b', o', e, hc⟩ := h j _ (strCells_get hj)
  injection e with e
  injection e with e1 e2
  subst e1; subst e2
  exact hc
set_option maxHeartbeats 4000000 in
theorem sReadSpan_no {s : ByteArray} {n : Nat} {xs : List Value} (hn : n ≠ 3) (hm : n ≤ 2000000) (w : World) (C0 : ∀ w, Calls Tryz.prog 33 #[.string s, .int .u8 46] w (RetOwn w 9 1 n xs id)) :
    Calls Tryz.prog 35 #[.string s] w (Ret w (.tuple #[.agg #[.int .i64 0, .int .i64 0], .int .i64 6])) := by
  have hne : ((n : Int) == 3) = false := by rw [beq_eq_false_iff_ne]; omega
  replace C0 := Lib.hid C0
  go_enter Tryz.func35, Tryz.ntmps35
  go_wp2_with fail
  with_reducible refine (C0.out _).mono ?_
  rintro e w' ⟨a1, c1, rfl, hown, y1, rfl⟩
  have hsy1 := y1.bel.size
  (try simp only [World.size_alloc, World.size_setCell, World.size_drew] at hsy1)
  have HO := Lib.hid (Owns.of hown)
  clear hown
  go_wp2_with fail
  refine bodyPost_ret (by simp [results, Tryz.results35, go_sem, ↓IntWalk.iteOmega, *]; try rfl) rfl ?_
  exact .mk rfl (by (repeat (first | (with_reducible exact Below.refl _ _) | (with_reducible assumption) | (with_reducible refine Later.out _ ?_) | (with_reducible refine bel_alloc ?_ _) | (with_reducible refine bel_drew ?_) | (with_reducible refine bel_drewN ?_ _) | (with_reducible refine bel_set ?_ ?_ _) | (with_reducible refine After.out _ ?_ ?_) | (dsimp only; omega) | omega | (simp only [World.size_alloc, World.size_setCell, World.size_drew]; omega))))
set_option maxHeartbeats 4000000 in
theorem sReadSpan_mid {s a m b : ByteArray} (hmid : (m.toList.isEmpty) = false) (w : World) (C0 : ∀ w, Calls Tryz.prog 33 #[.string s, .int .u8 46] w (RetOwn w 9 1 3 (strCells [a, m, b]) id)) :
    Calls Tryz.prog 35 #[.string s] w (Ret w (.tuple #[.agg #[.int .i64 0, .int .i64 0], .int .i64 6])) := by
  replace C0 := Lib.hid C0
  go_enter Tryz.func35, Tryz.ntmps35
  go_wp2_with fail
  with_reducible refine (C0.out _).mono ?_
  rintro e w' ⟨a1, c1, rfl, hown, y1, rfl⟩
  have hsy1 := y1.bel.size
  (try simp only [World.size_alloc, World.size_setCell, World.size_drew] at hsy1)
  have HO := Lib.hid (Owns.of hown)
  clear hown
  obtain ⟨b0, o, rfl, hq⟩ := texts_at HO.out.row (by simp)
  have q1 : y1.w.cell? ⟨b0, o + 1, none⟩ = some (.string m) := hq 1 (by simp)
  have hb0 := World.block_lt_of_cell? _ _ q1
  clear hq
  go_wp2_with fail
  refine bodyPost_ret (by simp [results, Tryz.results35, go_sem, ↓IntWalk.iteOmega, *]; try rfl) rfl ?_
  exact .mk rfl (by (repeat (first | (with_reducible exact Below.refl _ _) | (with_reducible assumption) | (with_reducible refine Later.out _ ?_) | (with_reducible refine bel_alloc ?_ _) | (with_reducible refine bel_drew ?_) | (with_reducible refine bel_drewN ?_ _) | (with_reducible refine bel_set ?_ ?_ _) | (with_reducible refine After.out _ ?_ ?_) | (dsimp only; omega) | omega | (simp only [World.size_alloc, World.size_setCell, World.size_drew]; omega))))
set_option maxRecDepth 4000 in
set_option maxHeartbeats 16000000 in
theorem sReadSpan_at {s a m b X : ByteArray} {F T : Int} {K1 K2 K3 K4 : Bool} (hmid : (m.toList.isEmpty) = true) (w : World) (C0 : ∀ w, Calls Tryz.prog 33 #[.string s, .int .u8 46] w (RetOwn w 9 1 3 (strCells [a, m, b]) id))
    (CA : ∀ w, Calls Tryz.prog 71 #[.string a] w (Ret w (.tuple #[.int .i64 F, .bool K1]))) (CB : ∀ w, Calls Tryz.prog 71 #[.string b] w (Ret w (.tuple #[.int .i64 T, .bool K2])))
    (CI : ∀ w, Calls Tryz.prog 63 #[.agg #[.int .i64 F, .int .i64 T]] w (Ret w (.bool K3))) (CX : K3 = true → ∀ w, Calls Tryz.prog 67 #[.agg #[.int .i64 F, .int .i64 T]] w (Ret w (.string X))) (h4 : (X.toList == s.toList) = K4) :
    Calls Tryz.prog 35 #[.string s] w (Ret w (.tuple #[.agg #[.int .i64 (if K1 && K2 && K3 && K4 then F else 0), .int .i64 (if K1 && K2 && K3 && K4 then T else 0)], .int .i64 (if K1 && K2 && K3 && K4 then 0 else 6)])) := by
  replace C0 := Lib.hid C0
  replace CA := Lib.hid CA
  replace CB := Lib.hid CB
  replace CI := Lib.hid CI
  replace CX := Lib.hid CX
  cases K1
  · go_enter Tryz.func35, Tryz.ntmps35
    go_wp2_with fail
    with_reducible refine (C0.out _).mono ?_
    rintro e w' ⟨a1, c1, rfl, hown, y1, rfl⟩
    have hsy1 := y1.bel.size
    (try simp only [World.size_alloc, World.size_setCell, World.size_drew] at hsy1)
    have HO := Lib.hid (Owns.of hown)
    clear hown
    obtain ⟨b0, o, rfl, hq⟩ := texts_at HO.out.row (by simp)
    have q0 : y1.w.cell? ⟨b0, o, none⟩ = some (.string a) := hq 0 (by simp)
    have q1 : y1.w.cell? ⟨b0, o + 1, none⟩ = some (.string m) := hq 1 (by simp)
    have q2 : y1.w.cell? ⟨b0, o + 2, none⟩ = some (.string b) := hq 2 (by simp)
    have hb0 := World.block_lt_of_cell? _ _ q1
    clear hq HO
    go_wp2_with fail
    with_reducible refine (CA.out _).mono ?_
    rintro e w' ⟨rfl, y2, rfl⟩
    have hsy2 := y2.bel.size
    (try simp only [World.size_alloc, World.size_setCell, World.size_drew] at hsy2)
    go_wp2_with fail
    with_reducible refine (CB.out _).mono ?_
    rintro e w' ⟨rfl, y3, rfl⟩
    have hsy3 := y3.bel.size
    (try simp only [World.size_alloc, World.size_setCell, World.size_drew] at hsy3)
    go_wp2_with fail
    refine bodyPost_ret (by simp [results, Tryz.results35, go_sem, ↓IntWalk.iteOmega, *]; try rfl) rfl ?_
    exact .mk rfl (by (repeat (first | (with_reducible exact Below.refl _ _) | (with_reducible assumption) | (with_reducible refine Later.out _ ?_) | (with_reducible refine bel_alloc ?_ _) | (with_reducible refine bel_drew ?_) | (with_reducible refine bel_drewN ?_ _) | (with_reducible refine bel_set ?_ ?_ _) | (with_reducible refine After.out _ ?_ ?_) | (dsimp only; omega) | omega | (simp only [World.size_alloc, World.size_setCell, World.size_drew]; omega))))
  cases K2
  · go_enter Tryz.func35, Tryz.ntmps35
    go_wp2_with fail
    with_reducible refine (C0.out _).mono ?_
    rintro e w' ⟨a1, c1, rfl, hown, y1, rfl⟩
    have hsy1 := y1.bel.size
    (try simp only [World.size_alloc, World.size_setCell, World.size_drew] at hsy1)
    have HO := Lib.hid (Owns.of hown)
    clear hown
    obtain ⟨b0, o, rfl, hq⟩ := texts_at HO.out.row (by simp)
    have q0 : y1.w.cell? ⟨b0, o, none⟩ = some (.string a) := hq 0 (by simp)
    have q1 : y1.w.cell? ⟨b0, o + 1, none⟩ = some (.string m) := hq 1 (by simp)
    have q2 : y1.w.cell? ⟨b0, o + 2, none⟩ = some (.string b) := hq 2 (by simp)
    have hb0 := World.block_lt_of_cell? _ _ q1
    clear hq HO
    go_wp2_with fail
    with_reducible refine (CA.out _).mono ?_
    rintro e w' ⟨rfl, y2, rfl⟩
    have hsy2 := y2.bel.size
    (try simp only [World.size_alloc, World.size_setCell, World.size_drew] at hsy2)
    go_wp2_with fail
    with_reducible refine (CB.out _).mono ?_
    rintro e w' ⟨rfl, y3, rfl⟩
    have hsy3 := y3.bel.size
    (try simp only [World.size_alloc, World.size_setCell, World.size_drew] at hsy3)
    go_wp2_with fail
    refine bodyPost_ret (by simp [results, Tryz.results35, go_sem, ↓IntWalk.iteOmega, *]; try rfl) rfl ?_
    exact .mk rfl (by (repeat (first | (with_reducible exact Below.refl _ _) | (with_reducible assumption) | (with_reducible refine Later.out _ ?_) | (with_reducible refine bel_alloc ?_ _) | (with_reducible refine bel_drew ?_) | (with_reducible refine bel_drewN ?_ _) | (with_reducible refine bel_set ?_ ?_ _) | (with_reducible refine After.out _ ?_ ?_) | (dsimp only; omega) | omega | (simp only [World.size_alloc, World.size_setCell, World.size_drew]; omega))))
  cases K3
  · go_enter Tryz.func35, Tryz.ntmps35
    go_wp2_with fail
    with_reducible refine (C0.out _).mono ?_
    rintro e w' ⟨a1, c1, rfl, hown, y1, rfl⟩
    have hsy1 := y1.bel.size
    (try simp only [World.size_alloc, World.size_setCell, World.size_drew] at hsy1)
    have HO := Lib.hid (Owns.of hown)
    clear hown
    obtain ⟨b0, o, rfl, hq⟩ := texts_at HO.out.row (by simp)
    have q0 : y1.w.cell? ⟨b0, o, none⟩ = some (.string a) := hq 0 (by simp)
    have q1 : y1.w.cell? ⟨b0, o + 1, none⟩ = some (.string m) := hq 1 (by simp)
    have q2 : y1.w.cell? ⟨b0, o + 2, none⟩ = some (.string b) := hq 2 (by simp)
    have hb0 := World.block_lt_of_cell? _ _ q1
    clear hq HO
    go_wp2_with fail
    with_reducible refine (CA.out _).mono ?_
    rintro e w' ⟨rfl, y2, rfl⟩
    have hsy2 := y2.bel.size
    (try simp only [World.size_alloc, World.size_setCell, World.size_drew] at hsy2)
    go_wp2_with fail
    with_reducible refine (CB.out _).mono ?_
    rintro e w' ⟨rfl, y3, rfl⟩
    have hsy3 := y3.bel.size
    (try simp only [World.size_alloc, World.size_setCell, World.size_drew] at hsy3)
    go_wp2_with fail
    with_reducible refine (CI.out _).mono ?_
    rintro e w' ⟨rfl, y4, rfl⟩
    have hsy4 := y4.bel.size
    (try simp only [World.size_alloc, World.size_setCell, World.size_drew] at hsy4)
    go_wp2_with fail
    refine bodyPost_ret (by simp [results, Tryz.results35, go_sem, ↓IntWalk.iteOmega, *]; try rfl) rfl ?_
    exact .mk rfl (by (repeat (first | (with_reducible exact Below.refl _ _) | (with_reducible assumption) | (with_reducible refine Later.out _ ?_) | (with_reducible refine bel_alloc ?_ _) | (with_reducible refine bel_drew ?_) | (with_reducible refine bel_drewN ?_ _) | (with_reducible refine bel_set ?_ ?_ _) | (with_reducible refine After.out _ ?_ ?_) | (dsimp only; omega) | omega | (simp only [World.size_alloc, World.size_setCell, World.size_drew]; omega))))
  replace CX := Lib.hid (CX.out rfl)
  cases K4
  · go_enter Tryz.func35, Tryz.ntmps35
    go_wp2_with fail
    with_reducible refine (C0.out _).mono ?_
    rintro e w' ⟨a1, c1, rfl, hown, y1, rfl⟩
    have hsy1 := y1.bel.size
    (try simp only [World.size_alloc, World.size_setCell, World.size_drew] at hsy1)
    have HO := Lib.hid (Owns.of hown)
    clear hown
    obtain ⟨b0, o, rfl, hq⟩ := texts_at HO.out.row (by simp)
    have q0 : y1.w.cell? ⟨b0, o, none⟩ = some (.string a) := hq 0 (by simp)
    have q1 : y1.w.cell? ⟨b0, o + 1, none⟩ = some (.string m) := hq 1 (by simp)
    have q2 : y1.w.cell? ⟨b0, o + 2, none⟩ = some (.string b) := hq 2 (by simp)
    have hb0 := World.block_lt_of_cell? _ _ q1
    clear hq HO
    go_wp2_with fail
    with_reducible refine (CA.out _).mono ?_
    rintro e w' ⟨rfl, y2, rfl⟩
    have hsy2 := y2.bel.size
    (try simp only [World.size_alloc, World.size_setCell, World.size_drew] at hsy2)
    go_wp2_with fail
    with_reducible refine (CB.out _).mono ?_
    rintro e w' ⟨rfl, y3, rfl⟩
    have hsy3 := y3.bel.size
    (try simp only [World.size_alloc, World.size_setCell, World.size_drew] at hsy3)
    go_wp2_with fail
    with_reducible refine (CI.out _).mono ?_
    rintro e w' ⟨rfl, y4, rfl⟩
    have hsy4 := y4.bel.size
    (try simp only [World.size_alloc, World.size_setCell, World.size_drew] at hsy4)
    go_wp2_with fail
    with_reducible refine (CX.out _).mono ?_
    rintro e w' ⟨rfl, y5, rfl⟩
    have hsy5 := y5.bel.size
    (try simp only [World.size_alloc, World.size_setCell, World.size_drew] at hsy5)
    go_wp2_with fail
    refine bodyPost_ret (by simp [results, Tryz.results35, go_sem, ↓IntWalk.iteOmega, *]; try rfl) rfl ?_
    exact .mk rfl (by (repeat (first | (with_reducible exact Below.refl _ _) | (with_reducible assumption) | (with_reducible refine Later.out _ ?_) | (with_reducible refine bel_alloc ?_ _) | (with_reducible refine bel_drew ?_) | (with_reducible refine bel_drewN ?_ _) | (with_reducible refine bel_set ?_ ?_ _) | (with_reducible refine After.out _ ?_ ?_) | (dsimp only; omega) | omega | (simp only [World.size_alloc, World.size_setCell, World.size_drew]; omega))))
  go_enter Tryz.func35, Tryz.ntmps35
  go_wp2_with fail
  with_reducible refine (C0.out _).mono ?_
  rintro e w' ⟨a1, c1, rfl, hown, y1, rfl⟩
  have hsy1 := y1.bel.size
  (try simp only [World.size_alloc, World.size_setCell, World.size_drew] at hsy1)
  have HO := Lib.hid (Owns.of hown)
  clear hown
  obtain ⟨b0, o, rfl, hq⟩ := texts_at HO.out.row (by simp)
  have q0 : y1.w.cell? ⟨b0, o, none⟩ = some (.string a) := hq 0 (by simp)
  have q1 : y1.w.cell? ⟨b0, o + 1, none⟩ = some (.string m) := hq 1 (by simp)
  have q2 : y1.w.cell? ⟨b0, o + 2, none⟩ = some (.string b) := hq 2 (by simp)
  have hb0 := World.block_lt_of_cell? _ _ q1
  clear hq HO
  go_wp2_with fail
  with_reducible refine (CA.out _).mono ?_
  rintro e w' ⟨rfl, y2, rfl⟩
  have hsy2 := y2.bel.size
  (try simp only [World.size_alloc, World.size_setCell, World.size_drew] at hsy2)
  go_wp2_with fail
  with_reducible refine (CB.out _).mono ?_
  rintro e w' ⟨rfl, y3, rfl⟩
  have hsy3 := y3.bel.size
  (try simp only [World.size_alloc, World.size_setCell, World.size_drew] at hsy3)
  go_wp2_with fail
  with_reducible refine (CI.out _).mono ?_
  rintro e w' ⟨rfl, y4, rfl⟩
  have hsy4 := y4.bel.size
  (try simp only [World.size_alloc, World.size_setCell, World.size_drew] at hsy4)
  go_wp2_with fail
  with_reducible refine (CX.out _).mono ?_
  rintro e w' ⟨rfl, y5, rfl⟩
  have hsy5 := y5.bel.size
  (try simp only [World.size_alloc, World.size_setCell, World.size_drew] at hsy5)
  go_wp2_with fail
  refine bodyPost_ret (by simp [results, Tryz.results35, go_sem, ↓IntWalk.iteOmega, *]; try rfl) rfl ?_
  exact .mk rfl (by (repeat (first | (with_reducible exact Below.refl _ _) | (with_reducible assumption) | (with_reducible refine Later.out _ ?_) | (with_reducible refine bel_alloc ?_ _) | (with_reducible refine bel_drew ?_) | (with_reducible refine bel_drewN ?_ _) | (with_reducible refine bel_set ?_ ?_ _) | (with_reducible refine After.out _ ?_ ?_) | (dsimp only; omega) | omega | (simp only [World.size_alloc, World.size_setCell, World.size_drew]; omega))))
theorem spn_no {s : ByteArray} (h : (piecesS 46 s).length ≠ 3) : spnK s = false ∧ spnF s = 0 ∧ spnT s = 0 := by
  have k : spnK s = false := by
    unfold spnK
    split
    · rename_i e; rw [e] at h; simp at h
    · rfl
  refine ⟨k, ?_, ?_⟩
  · unfold spnF; rw [k]; rfl
  · unfold spnT; rw [k]; rfl
theorem sReadSpan_any (s : ByteArray) (w : World) (hs : s.size ≤ 1048576) :
    Calls Tryz.prog 35 #[.string s] w (Ret w (.tuple #[.agg #[.int .i64 (spnF s), .int .i64 (spnT s)], .int .i64 (if spnK s then 0 else 6)])) := by
  have C0 : ∀ w, Calls Tryz.prog 33 #[.string s, .int .u8 46] w _ := fun w => l01Split_any s 46 w hs
  have hle := piecesS_length_le 46 s
  by_cases h3 : (piecesS 46 s).length = 3
  · have hsz : ∀ t ∈ piecesS 46 s, t.size ≤ 1048576 := fun t h => Nat.le_trans (piecesS_size h) hs
    obtain ⟨a, m, b, e⟩ : ∃ a m b, piecesS 46 s = [a, m, b] := by
      match hL : piecesS 46 s, h3 with
      | [a, m, b], _ => exact ⟨a, m, b, rfl⟩
    simp only [e] at C0 hsz
    have za := hsz a (by simp)
    have zb := hsz b (by simp)
    by_cases hm : m = ByteArray.empty
    · have k : spnK s = (sgnK a && sgnK b && spanB (sgnV a) (sgnV b) && decide (spanT (sgnV a) (sgnV b) = s)) := by
        unfold spnK
        rw [e]
        simp only [hm, decide_true, Bool.true_and]
      have h := sReadSpan_at (s := s) (a := a) (m := m) (b := b) (X := spanT (sgnV a) (sgnV b)) (K4 := decide (spanT (sgnV a) (sgnV b) = s)) (by rw [← decide_eq_emptyBytes]; exact decide_eq_true hm) w C0 (fun w => sSigned_any a w za) (fun w => sSigned_any b w zb) (fun w => sIsSpan_any _ _ w)
        (fun hk w => by
          unfold spanB at hk
          simp only [Bool.and_eq_true, inB_iff] at hk
          exact sSpanText_any _ _ w (by omega) (by omega)) (toList_eq _ _)
      rw [← k] at h
      have eF : spnF s = if spnK s then sgnV a else 0 := by unfold spnF; rw [e]
      have eT : spnT s = if spnK s then sgnV b else 0 := by unfold spnT; rw [e]
      rw [eF, eT]
      exact h
    · have k : spnK s = false := by
        unfold spnK
        rw [e]
        simp only [hm, decide_false, Bool.false_and]
      rw [show spnF s = 0 by unfold spnF; rw [k]; rfl, show spnT s = 0 by unfold spnT; rw [k]; rfl, k]
      exact sReadSpan_mid (by rw [← decide_eq_emptyBytes]; exact decide_eq_false hm) w C0
  · obtain ⟨k, e1, e2⟩ := spn_no h3
    rw [k, e1, e2]
    exact sReadSpan_no h3 (by omega) w C0
end Go.Proofs.YtfjlilpebhiogaaGreatDoor
