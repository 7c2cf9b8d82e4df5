import Derived.Test.YtemfhcmeeldngaaGreatDoorDrV
import Derived.Test.YtemfhcmeeldngaaGreatDoorParsR
/- The draws of the law on decoding. -/
set_option linter.unusedSimpArgs false
set_option linter.unusedVariables false
namespace Go.Proofs.YtemfhcmeeldngaaGreatDoor
open Go.RowKit
/-- Some numbers that a draw made. -/
def RetSgD (w : World) (g : Nat) (e : Ending) (w' : World) : Prop :=
  ∃ (l : List Int) (a : Option Addr) (n c : Nat), e = .returned (.slice a n c) ∧ l.length = n ∧ n ≤ 64 ∧ n ≤ c ∧ c ≤ maxLen ∧ ∃ z : After w g (g + 1), w' = z.w ∧ SrcOk z.w g ∧ Row z.w a (intCells l)
theorem RetSgD.mk {w w' : World} {g : Nat} {e : Ending} {l : List Int} {a : Option Addr} {n c : Nat} (he : e = .returned (.slice a n c)) (hl : l.length = n) (hn : n ≤ 64) (hc : n ≤ c ∧ c ≤ maxLen) (hb : Between g (g + 1) w w') (hs : SrcOk w' g) (hr : Row w' a (intCells l)) : RetSgD w g e w' := ⟨l, a, n, c, he, hl, hn, hc.1, hc.2, ⟨w', hb⟩, rfl, hs, hr⟩
theorem row_made (w : World) (n : Nat) : Row (w.alloc (.cells (madeCells #[.int .i64 0] n) 2)) (some ⟨w.heap.size, 0, none⟩) (intCells (List.replicate n 0)) := by
  refine Row.madeAt rfl ?_
  rw [toList_madeCells_one]
  simp [intCells]
set_option maxRecDepth 8000 in
set_option maxHeartbeats 8000000 in
theorem drawSg_any (g : Nat) (w : World) (h : SrcOk w g) : Calls Tryz.prog 21 #[.pointer (some ⟨g, 0, none⟩)] w (RetSgD w g) := by
  have hg := h.lt
  have H0 := Lib.hid h
  obtain ⟨ii, j1, j2, j3, j4⟩ := info_i64'
  have Jii := Lib.hid (And.intro j1 (And.intro j2 (And.intro j3 j4)))
  have hO0 : Owns (w.alloc (.cells #[] 2)) w.heap.size (w.heap.size + 1) 2 1 0 (some ⟨w.heap.size, 0, none⟩) 0 (intCells []) := by
    have := Owns.of (World.ownsRow_lit (base := w.heap.size) (e := 2) (size := 1) w #[] 0 (Nat.le_refl _) (by unfold maxLen; omega) rfl)
    rw [show intCells [] = [] from rfl]
    simpa [World.size_alloc] using this
  have hO1 := owns_wide hO0 (Nat.le_refl _) (show w.heap.size + 1 ≤ (w.alloc (.cells #[] 2)).heap.size by simp)
  replace hO1 := Lib.hid hO1
  clear h j1 j2 j3 j4 hO0
  go_enter Tryz.func21, Tryz.ntmps21
  go_wp2_with fail
  with_reducible refine (next_any g 6 _ (by (repeat (first | (with_reducible exact H0.out) | (with_reducible refine SrcOk.alloc ?_ _) | (with_reducible refine SrcOk.set ?_ ?_ _) | (with_reducible refine SrcOk.drewN ?_ _) | (with_reducible refine SrcOk.drew ?_) | (with_reducible refine SrcOk.later _ ?_) | (with_reducible refine SrcOk.after _ ?_ ?_) | (dsimp only; omega) | omega | ((try simp only [World.size_alloc, World.size_setCell, World.size_drew]); omega))))).mono ?_
  rintro e w' ⟨k, hdraw, rfl, z1, rfl, hsrc⟩
  have hsz1 := z1.btw.size
  (try simp only [World.size_alloc, World.size_setCell, World.size_drew] at hsz1)
  have H1 := Lib.hid hsrc
  clear hsrc
  obtain ⟨k0, k1⟩ := hdraw
  obtain ⟨m0, rfl⟩ := Int.eq_ofNat_of_zero_le k0
  have hk6 : m0 < 6 := by omega
  have hbt1 : Between g (g + 1) w z1.w := by (repeat (first | (with_reducible exact Between.refl _ _ _) | (with_reducible refine Between.drew ?_) | (with_reducible refine Between.drewN ?_ _) | (with_reducible refine btw_own ?_ ?_ _) | (with_reducible refine btw_later _ ?_) | (with_reducible refine btw_alloc ?_ _) | (with_reducible refine btw_after _ ?_) | (with_reducible refine btw_beyond _ ?_ ?_) | (with_reducible refine Aft.btw _ ?_ ?_) | (with_reducible assumption) | (dsimp only; omega) | omega | ((try simp only [World.size_alloc, World.size_setCell, World.size_drew]); omega)))
  have ho1 : Owns z1.w w.heap.size z1.w.heap.size 2 1 0 (some ⟨w.heap.size, 0, none⟩) 0 (intCells []) := by
    refine owns_wide (lo := w.heap.size) (hi := (w.alloc (.cells #[] 2)).heap.size) ?_ (Nat.le_refl _) (by simp only [World.size_alloc]; omega)
    (repeat (first | (with_reducible exact hO1.out) | (with_reducible refine owns_after _ ?_ ?_) | (with_reducible refine owns_later _ ?_ ?_) | (with_reducible refine owns_alloc ?_ _) | (with_reducible refine owns_set ?_ ?_ _) | (with_reducible refine Owns.drewN ?_ _) | (with_reducible refine owns_drew ?_) | (dsimp only; omega) | omega | ((try simp only [World.size_alloc, World.size_setCell, World.size_drew]); omega)))
  replace hbt1 := Lib.hid hbt1
  replace ho1 := Lib.hid ho1
  clear hO1
  go_wp2_with fail
  go_loopw [3, 4] (fun o nv wr => ∃ (S : List Int) (k : Nat) (a : Option Addr) (c : Nat), S.length + k ≤ 7 ∧ nv = .int .i64 k ∧ o = .slice a S.length c ∧ Owns wr w.heap.size wr.heap.size 2 1 S.length a c (intCells S) ∧ SrcOk wr g ∧ Between g (g + 1) w wr) (fun _ nv _ => (intOf nv).toNat)
  case atStart => exact ⟨[], 1 + m0, _, _, by simp only [List.length_nil]; omega, by go_num, rfl, ho1.out, H1.out, hbt1.out⟩
  case round =>
    obtain ⟨S, k, a, c, hSk, rfl, rfl, ho, hs, hb⟩ := hrel
    obtain ⟨q, rfl⟩ := AfterC.mk hb
    have hqs := q.btw.size
    clear hb ho1 hbt1 H1
    replace hs := Lib.hid hs
    replace ho := Lib.hid ho
    by_cases hlt : 0 < k
    · have hi1 : (0 : Int) < (k : Int) := by omega
      go_wp2_with fail
      with_reducible refine (next_any g 5 _ (by (repeat (first | (with_reducible exact hs.out) | (with_reducible refine SrcOk.alloc ?_ _) | (with_reducible refine SrcOk.set ?_ ?_ _) | (with_reducible refine SrcOk.drewN ?_ _) | (with_reducible refine SrcOk.drew ?_) | (with_reducible refine SrcOk.later _ ?_) | (with_reducible refine SrcOk.after _ ?_ ?_) | (dsimp only; omega) | omega | ((try simp only [World.size_alloc, World.size_setCell, World.size_drew]); omega))))).mono ?_
      rintro e w' ⟨p, hdraw, rfl, z5, rfl, hsrc⟩
      have hsz5 := z5.btw.size
      (try simp only [World.size_alloc, World.size_setCell, World.size_drew] at hsz5)
      have H5 := Lib.hid hsrc
      clear hsrc
      obtain ⟨p0, p1⟩ := hdraw
      go_wp2_with (at_builtin; (refine wpList_append_apart _ rfl _ _ _ rfl 2 ii _ 1 8 Tryz.underlying25 Jii.out.1 Jii.out.2.1 Jii.out.2.2.1 Jii.out.2.2.2 rfl (by decide) (w.heap.size) (q.w.heap.size) ?qb1 _ _ _ (intCells S) rfl ?qb2 ?qb8 _ _ _ ([.int .i64 p]) rfl ?qb3 ?qb4 ?qb5 ?qb6 ?qb7 ?_); (case qb1 => (first | (dsimp only; omega) | omega | (simp only [World.size_alloc, World.size_setCell, World.size_drew]; omega))); (case qb2 => exact ((by (repeat (first | (with_reducible exact ho.out) | (with_reducible refine owns_after _ ?_ ?_) | (with_reducible refine owns_later _ ?_ ?_) | (with_reducible refine owns_alloc ?_ _) | (with_reducible refine owns_set ?_ ?_ _) | (with_reducible refine Owns.drewN ?_ _) | (with_reducible refine owns_drew ?_) | (dsimp only; omega) | omega | ((try simp only [World.size_alloc, World.size_setCell, World.size_drew]); omega))) : Owns _ w.heap.size q.w.heap.size 2 1 S.length a c (intCells S))).own); (case qb8 => exact ho.out.lt); (case qb3 => (first | rfl | (simp [boolCells]; done) | (simp [intCells]; done) | (simp; done) | (first | omega | (simp only [List.length_append, List.length_cons, List.length_nil]; omega)))); (case qb4 => exact Row.made _ _ _); (case qb5 => exact one_intU _); (case qb6 => (unfold maxLen; (first | omega | (simp only [List.length_append, List.length_cons, List.length_nil]; omega)))); (case qb7 => (first | omega | (simp only [List.length_append, List.length_cons, List.length_nil]; omega))); intro a9 c9 x9 hown9 hat9; replace hat9 := Lib.hid hat9; replace hown9 := Lib.hid hown9; have hs9 := x9.btw.size; (try simp only [World.size_alloc, World.size_setCell, World.size_drew] at hs9))
      go_roundw
      case rel =>
        refine ⟨S ++ [p], k - 1, a9, c9, by simp; omega, by go_num, by simp, ?_, ?_, ?_⟩
        · rw [intCells_snoc, show (S ++ [p]).length = S.length + 1 by simp]
          exact Owns.of hown9.out
        · (repeat (first | (with_reducible exact H5.out) | (with_reducible refine SrcOk.alloc ?_ _) | (with_reducible refine SrcOk.set ?_ ?_ _) | (with_reducible refine SrcOk.drewN ?_ _) | (with_reducible refine SrcOk.drew ?_) | (with_reducible refine SrcOk.later _ ?_) | (with_reducible refine SrcOk.after _ ?_ ?_) | (dsimp only; omega) | omega | ((try simp only [World.size_alloc, World.size_setCell, World.size_drew]); omega)))
        · (repeat (first | (with_reducible exact Between.refl _ _ _) | (with_reducible refine Between.drew ?_) | (with_reducible refine Between.drewN ?_ _) | (with_reducible refine btw_own ?_ ?_ _) | (with_reducible refine btw_later _ ?_) | (with_reducible refine btw_alloc ?_ _) | (with_reducible refine btw_after _ ?_) | (with_reducible refine btw_beyond _ ?_ ?_) | (with_reducible refine Aft.btw _ ?_ ?_) | (with_reducible assumption) | (dsimp only; omega) | omega | ((try simp only [World.size_alloc, World.size_setCell, World.size_drew]); omega)))
      case measure => first | (simp [intOf]; done) | (simp [intOf]; omega) | omega
    · obtain rfl : k = 0 := by omega
      have hcap := ownsRow_cap ho.out.own
      go_wp2_with fail
      with_reducible refine (next_any g 24 _ (by (repeat (first | (with_reducible exact hs.out) | (with_reducible refine SrcOk.alloc ?_ _) | (with_reducible refine SrcOk.set ?_ ?_ _) | (with_reducible refine SrcOk.drewN ?_ _) | (with_reducible refine SrcOk.drew ?_) | (with_reducible refine SrcOk.later _ ?_) | (with_reducible refine SrcOk.after _ ?_ ?_) | (dsimp only; omega) | omega | ((try simp only [World.size_alloc, World.size_setCell, World.size_drew]); omega))))).mono ?_
      rintro e w' ⟨t, hdraw, rfl, z5, rfl, hsrc⟩
      have hsz5 := z5.btw.size
      (try simp only [World.size_alloc, World.size_setCell, World.size_drew] at hsz5)
      have H5 := Lib.hid hsrc
      clear hsrc
      obtain ⟨t0, t1⟩ := hdraw
      rcases (show t = 0 ∨ t = 1 ∨ t = 2 ∨ 3 ≤ t by omega) with rfl | rfl | rfl | ht3
      · skip
        go_wp2_with fail
        with_reducible refine (pick_any g [6, 20, -1] _ 3 3 _ (by (repeat (first | (with_reducible exact H5.out) | (with_reducible refine SrcOk.alloc ?_ _) | (with_reducible refine SrcOk.set ?_ ?_ _) | (with_reducible refine SrcOk.drewN ?_ _) | (with_reducible refine SrcOk.drew ?_) | (with_reducible refine SrcOk.later _ ?_) | (with_reducible refine SrcOk.after _ ?_ ?_) | (dsimp only; omega) | omega | ((try simp only [World.size_alloc, World.size_setCell, World.size_drew]); omega)))) rfl (by omega) (by omega) (Row.madeAt rfl (by simp [intCells])) (fun p hp => by cases hp; dsimp only; omega)).mono ?_
        rintro e w' ⟨x, hmem, rfl, z6, rfl, hsrc⟩
        have hsz6 := z6.btw.size
        (try simp only [World.size_alloc, World.size_setCell, World.size_drew] at hsz6)
        have H6 := Lib.hid hsrc
        clear hsrc
        simp only [List.mem_cons, List.not_mem_nil, or_false] at hmem
        have hv_x := Lib.hid hmem
        clear hmem
        go_wp2_with (at_builtin; (refine wpList_append_apart _ rfl _ _ _ rfl 2 ii _ 1 8 Tryz.underlying25 Jii.out.1 Jii.out.2.1 Jii.out.2.2.1 Jii.out.2.2.2 rfl (by decide) (w.heap.size) (q.w.heap.size) ?qb9 _ _ _ (intCells S) rfl ?qb10 ?qb16 _ _ _ ([.int .i64 x]) rfl ?qb11 ?qb12 ?qb13 ?qb14 ?qb15 ?_); (case qb9 => (first | (dsimp only; omega) | omega | (simp only [World.size_alloc, World.size_setCell, World.size_drew]; omega))); (case qb10 => exact ((by (repeat (first | (with_reducible exact ho.out) | (with_reducible refine owns_after _ ?_ ?_) | (with_reducible refine owns_later _ ?_ ?_) | (with_reducible refine owns_alloc ?_ _) | (with_reducible refine owns_set ?_ ?_ _) | (with_reducible refine Owns.drewN ?_ _) | (with_reducible refine owns_drew ?_) | (dsimp only; omega) | omega | ((try simp only [World.size_alloc, World.size_setCell, World.size_drew]); omega))) : Owns _ w.heap.size q.w.heap.size 2 1 S.length a c (intCells S))).own); (case qb16 => exact ho.out.lt); (case qb11 => (first | rfl | (simp [boolCells]; done) | (simp [intCells]; done) | (simp; done) | (first | omega | (simp only [List.length_append, List.length_cons, List.length_nil]; omega)))); (case qb12 => exact Row.made _ _ _); (case qb13 => exact one_intU _); (case qb14 => (unfold maxLen; (first | omega | (simp only [List.length_append, List.length_cons, List.length_nil]; omega)))); (case qb15 => (first | omega | (simp only [List.length_append, List.length_cons, List.length_nil]; omega))); intro a9 c9 x9 hown9 hat9; replace hat9 := Lib.hid hat9; replace hown9 := Lib.hid hown9; have hs9 := x9.btw.size; (try simp only [World.size_alloc, World.size_setCell, World.size_drew] at hs9))
        refine bodyPost_ret (by simp [results, Tryz.results21, go_sem, ↓IntWalk.iteOmega, *]; try rfl) rfl ?_
        have ho9 := Owns.of hown9.out
        refine RetSgD.mk (l := S ++ [x]) rfl (by simp) (by omega) (ownsRow_cap ho9.own) (by (repeat (first | (with_reducible exact Between.refl _ _ _) | (with_reducible refine Between.drew ?_) | (with_reducible refine Between.drewN ?_ _) | (with_reducible refine btw_own ?_ ?_ _) | (with_reducible refine btw_later _ ?_) | (with_reducible refine btw_alloc ?_ _) | (with_reducible refine btw_after _ ?_) | (with_reducible refine btw_beyond _ ?_ ?_) | (with_reducible refine Aft.btw _ ?_ ?_) | (with_reducible assumption) | (dsimp only; omega) | omega | ((try simp only [World.size_alloc, World.size_setCell, World.size_drew]); omega)))) (by (repeat (first | (with_reducible exact H6.out) | (with_reducible refine SrcOk.alloc ?_ _) | (with_reducible refine SrcOk.set ?_ ?_ _) | (with_reducible refine SrcOk.drewN ?_ _) | (with_reducible refine SrcOk.drew ?_) | (with_reducible refine SrcOk.later _ ?_) | (with_reducible refine SrcOk.after _ ?_ ?_) | (dsimp only; omega) | omega | ((try simp only [World.size_alloc, World.size_setCell, World.size_drew]); omega)))) ?_
        rw [intCells_snoc]
        exact ho9.row
      · skip
        go_wp2_with fail
        with_reducible refine (next_any g 2 _ (by (repeat (first | (with_reducible exact H5.out) | (with_reducible refine SrcOk.alloc ?_ _) | (with_reducible refine SrcOk.set ?_ ?_ _) | (with_reducible refine SrcOk.drewN ?_ _) | (with_reducible refine SrcOk.drew ?_) | (with_reducible refine SrcOk.later _ ?_) | (with_reducible refine SrcOk.after _ ?_ ?_) | (dsimp only; omega) | omega | ((try simp only [World.size_alloc, World.size_setCell, World.size_drew]); omega))))).mono ?_
        rintro e w' ⟨x, hdraw, rfl, z6, rfl, hsrc⟩
        have hsz6 := z6.btw.size
        (try simp only [World.size_alloc, World.size_setCell, World.size_drew] at hsz6)
        have H6 := Lib.hid hsrc
        clear hsrc
        obtain ⟨x0, x1⟩ := hdraw
        obtain ⟨m, rfl⟩ := Int.eq_ofNat_of_zero_le x0
        have hm2 : m < 2 := by omega
        have hmk := run_make_row' (P := Tryz.prog) 25 2 (.int .i64 0) 8 Tryz.underlying25 info_i64 rfl .i64 .i64 (12 + m) (by omega) (by omega)
        rw [Int.natCast_add] at hmk
        simp only [Int.cast_ofNat_Int] at hmk
        go_wp2_with fail
        refine bodyPost_ret (by simp [results, Tryz.results21, go_sem, ↓IntWalk.iteOmega, *]; try rfl) rfl ?_
        refine RetSgD.mk (l := List.replicate (12 + m) 0) rfl (by simp) (by omega) ⟨Nat.le_refl _, by unfold maxLen; omega⟩ (by (repeat (first | (with_reducible exact Between.refl _ _ _) | (with_reducible refine Between.drew ?_) | (with_reducible refine Between.drewN ?_ _) | (with_reducible refine btw_own ?_ ?_ _) | (with_reducible refine btw_later _ ?_) | (with_reducible refine btw_alloc ?_ _) | (with_reducible refine btw_after _ ?_) | (with_reducible refine btw_beyond _ ?_ ?_) | (with_reducible refine Aft.btw _ ?_ ?_) | (with_reducible assumption) | (dsimp only; omega) | omega | ((try simp only [World.size_alloc, World.size_setCell, World.size_drew]); omega)))) (by (repeat (first | (with_reducible exact H6.out) | (with_reducible refine SrcOk.alloc ?_ _) | (with_reducible refine SrcOk.set ?_ ?_ _) | (with_reducible refine SrcOk.drewN ?_ _) | (with_reducible refine SrcOk.drew ?_) | (with_reducible refine SrcOk.later _ ?_) | (with_reducible refine SrcOk.after _ ?_ ?_) | (dsimp only; omega) | omega | ((try simp only [World.size_alloc, World.size_setCell, World.size_drew]); omega)))) ?_
        exact row_made _ _
      · go_wp2_with fail
        refine bodyPost_ret (by simp [results, Tryz.results21, go_sem, ↓IntWalk.iteOmega, *]; try rfl) rfl ?_
        refine RetSgD.mk (l := []) rfl rfl (by omega) ⟨Nat.le_refl _, by unfold maxLen; omega⟩ (by (repeat (first | (with_reducible exact Between.refl _ _ _) | (with_reducible refine Between.drew ?_) | (with_reducible refine Between.drewN ?_ _) | (with_reducible refine btw_own ?_ ?_ _) | (with_reducible refine btw_later _ ?_) | (with_reducible refine btw_alloc ?_ _) | (with_reducible refine btw_after _ ?_) | (with_reducible refine btw_beyond _ ?_ ?_) | (with_reducible refine Aft.btw _ ?_ ?_) | (with_reducible assumption) | (dsimp only; omega) | omega | ((try simp only [World.size_alloc, World.size_setCell, World.size_drew]); omega)))) (by (repeat (first | (with_reducible exact H5.out) | (with_reducible refine SrcOk.alloc ?_ _) | (with_reducible refine SrcOk.set ?_ ?_ _) | (with_reducible refine SrcOk.drewN ?_ _) | (with_reducible refine SrcOk.drew ?_) | (with_reducible refine SrcOk.later _ ?_) | (with_reducible refine SrcOk.after _ ?_ ?_) | (dsimp only; omega) | omega | ((try simp only [World.size_alloc, World.size_setCell, World.size_drew]); omega)))) (fun j v hj => by simp [intCells] at hj)
      · have ht0 : (t == 0) = false := by simp; omega
        have ht1 : (t == 1) = false := by simp; omega
        have ht2 : (t == 2) = false := by simp; omega
        go_wp2_with fail
        refine bodyPost_ret (by simp [results, Tryz.results21, go_sem, ↓IntWalk.iteOmega, *]; try rfl) rfl ?_
        refine RetSgD.mk (l := S) rfl rfl (by omega) hcap (by (repeat (first | (with_reducible exact Between.refl _ _ _) | (with_reducible refine Between.drew ?_) | (with_reducible refine Between.drewN ?_ _) | (with_reducible refine btw_own ?_ ?_ _) | (with_reducible refine btw_later _ ?_) | (with_reducible refine btw_alloc ?_ _) | (with_reducible refine btw_after _ ?_) | (with_reducible refine btw_beyond _ ?_ ?_) | (with_reducible refine Aft.btw _ ?_ ?_) | (with_reducible assumption) | (dsimp only; omega) | omega | ((try simp only [World.size_alloc, World.size_setCell, World.size_drew]); omega)))) (by (repeat (first | (with_reducible exact H5.out) | (with_reducible refine SrcOk.alloc ?_ _) | (with_reducible refine SrcOk.set ?_ ?_ _) | (with_reducible refine SrcOk.drewN ?_ _) | (with_reducible refine SrcOk.drew ?_) | (with_reducible refine SrcOk.later _ ?_) | (with_reducible refine SrcOk.after _ ?_ ?_) | (dsimp only; omega) | omega | ((try simp only [World.size_alloc, World.size_setCell, World.size_drew]); omega)))) ?_
        exact Owns.row (by (repeat (first | (with_reducible exact ho.out) | (with_reducible refine owns_after _ ?_ ?_) | (with_reducible refine owns_later _ ?_ ?_) | (with_reducible refine owns_alloc ?_ _) | (with_reducible refine owns_set ?_ ?_ _) | (with_reducible refine Owns.drewN ?_ _) | (with_reducible refine owns_drew ?_) | (dsimp only; omega) | omega | ((try simp only [World.size_alloc, World.size_setCell, World.size_drew]); omega))) : Owns _ w.heap.size q.w.heap.size 2 1 S.length a c (intCells S))
/-- A table and numbers that a draw made. -/
def RetTS (w : World) (e : Ending) (w' : World) : Prop :=
  ∃ (T : List Rul) (a1 : Option Addr) (n1 c1 : Nat) (l : List Int) (b1 : Option Addr) (m1 d1 : Nat), e = .returned (.tuple #[.slice a1 n1 c1, .slice b1 m1 d1]) ∧ T.length = n1 ∧ n1 ≤ 64 ∧ n1 ≤ c1 ∧ c1 ≤ maxLen ∧ (∀ r ∈ T, SmR r) ∧ l.length = m1 ∧ m1 ≤ 20000 ∧ m1 ≤ d1 ∧ d1 ≤ maxLen ∧ RulesR w' a1 T ∧ Row w' b1 (intCells l) ∧ ∃ y : Later w, w' = y.w
theorem RetTS.mk {w w' : World} {e : Ending} {T : List Rul} {a1 : Option Addr} {n1 c1 : Nat} {l : List Int} {b1 : Option Addr} {m1 d1 : Nat} (he : e = .returned (.tuple #[.slice a1 n1 c1, .slice b1 m1 d1])) (h1 : T.length = n1) (h2 : n1 ≤ 64) (h3 : n1 ≤ c1) (h4 : c1 ≤ maxLen) (h5 : ∀ r ∈ T, SmR r) (h6 : l.length = m1) (h7 : m1 ≤ 20000) (h8 : m1 ≤ d1 ∧ d1 ≤ maxLen) (hR : RulesR w' a1 T) (hL : Row w' b1 (intCells l)) (hb : Below w.heap.size w w') : RetTS w e w' :=
  ⟨T, a1, n1, c1, l, b1, m1, d1, he, h1, h2, h3, h4, h5, h6, h7, h8.1, h8.2, hR, hL, ⟨w', hb⟩, rfl⟩
/-- A table and a text that a draw made, the table in memory of its own. -/
def RetTG (w : World) (e : Ending) (w' : World) : Prop :=
  ∃ (T : List Rul) (a : Option Addr) (n c : Nat) (s : ByteArray), e = .returned (.tuple #[.slice a n c, .string s]) ∧ T.length = n ∧ n ≤ 64 ∧ n ≤ c ∧ c ≤ maxLen ∧ (∀ r ∈ T, SmR r) ∧ s.size ≤ 20000 ∧ RulesG w' w.heap.size a T ∧ ∃ y : Later w, w' = y.w
theorem RulesG.bel {w w' : World} {lo : Nat} {a : Option Addr} {T : List Rul} (h : RulesG w lo a T) (hb : Below w.heap.size w w') : RulesG w' lo a T :=
  h.keep (g := 0) (g' := 0) ⟨hb.os, hb.tape, hb.output, hb.size, fun k hk _ => hb.block k hk⟩ (Nat.zero_le _)
section
variable (a : Option Addr) (n c : Nat) (bs : List Int) (w : World) (hr : Row w a (byteCells bs)) (hl : bs.length = n) (hn : n ≤ 4096) (hx : ∀ x ∈ bs, 0 ≤ x ∧ x ≤ 255)
include hr hl hn hx
set_option maxHeartbeats 2000000 in
theorem drawRec_any : Calls Tryz.prog 5 #[.slice a n c] w (RetTS w) := by
  replace hr := Lib.hid hr
  replace hl := Lib.hid hl
  replace hx := Lib.hid hx
  go_enter Tryz.func5, Tryz.ntmps5
  go_wp2_with fail
  with_reducible refine (from_any a n c bs _ (hr.out.bel (by (repeat (first | (with_reducible exact Below.refl _ _) | (with_reducible assumption) | (with_reducible refine Later.out _ ?_) | (with_reducible refine bel_alloc ?_ _) | (with_reducible refine bel_drew ?_) | (with_reducible refine bel_drewN ?_ _) | (with_reducible refine bel_set ?_ ?_ _) | (with_reducible refine After.out _ ?_ ?_) | (dsimp only; omega) | omega | (simp only [World.size_alloc, World.size_setCell, World.size_drew]; omega))))) hl.out hn hx.out).mono ?_
  rintro e w' ⟨g, hg, rfl, y, rfl, hsrc⟩
  have hsy := y.bel.size
  (try simp only [World.size_alloc, World.size_setCell, World.size_drew] at hg hsy)
  have hgy := hsrc.lt
  have H0 := Lib.hid hsrc
  clear hsrc
  go_wp2_with fail
  with_reducible refine (sGood5_any g _ (by (repeat (first | (with_reducible exact H0.out) | (with_reducible refine SrcOk.alloc ?_ _) | (with_reducible refine SrcOk.set ?_ ?_ _) | (with_reducible refine SrcOk.drewN ?_ _) | (with_reducible refine SrcOk.drew ?_) | (with_reducible refine SrcOk.later _ ?_) | (with_reducible refine SrcOk.after _ ?_ ?_) | (dsimp only; omega) | omega | ((try simp only [World.size_alloc, World.size_setCell, World.size_drew]); omega))))).mono ?_
  rintro e w' ⟨T, a1, n1, c1, rfl, hl1, h64, hnc, hcm, hok, z1, rfl, hsrc, hR⟩
  have hs1 := z1.btw.size
  have H1 := Lib.hid hsrc
  replace hR := Lib.hid hR
  replace hok := Lib.hid hok
  replace hl1 := Lib.hid hl1
  clear hsrc
  go_wp2_with fail
  with_reducible refine (drawSg_any g _ (by (repeat (first | (with_reducible exact H1.out) | (with_reducible refine SrcOk.alloc ?_ _) | (with_reducible refine SrcOk.set ?_ ?_ _) | (with_reducible refine SrcOk.drewN ?_ _) | (with_reducible refine SrcOk.drew ?_) | (with_reducible refine SrcOk.later _ ?_) | (with_reducible refine SrcOk.after _ ?_ ?_) | (dsimp only; omega) | omega | ((try simp only [World.size_alloc, World.size_setCell, World.size_drew]); omega))))).mono ?_
  rintro e w' ⟨l, b1, m1, d1, rfl, hl2, hm2, hd1, hd2, z2, rfl, hsrc, hL⟩
  have hs3 := z2.btw.size
  replace hL := Lib.hid hL
  clear hsrc
  go_wp2_with fail
  refine bodyPost_ret (by simp [results, Tryz.results5, go_sem, ↓IntWalk.iteOmega, *]; try rfl) rfl ?_
  have hb : Below w.heap.size w z2.w := z2.out (z1.out (by (repeat (first | (with_reducible exact Below.refl _ _) | (with_reducible assumption) | (with_reducible refine Later.out _ ?_) | (with_reducible refine bel_alloc ?_ _) | (with_reducible refine bel_drew ?_) | (with_reducible refine bel_drewN ?_ _) | (with_reducible refine bel_set ?_ ?_ _) | (with_reducible refine After.out _ ?_ ?_) | (dsimp only; omega) | omega | (simp only [World.size_alloc, World.size_setCell, World.size_drew]; omega)))) (by omega)) (by omega)
  exact RetTS.mk rfl hl1.out h64 hnc hcm hok.out hl2 (by omega) ⟨hd1, hd2⟩ (hR.out.after z2 (by omega)).rules hL.out hb
set_option maxHeartbeats 2000000 in
theorem drawDec_any : Calls Tryz.prog 8 #[.slice a n c] w (RetTT w) := by
  replace hr := Lib.hid hr
  replace hl := Lib.hid hl
  replace hx := Lib.hid hx
  go_enter Tryz.func8, Tryz.ntmps8
  go_wp2_with fail
  with_reducible refine (drawCnt_any a n c bs _ (hr.out.bel (by (repeat (first | (with_reducible exact Below.refl _ _) | (with_reducible assumption) | (with_reducible refine Later.out _ ?_) | (with_reducible refine bel_alloc ?_ _) | (with_reducible refine bel_drew ?_) | (with_reducible refine bel_drewN ?_ _) | (with_reducible refine bel_set ?_ ?_ _) | (with_reducible refine After.out _ ?_ ?_) | (dsimp only; omega) | omega | (simp only [World.size_alloc, World.size_setCell, World.size_drew]; omega))))) hl.out hn hx.out).mono ?_
  rintro e w' ⟨T, a1, n1, c1, s, rfl, hl1, h64, hnc, hcm, hok, hs2, hR, z1, rfl⟩
  have hs1 := z1.bel.size
  replace hR := Lib.hid hR
  replace hok := Lib.hid hok
  replace hl1 := Lib.hid hl1
  go_wp2_with fail
  refine bodyPost_ret (by simp [results, Tryz.results8, go_sem, ↓IntWalk.iteOmega, *]; try rfl) rfl ?_
  have hb : Below w.heap.size w z1.w := by (repeat (first | (with_reducible exact Below.refl _ _) | (with_reducible assumption) | (with_reducible refine Later.out _ ?_) | (with_reducible refine bel_alloc ?_ _) | (with_reducible refine bel_drew ?_) | (with_reducible refine bel_drewN ?_ _) | (with_reducible refine bel_set ?_ ?_ _) | (with_reducible refine After.out _ ?_ ?_) | (dsimp only; omega) | omega | (simp only [World.size_alloc, World.size_setCell, World.size_drew]; omega)))
  exact ⟨T, a1, n1, c1, s, rfl, hl1.out, h64, hnc, hcm, hok.out, hs2, hR.out, ⟨z1.w, hb⟩, rfl⟩
set_option maxHeartbeats 2000000 in
theorem drawCntG_any : Calls Tryz.prog 29 #[.slice a n c] w (RetTG w) := by
  replace hr := Lib.hid hr
  replace hl := Lib.hid hl
  replace hx := Lib.hid hx
  go_enter Tryz.func29, Tryz.ntmps29
  go_wp2_with fail
  with_reducible refine (from_any a n c bs _ (hr.out.bel (by (repeat (first | (with_reducible exact Below.refl _ _) | (with_reducible assumption) | (with_reducible refine Later.out _ ?_) | (with_reducible refine bel_alloc ?_ _) | (with_reducible refine bel_drew ?_) | (with_reducible refine bel_drewN ?_ _) | (with_reducible refine bel_set ?_ ?_ _) | (with_reducible refine After.out _ ?_ ?_) | (dsimp only; omega) | omega | (simp only [World.size_alloc, World.size_setCell, World.size_drew]; omega))))) hl.out hn hx.out).mono ?_
  rintro e w' ⟨g, hg, rfl, y, rfl, hsrc⟩
  have hsy := y.bel.size
  (try simp only [World.size_alloc, World.size_setCell, World.size_drew] at hg hsy)
  have hgy := hsrc.lt
  have H0 := Lib.hid hsrc
  clear hsrc
  go_wp2_with fail
  with_reducible refine (sGood5_any g _ (by (repeat (first | (with_reducible exact H0.out) | (with_reducible refine SrcOk.alloc ?_ _) | (with_reducible refine SrcOk.set ?_ ?_ _) | (with_reducible refine SrcOk.drewN ?_ _) | (with_reducible refine SrcOk.drew ?_) | (with_reducible refine SrcOk.later _ ?_) | (with_reducible refine SrcOk.after _ ?_ ?_) | (dsimp only; omega) | omega | ((try simp only [World.size_alloc, World.size_setCell, World.size_drew]); omega))))).mono ?_
  rintro e w' ⟨T, a1, n1, c1, rfl, hl1, h64, hnc, hcm, hok, z1, rfl, hsrc, hR⟩
  have hs1 := z1.btw.size
  have H1 := Lib.hid hsrc
  have CT := Lib.hid (fun (w' : World) (h : SrcOk w' g) (hr : RulesG w' (g + 1) a1 T) => sText5_any g T a1 n1 c1 w' h hl1 h64 hok hr)
  replace hR := Lib.hid hR
  replace hok := Lib.hid hok
  replace hl1 := Lib.hid hl1
  clear hsrc
  go_wp2_with fail
  with_reducible refine (CT.out _ H1.out (hR.out.wide (by omega))).mono ?_
  rintro e w' ⟨s, hs2, rfl, z2, rfl, hsrc⟩
  have hs3 := z2.btw.size
  clear hsrc
  go_wp2_with fail
  refine bodyPost_ret (by simp [results, Tryz.results29, go_sem, ↓IntWalk.iteOmega, *]; try rfl) rfl ?_
  have hb : Below w.heap.size w z2.w := z2.out (z1.out (by (repeat (first | (with_reducible exact Below.refl _ _) | (with_reducible assumption) | (with_reducible refine Later.out _ ?_) | (with_reducible refine bel_alloc ?_ _) | (with_reducible refine bel_drew ?_) | (with_reducible refine bel_drewN ?_ _) | (with_reducible refine bel_set ?_ ?_ _) | (with_reducible refine After.out _ ?_ ?_) | (dsimp only; omega) | omega | (simp only [World.size_alloc, World.size_setCell, World.size_drew]; omega)))) (by omega)) (by omega)
  exact ⟨T, a1, n1, c1, s, rfl, hl1.out, h64, hnc, hcm, hok.out, hs2, (hR.out.after z2 (by omega)).wide (by omega), ⟨z2.w, hb⟩, rfl⟩
set_option maxRecDepth 8000 in
set_option maxHeartbeats 16000000 in
theorem drawSgp_any : Calls Tryz.prog 32 #[.slice a n c] w (RetTS w) := by
  obtain ⟨ii, j1, j2, j3, j4⟩ := info_i64'
  have Jii := Lib.hid (And.intro j1 (And.intro j2 (And.intro j3 j4)))
  clear j1 j2 j3 j4
  replace hr := Lib.hid hr
  replace hl := Lib.hid hl
  replace hx := Lib.hid hx
  go_enter Tryz.func32, Tryz.ntmps32
  go_wp2_with fail
  with_reducible refine (from_any a n c bs _ (hr.out.bel (by (repeat (first | (with_reducible exact Below.refl _ _) | (with_reducible assumption) | (with_reducible refine Later.out _ ?_) | (with_reducible refine bel_alloc ?_ _) | (with_reducible refine bel_drew ?_) | (with_reducible refine bel_drewN ?_ _) | (with_reducible refine bel_set ?_ ?_ _) | (with_reducible refine After.out _ ?_ ?_) | (dsimp only; omega) | omega | (simp only [World.size_alloc, World.size_setCell, World.size_drew]; omega))))) hl.out hn hx.out).mono ?_
  rintro e w' ⟨g, hg, rfl, y, rfl, hsrc⟩
  have hsy := y.bel.size
  (try simp only [World.size_alloc, World.size_setCell, World.size_drew] at hg hsy)
  have hgy : g + 1 ≤ y.w.heap.size := hsrc.lt
  have H0 := Lib.hid hsrc
  clear hsrc
  go_wp2_with fail
  with_reducible refine (drawCntG_any a n c bs _ (hr.out.bel (by (repeat (first | (with_reducible exact Below.refl _ _) | (with_reducible assumption) | (with_reducible refine Later.out _ ?_) | (with_reducible refine bel_alloc ?_ _) | (with_reducible refine bel_drew ?_) | (with_reducible refine bel_drewN ?_ _) | (with_reducible refine bel_set ?_ ?_ _) | (with_reducible refine After.out _ ?_ ?_) | (dsimp only; omega) | omega | (simp only [World.size_alloc, World.size_setCell, World.size_drew]; omega))))) hl.out hn hx.out).mono ?_
  rintro e w' ⟨T, a1, n1, c1, s, rfl, hl1, h64, hnc, hcm, hok, hs2, hR, z1, rfl⟩
  have hs1 := z1.bel.size
  (try simp only [World.size_alloc, World.size_setCell, World.size_drew] at hs1)
  replace hR := hR.wide (lo' := y.w.heap.size) (by (try simp only [World.size_alloc, World.size_setCell, World.size_drew]); omega)
  have CF := fun (w : World) (hr : RulesR w a1 T) => first_spec T s a1 n1 c1 w hl1 (by omega) (fun r h => (hok r h).ok) (by omega) hr
  have hFl := frL_len T s
  obtain ⟨F, hF⟩ : ∃ x, frL T s = x := ⟨_, rfl⟩
  obtain ⟨bad, hbad⟩ : ∃ x, frC T s = x := ⟨_, rfl⟩
  simp only [hF, hbad] at CF
  rw [hF] at hFl
  replace CF := Lib.hid CF
  clear hF hbad
  replace hR := Lib.hid hR
  replace hok := Lib.hid hok
  replace hl1 := Lib.hid hl1
  go_wp2_with fail
  with_reducible refine (CF.out _ (hR.out.rules.bel (by (repeat (first | (with_reducible exact Below.refl _ _) | (with_reducible assumption) | (with_reducible refine Later.out _ ?_) | (with_reducible refine bel_alloc ?_ _) | (with_reducible refine bel_drew ?_) | (with_reducible refine bel_drewN ?_ _) | (with_reducible refine bel_set ?_ ?_ _) | (with_reducible refine After.out _ ?_ ?_) | (dsimp only; omega) | omega | (simp only [World.size_alloc, World.size_setCell, World.size_drew]; omega)))))).mono ?_
  rintro e w' ⟨aF, cF, rfl, hown, y3, rfl⟩
  have hsy3 := y3.bel.size
  (try simp only [World.size_alloc, World.size_setCell, World.size_drew] at hsy3)
  have OF := Lib.hid (Owns.of hown)
  clear hown
  have hcapF := ownsRow_cap OF.out.own
  have hRW : RulesG y3.w y.w.heap.size a1 T := hR.out.bel (by (repeat (first | (with_reducible exact Below.refl _ _) | (with_reducible assumption) | (with_reducible refine Later.out _ ?_) | (with_reducible refine bel_alloc ?_ _) | (with_reducible refine bel_drew ?_) | (with_reducible refine bel_drewN ?_ _) | (with_reducible refine bel_set ?_ ?_ _) | (with_reducible refine After.out _ ?_ ?_) | (dsimp only; omega) | omega | (simp only [World.size_alloc, World.size_setCell, World.size_drew]; omega))))
  have hbW : Below w.heap.size w y3.w := by (repeat (first | (with_reducible exact Below.refl _ _) | (with_reducible assumption) | (with_reducible refine Later.out _ ?_) | (with_reducible refine bel_alloc ?_ _) | (with_reducible refine bel_drew ?_) | (with_reducible refine bel_drewN ?_ _) | (with_reducible refine bel_set ?_ ?_ _) | (with_reducible refine After.out _ ?_ ?_) | (dsimp only; omega) | omega | (simp only [World.size_alloc, World.size_setCell, World.size_drew]; omega)))
  have H3 : SrcOk y3.w g := by (repeat (first | (with_reducible exact H0.out) | (with_reducible refine SrcOk.alloc ?_ _) | (with_reducible refine SrcOk.set ?_ ?_ _) | (with_reducible refine SrcOk.drewN ?_ _) | (with_reducible refine SrcOk.drew ?_) | (with_reducible refine SrcOk.later _ ?_) | (with_reducible refine SrcOk.after _ ?_ ?_) | (dsimp only; omega) | omega | ((try simp only [World.size_alloc, World.size_setCell, World.size_drew]); omega)))
  have hg3 : g < y3.w.heap.size := H3.lt
  replace H3 := Lib.hid H3
  replace hRW := Lib.hid hRW
  replace hbW := Lib.hid hbW
  clear CF hR
  by_cases hb0 : bad = 0
  · subst hb0
    go_wp2_with fail
    with_reducible refine (next_any g 4 _ (by (repeat (first | (with_reducible exact H3.out) | (with_reducible refine SrcOk.alloc ?_ _) | (with_reducible refine SrcOk.set ?_ ?_ _) | (with_reducible refine SrcOk.drewN ?_ _) | (with_reducible refine SrcOk.drew ?_) | (with_reducible refine SrcOk.later _ ?_) | (with_reducible refine SrcOk.after _ ?_ ?_) | (dsimp only; omega) | omega | ((try simp only [World.size_alloc, World.size_setCell, World.size_drew]); omega))))).mono ?_
    rintro e w' ⟨p4, hdraw, rfl, z4, rfl, hsrc⟩
    have hsz4 := z4.btw.size
    (try simp only [World.size_alloc, World.size_setCell, World.size_drew] at hsz4)
    have H4 := Lib.hid hsrc
    clear hsrc
    obtain ⟨p40, p41⟩ := hdraw
    by_cases hp4 : p4 = 0
    · subst hp4
      have hbt4 : Between g (g + 1) y3.w z4.w := by (repeat (first | (with_reducible exact Between.refl _ _ _) | (with_reducible refine Between.drew ?_) | (with_reducible refine Between.drewN ?_ _) | (with_reducible refine btw_own ?_ ?_ _) | (with_reducible refine btw_later _ ?_) | (with_reducible refine btw_alloc ?_ _) | (with_reducible refine btw_after _ ?_) | (with_reducible refine btw_beyond _ ?_ ?_) | (with_reducible refine Aft.btw _ ?_ ?_) | (with_reducible assumption) | (dsimp only; omega) | omega | ((try simp only [World.size_alloc, World.size_setCell, World.size_drew]); omega)))
      replace hRW := Lib.hid (RulesG.keep hRW.out hbt4 hgy)
      replace hbW := Lib.hid (btw_below' hbW.out hbt4 (by omega))
      clear hbt4
      have hO0 : Owns (z4.w.alloc (.cells #[] 2)) z4.w.heap.size (z4.w.heap.size + 1) 2 1 0 (some ⟨z4.w.heap.size, 0, none⟩) 0 (intCells []) := by
        have := Owns.of (World.ownsRow_lit (base := z4.w.heap.size) (e := 2) (size := 1) z4.w #[] 0 (Nat.le_refl _) (by unfold maxLen; omega) rfl)
        rw [show intCells [] = [] from rfl]
        simpa [World.size_alloc] using this
      have hO1 := owns_wide hO0 (Nat.le_refl _) (show z4.w.heap.size + 1 ≤ (z4.w.alloc (.cells #[] 2)).heap.size by simp)
      replace hO1 := Lib.hid hO1
      clear hO0
      go_wp2_with fail
      with_reducible refine (next_any g 6 _ (by (repeat (first | (with_reducible exact H4.out) | (with_reducible refine SrcOk.alloc ?_ _) | (with_reducible refine SrcOk.set ?_ ?_ _) | (with_reducible refine SrcOk.drewN ?_ _) | (with_reducible refine SrcOk.drew ?_) | (with_reducible refine SrcOk.later _ ?_) | (with_reducible refine SrcOk.after _ ?_ ?_) | (dsimp only; omega) | omega | ((try simp only [World.size_alloc, World.size_setCell, World.size_drew]); omega))))).mono ?_
      rintro e w' ⟨k7, hdraw, rfl, z7, rfl, hsrc⟩
      have hsz7 := z7.btw.size
      (try simp only [World.size_alloc, World.size_setCell, World.size_drew] at hsz7)
      have H7 := Lib.hid hsrc
      clear hsrc
      obtain ⟨k70, k71⟩ := hdraw
      obtain ⟨k1, rfl⟩ := Int.eq_ofNat_of_zero_le k70
      have hbt7 : Between g (g + 1) z4.w z7.w := by (repeat (first | (with_reducible exact Between.refl _ _ _) | (with_reducible refine Between.drew ?_) | (with_reducible refine Between.drewN ?_ _) | (with_reducible refine btw_own ?_ ?_ _) | (with_reducible refine btw_later _ ?_) | (with_reducible refine btw_alloc ?_ _) | (with_reducible refine btw_after _ ?_) | (with_reducible refine btw_beyond _ ?_ ?_) | (with_reducible refine Aft.btw _ ?_ ?_) | (with_reducible assumption) | (dsimp only; omega) | omega | ((try simp only [World.size_alloc, World.size_setCell, World.size_drew]); omega)))
      have ho1 : Owns z7.w z4.w.heap.size z7.w.heap.size 2 1 0 (some ⟨z4.w.heap.size, 0, none⟩) 0 (intCells []) := by
        refine owns_wide (lo := z4.w.heap.size) (hi := (z4.w.alloc (.cells #[] 2)).heap.size) ?_ (Nat.le_refl _) (by simp only [World.size_alloc]; omega)
        (repeat (first | (with_reducible exact hO1.out) | (with_reducible refine owns_after _ ?_ ?_) | (with_reducible refine owns_later _ ?_ ?_) | (with_reducible refine owns_alloc ?_ _) | (with_reducible refine owns_set ?_ ?_ _) | (with_reducible refine Owns.drewN ?_ _) | (with_reducible refine owns_drew ?_) | (dsimp only; omega) | omega | ((try simp only [World.size_alloc, World.size_setCell, World.size_drew]); omega)))
      replace hbt7 := Lib.hid hbt7
      replace ho1 := Lib.hid ho1
      clear hO1
      go_wp2_with fail
      go_loopw [7, 9] (fun o nv wr => ∃ (S : List Int) (k : Nat) (a : Option Addr) (c : Nat), S.length + k ≤ 6 ∧ nv = .int .i64 k ∧ o = .slice a S.length c ∧ Owns wr z4.w.heap.size wr.heap.size 2 1 S.length a c (intCells S) ∧ SrcOk wr g ∧ Between g (g + 1) z4.w wr) (fun _ nv _ => (intOf nv).toNat)
      case atStart => exact ⟨[], k1, _, _, by simp only [List.length_nil]; omega, rfl, rfl, ho1.out, H7.out, hbt7.out⟩
      case round =>
        obtain ⟨S, k, aS, cS, hSk, rfl, rfl, ho, hs, hb⟩ := hrel
        obtain ⟨v, rfl⟩ := AfterC.mk hb
        have hvs := v.btw.size
        clear hb ho1 hbt7 H7
        replace hs := Lib.hid hs
        replace ho := Lib.hid ho
        by_cases hlt : 0 < k
        · have hi1 : (0 : Int) < (k : Int) := by omega
          go_wp2_with fail
          with_reducible refine (next_any g 7 _ (by (repeat (first | (with_reducible exact hs.out) | (with_reducible refine SrcOk.alloc ?_ _) | (with_reducible refine SrcOk.set ?_ ?_ _) | (with_reducible refine SrcOk.drewN ?_ _) | (with_reducible refine SrcOk.drew ?_) | (with_reducible refine SrcOk.later _ ?_) | (with_reducible refine SrcOk.after _ ?_ ?_) | (dsimp only; omega) | omega | ((try simp only [World.size_alloc, World.size_setCell, World.size_drew]); omega))))).mono ?_
          rintro e w' ⟨p, hdraw, rfl, z5, rfl, hsrc⟩
          have hsz5 := z5.btw.size
          (try simp only [World.size_alloc, World.size_setCell, World.size_drew] at hsz5)
          have H5 := Lib.hid hsrc
          clear hsrc
          obtain ⟨p0, p1⟩ := hdraw
          go_wp2_with fail
          with_reducible refine (next_any g 12 _ (by (repeat (first | (with_reducible exact H5.out) | (with_reducible refine SrcOk.alloc ?_ _) | (with_reducible refine SrcOk.set ?_ ?_ _) | (with_reducible refine SrcOk.drewN ?_ _) | (with_reducible refine SrcOk.drew ?_) | (with_reducible refine SrcOk.later _ ?_) | (with_reducible refine SrcOk.after _ ?_ ?_) | (dsimp only; omega) | omega | ((try simp only [World.size_alloc, World.size_setCell, World.size_drew]); omega))))).mono ?_
          rintro e w' ⟨p2, hdraw, rfl, z6, rfl, hsrc⟩
          have hsz6 := z6.btw.size
          (try simp only [World.size_alloc, World.size_setCell, World.size_drew] at hsz6)
          have H6 := Lib.hid hsrc
          clear hsrc
          obtain ⟨p20, p21⟩ := hdraw
          have hq : Int.tdiv p2 11 = p2 / 11 := Int.tdiv_eq_ediv_of_nonneg (by omega)
          obtain ⟨q2, hq2⟩ : ∃ q2, p2 / 11 = q2 := ⟨_, rfl⟩
          have hq3 : 0 ≤ q2 ∧ q2 ≤ 1 := by omega
          rw [hq2] at hq
          go_wp2_with (at_builtin; (refine wpList_append_apart _ rfl _ _ _ rfl 2 ii _ 1 8 Tryz.underlying25 Jii.out.1 Jii.out.2.1 Jii.out.2.2.1 Jii.out.2.2.2 rfl (by decide) (z4.w.heap.size) (v.w.heap.size) ?qb17 _ _ _ (intCells S) rfl ?qb18 ?qb24 _ _ _ ([.int .i64 (p - q2)]) rfl ?qb19 ?qb20 ?qb21 ?qb22 ?qb23 ?_); (case qb17 => (first | (dsimp only; omega) | omega | (simp only [World.size_alloc, World.size_setCell, World.size_drew]; omega))); (case qb18 => exact ((by (repeat (first | (with_reducible exact ho.out) | (with_reducible refine owns_after _ ?_ ?_) | (with_reducible refine owns_later _ ?_ ?_) | (with_reducible refine owns_alloc ?_ _) | (with_reducible refine owns_set ?_ ?_ _) | (with_reducible refine Owns.drewN ?_ _) | (with_reducible refine owns_drew ?_) | (dsimp only; omega) | omega | ((try simp only [World.size_alloc, World.size_setCell, World.size_drew]); omega))) : Owns _ z4.w.heap.size v.w.heap.size 2 1 S.length aS cS (intCells S))).own); (case qb24 => exact ho.out.lt); (case qb19 => (first | rfl | (simp [boolCells]; done) | (simp [intCells]; done) | (simp; done) | (first | omega | (simp only [List.length_append, List.length_cons, List.length_nil]; omega)))); (case qb20 => exact Row.made _ _ _); (case qb21 => exact one_intU _); (case qb22 => (unfold maxLen; (first | omega | (simp only [List.length_append, List.length_cons, List.length_nil]; omega)))); (case qb23 => (first | omega | (simp only [List.length_append, List.length_cons, List.length_nil]; omega))); intro a9 c9 x9 hown9 hat9; replace hat9 := Lib.hid hat9; replace hown9 := Lib.hid hown9; have hs9 := x9.btw.size; (try simp only [World.size_alloc, World.size_setCell, World.size_drew] at hs9))
          go_roundw
          case rel =>
            refine ⟨S ++ [p - q2], k - 1, a9, c9, by simp; omega, by go_num, by simp, ?_, ?_, ?_⟩
            · rw [intCells_snoc, show (S ++ [p - q2]).length = S.length + 1 by simp]
              exact Owns.of hown9.out
            · (repeat (first | (with_reducible exact H6.out) | (with_reducible refine SrcOk.alloc ?_ _) | (with_reducible refine SrcOk.set ?_ ?_ _) | (with_reducible refine SrcOk.drewN ?_ _) | (with_reducible refine SrcOk.drew ?_) | (with_reducible refine SrcOk.later _ ?_) | (with_reducible refine SrcOk.after _ ?_ ?_) | (dsimp only; omega) | omega | ((try simp only [World.size_alloc, World.size_setCell, World.size_drew]); omega)))
            · (repeat (first | (with_reducible exact Between.refl _ _ _) | (with_reducible refine Between.drew ?_) | (with_reducible refine Between.drewN ?_ _) | (with_reducible refine btw_own ?_ ?_ _) | (with_reducible refine btw_later _ ?_) | (with_reducible refine btw_alloc ?_ _) | (with_reducible refine btw_after _ ?_) | (with_reducible refine btw_beyond _ ?_ ?_) | (with_reducible refine Aft.btw _ ?_ ?_) | (with_reducible assumption) | (dsimp only; omega) | omega | ((try simp only [World.size_alloc, World.size_setCell, World.size_drew]); omega)))
          case measure => first | (simp [intOf]; done) | (simp [intOf]; omega) | omega
        · obtain rfl : k = 0 := by omega
          have hcap := ownsRow_cap ho.out.own
          go_wp2_with fail
          with_reducible refine (next_any g 30 _ (by (repeat (first | (with_reducible exact hs.out) | (with_reducible refine SrcOk.alloc ?_ _) | (with_reducible refine SrcOk.set ?_ ?_ _) | (with_reducible refine SrcOk.drewN ?_ _) | (with_reducible refine SrcOk.drew ?_) | (with_reducible refine SrcOk.later _ ?_) | (with_reducible refine SrcOk.after _ ?_ ?_) | (dsimp only; omega) | omega | ((try simp only [World.size_alloc, World.size_setCell, World.size_drew]); omega))))).mono ?_
          rintro e w' ⟨q5, hdraw, rfl, z8, rfl, hsrc⟩
          have hsz8 := z8.btw.size
          (try simp only [World.size_alloc, World.size_setCell, World.size_drew] at hsz8)
          have H8 := Lib.hid hsrc
          clear hsrc
          obtain ⟨q50, q51⟩ := hdraw
          have hbt8 : Between g (g + 1) z4.w z8.w := by (repeat (first | (with_reducible exact Between.refl _ _ _) | (with_reducible refine Between.drew ?_) | (with_reducible refine Between.drewN ?_ _) | (with_reducible refine btw_own ?_ ?_ _) | (with_reducible refine btw_later _ ?_) | (with_reducible refine btw_alloc ?_ _) | (with_reducible refine btw_after _ ?_) | (with_reducible refine btw_beyond _ ?_ ?_) | (with_reducible refine Aft.btw _ ?_ ?_) | (with_reducible assumption) | (dsimp only; omega) | omega | ((try simp only [World.size_alloc, World.size_setCell, World.size_drew]); omega)))
          have hR8 : RulesG z8.w y.w.heap.size a1 T := RulesG.keep hRW.out hbt8 hgy
          have hb8 : Below w.heap.size w z8.w := btw_below' hbW.out hbt8 (by omega)
          replace hR8 := Lib.hid hR8
          replace hb8 := Lib.hid hb8
          clear hbt8
          by_cases hq5 : q5 = 0
          · subst hq5
            go_wp2_with fail
            refine wp_region_plan2 [(0, true), (1, true), (2, false), (3, true), (5, true), (4, false), (6, true)] (C := LaterC (w)) (by kernel_rfl) (by kernel_rfl) (by kernel_rfl) rfl (fun _ _ d _ _ h => by cases d <;> exact h) (LaterC.mk ((by (repeat (first | (with_reducible exact Below.refl _ _) | (with_reducible assumption) | (with_reducible refine Later.out _ ?_) | (with_reducible refine bel_alloc ?_ _) | (with_reducible refine bel_drew ?_) | (with_reducible refine bel_drewN ?_ _) | (with_reducible refine bel_set ?_ ?_ _) | (with_reducible refine After.out _ ?_ ?_) | (dsimp only; omega) | omega | (simp only [World.size_alloc, World.size_setCell, World.size_drew]; omega)))))) ?_
            first | (refine plan_quiet nth0 rfl ?_; intro KP hKP; go_big_quiet_op; go_big_quiet_on) | (refine plan_skip_q nth0 rfl rfl ?_; simp only [Act.put, List.setIfInBounds_toArray, List.set_cons_zero, List.set_cons_succ])
            first | (refine plan_quiet nth1 rfl ?_; intro KP hKP; go_big_quiet_op; go_big_quiet_on) | (refine plan_skip_q nth1 rfl rfl ?_; simp only [Act.put, List.setIfInBounds_toArray, List.set_cons_zero, List.set_cons_succ])
            first | (refine plan_loud nth2 rfl ?_; intro KP hKP; go_wp2_with (first | (go_at_call 40; (with_reducible refine (next_any g 2 _ (by (repeat (first | (with_reducible exact H8.out) | (with_reducible refine SrcOk.alloc ?_ _) | (with_reducible refine SrcOk.set ?_ ?_ _) | (with_reducible refine SrcOk.drewN ?_ _) | (with_reducible refine SrcOk.drew ?_) | (with_reducible refine SrcOk.later _ ?_) | (with_reducible refine SrcOk.after _ ?_ ?_) | (dsimp only; omega) | omega | ((try simp only [World.size_alloc, World.size_setCell, World.size_drew]); omega))))).mono ?_); rintro e w' ⟨x, hdraw, rfl, z9, rfl, hsrc⟩; have hsz9 := z9.btw.size; (try simp only [World.size_alloc, World.size_setCell, World.size_drew] at hsz9); have H9 := Lib.hid hsrc; clear hsrc; obtain ⟨x0, x1⟩ := hdraw)); refine hKP _ _ (LaterC.mk (by (repeat (first | (with_reducible exact Below.refl _ _) | (with_reducible assumption) | (with_reducible refine Later.out _ ?_) | (with_reducible refine bel_alloc ?_ _) | (with_reducible refine bel_drew ?_) | (with_reducible refine bel_drewN ?_ _) | (with_reducible refine bel_set ?_ ?_ _) | (with_reducible refine After.out _ ?_ ?_) | (dsimp only; omega) | omega | (simp only [World.size_alloc, World.size_setCell, World.size_drew]; omega))))) ?_; clear hKP KP) | (refine plan_skip nth2 rfl rfl (LaterC.mk (by (repeat (first | (with_reducible exact Below.refl _ _) | (with_reducible assumption) | (with_reducible refine Later.out _ ?_) | (with_reducible refine bel_alloc ?_ _) | (with_reducible refine bel_drew ?_) | (with_reducible refine bel_drewN ?_ _) | (with_reducible refine bel_set ?_ ?_ _) | (with_reducible refine After.out _ ?_ ?_) | (dsimp only; omega) | omega | (simp only [World.size_alloc, World.size_setCell, World.size_drew]; omega))))) ?_; simp only [Act.put, List.setIfInBounds_toArray, List.set_cons_zero, List.set_cons_succ])
            first | (refine plan_quiet nth3 rfl ?_; intro KP hKP; go_big_quiet_op; go_big_quiet_on) | (refine plan_skip_q nth3 rfl rfl ?_; simp only [Act.put, List.setIfInBounds_toArray, List.set_cons_zero, List.set_cons_succ])
            first | (refine plan_quiet nth5 rfl ?_; intro KP hKP; go_big_quiet_op; go_big_quiet_on) | (refine plan_skip_q nth5 rfl rfl ?_; simp only [Act.put, List.setIfInBounds_toArray, List.set_cons_zero, List.set_cons_succ])
            obtain ⟨m, rfl⟩ := Int.eq_ofNat_of_zero_le x0
            have hm2 : m < 2 := by omega
            have hmk := run_make_row' (P := Tryz.prog) 25 2 (.int .i64 0) 8 Tryz.underlying25 info_i64 rfl .i64 .i64 (48 + m) (by omega) (by omega)
            rw [Int.natCast_add] at hmk
            simp only [Int.cast_ofNat_Int] at hmk
            refine plan_loud nth4 rfl ?_
            intro KP hKP
            go_wp2_with fail
            refine hKP _ _ (LaterC.mk (by have h1 := hb8.out; (repeat (first | (with_reducible exact Below.refl _ _) | (with_reducible assumption) | (with_reducible refine Later.out _ ?_) | (with_reducible refine bel_alloc ?_ _) | (with_reducible refine bel_drew ?_) | (with_reducible refine bel_drewN ?_ _) | (with_reducible refine bel_set ?_ ?_ _) | (with_reducible refine After.out _ ?_ ?_) | (dsimp only; omega) | omega | (simp only [World.size_alloc, World.size_setCell, World.size_drew]; omega))))) ?_
            clear hKP KP
            first | (refine plan_quiet nth6 rfl ?_; intro KP hKP; go_big_quiet_op; go_big_quiet_on) | (refine plan_skip_q nth6 rfl rfl ?_; simp only [Act.put, List.setIfInBounds_toArray, List.set_cons_zero, List.set_cons_succ])
            refine plan_nil ?_
            go_wp2_with fail
            refine bodyPost_ret (by simp [results, Tryz.results32, go_sem, ↓IntWalk.iteOmega, *]; try rfl) rfl ?_
            have hbt9 : Between g (g + 1) z8.w z9.w := by (repeat (first | (with_reducible exact Between.refl _ _ _) | (with_reducible refine Between.drew ?_) | (with_reducible refine Between.drewN ?_ _) | (with_reducible refine btw_own ?_ ?_ _) | (with_reducible refine btw_later _ ?_) | (with_reducible refine btw_alloc ?_ _) | (with_reducible refine btw_after _ ?_) | (with_reducible refine btw_beyond _ ?_ ?_) | (with_reducible refine Aft.btw _ ?_ ?_) | (with_reducible assumption) | (dsimp only; omega) | omega | ((try simp only [World.size_alloc, World.size_setCell, World.size_drew]); omega)))
            have hR9 : RulesG z9.w y.w.heap.size a1 T := RulesG.keep hR8.out hbt9 hgy
            have hb9 : Below w.heap.size w z9.w := btw_below' hb8.out hbt9 (by omega)
            exact RetTS.mk (l := List.replicate (48 + m) 0) rfl hl1.out h64 hnc hcm hok.out (by simp) (by omega) ⟨Nat.le_refl _, by unfold maxLen; omega⟩ (hR9.bel (by (repeat (first | (with_reducible exact Below.refl _ _) | (with_reducible assumption) | (with_reducible refine Later.out _ ?_) | (with_reducible refine bel_alloc ?_ _) | (with_reducible refine bel_drew ?_) | (with_reducible refine bel_drewN ?_ _) | (with_reducible refine bel_set ?_ ?_ _) | (with_reducible refine After.out _ ?_ ?_) | (dsimp only; omega) | omega | (simp only [World.size_alloc, World.size_setCell, World.size_drew]; omega))))).rules (row_made _ _) (by (repeat (first | (with_reducible exact Below.refl _ _) | (with_reducible assumption) | (with_reducible refine Later.out _ ?_) | (with_reducible refine bel_alloc ?_ _) | (with_reducible refine bel_drew ?_) | (with_reducible refine bel_drewN ?_ _) | (with_reducible refine bel_set ?_ ?_ _) | (with_reducible refine After.out _ ?_ ?_) | (dsimp only; omega) | omega | (simp only [World.size_alloc, World.size_setCell, World.size_drew]; omega))))
          · have hq0 : (q5 == 0) = false := by simpa using hq5
            go_wp2_with fail
            refine bodyPost_ret (by simp [results, Tryz.results32, go_sem, ↓IntWalk.iteOmega, *]; try rfl) rfl ?_
            exact RetTS.mk (l := S) rfl hl1.out h64 hnc hcm hok.out rfl (by omega) hcap (hR8.out.bel (by (repeat (first | (with_reducible exact Below.refl _ _) | (with_reducible assumption) | (with_reducible refine Later.out _ ?_) | (with_reducible refine bel_alloc ?_ _) | (with_reducible refine bel_drew ?_) | (with_reducible refine bel_drewN ?_ _) | (with_reducible refine bel_set ?_ ?_ _) | (with_reducible refine After.out _ ?_ ?_) | (dsimp only; omega) | omega | (simp only [World.size_alloc, World.size_setCell, World.size_drew]; omega))))).rules (Owns.row (by (repeat (first | (with_reducible exact ho.out) | (with_reducible refine owns_after _ ?_ ?_) | (with_reducible refine owns_later _ ?_ ?_) | (with_reducible refine owns_alloc ?_ _) | (with_reducible refine owns_set ?_ ?_ _) | (with_reducible refine Owns.drewN ?_ _) | (with_reducible refine owns_drew ?_) | (dsimp only; omega) | omega | ((try simp only [World.size_alloc, World.size_setCell, World.size_drew]); omega))) : Owns _ z4.w.heap.size v.w.heap.size 2 1 S.length aS cS (intCells S))) (by have h1 := hb8.out; (repeat (first | (with_reducible exact Below.refl _ _) | (with_reducible assumption) | (with_reducible refine Later.out _ ?_) | (with_reducible refine bel_alloc ?_ _) | (with_reducible refine bel_drew ?_) | (with_reducible refine bel_drewN ?_ _) | (with_reducible refine bel_set ?_ ?_ _) | (with_reducible refine After.out _ ?_ ?_) | (dsimp only; omega) | omega | (simp only [World.size_alloc, World.size_setCell, World.size_drew]; omega))))
    · have hp40 : (p4 == 0) = false := by simpa using hp4
      go_wp2_with fail
      with_reducible refine (next_any g 30 _ (by (repeat (first | (with_reducible exact H4.out) | (with_reducible refine SrcOk.alloc ?_ _) | (with_reducible refine SrcOk.set ?_ ?_ _) | (with_reducible refine SrcOk.drewN ?_ _) | (with_reducible refine SrcOk.drew ?_) | (with_reducible refine SrcOk.later _ ?_) | (with_reducible refine SrcOk.after _ ?_ ?_) | (dsimp only; omega) | omega | ((try simp only [World.size_alloc, World.size_setCell, World.size_drew]); omega))))).mono ?_
      rintro e w' ⟨q5, hdraw, rfl, z8, rfl, hsrc⟩
      have hsz8 := z8.btw.size
      (try simp only [World.size_alloc, World.size_setCell, World.size_drew] at hsz8)
      have H8 := Lib.hid hsrc
      clear hsrc
      obtain ⟨q50, q51⟩ := hdraw
      have hbt8 : Between g (g + 1) y3.w z8.w := by (repeat (first | (with_reducible exact Between.refl _ _ _) | (with_reducible refine Between.drew ?_) | (with_reducible refine Between.drewN ?_ _) | (with_reducible refine btw_own ?_ ?_ _) | (with_reducible refine btw_later _ ?_) | (with_reducible refine btw_alloc ?_ _) | (with_reducible refine btw_after _ ?_) | (with_reducible refine btw_beyond _ ?_ ?_) | (with_reducible refine Aft.btw _ ?_ ?_) | (with_reducible assumption) | (dsimp only; omega) | omega | ((try simp only [World.size_alloc, World.size_setCell, World.size_drew]); omega)))
      have hR8 : RulesG z8.w y.w.heap.size a1 T := RulesG.keep hRW.out hbt8 hgy
      have hb8 : Below w.heap.size w z8.w := btw_below' hbW.out hbt8 (by omega)
      replace hR8 := Lib.hid hR8
      replace hb8 := Lib.hid hb8
      clear hbt8
      by_cases hq5 : q5 = 0
      · subst hq5
        go_wp2_with fail
        refine wp_region_plan2 [(0, true), (1, true), (2, false), (3, true), (5, true), (4, false), (6, true)] (C := LaterC (w)) (by kernel_rfl) (by kernel_rfl) (by kernel_rfl) rfl (fun _ _ d _ _ h => by cases d <;> exact h) (LaterC.mk ((by (repeat (first | (with_reducible exact Below.refl _ _) | (with_reducible assumption) | (with_reducible refine Later.out _ ?_) | (with_reducible refine bel_alloc ?_ _) | (with_reducible refine bel_drew ?_) | (with_reducible refine bel_drewN ?_ _) | (with_reducible refine bel_set ?_ ?_ _) | (with_reducible refine After.out _ ?_ ?_) | (dsimp only; omega) | omega | (simp only [World.size_alloc, World.size_setCell, World.size_drew]; omega)))))) ?_
        first | (refine plan_quiet nth0 rfl ?_; intro KP hKP; go_big_quiet_op; go_big_quiet_on) | (refine plan_skip_q nth0 rfl rfl ?_; simp only [Act.put, List.setIfInBounds_toArray, List.set_cons_zero, List.set_cons_succ])
        first | (refine plan_quiet nth1 rfl ?_; intro KP hKP; go_big_quiet_op; go_big_quiet_on) | (refine plan_skip_q nth1 rfl rfl ?_; simp only [Act.put, List.setIfInBounds_toArray, List.set_cons_zero, List.set_cons_succ])
        first | (refine plan_loud nth2 rfl ?_; intro KP hKP; go_wp2_with (first | (go_at_call 40; (with_reducible refine (next_any g 2 _ (by (repeat (first | (with_reducible exact H8.out) | (with_reducible refine SrcOk.alloc ?_ _) | (with_reducible refine SrcOk.set ?_ ?_ _) | (with_reducible refine SrcOk.drewN ?_ _) | (with_reducible refine SrcOk.drew ?_) | (with_reducible refine SrcOk.later _ ?_) | (with_reducible refine SrcOk.after _ ?_ ?_) | (dsimp only; omega) | omega | ((try simp only [World.size_alloc, World.size_setCell, World.size_drew]); omega))))).mono ?_); rintro e w' ⟨x, hdraw, rfl, z9, rfl, hsrc⟩; have hsz9 := z9.btw.size; (try simp only [World.size_alloc, World.size_setCell, World.size_drew] at hsz9); have H9 := Lib.hid hsrc; clear hsrc; obtain ⟨x0, x1⟩ := hdraw)); refine hKP _ _ (LaterC.mk (by (repeat (first | (with_reducible exact Below.refl _ _) | (with_reducible assumption) | (with_reducible refine Later.out _ ?_) | (with_reducible refine bel_alloc ?_ _) | (with_reducible refine bel_drew ?_) | (with_reducible refine bel_drewN ?_ _) | (with_reducible refine bel_set ?_ ?_ _) | (with_reducible refine After.out _ ?_ ?_) | (dsimp only; omega) | omega | (simp only [World.size_alloc, World.size_setCell, World.size_drew]; omega))))) ?_; clear hKP KP) | (refine plan_skip nth2 rfl rfl (LaterC.mk (by (repeat (first | (with_reducible exact Below.refl _ _) | (with_reducible assumption) | (with_reducible refine Later.out _ ?_) | (with_reducible refine bel_alloc ?_ _) | (with_reducible refine bel_drew ?_) | (with_reducible refine bel_drewN ?_ _) | (with_reducible refine bel_set ?_ ?_ _) | (with_reducible refine After.out _ ?_ ?_) | (dsimp only; omega) | omega | (simp only [World.size_alloc, World.size_setCell, World.size_drew]; omega))))) ?_; simp only [Act.put, List.setIfInBounds_toArray, List.set_cons_zero, List.set_cons_succ])
        first | (refine plan_quiet nth3 rfl ?_; intro KP hKP; go_big_quiet_op; go_big_quiet_on) | (refine plan_skip_q nth3 rfl rfl ?_; simp only [Act.put, List.setIfInBounds_toArray, List.set_cons_zero, List.set_cons_succ])
        first | (refine plan_quiet nth5 rfl ?_; intro KP hKP; go_big_quiet_op; go_big_quiet_on) | (refine plan_skip_q nth5 rfl rfl ?_; simp only [Act.put, List.setIfInBounds_toArray, List.set_cons_zero, List.set_cons_succ])
        obtain ⟨m, rfl⟩ := Int.eq_ofNat_of_zero_le x0
        have hm2 : m < 2 := by omega
        have hmk := run_make_row' (P := Tryz.prog) 25 2 (.int .i64 0) 8 Tryz.underlying25 info_i64 rfl .i64 .i64 (48 + m) (by omega) (by omega)
        rw [Int.natCast_add] at hmk
        simp only [Int.cast_ofNat_Int] at hmk
        refine plan_loud nth4 rfl ?_
        intro KP hKP
        go_wp2_with fail
        refine hKP _ _ (LaterC.mk (by have h1 := hb8.out; (repeat (first | (with_reducible exact Below.refl _ _) | (with_reducible assumption) | (with_reducible refine Later.out _ ?_) | (with_reducible refine bel_alloc ?_ _) | (with_reducible refine bel_drew ?_) | (with_reducible refine bel_drewN ?_ _) | (with_reducible refine bel_set ?_ ?_ _) | (with_reducible refine After.out _ ?_ ?_) | (dsimp only; omega) | omega | (simp only [World.size_alloc, World.size_setCell, World.size_drew]; omega))))) ?_
        clear hKP KP
        first | (refine plan_quiet nth6 rfl ?_; intro KP hKP; go_big_quiet_op; go_big_quiet_on) | (refine plan_skip_q nth6 rfl rfl ?_; simp only [Act.put, List.setIfInBounds_toArray, List.set_cons_zero, List.set_cons_succ])
        refine plan_nil ?_
        go_wp2_with fail
        refine bodyPost_ret (by simp [results, Tryz.results32, go_sem, ↓IntWalk.iteOmega, *]; try rfl) rfl ?_
        have hbt9 : Between g (g + 1) z8.w z9.w := by (repeat (first | (with_reducible exact Between.refl _ _ _) | (with_reducible refine Between.drew ?_) | (with_reducible refine Between.drewN ?_ _) | (with_reducible refine btw_own ?_ ?_ _) | (with_reducible refine btw_later _ ?_) | (with_reducible refine btw_alloc ?_ _) | (with_reducible refine btw_after _ ?_) | (with_reducible refine btw_beyond _ ?_ ?_) | (with_reducible refine Aft.btw _ ?_ ?_) | (with_reducible assumption) | (dsimp only; omega) | omega | ((try simp only [World.size_alloc, World.size_setCell, World.size_drew]); omega)))
        have hR9 : RulesG z9.w y.w.heap.size a1 T := RulesG.keep hR8.out hbt9 hgy
        have hb9 : Below w.heap.size w z9.w := btw_below' hb8.out hbt9 (by omega)
        exact RetTS.mk (l := List.replicate (48 + m) 0) rfl hl1.out h64 hnc hcm hok.out (by simp) (by omega) ⟨Nat.le_refl _, by unfold maxLen; omega⟩ (hR9.bel (by (repeat (first | (with_reducible exact Below.refl _ _) | (with_reducible assumption) | (with_reducible refine Later.out _ ?_) | (with_reducible refine bel_alloc ?_ _) | (with_reducible refine bel_drew ?_) | (with_reducible refine bel_drewN ?_ _) | (with_reducible refine bel_set ?_ ?_ _) | (with_reducible refine After.out _ ?_ ?_) | (dsimp only; omega) | omega | (simp only [World.size_alloc, World.size_setCell, World.size_drew]; omega))))).rules (row_made _ _) (by (repeat (first | (with_reducible exact Below.refl _ _) | (with_reducible assumption) | (with_reducible refine Later.out _ ?_) | (with_reducible refine bel_alloc ?_ _) | (with_reducible refine bel_drew ?_) | (with_reducible refine bel_drewN ?_ _) | (with_reducible refine bel_set ?_ ?_ _) | (with_reducible refine After.out _ ?_ ?_) | (dsimp only; omega) | omega | (simp only [World.size_alloc, World.size_setCell, World.size_drew]; omega))))
      · have hq0 : (q5 == 0) = false := by simpa using hq5
        go_wp2_with fail
        refine bodyPost_ret (by simp [results, Tryz.results32, go_sem, ↓IntWalk.iteOmega, *]; try rfl) rfl ?_
        exact RetTS.mk (l := F) rfl hl1.out h64 hnc hcm hok.out rfl (by omega) hcapF (hR8.out.bel (by (repeat (first | (with_reducible exact Below.refl _ _) | (with_reducible assumption) | (with_reducible refine Later.out _ ?_) | (with_reducible refine bel_alloc ?_ _) | (with_reducible refine bel_drew ?_) | (with_reducible refine bel_drewN ?_ _) | (with_reducible refine bel_set ?_ ?_ _) | (with_reducible refine After.out _ ?_ ?_) | (dsimp only; omega) | omega | (simp only [World.size_alloc, World.size_setCell, World.size_drew]; omega))))).rules (Owns.row (by (repeat (first | (with_reducible exact OF.out) | (with_reducible refine owns_after _ ?_ ?_) | (with_reducible refine owns_later _ ?_ ?_) | (with_reducible refine owns_alloc ?_ _) | (with_reducible refine owns_set ?_ ?_ _) | (with_reducible refine Owns.drewN ?_ _) | (with_reducible refine owns_drew ?_) | (dsimp only; omega) | omega | ((try simp only [World.size_alloc, World.size_setCell, World.size_drew]); omega))) : Owns _ z1.w.heap.size y3.w.heap.size 2 1 F.length aF cF (intCells F))) (by have h1 := hb8.out; (repeat (first | (with_reducible exact Below.refl _ _) | (with_reducible assumption) | (with_reducible refine Later.out _ ?_) | (with_reducible refine bel_alloc ?_ _) | (with_reducible refine bel_drew ?_) | (with_reducible refine bel_drewN ?_ _) | (with_reducible refine bel_set ?_ ?_ _) | (with_reducible refine After.out _ ?_ ?_) | (dsimp only; omega) | omega | (simp only [World.size_alloc, World.size_setCell, World.size_drew]; omega))))
  · have hb1 : (bad != 0) = true := by simpa using hb0
    have hO0 : Owns (y3.w.alloc (.cells #[] 2)) y3.w.heap.size (y3.w.heap.size + 1) 2 1 0 (some ⟨y3.w.heap.size, 0, none⟩) 0 (intCells []) := by
      have := Owns.of (World.ownsRow_lit (base := y3.w.heap.size) (e := 2) (size := 1) y3.w #[] 0 (Nat.le_refl _) (by unfold maxLen; omega) rfl)
      rw [show intCells [] = [] from rfl]
      simpa [World.size_alloc] using this
    have hO1 := owns_wide hO0 (Nat.le_refl _) (show y3.w.heap.size + 1 ≤ (y3.w.alloc (.cells #[] 2)).heap.size by simp)
    replace hO1 := Lib.hid hO1
    clear hO0
    go_wp2_with fail
    with_reducible refine (next_any g 6 _ (by (repeat (first | (with_reducible exact H3.out) | (with_reducible refine SrcOk.alloc ?_ _) | (with_reducible refine SrcOk.set ?_ ?_ _) | (with_reducible refine SrcOk.drewN ?_ _) | (with_reducible refine SrcOk.drew ?_) | (with_reducible refine SrcOk.later _ ?_) | (with_reducible refine SrcOk.after _ ?_ ?_) | (dsimp only; omega) | omega | ((try simp only [World.size_alloc, World.size_setCell, World.size_drew]); omega))))).mono ?_
    rintro e w' ⟨k7, hdraw, rfl, z7, rfl, hsrc⟩
    have hsz7 := z7.btw.size
    (try simp only [World.size_alloc, World.size_setCell, World.size_drew] at hsz7)
    have H7 := Lib.hid hsrc
    clear hsrc
    obtain ⟨k70, k71⟩ := hdraw
    obtain ⟨k1, rfl⟩ := Int.eq_ofNat_of_zero_le k70
    have hbt7 : Between g (g + 1) y3.w z7.w := by (repeat (first | (with_reducible exact Between.refl _ _ _) | (with_reducible refine Between.drew ?_) | (with_reducible refine Between.drewN ?_ _) | (with_reducible refine btw_own ?_ ?_ _) | (with_reducible refine btw_later _ ?_) | (with_reducible refine btw_alloc ?_ _) | (with_reducible refine btw_after _ ?_) | (with_reducible refine btw_beyond _ ?_ ?_) | (with_reducible refine Aft.btw _ ?_ ?_) | (with_reducible assumption) | (dsimp only; omega) | omega | ((try simp only [World.size_alloc, World.size_setCell, World.size_drew]); omega)))
    have ho1 : Owns z7.w y3.w.heap.size z7.w.heap.size 2 1 0 (some ⟨y3.w.heap.size, 0, none⟩) 0 (intCells []) := by
      refine owns_wide (lo := y3.w.heap.size) (hi := (y3.w.alloc (.cells #[] 2)).heap.size) ?_ (Nat.le_refl _) (by simp only [World.size_alloc]; omega)
      (repeat (first | (with_reducible exact hO1.out) | (with_reducible refine owns_after _ ?_ ?_) | (with_reducible refine owns_later _ ?_ ?_) | (with_reducible refine owns_alloc ?_ _) | (with_reducible refine owns_set ?_ ?_ _) | (with_reducible refine Owns.drewN ?_ _) | (with_reducible refine owns_drew ?_) | (dsimp only; omega) | omega | ((try simp only [World.size_alloc, World.size_setCell, World.size_drew]); omega)))
    replace hbt7 := Lib.hid hbt7
    replace ho1 := Lib.hid ho1
    clear hO1
    go_wp2_with fail
    go_loopw [7, 9] (fun o nv wr => ∃ (S : List Int) (k : Nat) (a : Option Addr) (c : Nat), S.length + k ≤ 6 ∧ nv = .int .i64 k ∧ o = .slice a S.length c ∧ Owns wr y3.w.heap.size wr.heap.size 2 1 S.length a c (intCells S) ∧ SrcOk wr g ∧ Between g (g + 1) y3.w wr) (fun _ nv _ => (intOf nv).toNat)
    case atStart => exact ⟨[], k1, _, _, by simp only [List.length_nil]; omega, rfl, rfl, ho1.out, H7.out, hbt7.out⟩
    case round =>
      obtain ⟨S, k, aS, cS, hSk, rfl, rfl, ho, hs, hb⟩ := hrel
      obtain ⟨v, rfl⟩ := AfterC.mk hb
      have hvs := v.btw.size
      clear hb ho1 hbt7 H7
      replace hs := Lib.hid hs
      replace ho := Lib.hid ho
      by_cases hlt : 0 < k
      · have hi1 : (0 : Int) < (k : Int) := by omega
        go_wp2_with fail
        with_reducible refine (next_any g 7 _ (by (repeat (first | (with_reducible exact hs.out) | (with_reducible refine SrcOk.alloc ?_ _) | (with_reducible refine SrcOk.set ?_ ?_ _) | (with_reducible refine SrcOk.drewN ?_ _) | (with_reducible refine SrcOk.drew ?_) | (with_reducible refine SrcOk.later _ ?_) | (with_reducible refine SrcOk.after _ ?_ ?_) | (dsimp only; omega) | omega | ((try simp only [World.size_alloc, World.size_setCell, World.size_drew]); omega))))).mono ?_
        rintro e w' ⟨p, hdraw, rfl, z5, rfl, hsrc⟩
        have hsz5 := z5.btw.size
        (try simp only [World.size_alloc, World.size_setCell, World.size_drew] at hsz5)
        have H5 := Lib.hid hsrc
        clear hsrc
        obtain ⟨p0, p1⟩ := hdraw
        go_wp2_with fail
        with_reducible refine (next_any g 12 _ (by (repeat (first | (with_reducible exact H5.out) | (with_reducible refine SrcOk.alloc ?_ _) | (with_reducible refine SrcOk.set ?_ ?_ _) | (with_reducible refine SrcOk.drewN ?_ _) | (with_reducible refine SrcOk.drew ?_) | (with_reducible refine SrcOk.later _ ?_) | (with_reducible refine SrcOk.after _ ?_ ?_) | (dsimp only; omega) | omega | ((try simp only [World.size_alloc, World.size_setCell, World.size_drew]); omega))))).mono ?_
        rintro e w' ⟨p2, hdraw, rfl, z6, rfl, hsrc⟩
        have hsz6 := z6.btw.size
        (try simp only [World.size_alloc, World.size_setCell, World.size_drew] at hsz6)
        have H6 := Lib.hid hsrc
        clear hsrc
        obtain ⟨p20, p21⟩ := hdraw
        have hq : Int.tdiv p2 11 = p2 / 11 := Int.tdiv_eq_ediv_of_nonneg (by omega)
        obtain ⟨q2, hq2⟩ : ∃ q2, p2 / 11 = q2 := ⟨_, rfl⟩
        have hq3 : 0 ≤ q2 ∧ q2 ≤ 1 := by omega
        rw [hq2] at hq
        go_wp2_with (at_builtin; (refine wpList_append_apart _ rfl _ _ _ rfl 2 ii _ 1 8 Tryz.underlying25 Jii.out.1 Jii.out.2.1 Jii.out.2.2.1 Jii.out.2.2.2 rfl (by decide) (y3.w.heap.size) (v.w.heap.size) ?qb25 _ _ _ (intCells S) rfl ?qb26 ?qb32 _ _ _ ([.int .i64 (p - q2)]) rfl ?qb27 ?qb28 ?qb29 ?qb30 ?qb31 ?_); (case qb25 => (first | (dsimp only; omega) | omega | (simp only [World.size_alloc, World.size_setCell, World.size_drew]; omega))); (case qb26 => exact ((by (repeat (first | (with_reducible exact ho.out) | (with_reducible refine owns_after _ ?_ ?_) | (with_reducible refine owns_later _ ?_ ?_) | (with_reducible refine owns_alloc ?_ _) | (with_reducible refine owns_set ?_ ?_ _) | (with_reducible refine Owns.drewN ?_ _) | (with_reducible refine owns_drew ?_) | (dsimp only; omega) | omega | ((try simp only [World.size_alloc, World.size_setCell, World.size_drew]); omega))) : Owns _ y3.w.heap.size v.w.heap.size 2 1 S.length aS cS (intCells S))).own); (case qb32 => exact ho.out.lt); (case qb27 => (first | rfl | (simp [boolCells]; done) | (simp [intCells]; done) | (simp; done) | (first | omega | (simp only [List.length_append, List.length_cons, List.length_nil]; omega)))); (case qb28 => exact Row.made _ _ _); (case qb29 => exact one_intU _); (case qb30 => (unfold maxLen; (first | omega | (simp only [List.length_append, List.length_cons, List.length_nil]; omega)))); (case qb31 => (first | omega | (simp only [List.length_append, List.length_cons, List.length_nil]; omega))); intro a9 c9 x9 hown9 hat9; replace hat9 := Lib.hid hat9; replace hown9 := Lib.hid hown9; have hs9 := x9.btw.size; (try simp only [World.size_alloc, World.size_setCell, World.size_drew] at hs9))
        go_roundw
        case rel =>
          refine ⟨S ++ [p - q2], k - 1, a9, c9, by simp; omega, by go_num, by simp, ?_, ?_, ?_⟩
          · rw [intCells_snoc, show (S ++ [p - q2]).length = S.length + 1 by simp]
            exact Owns.of hown9.out
          · (repeat (first | (with_reducible exact H6.out) | (with_reducible refine SrcOk.alloc ?_ _) | (with_reducible refine SrcOk.set ?_ ?_ _) | (with_reducible refine SrcOk.drewN ?_ _) | (with_reducible refine SrcOk.drew ?_) | (with_reducible refine SrcOk.later _ ?_) | (with_reducible refine SrcOk.after _ ?_ ?_) | (dsimp only; omega) | omega | ((try simp only [World.size_alloc, World.size_setCell, World.size_drew]); omega)))
          · (repeat (first | (with_reducible exact Between.refl _ _ _) | (with_reducible refine Between.drew ?_) | (with_reducible refine Between.drewN ?_ _) | (with_reducible refine btw_own ?_ ?_ _) | (with_reducible refine btw_later _ ?_) | (with_reducible refine btw_alloc ?_ _) | (with_reducible refine btw_after _ ?_) | (with_reducible refine btw_beyond _ ?_ ?_) | (with_reducible refine Aft.btw _ ?_ ?_) | (with_reducible assumption) | (dsimp only; omega) | omega | ((try simp only [World.size_alloc, World.size_setCell, World.size_drew]); omega)))
        case measure => first | (simp [intOf]; done) | (simp [intOf]; omega) | omega
      · obtain rfl : k = 0 := by omega
        have hcap := ownsRow_cap ho.out.own
        go_wp2_with fail
        with_reducible refine (next_any g 30 _ (by (repeat (first | (with_reducible exact hs.out) | (with_reducible refine SrcOk.alloc ?_ _) | (with_reducible refine SrcOk.set ?_ ?_ _) | (with_reducible refine SrcOk.drewN ?_ _) | (with_reducible refine SrcOk.drew ?_) | (with_reducible refine SrcOk.later _ ?_) | (with_reducible refine SrcOk.after _ ?_ ?_) | (dsimp only; omega) | omega | ((try simp only [World.size_alloc, World.size_setCell, World.size_drew]); omega))))).mono ?_
        rintro e w' ⟨q5, hdraw, rfl, z8, rfl, hsrc⟩
        have hsz8 := z8.btw.size
        (try simp only [World.size_alloc, World.size_setCell, World.size_drew] at hsz8)
        have H8 := Lib.hid hsrc
        clear hsrc
        obtain ⟨q50, q51⟩ := hdraw
        have hbt8 : Between g (g + 1) y3.w z8.w := by (repeat (first | (with_reducible exact Between.refl _ _ _) | (with_reducible refine Between.drew ?_) | (with_reducible refine Between.drewN ?_ _) | (with_reducible refine btw_own ?_ ?_ _) | (with_reducible refine btw_later _ ?_) | (with_reducible refine btw_alloc ?_ _) | (with_reducible refine btw_after _ ?_) | (with_reducible refine btw_beyond _ ?_ ?_) | (with_reducible refine Aft.btw _ ?_ ?_) | (with_reducible assumption) | (dsimp only; omega) | omega | ((try simp only [World.size_alloc, World.size_setCell, World.size_drew]); omega)))
        have hR8 : RulesG z8.w y.w.heap.size a1 T := RulesG.keep hRW.out hbt8 hgy
        have hb8 : Below w.heap.size w z8.w := btw_below' hbW.out hbt8 (by omega)
        replace hR8 := Lib.hid hR8
        replace hb8 := Lib.hid hb8
        clear hbt8
        by_cases hq5 : q5 = 0
        · subst hq5
          go_wp2_with fail
          refine wp_region_plan2 [(0, true), (1, true), (2, false), (3, true), (5, true), (4, false), (6, true)] (C := LaterC (w)) (by kernel_rfl) (by kernel_rfl) (by kernel_rfl) rfl (fun _ _ d _ _ h => by cases d <;> exact h) (LaterC.mk ((by (repeat (first | (with_reducible exact Below.refl _ _) | (with_reducible assumption) | (with_reducible refine Later.out _ ?_) | (with_reducible refine bel_alloc ?_ _) | (with_reducible refine bel_drew ?_) | (with_reducible refine bel_drewN ?_ _) | (with_reducible refine bel_set ?_ ?_ _) | (with_reducible refine After.out _ ?_ ?_) | (dsimp only; omega) | omega | (simp only [World.size_alloc, World.size_setCell, World.size_drew]; omega)))))) ?_
          first | (refine plan_quiet nth0 rfl ?_; intro KP hKP; go_big_quiet_op; go_big_quiet_on) | (refine plan_skip_q nth0 rfl rfl ?_; simp only [Act.put, List.setIfInBounds_toArray, List.set_cons_zero, List.set_cons_succ])
          first | (refine plan_quiet nth1 rfl ?_; intro KP hKP; go_big_quiet_op; go_big_quiet_on) | (refine plan_skip_q nth1 rfl rfl ?_; simp only [Act.put, List.setIfInBounds_toArray, List.set_cons_zero, List.set_cons_succ])
          first | (refine plan_loud nth2 rfl ?_; intro KP hKP; go_wp2_with (first | (go_at_call 40; (with_reducible refine (next_any g 2 _ (by (repeat (first | (with_reducible exact H8.out) | (with_reducible refine SrcOk.alloc ?_ _) | (with_reducible refine SrcOk.set ?_ ?_ _) | (with_reducible refine SrcOk.drewN ?_ _) | (with_reducible refine SrcOk.drew ?_) | (with_reducible refine SrcOk.later _ ?_) | (with_reducible refine SrcOk.after _ ?_ ?_) | (dsimp only; omega) | omega | ((try simp only [World.size_alloc, World.size_setCell, World.size_drew]); omega))))).mono ?_); rintro e w' ⟨x, hdraw, rfl, z9, rfl, hsrc⟩; have hsz9 := z9.btw.size; (try simp only [World.size_alloc, World.size_setCell, World.size_drew] at hsz9); have H9 := Lib.hid hsrc; clear hsrc; obtain ⟨x0, x1⟩ := hdraw)); refine hKP _ _ (LaterC.mk (by (repeat (first | (with_reducible exact Below.refl _ _) | (with_reducible assumption) | (with_reducible refine Later.out _ ?_) | (with_reducible refine bel_alloc ?_ _) | (with_reducible refine bel_drew ?_) | (with_reducible refine bel_drewN ?_ _) | (with_reducible refine bel_set ?_ ?_ _) | (with_reducible refine After.out _ ?_ ?_) | (dsimp only; omega) | omega | (simp only [World.size_alloc, World.size_setCell, World.size_drew]; omega))))) ?_; clear hKP KP) | (refine plan_skip nth2 rfl rfl (LaterC.mk (by (repeat (first | (with_reducible exact Below.refl _ _) | (with_reducible assumption) | (with_reducible refine Later.out _ ?_) | (with_reducible refine bel_alloc ?_ _) | (with_reducible refine bel_drew ?_) | (with_reducible refine bel_drewN ?_ _) | (with_reducible refine bel_set ?_ ?_ _) | (with_reducible refine After.out _ ?_ ?_) | (dsimp only; omega) | omega | (simp only [World.size_alloc, World.size_setCell, World.size_drew]; omega))))) ?_; simp only [Act.put, List.setIfInBounds_toArray, List.set_cons_zero, List.set_cons_succ])
          first | (refine plan_quiet nth3 rfl ?_; intro KP hKP; go_big_quiet_op; go_big_quiet_on) | (refine plan_skip_q nth3 rfl rfl ?_; simp only [Act.put, List.setIfInBounds_toArray, List.set_cons_zero, List.set_cons_succ])
          first | (refine plan_quiet nth5 rfl ?_; intro KP hKP; go_big_quiet_op; go_big_quiet_on) | (refine plan_skip_q nth5 rfl rfl ?_; simp only [Act.put, List.setIfInBounds_toArray, List.set_cons_zero, List.set_cons_succ])
          obtain ⟨m, rfl⟩ := Int.eq_ofNat_of_zero_le x0
          have hm2 : m < 2 := by omega
          have hmk := run_make_row' (P := Tryz.prog) 25 2 (.int .i64 0) 8 Tryz.underlying25 info_i64 rfl .i64 .i64 (48 + m) (by omega) (by omega)
          rw [Int.natCast_add] at hmk
          simp only [Int.cast_ofNat_Int] at hmk
          refine plan_loud nth4 rfl ?_
          intro KP hKP
          go_wp2_with fail
          refine hKP _ _ (LaterC.mk (by have h1 := hb8.out; (repeat (first | (with_reducible exact Below.refl _ _) | (with_reducible assumption) | (with_reducible refine Later.out _ ?_) | (with_reducible refine bel_alloc ?_ _) | (with_reducible refine bel_drew ?_) | (with_reducible refine bel_drewN ?_ _) | (with_reducible refine bel_set ?_ ?_ _) | (with_reducible refine After.out _ ?_ ?_) | (dsimp only; omega) | omega | (simp only [World.size_alloc, World.size_setCell, World.size_drew]; omega))))) ?_
          clear hKP KP
          first | (refine plan_quiet nth6 rfl ?_; intro KP hKP; go_big_quiet_op; go_big_quiet_on) | (refine plan_skip_q nth6 rfl rfl ?_; simp only [Act.put, List.setIfInBounds_toArray, List.set_cons_zero, List.set_cons_succ])
          refine plan_nil ?_
          go_wp2_with fail
          refine bodyPost_ret (by simp [results, Tryz.results32, go_sem, ↓IntWalk.iteOmega, *]; try rfl) rfl ?_
          have hbt9 : Between g (g + 1) z8.w z9.w := by (repeat (first | (with_reducible exact Between.refl _ _ _) | (with_reducible refine Between.drew ?_) | (with_reducible refine Between.drewN ?_ _) | (with_reducible refine btw_own ?_ ?_ _) | (with_reducible refine btw_later _ ?_) | (with_reducible refine btw_alloc ?_ _) | (with_reducible refine btw_after _ ?_) | (with_reducible refine btw_beyond _ ?_ ?_) | (with_reducible refine Aft.btw _ ?_ ?_) | (with_reducible assumption) | (dsimp only; omega) | omega | ((try simp only [World.size_alloc, World.size_setCell, World.size_drew]); omega)))
          have hR9 : RulesG z9.w y.w.heap.size a1 T := RulesG.keep hR8.out hbt9 hgy
          have hb9 : Below w.heap.size w z9.w := btw_below' hb8.out hbt9 (by omega)
          exact RetTS.mk (l := List.replicate (48 + m) 0) rfl hl1.out h64 hnc hcm hok.out (by simp) (by omega) ⟨Nat.le_refl _, by unfold maxLen; omega⟩ (hR9.bel (by (repeat (first | (with_reducible exact Below.refl _ _) | (with_reducible assumption) | (with_reducible refine Later.out _ ?_) | (with_reducible refine bel_alloc ?_ _) | (with_reducible refine bel_drew ?_) | (with_reducible refine bel_drewN ?_ _) | (with_reducible refine bel_set ?_ ?_ _) | (with_reducible refine After.out _ ?_ ?_) | (dsimp only; omega) | omega | (simp only [World.size_alloc, World.size_setCell, World.size_drew]; omega))))).rules (row_made _ _) (by (repeat (first | (with_reducible exact Below.refl _ _) | (with_reducible assumption) | (with_reducible refine Later.out _ ?_) | (with_reducible refine bel_alloc ?_ _) | (with_reducible refine bel_drew ?_) | (with_reducible refine bel_drewN ?_ _) | (with_reducible refine bel_set ?_ ?_ _) | (with_reducible refine After.out _ ?_ ?_) | (dsimp only; omega) | omega | (simp only [World.size_alloc, World.size_setCell, World.size_drew]; omega))))
        · have hq0 : (q5 == 0) = false := by simpa using hq5
          go_wp2_with fail
          refine bodyPost_ret (by simp [results, Tryz.results32, go_sem, ↓IntWalk.iteOmega, *]; try rfl) rfl ?_
          exact RetTS.mk (l := S) rfl hl1.out h64 hnc hcm hok.out rfl (by omega) hcap (hR8.out.bel (by (repeat (first | (with_reducible exact Below.refl _ _) | (with_reducible assumption) | (with_reducible refine Later.out _ ?_) | (with_reducible refine bel_alloc ?_ _) | (with_reducible refine bel_drew ?_) | (with_reducible refine bel_drewN ?_ _) | (with_reducible refine bel_set ?_ ?_ _) | (with_reducible refine After.out _ ?_ ?_) | (dsimp only; omega) | omega | (simp only [World.size_alloc, World.size_setCell, World.size_drew]; omega))))).rules (Owns.row (by (repeat (first | (with_reducible exact ho.out) | (with_reducible refine owns_after _ ?_ ?_) | (with_reducible refine owns_later _ ?_ ?_) | (with_reducible refine owns_alloc ?_ _) | (with_reducible refine owns_set ?_ ?_ _) | (with_reducible refine Owns.drewN ?_ _) | (with_reducible refine owns_drew ?_) | (dsimp only; omega) | omega | ((try simp only [World.size_alloc, World.size_setCell, World.size_drew]); omega))) : Owns _ y3.w.heap.size v.w.heap.size 2 1 S.length aS cS (intCells S))) (by have h1 := hb8.out; (repeat (first | (with_reducible exact Below.refl _ _) | (with_reducible assumption) | (with_reducible refine Later.out _ ?_) | (with_reducible refine bel_alloc ?_ _) | (with_reducible refine bel_drew ?_) | (with_reducible refine bel_drewN ?_ _) | (with_reducible refine bel_set ?_ ?_ _) | (with_reducible refine After.out _ ?_ ?_) | (dsimp only; omega) | omega | (simp only [World.size_alloc, World.size_setCell, World.size_drew]; omega))))
theorem drawStb_any : Calls Tryz.prog 11 #[.slice a n c] w (RetTS w) := by
  replace hr := Lib.hid hr
  replace hl := Lib.hid hl
  replace hx := Lib.hid hx
  go_enter Tryz.func11, Tryz.ntmps11
  go_wp2_with fail
  with_reducible refine (drawSgp_any a n c bs _ (hr.out.bel (by (repeat (first | (with_reducible exact Below.refl _ _) | (with_reducible assumption) | (with_reducible refine Later.out _ ?_) | (with_reducible refine bel_alloc ?_ _) | (with_reducible refine bel_drew ?_) | (with_reducible refine bel_drewN ?_ _) | (with_reducible refine bel_set ?_ ?_ _) | (with_reducible refine After.out _ ?_ ?_) | (dsimp only; omega) | omega | (simp only [World.size_alloc, World.size_setCell, World.size_drew]; omega))))) hl.out hn hx.out).mono ?_
  rintro e w' ⟨T, a1, n1, c1, l, b1, m1, d1, rfl, hl1, h64, hnc, hcm, hok, hll, hm1, hmd, hdm, hR1, hL1, z1, rfl⟩
  have hs1 := z1.bel.size
  replace hR1 := Lib.hid hR1
  replace hL1 := Lib.hid hL1
  replace hok := Lib.hid hok
  go_wp2_with fail
  refine bodyPost_ret (by simp [results, Tryz.results11, go_sem, ↓IntWalk.iteOmega, *]; try rfl) rfl ?_
  exact RetTS.mk rfl hl1 h64 hnc hcm hok.out hll hm1 ⟨hmd, hdm⟩ hR1.out hL1.out (by (repeat (first | (with_reducible exact Below.refl _ _) | (with_reducible assumption) | (with_reducible refine Later.out _ ?_) | (with_reducible refine bel_alloc ?_ _) | (with_reducible refine bel_drew ?_) | (with_reducible refine bel_drewN ?_ _) | (with_reducible refine bel_set ?_ ?_ _) | (with_reducible refine After.out _ ?_ ?_) | (dsimp only; omega) | omega | (simp only [World.size_alloc, World.size_setCell, World.size_drew]; omega))))
end
end Go.Proofs.YtemfhcmeeldngaaGreatDoor
