import Derived.Test.YtkkhjbdnpobpnaaMaskT
/- Unions, meetings and differences of two masks: the program's and the reference's. -/
set_option linter.unusedSimpArgs false
set_option linter.unusedVariables false
namespace Go.Proofs.Ytkkhjbdnpobpnaa
open Go.RowKit
section
variable (x y W H x' y' W' H' : Int) (l l' : List Bool) (a a' : Option Addr) (n n' c c' : Nat) (w : World)
/-- What two masks give: the box, the error, the cells. -/
def comb (f : Bool → Bool → Bool) : (Int × Int × Int × Int × Int) × List Bool :=
  if twoCode x y W H x' y' W' H' l.length l'.length = 0 then ((x, y, W, H, 0), joinL f l l') else ((0, 0, 0, 0, twoCode x y W H x' y' W' H' l.length l'.length), [])
theorem mask_len {x y W H : Int} {n : Nat} (h : isMaskB x y W H n = true) : (n : Int) = W * H ∧ 0 < n ∧ n ≤ 576 := by
  simp only [isMaskB, Bool.and_eq_true, beq_iff_eq] at h
  obtain ⟨⟨⟨⟨h1, h2⟩, _⟩, _⟩, h5⟩ := h
  have := area_bd h1 h2
  exact ⟨h5, by omega, by omega⟩
theorem fits_eq {x y W H x' y' W' H' : Int} (h : fitsB x y W H x' y' W' H' = true) : x = x' ∧ y = y' ∧ W = W' ∧ H = H' := by
  simp only [fitsB, Bool.and_eq_true, beq_iff_eq] at h
  obtain ⟨⟨⟨h1, h2⟩, h3⟩, h4⟩ := h
  exact ⟨h1, h2, h3, h4⟩
end

set_option maxHeartbeats 1000000 in
theorem dif_combined (x y W H x' y' W' H' : Int) (l l' : List Bool) (a a' : Option Addr) (n n' c c' : Nat) (w : World) (X Y X2 Y2 code : Int) (L : List Bool) (hR0 : comb x y W H x' y' W' H' l l' op_dif = ((X, Y, X2, Y2, code), L)) (hn : l.length = n) (hn' : l'.length = n') (hm : n ≤ 1048576) (hm' : n' ≤ 1048576) (hr : Row w a (boolCells l)) (hr' : Row w a' (boolCells l')) :
    Calls Try.prog 39 #[.agg #[.int .i64 x, .int .i64 y, .int .i64 W, .int .i64 H, .slice a n c], .agg #[.int .i64 x', .int .i64 y', .int .i64 W', .int .i64 H', .slice a' n' c'], .func (.func 40) #[] #[]] w (RetOwn w 4 1 L.length (boolCells L) fun v => .tuple #[.agg #[.int .i64 X, .int .i64 Y, .int .i64 X2, .int .i64 Y2, v], .int .i64 code]) := by
  subst hn hn'
  have hR : (if twoCode x y W H x' y' W' H' l.length l'.length = 0 then ((x, y, W, H, (0 : Int)), joinL op_dif l l') else ((0, 0, 0, 0, twoCode x y W H x' y' W' H' l.length l'.length), [])) = ((X, Y, X2, Y2, code), L) := hR0
  clear hR0
  have hr := Lib.hid hr
  have hr' := Lib.hid hr'
  cases h1 : isMaskB x y W H l.length
  · rw [show twoCode x y W H x' y' W' H' l.length l'.length = 1 from by simp [twoCode, h1], if_neg (by decide)] at hR
    simp only [Prod.mk.injEq] at hR
    obtain ⟨⟨rfl, rfl, rfl, rfl, rfl⟩, rfl⟩ := hR
    go_enter Try.func39, Try.ntmps39
    go_wp2_with (first | (go_at_call 21; first | ((with_reducible refine (Calls.later (isMask_b _ _ _ _ _ _ _ _ h1)).mono ?_); rintro e w' ⟨rfl, xl, rfl⟩; have hsz := xl.bel.size; (try simp only [World.size_alloc, World.size_setCell, World.size_drew] at hsz); (try have hz0 : w.heap.size < xl.w.heap.size := (by omega)); (try have hz1 : w.heap.size + 1 < xl.w.heap.size := (by omega)); (try have hz2 : w.heap.size + 1 + 1 < xl.w.heap.size := (by omega))) | ((with_reducible refine (isMask_b _ _ _ _ _ _ _ _ h1).mono ?_); rintro e w' ⟨rfl, xl, rfl⟩; have hsz := xl.bel.size; (try simp only [World.size_alloc, World.size_setCell, World.size_drew] at hsz); (try have hz0 : w.heap.size < xl.w.heap.size := (by omega)); (try have hz1 : w.heap.size + 1 < xl.w.heap.size := (by omega)); (try have hz2 : w.heap.size + 1 + 1 < xl.w.heap.size := (by omega)))))
    refine bodyPost_ret (by simp [results, Try.results39, go_sem, ↓IntWalk.iteOmega, *]; try rfl) rfl ?_
    refine RetOwn.mk (.slice none 0 0) rfl (World.ownsRow_nil _ _ _ _) ?_
    (repeat (first | (with_reducible exact Below.refl _ _) | (with_reducible assumption) | (with_reducible refine Later.out _ ?_) | (with_reducible refine bel_alloc ?_ _) | (with_reducible refine bel_drew ?_) | (with_reducible refine bel_drewN ?_ _) | (with_reducible refine bel_set ?_ ?_ _) | (with_reducible refine After.out _ ?_ ?_) | (dsimp only; omega) | omega | (simp only [World.size_alloc, World.size_setCell, World.size_drew]; omega)))
  cases h2 : isMaskB x' y' W' H' l'.length
  · rw [show twoCode x y W H x' y' W' H' l.length l'.length = 1 from by simp [twoCode, h2], if_neg (by decide)] at hR
    simp only [Prod.mk.injEq] at hR
    obtain ⟨⟨rfl, rfl, rfl, rfl, rfl⟩, rfl⟩ := hR
    go_enter Try.func39, Try.ntmps39
    go_wp2_with (first | (go_at_call 21; first | ((with_reducible refine (Calls.later (isMask_b _ _ _ _ _ _ _ _ h1)).mono ?_); rintro e w' ⟨rfl, xl, rfl⟩; have hsz := xl.bel.size; (try simp only [World.size_alloc, World.size_setCell, World.size_drew] at hsz); (try have hz0 : w.heap.size < xl.w.heap.size := (by omega)); (try have hz1 : w.heap.size + 1 < xl.w.heap.size := (by omega)); (try have hz2 : w.heap.size + 1 + 1 < xl.w.heap.size := (by omega))) | ((with_reducible refine (isMask_b _ _ _ _ _ _ _ _ h1).mono ?_); rintro e w' ⟨rfl, xl, rfl⟩; have hsz := xl.bel.size; (try simp only [World.size_alloc, World.size_setCell, World.size_drew] at hsz); (try have hz0 : w.heap.size < xl.w.heap.size := (by omega)); (try have hz1 : w.heap.size + 1 < xl.w.heap.size := (by omega)); (try have hz2 : w.heap.size + 1 + 1 < xl.w.heap.size := (by omega))) | ((with_reducible refine (Calls.later (isMask_b _ _ _ _ _ _ _ _ h2)).mono ?_); rintro e w' ⟨rfl, xl, rfl⟩; have hsz := xl.bel.size; (try simp only [World.size_alloc, World.size_setCell, World.size_drew] at hsz); (try have hz0 : w.heap.size < xl.w.heap.size := (by omega)); (try have hz1 : w.heap.size + 1 < xl.w.heap.size := (by omega)); (try have hz2 : w.heap.size + 1 + 1 < xl.w.heap.size := (by omega))) | ((with_reducible refine (isMask_b _ _ _ _ _ _ _ _ h2).mono ?_); rintro e w' ⟨rfl, xl, rfl⟩; have hsz := xl.bel.size; (try simp only [World.size_alloc, World.size_setCell, World.size_drew] at hsz); (try have hz0 : w.heap.size < xl.w.heap.size := (by omega)); (try have hz1 : w.heap.size + 1 < xl.w.heap.size := (by omega)); (try have hz2 : w.heap.size + 1 + 1 < xl.w.heap.size := (by omega)))))
    refine bodyPost_ret (by simp [results, Try.results39, go_sem, ↓IntWalk.iteOmega, *]; try rfl) rfl ?_
    refine RetOwn.mk (.slice none 0 0) rfl (World.ownsRow_nil _ _ _ _) ?_
    (repeat (first | (with_reducible exact Below.refl _ _) | (with_reducible assumption) | (with_reducible refine Later.out _ ?_) | (with_reducible refine bel_alloc ?_ _) | (with_reducible refine bel_drew ?_) | (with_reducible refine bel_drewN ?_ _) | (with_reducible refine bel_set ?_ ?_ _) | (with_reducible refine After.out _ ?_ ?_) | (dsimp only; omega) | omega | (simp only [World.size_alloc, World.size_setCell, World.size_drew]; omega)))
  cases h3 : fitsB x y W H x' y' W' H'
  · rw [show twoCode x y W H x' y' W' H' l.length l'.length = 5 from by simp [twoCode, h1, h2, h3], if_neg (by decide)] at hR
    simp only [Prod.mk.injEq] at hR
    obtain ⟨⟨rfl, rfl, rfl, rfl, rfl⟩, rfl⟩ := hR
    have hf : fitsB x y W H x' y' W' H' = false := h3
    have FT := Lib.hid (fun a n c a' n' c' w => by have h := fits_any x y W H x' y' W' H' a a' n n' c c' w; rw [h3] at h; exact h)
    clear h3 hf
    go_enter Try.func39, Try.ntmps39
    go_wp2_with (first | (go_at_call 21; first | ((with_reducible refine (Calls.later (isMask_b _ _ _ _ _ _ _ _ h1)).mono ?_); rintro e w' ⟨rfl, xl, rfl⟩; have hsz := xl.bel.size; (try simp only [World.size_alloc, World.size_setCell, World.size_drew] at hsz); (try have hz0 : w.heap.size < xl.w.heap.size := (by omega)); (try have hz1 : w.heap.size + 1 < xl.w.heap.size := (by omega)); (try have hz2 : w.heap.size + 1 + 1 < xl.w.heap.size := (by omega))) | ((with_reducible refine (isMask_b _ _ _ _ _ _ _ _ h1).mono ?_); rintro e w' ⟨rfl, xl, rfl⟩; have hsz := xl.bel.size; (try simp only [World.size_alloc, World.size_setCell, World.size_drew] at hsz); (try have hz0 : w.heap.size < xl.w.heap.size := (by omega)); (try have hz1 : w.heap.size + 1 < xl.w.heap.size := (by omega)); (try have hz2 : w.heap.size + 1 + 1 < xl.w.heap.size := (by omega))) | ((with_reducible refine (Calls.later (isMask_b _ _ _ _ _ _ _ _ h2)).mono ?_); rintro e w' ⟨rfl, xl, rfl⟩; have hsz := xl.bel.size; (try simp only [World.size_alloc, World.size_setCell, World.size_drew] at hsz); (try have hz0 : w.heap.size < xl.w.heap.size := (by omega)); (try have hz1 : w.heap.size + 1 < xl.w.heap.size := (by omega)); (try have hz2 : w.heap.size + 1 + 1 < xl.w.heap.size := (by omega))) | ((with_reducible refine (isMask_b _ _ _ _ _ _ _ _ h2).mono ?_); rintro e w' ⟨rfl, xl, rfl⟩; have hsz := xl.bel.size; (try simp only [World.size_alloc, World.size_setCell, World.size_drew] at hsz); (try have hz0 : w.heap.size < xl.w.heap.size := (by omega)); (try have hz1 : w.heap.size + 1 < xl.w.heap.size := (by omega)); (try have hz2 : w.heap.size + 1 + 1 < xl.w.heap.size := (by omega)))) | (go_at_call 65; first | ((with_reducible refine (Calls.later (FT.out _ _ _ _ _ _ _)).mono ?_); rintro e w' ⟨rfl, xl, rfl⟩; have hsz := xl.bel.size; (try simp only [World.size_alloc, World.size_setCell, World.size_drew] at hsz); (try have hz0 : w.heap.size < xl.w.heap.size := (by omega)); (try have hz1 : w.heap.size + 1 < xl.w.heap.size := (by omega)); (try have hz2 : w.heap.size + 1 + 1 < xl.w.heap.size := (by omega))) | ((with_reducible refine (FT.out _ _ _ _ _ _ _).mono ?_); rintro e w' ⟨rfl, xl, rfl⟩; have hsz := xl.bel.size; (try simp only [World.size_alloc, World.size_setCell, World.size_drew] at hsz); (try have hz0 : w.heap.size < xl.w.heap.size := (by omega)); (try have hz1 : w.heap.size + 1 < xl.w.heap.size := (by omega)); (try have hz2 : w.heap.size + 1 + 1 < xl.w.heap.size := (by omega)))))
    refine bodyPost_ret (by simp [results, Try.results39, go_sem, ↓IntWalk.iteOmega, *]; try rfl) rfl ?_
    refine RetOwn.mk (.slice none 0 0) rfl (World.ownsRow_nil _ _ _ _) ?_
    (repeat (first | (with_reducible exact Below.refl _ _) | (with_reducible assumption) | (with_reducible refine Later.out _ ?_) | (with_reducible refine bel_alloc ?_ _) | (with_reducible refine bel_drew ?_) | (with_reducible refine bel_drewN ?_ _) | (with_reducible refine bel_set ?_ ?_ _) | (with_reducible refine After.out _ ?_ ?_) | (dsimp only; omega) | omega | (simp only [World.size_alloc, World.size_setCell, World.size_drew]; omega)))
  rw [show twoCode x y W H x' y' W' H' l.length l'.length = 0 from by simp [twoCode, h1, h2, h3], if_pos rfl] at hR
  obtain ⟨e1, p1, q1⟩ := mask_len h1
  obtain ⟨e2, p2, q2⟩ := mask_len h2
  obtain ⟨rfl, rfl, rfl, rfl⟩ := fits_eq h3
  have hll : l.length = l'.length := by omega
  simp only [Prod.mk.injEq] at hR
  obtain ⟨⟨rfl, rfl, rfl, rfl, rfl⟩, rfl⟩ := hR
  have FT := Lib.hid (fun a n c a' n' c' w => by have h := fits_any x y W H x y W H a a' n n' c c' w; rw [h3] at h; exact h)
  have HL := Lib.hid hll
  have HJ := Lib.hid (length_joinL op_dif l l' hll)
  clear h3 e1 e2 hll
  go_enter Try.func39, Try.ntmps39
  go_wp2_with (first | (go_at_call 21; first | ((with_reducible refine (Calls.later (isMask_b _ _ _ _ _ _ _ _ h1)).mono ?_); rintro e w' ⟨rfl, xl, rfl⟩; have hsz := xl.bel.size; (try simp only [World.size_alloc, World.size_setCell, World.size_drew] at hsz); (try have hz0 : w.heap.size < xl.w.heap.size := (by omega)); (try have hz1 : w.heap.size + 1 < xl.w.heap.size := (by omega)); (try have hz2 : w.heap.size + 1 + 1 < xl.w.heap.size := (by omega))) | ((with_reducible refine (isMask_b _ _ _ _ _ _ _ _ h1).mono ?_); rintro e w' ⟨rfl, xl, rfl⟩; have hsz := xl.bel.size; (try simp only [World.size_alloc, World.size_setCell, World.size_drew] at hsz); (try have hz0 : w.heap.size < xl.w.heap.size := (by omega)); (try have hz1 : w.heap.size + 1 < xl.w.heap.size := (by omega)); (try have hz2 : w.heap.size + 1 + 1 < xl.w.heap.size := (by omega))) | ((with_reducible refine (Calls.later (isMask_b _ _ _ _ _ _ _ _ h2)).mono ?_); rintro e w' ⟨rfl, xl, rfl⟩; have hsz := xl.bel.size; (try simp only [World.size_alloc, World.size_setCell, World.size_drew] at hsz); (try have hz0 : w.heap.size < xl.w.heap.size := (by omega)); (try have hz1 : w.heap.size + 1 < xl.w.heap.size := (by omega)); (try have hz2 : w.heap.size + 1 + 1 < xl.w.heap.size := (by omega))) | ((with_reducible refine (isMask_b _ _ _ _ _ _ _ _ h2).mono ?_); rintro e w' ⟨rfl, xl, rfl⟩; have hsz := xl.bel.size; (try simp only [World.size_alloc, World.size_setCell, World.size_drew] at hsz); (try have hz0 : w.heap.size < xl.w.heap.size := (by omega)); (try have hz1 : w.heap.size + 1 < xl.w.heap.size := (by omega)); (try have hz2 : w.heap.size + 1 + 1 < xl.w.heap.size := (by omega)))) | (go_at_call 65; first | ((with_reducible refine (Calls.later (FT.out _ _ _ _ _ _ _)).mono ?_); rintro e w' ⟨rfl, xl, rfl⟩; have hsz := xl.bel.size; (try simp only [World.size_alloc, World.size_setCell, World.size_drew] at hsz); (try have hz0 : w.heap.size < xl.w.heap.size := (by omega)); (try have hz1 : w.heap.size + 1 < xl.w.heap.size := (by omega)); (try have hz2 : w.heap.size + 1 + 1 < xl.w.heap.size := (by omega))) | ((with_reducible refine (FT.out _ _ _ _ _ _ _).mono ?_); rintro e w' ⟨rfl, xl, rfl⟩; have hsz := xl.bel.size; (try simp only [World.size_alloc, World.size_setCell, World.size_drew] at hsz); (try have hz0 : w.heap.size < xl.w.heap.size := (by omega)); (try have hz1 : w.heap.size + 1 < xl.w.heap.size := (by omega)); (try have hz2 : w.heap.size + 1 + 1 < xl.w.heap.size := (by omega)))) | (go_at_call 55; refine (dif_filled x y W H (w.heap.size + 1 + 1) w.heap.size (w.heap.size + 1) l.length c l'.length c' a a' l l' a c _ ⟨by simp [go_sem, ↓IntWalk.iteOmega, *], by simp [go_sem, ↓IntWalk.iteOmega, *], by simp [go_sem, ↓IntWalk.iteOmega, *], hr.out.bel (by (repeat (first | (with_reducible exact Below.refl _ _) | (with_reducible assumption) | (with_reducible refine Later.out _ ?_) | (with_reducible refine bel_alloc ?_ _) | (with_reducible refine bel_drew ?_) | (with_reducible refine bel_drewN ?_ _) | (with_reducible refine bel_set ?_ ?_ _) | (with_reducible refine After.out _ ?_ ?_) | (dsimp only; omega) | omega | (simp only [World.size_alloc, World.size_setCell, World.size_drew]; omega)))), hr'.out.bel (by (repeat (first | (with_reducible exact Below.refl _ _) | (with_reducible assumption) | (with_reducible refine Later.out _ ?_) | (with_reducible refine bel_alloc ?_ _) | (with_reducible refine bel_drew ?_) | (with_reducible refine bel_drewN ?_ _) | (with_reducible refine bel_set ?_ ?_ _) | (with_reducible refine After.out _ ?_ ?_) | (dsimp only; omega) | omega | (simp only [World.size_alloc, World.size_setCell, World.size_drew]; omega)))), rfl, rfl⟩ HL.out p1 hm).mono ?_; rintro e w' ⟨a3, c3, rfl, hown, xl, rfl⟩; have HO := Lib.hid hown; clear hown; have hsz := xl.bel.size; (try simp only [World.size_alloc, World.size_setCell, World.size_drew] at hsz); (try have hz0 : w.heap.size < xl.w.heap.size := (by omega)); (try have hz1 : w.heap.size + 1 < xl.w.heap.size := (by omega)); (try have hz2 : w.heap.size + 1 + 1 < xl.w.heap.size := (by omega))))
  refine bodyPost_ret (by simp [results, Try.results39, go_sem, ↓IntWalk.iteOmega, *]; try rfl) rfl ?_
  refine RetOwn.mk _ rfl ?_ ?_
  · rw [HJ.out]
    (refine own_mono (base := ?ob1) ?oh1 ?os1; (case oh1 => ((repeat (with_reducible refine own_set ?_ ?_ _)); (with_reducible exact HO.out); all_goals (first | (dsimp only; omega) | omega | (simp only [World.size_alloc, World.size_setCell, World.size_drew]; omega)))); (case os1 => (first | (dsimp only; omega) | omega | (simp only [World.size_alloc, World.size_setCell, World.size_drew]; omega))))
  · (repeat (first | (with_reducible exact Below.refl _ _) | (with_reducible assumption) | (with_reducible refine Later.out _ ?_) | (with_reducible refine bel_alloc ?_ _) | (with_reducible refine bel_drew ?_) | (with_reducible refine bel_drewN ?_ _) | (with_reducible refine bel_set ?_ ?_ _) | (with_reducible refine After.out _ ?_ ?_) | (dsimp only; omega) | omega | (simp only [World.size_alloc, World.size_setCell, World.size_drew]; omega)))

set_option maxHeartbeats 400000 in
theorem dif_impl (x y W H x' y' W' H' : Int) (l l' : List Bool) (a a' : Option Addr) (n n' c c' : Nat) (w : World) (X Y X2 Y2 code : Int) (L : List Bool) (hR0 : comb x y W H x' y' W' H' l l' op_dif = ((X, Y, X2, Y2, code), L)) (hn : l.length = n) (hn' : l'.length = n') (hm : n ≤ 1048576) (hm' : n' ≤ 1048576) (hr : Row w a (boolCells l)) (hr' : Row w a' (boolCells l')) :
    Calls Try.prog 16 #[.agg #[.int .i64 x, .int .i64 y, .int .i64 W, .int .i64 H, .slice a n c], .agg #[.int .i64 x', .int .i64 y', .int .i64 W', .int .i64 H', .slice a' n' c']] w (RetOwn w 4 1 L.length (boolCells L) fun v => .tuple #[.agg #[.int .i64 X, .int .i64 Y, .int .i64 X2, .int .i64 Y2, v], .int .i64 code]) := by
  have hr := Lib.hid hr
  have hr' := Lib.hid hr'
  have hn := Lib.hid hn
  have hn' := Lib.hid hn'
  have hR := Lib.hid hR0
  clear hR0
  go_enter Try.func16, Try.ntmps16
  go_wp2_with (go_at_call 39; refine (dif_combined x y W H x' y' W' H' l l' a a' n n' c c' _ X Y X2 Y2 code L hR.out hn.out hn'.out hm hm' (hr.out.bel (by (repeat (first | (with_reducible exact Below.refl _ _) | (with_reducible assumption) | (with_reducible refine Later.out _ ?_) | (with_reducible refine bel_alloc ?_ _) | (with_reducible refine bel_drew ?_) | (with_reducible refine bel_drewN ?_ _) | (with_reducible refine bel_set ?_ ?_ _) | (with_reducible refine After.out _ ?_ ?_) | (dsimp only; omega) | omega | (simp only [World.size_alloc, World.size_setCell, World.size_drew]; omega))))) (hr'.out.bel (by (repeat (first | (with_reducible exact Below.refl _ _) | (with_reducible assumption) | (with_reducible refine Later.out _ ?_) | (with_reducible refine bel_alloc ?_ _) | (with_reducible refine bel_drew ?_) | (with_reducible refine bel_drewN ?_ _) | (with_reducible refine bel_set ?_ ?_ _) | (with_reducible refine After.out _ ?_ ?_) | (dsimp only; omega) | omega | (simp only [World.size_alloc, World.size_setCell, World.size_drew]; omega)))))).mono ?_; rintro e w' ⟨a3, c3, rfl, hown, xl, rfl⟩; have HO := Lib.hid hown; clear hown; have hsz := xl.bel.size; (try simp only [World.size_alloc, World.size_setCell, World.size_drew] at hsz); (try have hz0 : w.heap.size < xl.w.heap.size := (by omega)); (try have hz1 : w.heap.size + 1 < xl.w.heap.size := (by omega)); (try have hz2 : w.heap.size + 1 + 1 < xl.w.heap.size := (by omega)))
  refine bodyPost_ret (by simp [results, Try.results16, go_sem, ↓IntWalk.iteOmega, *]; try rfl) rfl ?_
  refine RetOwn.mk _ rfl ?_ ?_
  · (refine own_mono (base := ?ob2) ?oh2 ?os2; (case oh2 => ((repeat (with_reducible refine own_set ?_ ?_ _)); (with_reducible exact HO.out); all_goals (first | (dsimp only; omega) | omega | (simp only [World.size_alloc, World.size_setCell, World.size_drew]; omega)))); (case os2 => (first | (dsimp only; omega) | omega | (simp only [World.size_alloc, World.size_setCell, World.size_drew]; omega))))
  · (repeat (first | (with_reducible exact Below.refl _ _) | (with_reducible assumption) | (with_reducible refine Later.out _ ?_) | (with_reducible refine bel_alloc ?_ _) | (with_reducible refine bel_drew ?_) | (with_reducible refine bel_drewN ?_ _) | (with_reducible refine bel_set ?_ ?_ _) | (with_reducible refine After.out _ ?_ ?_) | (dsimp only; omega) | omega | (simp only [World.size_alloc, World.size_setCell, World.size_drew]; omega)))

end Go.Proofs.Ytkkhjbdnpobpnaa
