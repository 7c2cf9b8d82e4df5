import Derived.Test.YtkkhjbdnpobpnaaPieceS
/- The piece with a point, on both sides. -/
set_option linter.unusedSimpArgs false
set_option linter.unusedVariables false
namespace Go.Proofs.Ytkkhjbdnpobpnaa
open Go.RowKit
/-- What is told of a mask and a point: the piece's box, the code and the piece. -/
noncomputable def atR (x y W H px py : Int) (l : List Bool) : (Int × Int × Int × Int × Int) × List Bool :=
  if isMaskB x y W H l.length && isPointB px py then
    if l[(cellB x y W H px py).toNat]? = some true ∧ 0 ≤ cellB x y W H px py then ((x, y, W, H, 0), pieceL l (Beside x y W H) (cellB x y W H px py).toNat)
    else ((0, 0, 0, 0, 4), [])
  else ((0, 0, 0, 0, 1), [])
set_option maxRecDepth 4000 in
set_option maxHeartbeats 1000000 in
theorem at_impl (x y W H px py : Int) (l : List Bool) (a : Option Addr) (n c : Nat) (w : World) (X Y X2 Y2 code : Int) (L : List Bool) (hR : atR x y W H px py l = ((X, Y, X2, Y2, code), L)) (hn : l.length = n) (hm : n ≤ 1048576) (hr : Row w a (boolCells l)) :
    Calls Try.prog 6 #[.agg #[.int .i64 x, .int .i64 y, .int .i64 W, .int .i64 H, .slice a n c], .agg #[.int .i64 px, .int .i64 py]] w (RetOwn w 4 1 L.length (boolCells L) fun v => .tuple #[.agg #[.int .i64 X, .int .i64 Y, .int .i64 X2, .int .i64 Y2, v], .int .i64 code]) := by
  unfold atR at hR
  rw [hn] at hR
  replace hr := Lib.hid hr
  cases h1 : isMaskB x y W H n
  · rw [h1] at hR
    simp only [Bool.false_and, Bool.false_eq_true, if_false, Prod.mk.injEq] at hR
    obtain ⟨⟨rfl, rfl, rfl, rfl, rfl⟩, rfl⟩ := hR
    replace h1 := Lib.hid h1
    clear hn
    go_enter Try.func6, Try.ntmps6
    go_wp2_with (first | (go_at_call 21; first | ((with_reducible refine (Calls.later (isMask_b _ _ _ _ _ _ _ _ h1.out)).mono ?_); rintro e w' ⟨rfl, xl, rfl⟩; have hsz := xl.bel.size; (try simp only [World.size_alloc, World.size_setCell, World.size_drew] at hsz); (try have hz0 : w.heap.size < xl.w.heap.size := (by omega)); (try have hz1 : w.heap.size + 1 < xl.w.heap.size := (by omega)); (try have hz2 : w.heap.size + 1 + 1 < xl.w.heap.size := (by omega))) | ((with_reducible refine (isMask_b _ _ _ _ _ _ _ _ h1.out).mono ?_); rintro e w' ⟨rfl, xl, rfl⟩; have hsz := xl.bel.size; (try simp only [World.size_alloc, World.size_setCell, World.size_drew] at hsz); (try have hz0 : w.heap.size < xl.w.heap.size := (by omega)); (try have hz1 : w.heap.size + 1 < xl.w.heap.size := (by omega)); (try have hz2 : w.heap.size + 1 + 1 < xl.w.heap.size := (by omega)))))
    refine bodyPost_ret (by simp [results, Try.results6, go_sem, ↓IntWalk.iteOmega, *]; try rfl) rfl ?_
    refine RetOwn.mk (.slice none 0 0) rfl (World.ownsRow_nil _ _ _ _) ?_
    (repeat (first | (with_reducible exact Below.refl _ _) | (with_reducible assumption) | (with_reducible refine Later.out _ ?_) | (with_reducible refine bel_alloc ?_ _) | (with_reducible refine bel_drew ?_) | (with_reducible refine bel_drewN ?_ _) | (with_reducible refine bel_set ?_ ?_ _) | (with_reducible refine After.out _ ?_ ?_) | (dsimp only; omega) | omega | (simp only [World.size_alloc, World.size_setCell, World.size_drew]; omega)))
  cases h2 : isPointB px py
  · rw [h1, h2] at hR
    simp only [Bool.true_and, Bool.false_eq_true, if_false, Prod.mk.injEq] at hR
    obtain ⟨⟨rfl, rfl, rfl, rfl, rfl⟩, rfl⟩ := hR
    replace h1 := Lib.hid h1
    replace h2 := Lib.hid h2
    clear hn
    go_enter Try.func6, Try.ntmps6
    go_wp2_with (first | (go_at_call 21; first | ((with_reducible refine (Calls.later (isMask_b _ _ _ _ _ _ _ _ h1.out)).mono ?_); rintro e w' ⟨rfl, xl, rfl⟩; have hsz := xl.bel.size; (try simp only [World.size_alloc, World.size_setCell, World.size_drew] at hsz); (try have hz0 : w.heap.size < xl.w.heap.size := (by omega)); (try have hz1 : w.heap.size + 1 < xl.w.heap.size := (by omega)); (try have hz2 : w.heap.size + 1 + 1 < xl.w.heap.size := (by omega))) | ((with_reducible refine (isMask_b _ _ _ _ _ _ _ _ h1.out).mono ?_); rintro e w' ⟨rfl, xl, rfl⟩; have hsz := xl.bel.size; (try simp only [World.size_alloc, World.size_setCell, World.size_drew] at hsz); (try have hz0 : w.heap.size < xl.w.heap.size := (by omega)); (try have hz1 : w.heap.size + 1 < xl.w.heap.size := (by omega)); (try have hz2 : w.heap.size + 1 + 1 < xl.w.heap.size := (by omega)))) | (go_at_call 22; first | ((with_reducible refine (Calls.later (isPoint_b _ h2.out)).mono ?_); rintro e w' ⟨rfl, xl, rfl⟩; have hsz := xl.bel.size; (try simp only [World.size_alloc, World.size_setCell, World.size_drew] at hsz); (try have hz0 : w.heap.size < xl.w.heap.size := (by omega)); (try have hz1 : w.heap.size + 1 < xl.w.heap.size := (by omega)); (try have hz2 : w.heap.size + 1 + 1 < xl.w.heap.size := (by omega))) | ((with_reducible refine (isPoint_b _ h2.out).mono ?_); rintro e w' ⟨rfl, xl, rfl⟩; have hsz := xl.bel.size; (try simp only [World.size_alloc, World.size_setCell, World.size_drew] at hsz); (try have hz0 : w.heap.size < xl.w.heap.size := (by omega)); (try have hz1 : w.heap.size + 1 < xl.w.heap.size := (by omega)); (try have hz2 : w.heap.size + 1 + 1 < xl.w.heap.size := (by omega)))))
    refine bodyPost_ret (by simp [results, Try.results6, go_sem, ↓IntWalk.iteOmega, *]; try rfl) rfl ?_
    refine RetOwn.mk (.slice none 0 0) rfl (World.ownsRow_nil _ _ _ _) ?_
    (repeat (first | (with_reducible exact Below.refl _ _) | (with_reducible assumption) | (with_reducible refine Later.out _ ?_) | (with_reducible refine bel_alloc ?_ _) | (with_reducible refine bel_drew ?_) | (with_reducible refine bel_drewN ?_ _) | (with_reducible refine bel_set ?_ ?_ _) | (with_reducible refine After.out _ ?_ ?_) | (dsimp only; omega) | omega | (simp only [World.size_alloc, World.size_setCell, World.size_drew]; omega)))
  rw [h1, h2] at hR
  simp only [Bool.and_self, if_true] at hR
  have HB := Lib.hid (box_of h1)
  obtain ⟨l1, l2, l3, l4⟩ := isPointB_iff.1 h2
  have CE := fun w => cell_any x y W H px py a n c w HB.out (by omega) (by omega) (by omega) (by omega)
  replace h1 := Lib.hid h1
  replace h2 := Lib.hid h2
  have hlt := cellB_lt (px := px) (py := py) HB.out rfl
  obtain ⟨i, hi⟩ : ∃ i, cellB x y W H px py = i := ⟨_, rfl⟩
  rw [hi] at hR hlt
  simp only [hi] at CE
  replace CE := Lib.hid CE
  clear hi l1 l2 l3 l4
  rcases hlt with rfl | ⟨i0, i1⟩
  · rw [if_neg (by omega)] at hR
    simp only [Prod.mk.injEq] at hR
    obtain ⟨⟨rfl, rfl, rfl, rfl, rfl⟩, rfl⟩ := hR
    clear hn
    go_enter Try.func6, Try.ntmps6
    go_wp2_with (first | (go_at_call 21; first | ((with_reducible refine (Calls.later (isMask_b _ _ _ _ _ _ _ _ h1.out)).mono ?_); rintro e w' ⟨rfl, xl, rfl⟩; have hsz := xl.bel.size; (try simp only [World.size_alloc, World.size_setCell, World.size_drew] at hsz); (try have hz0 : w.heap.size < xl.w.heap.size := (by omega)); (try have hz1 : w.heap.size + 1 < xl.w.heap.size := (by omega)); (try have hz2 : w.heap.size + 1 + 1 < xl.w.heap.size := (by omega))) | ((with_reducible refine (isMask_b _ _ _ _ _ _ _ _ h1.out).mono ?_); rintro e w' ⟨rfl, xl, rfl⟩; have hsz := xl.bel.size; (try simp only [World.size_alloc, World.size_setCell, World.size_drew] at hsz); (try have hz0 : w.heap.size < xl.w.heap.size := (by omega)); (try have hz1 : w.heap.size + 1 < xl.w.heap.size := (by omega)); (try have hz2 : w.heap.size + 1 + 1 < xl.w.heap.size := (by omega)))) | (go_at_call 22; first | ((with_reducible refine (Calls.later (isPoint_b _ h2.out)).mono ?_); rintro e w' ⟨rfl, xl, rfl⟩; have hsz := xl.bel.size; (try simp only [World.size_alloc, World.size_setCell, World.size_drew] at hsz); (try have hz0 : w.heap.size < xl.w.heap.size := (by omega)); (try have hz1 : w.heap.size + 1 < xl.w.heap.size := (by omega)); (try have hz2 : w.heap.size + 1 + 1 < xl.w.heap.size := (by omega))) | ((with_reducible refine (isPoint_b _ h2.out).mono ?_); rintro e w' ⟨rfl, xl, rfl⟩; have hsz := xl.bel.size; (try simp only [World.size_alloc, World.size_setCell, World.size_drew] at hsz); (try have hz0 : w.heap.size < xl.w.heap.size := (by omega)); (try have hz1 : w.heap.size + 1 < xl.w.heap.size := (by omega)); (try have hz2 : w.heap.size + 1 + 1 < xl.w.heap.size := (by omega)))) | (go_at_call 23; first | ((with_reducible refine (Calls.later (CE.out _)).mono ?_); rintro e w' ⟨rfl, xl, rfl⟩; have hsz := xl.bel.size; (try simp only [World.size_alloc, World.size_setCell, World.size_drew] at hsz); (try have hz0 : w.heap.size < xl.w.heap.size := (by omega)); (try have hz1 : w.heap.size + 1 < xl.w.heap.size := (by omega)); (try have hz2 : w.heap.size + 1 + 1 < xl.w.heap.size := (by omega))) | ((with_reducible refine (CE.out _).mono ?_); rintro e w' ⟨rfl, xl, rfl⟩; have hsz := xl.bel.size; (try simp only [World.size_alloc, World.size_setCell, World.size_drew] at hsz); (try have hz0 : w.heap.size < xl.w.heap.size := (by omega)); (try have hz1 : w.heap.size + 1 < xl.w.heap.size := (by omega)); (try have hz2 : w.heap.size + 1 + 1 < xl.w.heap.size := (by omega)))))
    refine bodyPost_ret (by simp [results, Try.results6, go_sem, ↓IntWalk.iteOmega, *]; try rfl) rfl ?_
    refine RetOwn.mk (.slice none 0 0) rfl (World.ownsRow_nil _ _ _ _) ?_
    (repeat (first | (with_reducible exact Below.refl _ _) | (with_reducible assumption) | (with_reducible refine Later.out _ ?_) | (with_reducible refine bel_alloc ?_ _) | (with_reducible refine bel_drew ?_) | (with_reducible refine bel_drewN ?_ _) | (with_reducible refine bel_set ?_ ?_ _) | (with_reducible refine After.out _ ?_ ?_) | (dsimp only; omega) | omega | (simp only [World.size_alloc, World.size_setCell, World.size_drew]; omega)))
  obtain ⟨k', rfl⟩ := Int.eq_ofNat_of_zero_le i0
  have hk'n : k' < n := by omega
  have hk'l : k' < l.length := by omega
  have HN := Lib.hid hn
  clear hn
  rw [Int.toNat_natCast, List.getElem?_eq_getElem hk'l] at hR
  have n2 := HB.out.n2
  obtain ⟨bb, oo, rfl, hlc⟩ := hr.out k' _ (boolCells_get hk'l)
  have q3 : bb < w.heap.size := World.block_lt_of_cell? w _ hlc
  cases hv : l[k']
  · rw [hv] at hlc hR
    rw [if_neg (by simp)] at hR
    simp only [Prod.mk.injEq] at hR
    obtain ⟨⟨rfl, rfl, rfl, rfl, rfl⟩, rfl⟩ := hR
    replace hv := Lib.hid hv
    go_enter Try.func6, Try.ntmps6
    go_wp2_with (first | (go_at_call 21; first | ((with_reducible refine (Calls.later (isMask_b _ _ _ _ _ _ _ _ h1.out)).mono ?_); rintro e w' ⟨rfl, xl, rfl⟩; have hsz := xl.bel.size; (try simp only [World.size_alloc, World.size_setCell, World.size_drew] at hsz); (try have hz0 : w.heap.size < xl.w.heap.size := (by omega)); (try have hz1 : w.heap.size + 1 < xl.w.heap.size := (by omega)); (try have hz2 : w.heap.size + 1 + 1 < xl.w.heap.size := (by omega))) | ((with_reducible refine (isMask_b _ _ _ _ _ _ _ _ h1.out).mono ?_); rintro e w' ⟨rfl, xl, rfl⟩; have hsz := xl.bel.size; (try simp only [World.size_alloc, World.size_setCell, World.size_drew] at hsz); (try have hz0 : w.heap.size < xl.w.heap.size := (by omega)); (try have hz1 : w.heap.size + 1 < xl.w.heap.size := (by omega)); (try have hz2 : w.heap.size + 1 + 1 < xl.w.heap.size := (by omega)))) | (go_at_call 22; first | ((with_reducible refine (Calls.later (isPoint_b _ h2.out)).mono ?_); rintro e w' ⟨rfl, xl, rfl⟩; have hsz := xl.bel.size; (try simp only [World.size_alloc, World.size_setCell, World.size_drew] at hsz); (try have hz0 : w.heap.size < xl.w.heap.size := (by omega)); (try have hz1 : w.heap.size + 1 < xl.w.heap.size := (by omega)); (try have hz2 : w.heap.size + 1 + 1 < xl.w.heap.size := (by omega))) | ((with_reducible refine (isPoint_b _ h2.out).mono ?_); rintro e w' ⟨rfl, xl, rfl⟩; have hsz := xl.bel.size; (try simp only [World.size_alloc, World.size_setCell, World.size_drew] at hsz); (try have hz0 : w.heap.size < xl.w.heap.size := (by omega)); (try have hz1 : w.heap.size + 1 < xl.w.heap.size := (by omega)); (try have hz2 : w.heap.size + 1 + 1 < xl.w.heap.size := (by omega)))) | (go_at_call 23; first | ((with_reducible refine (Calls.later (CE.out _)).mono ?_); rintro e w' ⟨rfl, xl, rfl⟩; have hsz := xl.bel.size; (try simp only [World.size_alloc, World.size_setCell, World.size_drew] at hsz); (try have hz0 : w.heap.size < xl.w.heap.size := (by omega)); (try have hz1 : w.heap.size + 1 < xl.w.heap.size := (by omega)); (try have hz2 : w.heap.size + 1 + 1 < xl.w.heap.size := (by omega))) | ((with_reducible refine (CE.out _).mono ?_); rintro e w' ⟨rfl, xl, rfl⟩; have hsz := xl.bel.size; (try simp only [World.size_alloc, World.size_setCell, World.size_drew] at hsz); (try have hz0 : w.heap.size < xl.w.heap.size := (by omega)); (try have hz1 : w.heap.size + 1 < xl.w.heap.size := (by omega)); (try have hz2 : w.heap.size + 1 + 1 < xl.w.heap.size := (by omega)))))
    refine bodyPost_ret (by simp [results, Try.results6, go_sem, ↓IntWalk.iteOmega, *]; try rfl) rfl ?_
    refine RetOwn.mk (.slice none 0 0) rfl (World.ownsRow_nil _ _ _ _) ?_
    (repeat (first | (with_reducible exact Below.refl _ _) | (with_reducible assumption) | (with_reducible refine Later.out _ ?_) | (with_reducible refine bel_alloc ?_ _) | (with_reducible refine bel_drew ?_) | (with_reducible refine bel_drewN ?_ _) | (with_reducible refine bel_set ?_ ?_ _) | (with_reducible refine After.out _ ?_ ?_) | (dsimp only; omega) | omega | (simp only [World.size_alloc, World.size_setCell, World.size_drew]; omega)))
  rw [hv] at hlc hR
  rw [if_pos ⟨rfl, by omega⟩] at hR
  simp only [Prod.mk.injEq] at hR
  obtain ⟨⟨rfl, rfl, rfl, rfl, rfl⟩, rfl⟩ := hR
  replace hv := Lib.hid hv
  rw [length_pieceL, HN.out]
  go_enter Try.func6, Try.ntmps6
  go_wp2_with (first | (go_at_call 21; first | ((with_reducible refine (Calls.later (isMask_b _ _ _ _ _ _ _ _ h1.out)).mono ?_); rintro e w' ⟨rfl, xl, rfl⟩; have hsz := xl.bel.size; (try simp only [World.size_alloc, World.size_setCell, World.size_drew] at hsz); (try have hz0 : w.heap.size < xl.w.heap.size := (by omega)); (try have hz1 : w.heap.size + 1 < xl.w.heap.size := (by omega)); (try have hz2 : w.heap.size + 1 + 1 < xl.w.heap.size := (by omega))) | ((with_reducible refine (isMask_b _ _ _ _ _ _ _ _ h1.out).mono ?_); rintro e w' ⟨rfl, xl, rfl⟩; have hsz := xl.bel.size; (try simp only [World.size_alloc, World.size_setCell, World.size_drew] at hsz); (try have hz0 : w.heap.size < xl.w.heap.size := (by omega)); (try have hz1 : w.heap.size + 1 < xl.w.heap.size := (by omega)); (try have hz2 : w.heap.size + 1 + 1 < xl.w.heap.size := (by omega)))) | (go_at_call 22; first | ((with_reducible refine (Calls.later (isPoint_b _ h2.out)).mono ?_); rintro e w' ⟨rfl, xl, rfl⟩; have hsz := xl.bel.size; (try simp only [World.size_alloc, World.size_setCell, World.size_drew] at hsz); (try have hz0 : w.heap.size < xl.w.heap.size := (by omega)); (try have hz1 : w.heap.size + 1 < xl.w.heap.size := (by omega)); (try have hz2 : w.heap.size + 1 + 1 < xl.w.heap.size := (by omega))) | ((with_reducible refine (isPoint_b _ h2.out).mono ?_); rintro e w' ⟨rfl, xl, rfl⟩; have hsz := xl.bel.size; (try simp only [World.size_alloc, World.size_setCell, World.size_drew] at hsz); (try have hz0 : w.heap.size < xl.w.heap.size := (by omega)); (try have hz1 : w.heap.size + 1 < xl.w.heap.size := (by omega)); (try have hz2 : w.heap.size + 1 + 1 < xl.w.heap.size := (by omega)))) | (go_at_call 23; first | ((with_reducible refine (Calls.later (CE.out _)).mono ?_); rintro e w' ⟨rfl, xl, rfl⟩; have hsz := xl.bel.size; (try simp only [World.size_alloc, World.size_setCell, World.size_drew] at hsz); (try have hz0 : w.heap.size < xl.w.heap.size := (by omega)); (try have hz1 : w.heap.size + 1 < xl.w.heap.size := (by omega)); (try have hz2 : w.heap.size + 1 + 1 < xl.w.heap.size := (by omega))) | ((with_reducible refine (CE.out _).mono ?_); rintro e w' ⟨rfl, xl, rfl⟩; have hsz := xl.bel.size; (try simp only [World.size_alloc, World.size_setCell, World.size_drew] at hsz); (try have hz0 : w.heap.size < xl.w.heap.size := (by omega)); (try have hz1 : w.heap.size + 1 < xl.w.heap.size := (by omega)); (try have hz2 : w.heap.size + 1 + 1 < xl.w.heap.size := (by omega)))) | (go_at_call 24; (with_reducible refine (piece_any x y W H l _ n c k' _ HB.out HN.out hk'n (hr.out.bel (by (repeat (first | (with_reducible exact Below.refl _ _) | (with_reducible assumption) | (with_reducible refine Later.out _ ?_) | (with_reducible refine bel_alloc ?_ _) | (with_reducible refine bel_drew ?_) | (with_reducible refine bel_drewN ?_ _) | (with_reducible refine bel_set ?_ ?_ _) | (with_reducible refine After.out _ ?_ ?_) | (dsimp only; omega) | omega | (simp only [World.size_alloc, World.size_setCell, World.size_drew]; omega)))))).mono ?_); rintro e w' ⟨a3, c3, rfl, hown, y3, rfl⟩; have hsz := y3.bel.size; (try simp only [World.size_alloc, World.size_setCell, World.size_drew] at hsz); (try have hz0 : w.heap.size < y3.w.heap.size := (by omega)); (try have hz1 : w.heap.size + 1 < y3.w.heap.size := (by omega)); (try have hz2 : w.heap.size + 1 + 1 < y3.w.heap.size := (by omega)); have HO3 := Lib.hid (Owns.of hown); clear hown))
  refine bodyPost_ret (by simp [results, Try.results6, go_sem, ↓IntWalk.iteOmega, *]; try rfl) rfl ?_
  refine RetOwn.mk _ rfl ?_ ?_
  · (refine own_mono (base := ?ob1) ?oh1 ?os1; (case oh1 => ((repeat (with_reducible refine own_set ?_ ?_ _)); (with_reducible exact HO3.out.own); all_goals (first | (dsimp only; omega) | omega | (simp only [World.size_alloc, World.size_setCell, World.size_drew]; omega)))); (case os1 => (first | (dsimp only; omega) | omega | (simp only [World.size_alloc, World.size_setCell, World.size_drew]; omega))))
  · (repeat (first | (with_reducible exact Below.refl _ _) | (with_reducible assumption) | (with_reducible refine Later.out _ ?_) | (with_reducible refine bel_alloc ?_ _) | (with_reducible refine bel_drew ?_) | (with_reducible refine bel_drewN ?_ _) | (with_reducible refine bel_set ?_ ?_ _) | (with_reducible refine After.out _ ?_ ?_) | (dsimp only; omega) | omega | (simp only [World.size_alloc, World.size_setCell, World.size_drew]; omega)))
set_option maxRecDepth 4000 in
set_option maxHeartbeats 1000000 in
theorem at_spec (x y W H px py : Int) (l : List Bool) (a : Option Addr) (n c : Nat) (w : World) (X Y X2 Y2 code : Int) (L : List Bool) (hR : atR x y W H px py l = ((X, Y, X2, Y2, code), L)) (hn : l.length = n) (hm : n ≤ 1048576) (hr : Row w a (boolCells l)) :
    Calls Try.prog 7 #[.agg #[.int .i64 x, .int .i64 y, .int .i64 W, .int .i64 H, .slice a n c], .agg #[.int .i64 px, .int .i64 py]] w (RetOwn w 4 1 L.length (boolCells L) fun v => .tuple #[.agg #[.int .i64 X, .int .i64 Y, .int .i64 X2, .int .i64 Y2, v], .int .i64 code]) := by
  unfold atR at hR
  rw [hn] at hR
  replace hr := Lib.hid hr
  cases h1 : isMaskB x y W H n
  · rw [h1] at hR
    simp only [Bool.false_and, Bool.false_eq_true, if_false, Prod.mk.injEq] at hR
    obtain ⟨⟨rfl, rfl, rfl, rfl, rfl⟩, rfl⟩ := hR
    replace h1 := Lib.hid h1
    clear hn
    go_enter Try.func7, Try.ntmps7
    go_wp2_with (first | (go_at_call 25; first | ((with_reducible refine (Calls.later (sIsMask_b _ _ _ _ _ _ _ _ h1.out)).mono ?_); rintro e w' ⟨rfl, xl, rfl⟩; have hsz := xl.bel.size; (try simp only [World.size_alloc, World.size_setCell, World.size_drew] at hsz); (try have hz0 : w.heap.size < xl.w.heap.size := (by omega)); (try have hz1 : w.heap.size + 1 < xl.w.heap.size := (by omega)); (try have hz2 : w.heap.size + 1 + 1 < xl.w.heap.size := (by omega))) | ((with_reducible refine (sIsMask_b _ _ _ _ _ _ _ _ h1.out).mono ?_); rintro e w' ⟨rfl, xl, rfl⟩; have hsz := xl.bel.size; (try simp only [World.size_alloc, World.size_setCell, World.size_drew] at hsz); (try have hz0 : w.heap.size < xl.w.heap.size := (by omega)); (try have hz1 : w.heap.size + 1 < xl.w.heap.size := (by omega)); (try have hz2 : w.heap.size + 1 + 1 < xl.w.heap.size := (by omega)))))
    refine bodyPost_ret (by simp [results, Try.results7, go_sem, ↓IntWalk.iteOmega, *]; try rfl) rfl ?_
    refine RetOwn.mk (.slice none 0 0) rfl (World.ownsRow_nil _ _ _ _) ?_
    (repeat (first | (with_reducible exact Below.refl _ _) | (with_reducible assumption) | (with_reducible refine Later.out _ ?_) | (with_reducible refine bel_alloc ?_ _) | (with_reducible refine bel_drew ?_) | (with_reducible refine bel_drewN ?_ _) | (with_reducible refine bel_set ?_ ?_ _) | (with_reducible refine After.out _ ?_ ?_) | (dsimp only; omega) | omega | (simp only [World.size_alloc, World.size_setCell, World.size_drew]; omega)))
  cases h2 : isPointB px py
  · rw [h1, h2] at hR
    simp only [Bool.true_and, Bool.false_eq_true, if_false, Prod.mk.injEq] at hR
    obtain ⟨⟨rfl, rfl, rfl, rfl, rfl⟩, rfl⟩ := hR
    replace h1 := Lib.hid h1
    replace h2 := Lib.hid h2
    clear hn
    go_enter Try.func7, Try.ntmps7
    go_wp2_with (first | (go_at_call 25; first | ((with_reducible refine (Calls.later (sIsMask_b _ _ _ _ _ _ _ _ h1.out)).mono ?_); rintro e w' ⟨rfl, xl, rfl⟩; have hsz := xl.bel.size; (try simp only [World.size_alloc, World.size_setCell, World.size_drew] at hsz); (try have hz0 : w.heap.size < xl.w.heap.size := (by omega)); (try have hz1 : w.heap.size + 1 < xl.w.heap.size := (by omega)); (try have hz2 : w.heap.size + 1 + 1 < xl.w.heap.size := (by omega))) | ((with_reducible refine (sIsMask_b _ _ _ _ _ _ _ _ h1.out).mono ?_); rintro e w' ⟨rfl, xl, rfl⟩; have hsz := xl.bel.size; (try simp only [World.size_alloc, World.size_setCell, World.size_drew] at hsz); (try have hz0 : w.heap.size < xl.w.heap.size := (by omega)); (try have hz1 : w.heap.size + 1 < xl.w.heap.size := (by omega)); (try have hz2 : w.heap.size + 1 + 1 < xl.w.heap.size := (by omega)))) | (go_at_call 26; first | ((with_reducible refine (Calls.later (sIsPoint_b _ h2.out)).mono ?_); rintro e w' ⟨rfl, xl, rfl⟩; have hsz := xl.bel.size; (try simp only [World.size_alloc, World.size_setCell, World.size_drew] at hsz); (try have hz0 : w.heap.size < xl.w.heap.size := (by omega)); (try have hz1 : w.heap.size + 1 < xl.w.heap.size := (by omega)); (try have hz2 : w.heap.size + 1 + 1 < xl.w.heap.size := (by omega))) | ((with_reducible refine (sIsPoint_b _ h2.out).mono ?_); rintro e w' ⟨rfl, xl, rfl⟩; have hsz := xl.bel.size; (try simp only [World.size_alloc, World.size_setCell, World.size_drew] at hsz); (try have hz0 : w.heap.size < xl.w.heap.size := (by omega)); (try have hz1 : w.heap.size + 1 < xl.w.heap.size := (by omega)); (try have hz2 : w.heap.size + 1 + 1 < xl.w.heap.size := (by omega)))))
    refine bodyPost_ret (by simp [results, Try.results7, go_sem, ↓IntWalk.iteOmega, *]; try rfl) rfl ?_
    refine RetOwn.mk (.slice none 0 0) rfl (World.ownsRow_nil _ _ _ _) ?_
    (repeat (first | (with_reducible exact Below.refl _ _) | (with_reducible assumption) | (with_reducible refine Later.out _ ?_) | (with_reducible refine bel_alloc ?_ _) | (with_reducible refine bel_drew ?_) | (with_reducible refine bel_drewN ?_ _) | (with_reducible refine bel_set ?_ ?_ _) | (with_reducible refine After.out _ ?_ ?_) | (dsimp only; omega) | omega | (simp only [World.size_alloc, World.size_setCell, World.size_drew]; omega)))
  rw [h1, h2] at hR
  simp only [Bool.and_self, if_true] at hR
  have HB := Lib.hid (box_of h1)
  obtain ⟨l1, l2, l3, l4⟩ := isPointB_iff.1 h2
  have CE := fun w => sAt_any x y W H px py a n c w HB.out (by omega) (by omega) (by omega) (by omega)
  replace h1 := Lib.hid h1
  replace h2 := Lib.hid h2
  have hlt := cellB_lt (px := px) (py := py) HB.out rfl
  obtain ⟨i, hi⟩ : ∃ i, cellB x y W H px py = i := ⟨_, rfl⟩
  rw [hi] at hR hlt
  simp only [hi] at CE
  replace CE := Lib.hid CE
  clear hi l1 l2 l3 l4
  rcases hlt with rfl | ⟨i0, i1⟩
  · rw [if_neg (by omega)] at hR
    simp only [Prod.mk.injEq] at hR
    obtain ⟨⟨rfl, rfl, rfl, rfl, rfl⟩, rfl⟩ := hR
    clear hn
    go_enter Try.func7, Try.ntmps7
    go_wp2_with (first | (go_at_call 25; first | ((with_reducible refine (Calls.later (sIsMask_b _ _ _ _ _ _ _ _ h1.out)).mono ?_); rintro e w' ⟨rfl, xl, rfl⟩; have hsz := xl.bel.size; (try simp only [World.size_alloc, World.size_setCell, World.size_drew] at hsz); (try have hz0 : w.heap.size < xl.w.heap.size := (by omega)); (try have hz1 : w.heap.size + 1 < xl.w.heap.size := (by omega)); (try have hz2 : w.heap.size + 1 + 1 < xl.w.heap.size := (by omega))) | ((with_reducible refine (sIsMask_b _ _ _ _ _ _ _ _ h1.out).mono ?_); rintro e w' ⟨rfl, xl, rfl⟩; have hsz := xl.bel.size; (try simp only [World.size_alloc, World.size_setCell, World.size_drew] at hsz); (try have hz0 : w.heap.size < xl.w.heap.size := (by omega)); (try have hz1 : w.heap.size + 1 < xl.w.heap.size := (by omega)); (try have hz2 : w.heap.size + 1 + 1 < xl.w.heap.size := (by omega)))) | (go_at_call 26; first | ((with_reducible refine (Calls.later (sIsPoint_b _ h2.out)).mono ?_); rintro e w' ⟨rfl, xl, rfl⟩; have hsz := xl.bel.size; (try simp only [World.size_alloc, World.size_setCell, World.size_drew] at hsz); (try have hz0 : w.heap.size < xl.w.heap.size := (by omega)); (try have hz1 : w.heap.size + 1 < xl.w.heap.size := (by omega)); (try have hz2 : w.heap.size + 1 + 1 < xl.w.heap.size := (by omega))) | ((with_reducible refine (sIsPoint_b _ h2.out).mono ?_); rintro e w' ⟨rfl, xl, rfl⟩; have hsz := xl.bel.size; (try simp only [World.size_alloc, World.size_setCell, World.size_drew] at hsz); (try have hz0 : w.heap.size < xl.w.heap.size := (by omega)); (try have hz1 : w.heap.size + 1 < xl.w.heap.size := (by omega)); (try have hz2 : w.heap.size + 1 + 1 < xl.w.heap.size := (by omega)))) | (go_at_call 27; first | ((with_reducible refine (Calls.later (CE.out _)).mono ?_); rintro e w' ⟨rfl, xl, rfl⟩; have hsz := xl.bel.size; (try simp only [World.size_alloc, World.size_setCell, World.size_drew] at hsz); (try have hz0 : w.heap.size < xl.w.heap.size := (by omega)); (try have hz1 : w.heap.size + 1 < xl.w.heap.size := (by omega)); (try have hz2 : w.heap.size + 1 + 1 < xl.w.heap.size := (by omega))) | ((with_reducible refine (CE.out _).mono ?_); rintro e w' ⟨rfl, xl, rfl⟩; have hsz := xl.bel.size; (try simp only [World.size_alloc, World.size_setCell, World.size_drew] at hsz); (try have hz0 : w.heap.size < xl.w.heap.size := (by omega)); (try have hz1 : w.heap.size + 1 < xl.w.heap.size := (by omega)); (try have hz2 : w.heap.size + 1 + 1 < xl.w.heap.size := (by omega)))))
    refine bodyPost_ret (by simp [results, Try.results7, go_sem, ↓IntWalk.iteOmega, *]; try rfl) rfl ?_
    refine RetOwn.mk (.slice none 0 0) rfl (World.ownsRow_nil _ _ _ _) ?_
    (repeat (first | (with_reducible exact Below.refl _ _) | (with_reducible assumption) | (with_reducible refine Later.out _ ?_) | (with_reducible refine bel_alloc ?_ _) | (with_reducible refine bel_drew ?_) | (with_reducible refine bel_drewN ?_ _) | (with_reducible refine bel_set ?_ ?_ _) | (with_reducible refine After.out _ ?_ ?_) | (dsimp only; omega) | omega | (simp only [World.size_alloc, World.size_setCell, World.size_drew]; omega)))
  obtain ⟨k', rfl⟩ := Int.eq_ofNat_of_zero_le i0
  have hk'n : k' < n := by omega
  have hk'l : k' < l.length := by omega
  have HN := Lib.hid hn
  clear hn
  rw [Int.toNat_natCast, List.getElem?_eq_getElem hk'l] at hR
  have n2 := HB.out.n2
  obtain ⟨bb, oo, rfl, hlc⟩ := hr.out k' _ (boolCells_get hk'l)
  have q3 : bb < w.heap.size := World.block_lt_of_cell? w _ hlc
  cases hv : l[k']
  · rw [hv] at hlc hR
    rw [if_neg (by simp)] at hR
    simp only [Prod.mk.injEq] at hR
    obtain ⟨⟨rfl, rfl, rfl, rfl, rfl⟩, rfl⟩ := hR
    replace hv := Lib.hid hv
    go_enter Try.func7, Try.ntmps7
    go_wp2_with (first | (go_at_call 25; first | ((with_reducible refine (Calls.later (sIsMask_b _ _ _ _ _ _ _ _ h1.out)).mono ?_); rintro e w' ⟨rfl, xl, rfl⟩; have hsz := xl.bel.size; (try simp only [World.size_alloc, World.size_setCell, World.size_drew] at hsz); (try have hz0 : w.heap.size < xl.w.heap.size := (by omega)); (try have hz1 : w.heap.size + 1 < xl.w.heap.size := (by omega)); (try have hz2 : w.heap.size + 1 + 1 < xl.w.heap.size := (by omega))) | ((with_reducible refine (sIsMask_b _ _ _ _ _ _ _ _ h1.out).mono ?_); rintro e w' ⟨rfl, xl, rfl⟩; have hsz := xl.bel.size; (try simp only [World.size_alloc, World.size_setCell, World.size_drew] at hsz); (try have hz0 : w.heap.size < xl.w.heap.size := (by omega)); (try have hz1 : w.heap.size + 1 < xl.w.heap.size := (by omega)); (try have hz2 : w.heap.size + 1 + 1 < xl.w.heap.size := (by omega)))) | (go_at_call 26; first | ((with_reducible refine (Calls.later (sIsPoint_b _ h2.out)).mono ?_); rintro e w' ⟨rfl, xl, rfl⟩; have hsz := xl.bel.size; (try simp only [World.size_alloc, World.size_setCell, World.size_drew] at hsz); (try have hz0 : w.heap.size < xl.w.heap.size := (by omega)); (try have hz1 : w.heap.size + 1 < xl.w.heap.size := (by omega)); (try have hz2 : w.heap.size + 1 + 1 < xl.w.heap.size := (by omega))) | ((with_reducible refine (sIsPoint_b _ h2.out).mono ?_); rintro e w' ⟨rfl, xl, rfl⟩; have hsz := xl.bel.size; (try simp only [World.size_alloc, World.size_setCell, World.size_drew] at hsz); (try have hz0 : w.heap.size < xl.w.heap.size := (by omega)); (try have hz1 : w.heap.size + 1 < xl.w.heap.size := (by omega)); (try have hz2 : w.heap.size + 1 + 1 < xl.w.heap.size := (by omega)))) | (go_at_call 27; first | ((with_reducible refine (Calls.later (CE.out _)).mono ?_); rintro e w' ⟨rfl, xl, rfl⟩; have hsz := xl.bel.size; (try simp only [World.size_alloc, World.size_setCell, World.size_drew] at hsz); (try have hz0 : w.heap.size < xl.w.heap.size := (by omega)); (try have hz1 : w.heap.size + 1 < xl.w.heap.size := (by omega)); (try have hz2 : w.heap.size + 1 + 1 < xl.w.heap.size := (by omega))) | ((with_reducible refine (CE.out _).mono ?_); rintro e w' ⟨rfl, xl, rfl⟩; have hsz := xl.bel.size; (try simp only [World.size_alloc, World.size_setCell, World.size_drew] at hsz); (try have hz0 : w.heap.size < xl.w.heap.size := (by omega)); (try have hz1 : w.heap.size + 1 < xl.w.heap.size := (by omega)); (try have hz2 : w.heap.size + 1 + 1 < xl.w.heap.size := (by omega)))))
    refine bodyPost_ret (by simp [results, Try.results7, go_sem, ↓IntWalk.iteOmega, *]; try rfl) rfl ?_
    refine RetOwn.mk (.slice none 0 0) rfl (World.ownsRow_nil _ _ _ _) ?_
    (repeat (first | (with_reducible exact Below.refl _ _) | (with_reducible assumption) | (with_reducible refine Later.out _ ?_) | (with_reducible refine bel_alloc ?_ _) | (with_reducible refine bel_drew ?_) | (with_reducible refine bel_drewN ?_ _) | (with_reducible refine bel_set ?_ ?_ _) | (with_reducible refine After.out _ ?_ ?_) | (dsimp only; omega) | omega | (simp only [World.size_alloc, World.size_setCell, World.size_drew]; omega)))
  rw [hv] at hlc hR
  rw [if_pos ⟨rfl, by omega⟩] at hR
  simp only [Prod.mk.injEq] at hR
  obtain ⟨⟨rfl, rfl, rfl, rfl, rfl⟩, rfl⟩ := hR
  replace hv := Lib.hid hv
  rw [length_pieceL, HN.out]
  go_enter Try.func7, Try.ntmps7
  go_wp2_with (first | (go_at_call 25; first | ((with_reducible refine (Calls.later (sIsMask_b _ _ _ _ _ _ _ _ h1.out)).mono ?_); rintro e w' ⟨rfl, xl, rfl⟩; have hsz := xl.bel.size; (try simp only [World.size_alloc, World.size_setCell, World.size_drew] at hsz); (try have hz0 : w.heap.size < xl.w.heap.size := (by omega)); (try have hz1 : w.heap.size + 1 < xl.w.heap.size := (by omega)); (try have hz2 : w.heap.size + 1 + 1 < xl.w.heap.size := (by omega))) | ((with_reducible refine (sIsMask_b _ _ _ _ _ _ _ _ h1.out).mono ?_); rintro e w' ⟨rfl, xl, rfl⟩; have hsz := xl.bel.size; (try simp only [World.size_alloc, World.size_setCell, World.size_drew] at hsz); (try have hz0 : w.heap.size < xl.w.heap.size := (by omega)); (try have hz1 : w.heap.size + 1 < xl.w.heap.size := (by omega)); (try have hz2 : w.heap.size + 1 + 1 < xl.w.heap.size := (by omega)))) | (go_at_call 26; first | ((with_reducible refine (Calls.later (sIsPoint_b _ h2.out)).mono ?_); rintro e w' ⟨rfl, xl, rfl⟩; have hsz := xl.bel.size; (try simp only [World.size_alloc, World.size_setCell, World.size_drew] at hsz); (try have hz0 : w.heap.size < xl.w.heap.size := (by omega)); (try have hz1 : w.heap.size + 1 < xl.w.heap.size := (by omega)); (try have hz2 : w.heap.size + 1 + 1 < xl.w.heap.size := (by omega))) | ((with_reducible refine (sIsPoint_b _ h2.out).mono ?_); rintro e w' ⟨rfl, xl, rfl⟩; have hsz := xl.bel.size; (try simp only [World.size_alloc, World.size_setCell, World.size_drew] at hsz); (try have hz0 : w.heap.size < xl.w.heap.size := (by omega)); (try have hz1 : w.heap.size + 1 < xl.w.heap.size := (by omega)); (try have hz2 : w.heap.size + 1 + 1 < xl.w.heap.size := (by omega)))) | (go_at_call 27; first | ((with_reducible refine (Calls.later (CE.out _)).mono ?_); rintro e w' ⟨rfl, xl, rfl⟩; have hsz := xl.bel.size; (try simp only [World.size_alloc, World.size_setCell, World.size_drew] at hsz); (try have hz0 : w.heap.size < xl.w.heap.size := (by omega)); (try have hz1 : w.heap.size + 1 < xl.w.heap.size := (by omega)); (try have hz2 : w.heap.size + 1 + 1 < xl.w.heap.size := (by omega))) | ((with_reducible refine (CE.out _).mono ?_); rintro e w' ⟨rfl, xl, rfl⟩; have hsz := xl.bel.size; (try simp only [World.size_alloc, World.size_setCell, World.size_drew] at hsz); (try have hz0 : w.heap.size < xl.w.heap.size := (by omega)); (try have hz1 : w.heap.size + 1 < xl.w.heap.size := (by omega)); (try have hz2 : w.heap.size + 1 + 1 < xl.w.heap.size := (by omega)))) | (go_at_call 28; (with_reducible refine (sPiece_any x y W H l _ n c k' _ HB.out HN.out hk'n (hr.out.bel (by (repeat (first | (with_reducible exact Below.refl _ _) | (with_reducible assumption) | (with_reducible refine Later.out _ ?_) | (with_reducible refine bel_alloc ?_ _) | (with_reducible refine bel_drew ?_) | (with_reducible refine bel_drewN ?_ _) | (with_reducible refine bel_set ?_ ?_ _) | (with_reducible refine After.out _ ?_ ?_) | (dsimp only; omega) | omega | (simp only [World.size_alloc, World.size_setCell, World.size_drew]; omega)))))).mono ?_); rintro e w' ⟨a3, c3, rfl, hown, y3, rfl⟩; have hsz := y3.bel.size; (try simp only [World.size_alloc, World.size_setCell, World.size_drew] at hsz); (try have hz0 : w.heap.size < y3.w.heap.size := (by omega)); (try have hz1 : w.heap.size + 1 < y3.w.heap.size := (by omega)); (try have hz2 : w.heap.size + 1 + 1 < y3.w.heap.size := (by omega)); have HO3 := Lib.hid (Owns.of hown); clear hown))
  refine bodyPost_ret (by simp [results, Try.results7, go_sem, ↓IntWalk.iteOmega, *]; try rfl) rfl ?_
  refine RetOwn.mk _ rfl ?_ ?_
  · (refine own_mono (base := ?ob2) ?oh2 ?os2; (case oh2 => ((repeat (with_reducible refine own_set ?_ ?_ _)); (with_reducible exact HO3.out.own); all_goals (first | (dsimp only; omega) | omega | (simp only [World.size_alloc, World.size_setCell, World.size_drew]; omega)))); (case os2 => (first | (dsimp only; omega) | omega | (simp only [World.size_alloc, World.size_setCell, World.size_drew]; omega))))
  · (repeat (first | (with_reducible exact Below.refl _ _) | (with_reducible assumption) | (with_reducible refine Later.out _ ?_) | (with_reducible refine bel_alloc ?_ _) | (with_reducible refine bel_drew ?_) | (with_reducible refine bel_drewN ?_ _) | (with_reducible refine bel_set ?_ ?_ _) | (with_reducible refine After.out _ ?_ ?_) | (dsimp only; omega) | omega | (simp only [World.size_alloc, World.size_setCell, World.size_drew]; omega)))
end Go.Proofs.Ytkkhjbdnpobpnaa
