import Derived.Test.YtfjlilpebhiogaaDoorMaskA
import Derived.Test.YtfjlilpebhiogaaDoorCells
import Derived.Deep.OwnRows
/- Copies of points and masks, their comparison, their size. -/
set_option linter.unusedSimpArgs false
set_option linter.unusedVariables false
namespace Go.Proofs.YtfjlilpebhiogaaDoor
open Go.RowKit

theorem info_bool : (Tryd.prog.info? 4).map (fun i => (i.zero, i.size, i.bytes)) = some (some (.bool false), 1, 1) := by kernel_rfl
theorem info_bool' : ∃ i, Tryd.prog.info? 4 = some i ∧ i.zero = some (.bool false) ∧ i.size = 1 ∧ i.bytes = 1 := by
  have h := info_bool
  cases hi : Tryd.prog.info? 4 with
  | none => rw [hi] at h; cases h
  | some i =>
    rw [hi] at h
    simp only [Option.map_some, Option.some.injEq, Prod.mk.injEq] at h
    exact ⟨i, rfl, h.1, h.2.1, h.2.2⟩

set_option maxHeartbeats 400000 in
theorem szBoolS_any (a : Option Addr) (n c : Nat) (left : Int) (w : World) (hn : n ≤ maxLen) (h0 : 0 ≤ left) (h1 : left ≤ 1048576) :
    Calls Tryd.prog 14 #[.slice a n c, .int .i64 left] w (Ret w (.int .i64 (if left - n < 0 then -1 else left - n))) := by
  unfold maxLen at hn
  go_enter Tryd.func14, Tryd.ntmps14
  go_wp2
  all_goals go_ret
  all_goals exact .mk (by simp [*]) (Below.refl _ _)

set_option maxHeartbeats 400000 in
theorem toPoint_any (x y : Int) (w : World) :
    Calls Tryd.prog 17 #[.agg #[.int .i64 x, .int .i64 y]] w (Ret w (.agg #[.int .i64 x, .int .i64 y])) := by
  go_enter Tryd.func17, Tryd.ntmps17
  go_wp2
  go_returns
  refine .mk rfl ?_
  (repeat (first | (with_reducible exact Below.refl _ _) | (with_reducible assumption) | (with_reducible refine Later.out _ ?_) | (with_reducible refine bel_alloc ?_ _) | (with_reducible refine bel_drew ?_) | (with_reducible refine bel_drewN ?_ _) | (with_reducible refine bel_set ?_ ?_ _) | (with_reducible refine After.out _ ?_ ?_) | (dsimp only; omega) | omega | (simp only [World.size_alloc, World.size_setCell, World.size_drew]; omega)))

/-- `k` cells are done, the others are as they were made. -/
def boolPart (l : List Bool) (k : Nat) : List Value := boolCells (l.take k) ++ List.replicate (l.length - k) (Value.bool false)
theorem boolPart_step (l : List Bool) (k : Nat) (h : k < l.length) : (boolPart l k).set k (.bool l[k]) = boolPart l (k + 1) := by
  have e : l.length - k = (l.length - (k + 1)) + 1 := by omega
  have hl : (boolCells (l.take k)).length = k := by simp [boolCells]; omega
  unfold boolPart
  rw [e, List.replicate_succ, List.set_append_right _ _ (by omega), hl, Nat.sub_self, List.set_cons_zero, List.take_succ_eq_append_getElem h]
  simp only [boolCells, List.map_append, List.map_cons, List.map_nil, List.append_assoc, List.singleton_append]
theorem boolPart_full (l : List Bool) : boolPart l l.length = boolCells l := by simp [boolPart]
theorem boolPart_none (l : List Bool) : boolPart l 0 = (madeCells #[Value.bool false] l.length).toList := by simp [boolPart, boolCells, toList_madeCells_one]
theorem boolPart_old (l : List Bool) (k : Nat) (h : k < l.length) : (boolPart l k)[k]? = some (.bool false) := by
  have hl : (boolCells (l.take k)).length = k := by simp [boolCells]; omega
  unfold boolPart
  rw [List.getElem?_append_right (by omega), hl, Nat.sub_self, List.getElem?_replicate, if_pos (by omega)]

set_option maxHeartbeats 400000 in
theorem toBoolS_any (l : List Bool) (a : Option Addr) (n c : Nat) (w : World) (hn : l.length = n) (hm : n ≤ 1048576) (hr : Row w a (boolCells l)) :
    Calls Tryd.prog 18 #[.slice a n c] w (RetOwn w 4 1 n (boolCells l) id) := by
  subst hn
  have hmk := run_make_row' (P := Tryd.prog) 24 4 (.bool false) 1 Tryd.underlying24 info_bool rfl .i64 .i64 l.length (by omega) (by omega)
  have hown0 := World.ownsRow_lit (base := w.heap.size) (e := 4) (size := 1) w (madeCells #[Value.bool false] l.length) l.length (Nat.le_refl _) (by unfold maxLen; omega) (by simp [size_madeCells])
  rw [← boolPart_none] at hown0
  have hr := Lib.hid hr
  have HO := Lib.hid hown0
  clear hown0
  go_enter Tryd.func18, Tryd.ntmps18
  go_wp2
  clear hmk
  go_loopw [4] (fun i wr => ∃ k : Nat, k ≤ l.length ∧ i = .int .i64 k ∧ wr.ownsRow w.heap.size 4 1 (.slice (some ⟨w.heap.size, 0, none⟩) l.length l.length) l.length (boolPart l k) ∧ Below w.heap.size w wr) (fun i _ => l.length - (intOf i).toNat)
  case atStart => exact ⟨0, Nat.zero_le _, rfl, HO.out, bel_alloc (Below.refl _ _) _⟩
  case round =>
    obtain ⟨k, hk, rfl, hown, hb⟩ := hrel
    by_cases hlt : k < l.length
    · obtain ⟨b, o, rfl, hc⟩ := (hr.out.bel hb) k _ (boolCells_get hlt)
      have hc1 : wr.cell? ⟨w.heap.size, k, none⟩ = some (.bool false) := (hown.cellAt k (by omega)).trans (boolPart_old l k hlt)
      have hf1 : wr.frozen? ⟨w.heap.size, k, none⟩ = false := hown.frozenAt k
      have hst := hown.stored k (.bool l[k])
      rw [boolPart_step l k hlt] at hst
      have HS := Lib.hid hst
      have HB := Lib.hid hb
      clear hst hown hb
      go_wp2
      go_roundw
      case rel => exact ⟨k + 1, by omega, by go_num, HS.out.1, HB.out.setCell (Nat.le_refl _) _⟩
      case measure => simp [intOf]; omega
    · obtain rfl : k = l.length := by omega
      rw [boolPart_full] at hown
      have HO := Lib.hid hown
      have HB := Lib.hid hb
      clear hown hb
      go_wp2
      go_ret
      exact .mk _ rfl HO.out HB.out

set_option maxHeartbeats 400000 in
theorem toMask_any (x y W H : Int) (l : List Bool) (a : Option Addr) (n c : Nat) (w : World) (hn : l.length = n) (hm : n ≤ 1048576) (hr : Row w a (boolCells l)) :
    Calls Tryd.prog 7 #[.agg #[.int .i64 x, .int .i64 y, .int .i64 W, .int .i64 H, .slice a n c]] w (RetOwn w 4 1 n (boolCells l) fun v => .agg #[.int .i64 x, .int .i64 y, .int .i64 W, .int .i64 H, v]) := by
  have hr := Lib.hid hr
  have hn := Lib.hid hn
  go_enter Tryd.func7, Tryd.ntmps7
  go_wp2_with (first | (go_at_call 17; first | ((with_reducible refine (Calls.later (toPoint_any _ _ _)).mono ?_); rintro e w' ⟨rfl, xl, rfl⟩; have hsz := xl.bel.size; (try simp only [World.size_alloc, World.size_setCell, World.size_drew] at hsz); (try have hz0 : w.heap.size < xl.w.heap.size := (by omega)); (try have hz1 : w.heap.size + 1 < xl.w.heap.size := (by omega)); (try have hz2 : w.heap.size + 1 + 1 < xl.w.heap.size := (by omega))) | ((with_reducible refine (toPoint_any _ _ _).mono ?_); rintro e w' ⟨rfl, xl, rfl⟩; have hsz := xl.bel.size; (try simp only [World.size_alloc, World.size_setCell, World.size_drew] at hsz); (try have hz0 : w.heap.size < xl.w.heap.size := (by omega)); (try have hz1 : w.heap.size + 1 < xl.w.heap.size := (by omega)); (try have hz2 : w.heap.size + 1 + 1 < xl.w.heap.size := (by omega)))) | (go_at_call 18; refine (toBoolS_any l _ _ _ _ hn.out hm (hr.out.bel (by (repeat (first | (with_reducible exact Below.refl _ _) | (with_reducible assumption) | (with_reducible refine Later.out _ ?_) | (with_reducible refine bel_alloc ?_ _) | (with_reducible refine bel_drew ?_) | (with_reducible refine bel_drewN ?_ _) | (with_reducible refine bel_set ?_ ?_ _) | (with_reducible refine After.out _ ?_ ?_) | (dsimp only; omega) | omega | (simp only [World.size_alloc, World.size_setCell, World.size_drew]; omega)))))).mono ?_; rintro e w' ⟨a1, c1, rfl, hown, xl, rfl⟩; have HO := Lib.hid hown; clear hown; have hsz := xl.bel.size; (try simp only [World.size_alloc, World.size_setCell, World.size_drew] at hsz); (try have hz0 : w.heap.size < xl.w.heap.size := (by omega)); (try have hz1 : w.heap.size + 1 < xl.w.heap.size := (by omega)); (try have hz2 : w.heap.size + 1 + 1 < xl.w.heap.size := (by omega))))
  refine bodyPost_ret (by simp [results, Tryd.results7, go_sem, ↓IntWalk.iteOmega, *]; try rfl) rfl ?_
  refine RetOwn.mk _ rfl ?_ ?_
  · (refine own_mono (base := ?ob1) ?oh1 ?os1; (case oh1 => ((repeat (with_reducible refine own_set ?_ ?_ _)); (with_reducible exact HO.out); all_goals (first | (dsimp only; omega) | omega | (simp only [World.size_alloc, World.size_setCell, World.size_drew]; omega)))); (case os1 => (first | (dsimp only; omega) | omega | (simp only [World.size_alloc, World.size_setCell, World.size_drew]; omega))))
  · (repeat (first | (with_reducible exact Below.refl _ _) | (with_reducible assumption) | (with_reducible refine Later.out _ ?_) | (with_reducible refine bel_alloc ?_ _) | (with_reducible refine bel_drew ?_) | (with_reducible refine bel_drewN ?_ _) | (with_reducible refine bel_set ?_ ?_ _) | (with_reducible refine After.out _ ?_ ?_) | (dsimp only; omega) | omega | (simp only [World.size_alloc, World.size_setCell, World.size_drew]; omega)))

set_option maxHeartbeats 400000 in
theorem eqPoint_any (x y x' y' : Int) (w : World) :
    Calls Tryd.prog 23 #[.agg #[.int .i64 x, .int .i64 y], .agg #[.int .i64 x', .int .i64 y']] w (Ret w (.bool (x == x' && y == y'))) := by
  go_enter Tryd.func23, Tryd.ntmps23
  go_wp2
  all_goals go_ret
  all_goals
    refine .mk (by simp_all) ?_
    (repeat (first | (with_reducible exact Below.refl _ _) | (with_reducible assumption) | (with_reducible refine Later.out _ ?_) | (with_reducible refine bel_alloc ?_ _) | (with_reducible refine bel_drew ?_) | (with_reducible refine bel_drewN ?_ _) | (with_reducible refine bel_set ?_ ?_ _) | (with_reducible refine After.out _ ?_ ?_) | (dsimp only; omega) | omega | (simp only [World.size_alloc, World.size_setCell, World.size_drew]; omega)))

set_option maxHeartbeats 400000 in
theorem eqBoolS_any (l l' : List Bool) (a a' : Option Addr) (n c n' c' : Nat) (w : World) (hn : l.length = n) (hn' : l'.length = n') (hm : n ≤ 1048576) (hm' : n' ≤ 1048576) (hr : Row w a (boolCells l)) (hr' : Row w a' (boolCells l')) :
    Calls Tryd.prog 24 #[.slice a n c, .slice a' n' c'] w (Ret w (.bool (l == l'))) := by
  subst hn hn'
  by_cases hl : l.length = l'.length
  · have hr := Lib.hid hr
    have hr' := Lib.hid hr'
    have e1 : ((l.length : Int) != (l'.length : Int)) = false := by simp [hl]
    have HL := Lib.hid hl
    clear hl
    go_enter Tryd.func24, Tryd.ntmps24
    go_wp2
    go_loopw [5] (fun i wr => ∃ k : Nat, k ≤ l.length ∧ i = .int .i64 k ∧ (∀ j (h1 : j < l.length) (h2 : j < l'.length), j < k → l[j] = l'[j]) ∧ Below w.heap.size w wr) (fun i _ => l.length - (intOf i).toNat)
    case atStart => exact ⟨0, Nat.zero_le _, rfl, fun j _ _ h => absurd h (by omega), Below.refl _ _⟩
    case round =>
      obtain ⟨k, hk, rfl, hsame, hb⟩ := hrel
      by_cases hlt : k < l.length
      · have hlt' : k < l'.length := by have := HL.out; omega
        obtain ⟨b, o, rfl, hc⟩ := (hr.out.bel hb) k _ (boolCells_get hlt)
        obtain ⟨b', o', rfl, hc'⟩ := (hr'.out.bel hb) k _ (boolCells_get hlt')
        have hi1 : (k : Int) < (l.length : Int) := by omega
        have hi2 : (k : Int) < (l'.length : Int) := by omega
        have HS := Lib.hid hsame
        have HB := Lib.hid hb
        clear hsame hb
        by_cases hd : l[k] = l'[k]
        · have hd' : (!(l[k] == l'[k])) = false := by simp [hd]
          have HD := Lib.hid hd
          clear hd
          go_wp2
          go_quiet (fail)
          go_wp2
          go_roundw
          case rel => exact ⟨k + 1, by omega, by go_num, fun j h1 h2 hj => by
            rcases Nat.lt_or_ge j k with h | h
            · exact HS.out j h1 h2 h
            · obtain rfl : j = k := by omega
              exact HD.out, bel_drewN HB.out _⟩
          case measure => simp [intOf]; omega
        · have hd' : (!(l[k] == l'[k])) = true := by simpa using hd
          have X := Lib.hid (beq_of_diff hlt hlt' hd)
          clear hd
          go_wp2
          go_quiet (fail)
          go_wp2
          go_ret
          exact .mk (by rw [X.out]; rfl) (bel_drewN HB.out _)
      · obtain rfl : k = l.length := by omega
        have X := Lib.hid (beq_of_all HL.out fun j h1 h2 => hsame j h1 h2 h1)
        have HB := Lib.hid hb
        clear hsame hb
        go_wp2
        go_ret
        exact .mk (by rw [X.out]; rfl) HB.out
  · have e1 : ((l.length : Int) != (l'.length : Int)) = true := by simp; omega
    have X := Lib.hid (beq_of_len hl)
    clear hl
    go_enter Tryd.func24, Tryd.ntmps24
    go_wp2
    go_ret
    exact .mk (by rw [X.out]; rfl) (Below.refl _ _)

section
variable (x y W H x' y' W' H' : Int) (l l' : List Bool) (a a' : Option Addr) (n c n' c' : Nat) (w : World)
def eqMaskB : Bool := x == x' && y == y' && W == W' && H == H' && l == l'
theorem eqMaskB_refl : eqMaskB x y W H x y W H l l = true := by simp [eqMaskB]
set_option maxHeartbeats 400000 in
theorem eqMask_any (hn : l.length = n) (hn' : l'.length = n') (hm : n ≤ 1048576) (hm' : n' ≤ 1048576) (hr : Row w a (boolCells l)) (hr' : Row w a' (boolCells l')) :
    Calls Tryd.prog 9 #[.agg #[.int .i64 x, .int .i64 y, .int .i64 W, .int .i64 H, .slice a n c], .agg #[.int .i64 x', .int .i64 y', .int .i64 W', .int .i64 H', .slice a' n' c']] w (Ret w (.bool (eqMaskB x y W H x' y' W' H' l l'))) := by
  have hr := Lib.hid hr
  have hr' := Lib.hid hr'
  have hn := Lib.hid hn
  have hn' := Lib.hid hn'
  have HX := Lib.hid (show eqMaskB x y W H x' y' W' H' l l' = (x == x' && y == y' && W == W' && H == H' && l == l') from rfl)
  go_enter Tryd.func9, Tryd.ntmps9
  go_wp2_with (first | (go_at_call 23; first | ((with_reducible refine (Calls.later (eqPoint_any _ _ _ _ _)).mono ?_); rintro e w' ⟨rfl, xl, rfl⟩; have hsz := xl.bel.size; (try simp only [World.size_alloc, World.size_setCell, World.size_drew] at hsz); (try have hz0 : w.heap.size < xl.w.heap.size := (by omega)); (try have hz1 : w.heap.size + 1 < xl.w.heap.size := (by omega)); (try have hz2 : w.heap.size + 1 + 1 < xl.w.heap.size := (by omega))) | ((with_reducible refine (eqPoint_any _ _ _ _ _).mono ?_); rintro e w' ⟨rfl, xl, rfl⟩; have hsz := xl.bel.size; (try simp only [World.size_alloc, World.size_setCell, World.size_drew] at hsz); (try have hz0 : w.heap.size < xl.w.heap.size := (by omega)); (try have hz1 : w.heap.size + 1 < xl.w.heap.size := (by omega)); (try have hz2 : w.heap.size + 1 + 1 < xl.w.heap.size := (by omega)))) | (go_at_call 24; first | ((with_reducible refine (Calls.later (eqBoolS_any l l' _ _ _ _ _ _ _ hn.out hn'.out hm hm' (hr.out.bel (by (repeat (first | (with_reducible exact Below.refl _ _) | (with_reducible assumption) | (with_reducible refine Later.out _ ?_) | (with_reducible refine bel_alloc ?_ _) | (with_reducible refine bel_drew ?_) | (with_reducible refine bel_drewN ?_ _) | (with_reducible refine bel_set ?_ ?_ _) | (with_reducible refine After.out _ ?_ ?_) | (dsimp only; omega) | omega | (simp only [World.size_alloc, World.size_setCell, World.size_drew]; omega))))) (hr'.out.bel (by (repeat (first | (with_reducible exact Below.refl _ _) | (with_reducible assumption) | (with_reducible refine Later.out _ ?_) | (with_reducible refine bel_alloc ?_ _) | (with_reducible refine bel_drew ?_) | (with_reducible refine bel_drewN ?_ _) | (with_reducible refine bel_set ?_ ?_ _) | (with_reducible refine After.out _ ?_ ?_) | (dsimp only; omega) | omega | (simp only [World.size_alloc, World.size_setCell, World.size_drew]; omega))))))).mono ?_); rintro e w' ⟨rfl, xl, rfl⟩; have hsz := xl.bel.size; (try simp only [World.size_alloc, World.size_setCell, World.size_drew] at hsz); (try have hz0 : w.heap.size < xl.w.heap.size := (by omega)); (try have hz1 : w.heap.size + 1 < xl.w.heap.size := (by omega)); (try have hz2 : w.heap.size + 1 + 1 < xl.w.heap.size := (by omega))) | ((with_reducible refine (eqBoolS_any l l' _ _ _ _ _ _ _ hn.out hn'.out hm hm' (hr.out.bel (by (repeat (first | (with_reducible exact Below.refl _ _) | (with_reducible assumption) | (with_reducible refine Later.out _ ?_) | (with_reducible refine bel_alloc ?_ _) | (with_reducible refine bel_drew ?_) | (with_reducible refine bel_drewN ?_ _) | (with_reducible refine bel_set ?_ ?_ _) | (with_reducible refine After.out _ ?_ ?_) | (dsimp only; omega) | omega | (simp only [World.size_alloc, World.size_setCell, World.size_drew]; omega))))) (hr'.out.bel (by (repeat (first | (with_reducible exact Below.refl _ _) | (with_reducible assumption) | (with_reducible refine Later.out _ ?_) | (with_reducible refine bel_alloc ?_ _) | (with_reducible refine bel_drew ?_) | (with_reducible refine bel_drewN ?_ _) | (with_reducible refine bel_set ?_ ?_ _) | (with_reducible refine After.out _ ?_ ?_) | (dsimp only; omega) | omega | (simp only [World.size_alloc, World.size_setCell, World.size_drew]; omega)))))).mono ?_); rintro e w' ⟨rfl, xl, rfl⟩; have hsz := xl.bel.size; (try simp only [World.size_alloc, World.size_setCell, World.size_drew] at hsz); (try have hz0 : w.heap.size < xl.w.heap.size := (by omega)); (try have hz1 : w.heap.size + 1 < xl.w.heap.size := (by omega)); (try have hz2 : w.heap.size + 1 + 1 < xl.w.heap.size := (by omega)))))
  all_goals go_ret
  all_goals
    refine .mk (congrArg (fun b => Ending.returned (Value.bool b)) ?_) ?_
    · rw [HX.out]
      first
        | (simp_all; done)
        | (symm; rw [Bool.eq_false_iff]; intro hh; simp only [Bool.and_eq_true, beq_iff_eq] at hh; obtain ⟨⟨⟨⟨rfl, rfl⟩, rfl⟩, rfl⟩, rfl⟩ := hh; simp_all; done)
    (repeat (first | (with_reducible exact Below.refl _ _) | (with_reducible assumption) | (with_reducible refine Later.out _ ?_) | (with_reducible refine bel_alloc ?_ _) | (with_reducible refine bel_drew ?_) | (with_reducible refine bel_drewN ?_ _) | (with_reducible refine bel_set ?_ ?_ _) | (with_reducible refine After.out _ ?_ ?_) | (dsimp only; omega) | omega | (simp only [World.size_alloc, World.size_setCell, World.size_drew]; omega)))
theorem eqMask_same {l a a' n c n' c' w} (hn : l.length = n) (hn' : l.length = n') (hm : n ≤ 1048576) (hm' : n' ≤ 1048576) (hr : Row w a (boolCells l)) (hr' : Row w a' (boolCells l)) :
    Calls Tryd.prog 9 #[.agg #[.int .i64 x, .int .i64 y, .int .i64 W, .int .i64 H, .slice a n c], .agg #[.int .i64 x, .int .i64 y, .int .i64 W, .int .i64 H, .slice a' n' c']] w (Ret w (.bool true)) := by
  have h := eqMask_any x y W H x y W H l l a a' n c n' c' w hn hn' hm hm' hr hr'
  rw [eqMaskB_refl] at h
  exact h
set_option maxHeartbeats 400000 in
theorem szMask_any (left : Int) (hn : n ≤ maxLen) (h0 : 0 ≤ left) (h1 : left ≤ 1048576) :
    Calls Tryd.prog 5 #[.agg #[.int .i64 x, .int .i64 y, .int .i64 W, .int .i64 H, .slice a n c], .int .i64 left] w (Ret w (.int .i64 (if left - n < 0 then -1 else left - n))) := by
  by_cases h : left - n < 0
  all_goals
    go_enter Tryd.func5, Tryd.ntmps5
    go_wp2_with (first | (go_at_call 14; first | ((with_reducible refine (Calls.later (szBoolS_any _ _ _ _ _ hn h0 h1)).mono ?_); rintro e w' ⟨rfl, xl, rfl⟩; have hsz := xl.bel.size; (try simp only [World.size_alloc, World.size_setCell, World.size_drew] at hsz); (try have hz0 : w.heap.size < xl.w.heap.size := (by omega)); (try have hz1 : w.heap.size + 1 < xl.w.heap.size := (by omega)); (try have hz2 : w.heap.size + 1 + 1 < xl.w.heap.size := (by omega))) | ((with_reducible refine (szBoolS_any _ _ _ _ _ hn h0 h1).mono ?_); rintro e w' ⟨rfl, xl, rfl⟩; have hsz := xl.bel.size; (try simp only [World.size_alloc, World.size_setCell, World.size_drew] at hsz); (try have hz0 : w.heap.size < xl.w.heap.size := (by omega)); (try have hz1 : w.heap.size + 1 < xl.w.heap.size := (by omega)); (try have hz2 : w.heap.size + 1 + 1 < xl.w.heap.size := (by omega)))))
    all_goals go_ret
    all_goals
      refine .mk (by simp [h]) ?_
      (repeat (first | (with_reducible exact Below.refl _ _) | (with_reducible assumption) | (with_reducible refine Later.out _ ?_) | (with_reducible refine bel_alloc ?_ _) | (with_reducible refine bel_drew ?_) | (with_reducible refine bel_drewN ?_ _) | (with_reducible refine bel_set ?_ ?_ _) | (with_reducible refine After.out _ ?_ ?_) | (dsimp only; omega) | omega | (simp only [World.size_alloc, World.size_setCell, World.size_drew]; omega)))
end
end Go.Proofs.YtfjlilpebhiogaaDoor
