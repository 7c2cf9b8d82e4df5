import Derived.Test.YtokbolgaokbdcaaDoorRulW
/- The program's side of rules and tables. -/
set_option linter.unusedSimpArgs false
set_option linter.unusedVariables false
namespace Go.Proofs.YtokbolgaokbdcaaDoor
open Go.RowKit
theorem all_at_false {α : Type} {l : List α} {p : α → Bool} {k : Nat} (h : k < l.length) (hp : p l[k] = false) : l.all p = false := by
  rw [Bool.eq_false_iff]
  intro hh
  rw [List.all_eq_true.1 hh _ (List.getElem_mem h)] at hp
  cases hp
theorem all_take_step {α : Type} {l : List α} {p : α → Bool} {k : Nat} (h : k < l.length) (ha : (l.take k).all p = true) (hp : p l[k] = true) : (l.take (k + 1)).all p = true := by
  rw [List.take_succ_eq_append_getElem h, List.all_append, ha]
  simp [hp]
set_option maxHeartbeats 1000000 in
theorem areWithin_any (l : List Int) (lo hi : Int) (a : Option Addr) (n c : Nat) (w : World) (hn : l.length = n) (hm : n ≤ 1048576) (hr : Row w a (intCells l)) :
    Calls Tryd.prog 111 #[.slice a n c, .int .i64 lo, .int .i64 hi] w (Ret w (.bool (l.all fun x => inB x lo hi))) := by
  subst hn
  replace hr := Lib.hid hr
  go_enter Tryd.func111, Tryd.ntmps111
  go_wp2_with fail
  go_loopw [11] (fun i wr => ∃ k : Nat, k ≤ l.length ∧ i = .int .i64 k ∧ (l.take k).all (fun x => inB x lo hi) = true ∧ ∃ z : Later w, wr = z.w) (fun i _ => l.length - (intOf i).toNat)
  case atStart => exact ⟨0, Nat.zero_le _, rfl, rfl, ⟨_, Below.refl _ _⟩, rfl⟩
  case round =>
    obtain ⟨k, hk, rfl, hall, z, rfl⟩ := hrel
    replace hall := Lib.hid hall
    have hzz := z.bel.size
    by_cases hlt : k < l.length
    · obtain ⟨b, o, rfl, hb, hc⟩ := hr.out.int hlt
      cases hv : inB l[k] lo hi
      · have X := Lib.hid (all_at_false (p := fun x => inB x lo hi) hlt hv)
        replace hv := Lib.hid hv
        go_wp2_with (first | (go_at_call 89; first | ((with_reducible refine (Calls.later (within_b _ hv.out)).mono ?_); rintro e w' ⟨rfl, xl, rfl⟩; have hsz := xl.bel.size; (try simp only [World.size_alloc, World.size_setCell, World.size_drew] at hsz); (try have hz0 : w.heap.size < xl.w.heap.size := (by omega)); (try have hz1 : w.heap.size + 1 < xl.w.heap.size := (by omega)); (try have hz2 : w.heap.size + 1 + 1 < xl.w.heap.size := (by omega))) | ((with_reducible refine (within_b _ hv.out).mono ?_); rintro e w' ⟨rfl, xl, rfl⟩; have hsz := xl.bel.size; (try simp only [World.size_alloc, World.size_setCell, World.size_drew] at hsz); (try have hz0 : w.heap.size < xl.w.heap.size := (by omega)); (try have hz1 : w.heap.size + 1 < xl.w.heap.size := (by omega)); (try have hz2 : w.heap.size + 1 + 1 < xl.w.heap.size := (by omega)))))
        go_ret
        exact .mk (by rw [X.out]; rfl) (by (repeat (first | (with_reducible exact Below.refl _ _) | (with_reducible assumption) | (with_reducible refine Later.out _ ?_) | (with_reducible refine bel_alloc ?_ _) | (with_reducible refine bel_drew ?_) | (with_reducible refine bel_drewN ?_ _) | (with_reducible refine bel_set ?_ ?_ _) | (with_reducible refine After.out _ ?_ ?_) | (dsimp only; omega) | omega | (simp only [World.size_alloc, World.size_setCell, World.size_drew]; omega))))
      · have X := Lib.hid (all_take_step (p := fun x => inB x lo hi) hlt hall.out hv)
        replace hv := Lib.hid hv
        go_wp2_with (first | (go_at_call 89; first | ((with_reducible refine (Calls.later (within_b _ hv.out)).mono ?_); rintro e w' ⟨rfl, xl, rfl⟩; have hsz := xl.bel.size; (try simp only [World.size_alloc, World.size_setCell, World.size_drew] at hsz); (try have hz0 : w.heap.size < xl.w.heap.size := (by omega)); (try have hz1 : w.heap.size + 1 < xl.w.heap.size := (by omega)); (try have hz2 : w.heap.size + 1 + 1 < xl.w.heap.size := (by omega))) | ((with_reducible refine (within_b _ hv.out).mono ?_); rintro e w' ⟨rfl, xl, rfl⟩; have hsz := xl.bel.size; (try simp only [World.size_alloc, World.size_setCell, World.size_drew] at hsz); (try have hz0 : w.heap.size < xl.w.heap.size := (by omega)); (try have hz1 : w.heap.size + 1 < xl.w.heap.size := (by omega)); (try have hz2 : w.heap.size + 1 + 1 < xl.w.heap.size := (by omega)))))
        go_roundw
        case rel => exact ⟨k + 1, by omega, by go_num, X.out, ⟨_, by (repeat (first | (with_reducible exact Below.refl _ _) | (with_reducible assumption) | (with_reducible refine Later.out _ ?_) | (with_reducible refine bel_alloc ?_ _) | (with_reducible refine bel_drew ?_) | (with_reducible refine bel_drewN ?_ _) | (with_reducible refine bel_set ?_ ?_ _) | (with_reducible refine After.out _ ?_ ?_) | (dsimp only; omega) | omega | (simp only [World.size_alloc, World.size_setCell, World.size_drew]; omega)))⟩, rfl⟩
        case measure => first | (simp [intOf]; done) | (simp [intOf]; omega) | omega
    · obtain rfl : k = l.length := by omega
      have X := Lib.hid (show l.all (fun x => inB x lo hi) = true by have := hall.out; rwa [List.take_length] at this)
      go_wp2_with fail
      go_ret
      exact .mk (by rw [X.out]; rfl) (by (repeat (first | (with_reducible exact Below.refl _ _) | (with_reducible assumption) | (with_reducible refine Later.out _ ?_) | (with_reducible refine bel_alloc ?_ _) | (with_reducible refine bel_drew ?_) | (with_reducible refine bel_drewN ?_ _) | (with_reducible refine bel_set ?_ ?_ _) | (with_reducible refine After.out _ ?_ ?_) | (dsimp only; omega) | omega | (simp only [World.size_alloc, World.size_setCell, World.size_drew]; omega))))
theorem lengthI_any (a : Option Addr) (n c : Nat) (w : World) : Calls Tryd.prog 110 #[.slice a n c] w (Ret w (.int .i64 n)) := by
  go_enter Tryd.func110, Tryd.ntmps110
  go_wp2_with fail
  go_ret
  exact .mk rfl (by (repeat (first | (with_reducible exact Below.refl _ _) | (with_reducible assumption) | (with_reducible refine Later.out _ ?_) | (with_reducible refine bel_alloc ?_ _) | (with_reducible refine bel_drew ?_) | (with_reducible refine bel_drewN ?_ _) | (with_reducible refine bel_set ?_ ?_ _) | (with_reducible refine After.out _ ?_ ?_) | (dsimp only; omega) | omega | (simp only [World.size_alloc, World.size_setCell, World.size_drew]; omega))))
set_option maxHeartbeats 1000000 in
theorem areSigns_any (l : List Int) (m : Int) (a : Option Addr) (n c : Nat) (w : World) (hn : l.length = n) (hm : n ≤ 1048576) (hr : Row w a (intCells l)) :
    Calls Tryd.prog 93 #[.slice a n c, .int .i64 m] w (Ret w (.bool (signsB l m))) := by
  subst hn
  have C := Lib.hid (fun (w : World) (hr : Row w a (intCells l)) => areWithin_any l 0 19 a l.length c w rfl hm hr)
  replace hr := Lib.hid hr
  cases h1 : inB l.length 1 m
  · have X := Lib.hid (show signsB l m = false by simp [signsB, h1])
    replace h1 := Lib.hid h1
    clear C
    go_enter Tryd.func93, Tryd.ntmps93
    go_wp2_with (first | (go_at_call 110; first | ((with_reducible refine (Calls.later (lengthI_any _ _ _ _)).mono ?_); rintro e w' ⟨rfl, xl, rfl⟩; have hsz := xl.bel.size; (try simp only [World.size_alloc, World.size_setCell, World.size_drew] at hsz); (try have hz0 : w.heap.size < xl.w.heap.size := (by omega)); (try have hz1 : w.heap.size + 1 < xl.w.heap.size := (by omega)); (try have hz2 : w.heap.size + 1 + 1 < xl.w.heap.size := (by omega))) | ((with_reducible refine (lengthI_any _ _ _ _).mono ?_); rintro e w' ⟨rfl, xl, rfl⟩; have hsz := xl.bel.size; (try simp only [World.size_alloc, World.size_setCell, World.size_drew] at hsz); (try have hz0 : w.heap.size < xl.w.heap.size := (by omega)); (try have hz1 : w.heap.size + 1 < xl.w.heap.size := (by omega)); (try have hz2 : w.heap.size + 1 + 1 < xl.w.heap.size := (by omega)))) | (go_at_call 89; first | ((with_reducible refine (Calls.later (within_b _ h1.out)).mono ?_); rintro e w' ⟨rfl, xl, rfl⟩; have hsz := xl.bel.size; (try simp only [World.size_alloc, World.size_setCell, World.size_drew] at hsz); (try have hz0 : w.heap.size < xl.w.heap.size := (by omega)); (try have hz1 : w.heap.size + 1 < xl.w.heap.size := (by omega)); (try have hz2 : w.heap.size + 1 + 1 < xl.w.heap.size := (by omega))) | ((with_reducible refine (within_b _ h1.out).mono ?_); rintro e w' ⟨rfl, xl, rfl⟩; have hsz := xl.bel.size; (try simp only [World.size_alloc, World.size_setCell, World.size_drew] at hsz); (try have hz0 : w.heap.size < xl.w.heap.size := (by omega)); (try have hz1 : w.heap.size + 1 < xl.w.heap.size := (by omega)); (try have hz2 : w.heap.size + 1 + 1 < xl.w.heap.size := (by omega)))))
    go_ret
    exact .mk (by rw [X.out]; rfl) (by (repeat (first | (with_reducible exact Below.refl _ _) | (with_reducible assumption) | (with_reducible refine Later.out _ ?_) | (with_reducible refine bel_alloc ?_ _) | (with_reducible refine bel_drew ?_) | (with_reducible refine bel_drewN ?_ _) | (with_reducible refine bel_set ?_ ?_ _) | (with_reducible refine After.out _ ?_ ?_) | (dsimp only; omega) | omega | (simp only [World.size_alloc, World.size_setCell, World.size_drew]; omega))))
  · have X := Lib.hid (show signsB l m = l.all (fun x => inB x 0 19) by simp [signsB, h1])
    obtain ⟨v, hv⟩ : ∃ v, (l.all fun x => inB x 0 19) = v := ⟨_, rfl⟩
    simp only [hv] at C X
    replace h1 := Lib.hid h1
    clear hv
    go_enter Tryd.func93, Tryd.ntmps93
    go_wp2_with (first | (go_at_call 110; first | ((with_reducible refine (Calls.later (lengthI_any _ _ _ _)).mono ?_); rintro e w' ⟨rfl, xl, rfl⟩; have hsz := xl.bel.size; (try simp only [World.size_alloc, World.size_setCell, World.size_drew] at hsz); (try have hz0 : w.heap.size < xl.w.heap.size := (by omega)); (try have hz1 : w.heap.size + 1 < xl.w.heap.size := (by omega)); (try have hz2 : w.heap.size + 1 + 1 < xl.w.heap.size := (by omega))) | ((with_reducible refine (lengthI_any _ _ _ _).mono ?_); rintro e w' ⟨rfl, xl, rfl⟩; have hsz := xl.bel.size; (try simp only [World.size_alloc, World.size_setCell, World.size_drew] at hsz); (try have hz0 : w.heap.size < xl.w.heap.size := (by omega)); (try have hz1 : w.heap.size + 1 < xl.w.heap.size := (by omega)); (try have hz2 : w.heap.size + 1 + 1 < xl.w.heap.size := (by omega)))) | (go_at_call 89; first | ((with_reducible refine (Calls.later (within_b _ h1.out)).mono ?_); rintro e w' ⟨rfl, xl, rfl⟩; have hsz := xl.bel.size; (try simp only [World.size_alloc, World.size_setCell, World.size_drew] at hsz); (try have hz0 : w.heap.size < xl.w.heap.size := (by omega)); (try have hz1 : w.heap.size + 1 < xl.w.heap.size := (by omega)); (try have hz2 : w.heap.size + 1 + 1 < xl.w.heap.size := (by omega))) | ((with_reducible refine (within_b _ h1.out).mono ?_); rintro e w' ⟨rfl, xl, rfl⟩; have hsz := xl.bel.size; (try simp only [World.size_alloc, World.size_setCell, World.size_drew] at hsz); (try have hz0 : w.heap.size < xl.w.heap.size := (by omega)); (try have hz1 : w.heap.size + 1 < xl.w.heap.size := (by omega)); (try have hz2 : w.heap.size + 1 + 1 < xl.w.heap.size := (by omega)))) | (go_at_call 111; first | ((with_reducible refine (Calls.later (C.out _ (hr.out.bel (by (repeat (first | (with_reducible exact Below.refl _ _) | (with_reducible assumption) | (with_reducible refine Later.out _ ?_) | (with_reducible refine bel_alloc ?_ _) | (with_reducible refine bel_drew ?_) | (with_reducible refine bel_drewN ?_ _) | (with_reducible refine bel_set ?_ ?_ _) | (with_reducible refine After.out _ ?_ ?_) | (dsimp only; omega) | omega | (simp only [World.size_alloc, World.size_setCell, World.size_drew]; omega))))))).mono ?_); rintro e w' ⟨rfl, xl, rfl⟩; have hsz := xl.bel.size; (try simp only [World.size_alloc, World.size_setCell, World.size_drew] at hsz); (try have hz0 : w.heap.size < xl.w.heap.size := (by omega)); (try have hz1 : w.heap.size + 1 < xl.w.heap.size := (by omega)); (try have hz2 : w.heap.size + 1 + 1 < xl.w.heap.size := (by omega))) | ((with_reducible refine (C.out _ (hr.out.bel (by (repeat (first | (with_reducible exact Below.refl _ _) | (with_reducible assumption) | (with_reducible refine Later.out _ ?_) | (with_reducible refine bel_alloc ?_ _) | (with_reducible refine bel_drew ?_) | (with_reducible refine bel_drewN ?_ _) | (with_reducible refine bel_set ?_ ?_ _) | (with_reducible refine After.out _ ?_ ?_) | (dsimp only; omega) | omega | (simp only [World.size_alloc, World.size_setCell, World.size_drew]; omega)))))).mono ?_); rintro e w' ⟨rfl, xl, rfl⟩; have hsz := xl.bel.size; (try simp only [World.size_alloc, World.size_setCell, World.size_drew] at hsz); (try have hz0 : w.heap.size < xl.w.heap.size := (by omega)); (try have hz1 : w.heap.size + 1 < xl.w.heap.size := (by omega)); (try have hz2 : w.heap.size + 1 + 1 < xl.w.heap.size := (by omega)))))
    go_ret
    exact .mk (by rw [X.out]; rfl) (by (repeat (first | (with_reducible exact Below.refl _ _) | (with_reducible assumption) | (with_reducible refine Later.out _ ?_) | (with_reducible refine bel_alloc ?_ _) | (with_reducible refine bel_drew ?_) | (with_reducible refine bel_drewN ?_ _) | (with_reducible refine bel_set ?_ ?_ _) | (with_reducible refine After.out _ ?_ ?_) | (dsimp only; omega) | omega | (simp only [World.size_alloc, World.size_setCell, World.size_drew]; omega))))
set_option maxHeartbeats 1000000 in
theorem isRule_any (r : Rul) (a : Option Addr) (c : Nat) (w : World) (ok : RulOk r) (hr : Row w a (intCells r.sg)) :
    Calls Tryd.prog 76 #[.agg #[.slice a r.sg.length c, .string r.rom]] w (Ret w (.bool (ruleB r))) := by
  have C := Lib.hid (fun (w : World) (hr : Row w a (intCells r.sg)) => areSigns_any r.sg 3 a r.sg.length c w rfl ok.s hr)
  have D := Lib.hid (fun (w : World) => isSmall_any r.rom 0 4 w ok.t)
  replace hr := Lib.hid hr
  have X := Lib.hid (show ruleB r = (signsB r.sg 3 && smallB r.rom 0 4) from rfl)
  obtain ⟨u, hu⟩ : ∃ v, signsB r.sg 3 = v := ⟨_, rfl⟩
  obtain ⟨v, hv⟩ : ∃ v, smallB r.rom 0 4 = v := ⟨_, rfl⟩
  simp only [hu] at C X
  simp only [hv] at D X
  clear hu hv
  cases u
  · go_enter Tryd.func76, Tryd.ntmps76
    go_wp2_with (first | (go_at_call 93; first | ((with_reducible refine (Calls.later (C.out _ (hr.out.bel (by (repeat (first | (with_reducible exact Below.refl _ _) | (with_reducible assumption) | (with_reducible refine Later.out _ ?_) | (with_reducible refine bel_alloc ?_ _) | (with_reducible refine bel_drew ?_) | (with_reducible refine bel_drewN ?_ _) | (with_reducible refine bel_set ?_ ?_ _) | (with_reducible refine After.out _ ?_ ?_) | (dsimp only; omega) | omega | (simp only [World.size_alloc, World.size_setCell, World.size_drew]; omega))))))).mono ?_); rintro e w' ⟨rfl, xl, rfl⟩; have hsz := xl.bel.size; (try simp only [World.size_alloc, World.size_setCell, World.size_drew] at hsz); (try have hz0 : w.heap.size < xl.w.heap.size := (by omega)); (try have hz1 : w.heap.size + 1 < xl.w.heap.size := (by omega)); (try have hz2 : w.heap.size + 1 + 1 < xl.w.heap.size := (by omega))) | ((with_reducible refine (C.out _ (hr.out.bel (by (repeat (first | (with_reducible exact Below.refl _ _) | (with_reducible assumption) | (with_reducible refine Later.out _ ?_) | (with_reducible refine bel_alloc ?_ _) | (with_reducible refine bel_drew ?_) | (with_reducible refine bel_drewN ?_ _) | (with_reducible refine bel_set ?_ ?_ _) | (with_reducible refine After.out _ ?_ ?_) | (dsimp only; omega) | omega | (simp only [World.size_alloc, World.size_setCell, World.size_drew]; omega)))))).mono ?_); rintro e w' ⟨rfl, xl, rfl⟩; have hsz := xl.bel.size; (try simp only [World.size_alloc, World.size_setCell, World.size_drew] at hsz); (try have hz0 : w.heap.size < xl.w.heap.size := (by omega)); (try have hz1 : w.heap.size + 1 < xl.w.heap.size := (by omega)); (try have hz2 : w.heap.size + 1 + 1 < xl.w.heap.size := (by omega)))))
    go_ret
    exact .mk (by rw [X.out]; rfl) (by (repeat (first | (with_reducible exact Below.refl _ _) | (with_reducible assumption) | (with_reducible refine Later.out _ ?_) | (with_reducible refine bel_alloc ?_ _) | (with_reducible refine bel_drew ?_) | (with_reducible refine bel_drewN ?_ _) | (with_reducible refine bel_set ?_ ?_ _) | (with_reducible refine After.out _ ?_ ?_) | (dsimp only; omega) | omega | (simp only [World.size_alloc, World.size_setCell, World.size_drew]; omega))))
  · go_enter Tryd.func76, Tryd.ntmps76
    go_wp2_with (first | (go_at_call 93; first | ((with_reducible refine (Calls.later (C.out _ (hr.out.bel (by (repeat (first | (with_reducible exact Below.refl _ _) | (with_reducible assumption) | (with_reducible refine Later.out _ ?_) | (with_reducible refine bel_alloc ?_ _) | (with_reducible refine bel_drew ?_) | (with_reducible refine bel_drewN ?_ _) | (with_reducible refine bel_set ?_ ?_ _) | (with_reducible refine After.out _ ?_ ?_) | (dsimp only; omega) | omega | (simp only [World.size_alloc, World.size_setCell, World.size_drew]; omega))))))).mono ?_); rintro e w' ⟨rfl, xl, rfl⟩; have hsz := xl.bel.size; (try simp only [World.size_alloc, World.size_setCell, World.size_drew] at hsz); (try have hz0 : w.heap.size < xl.w.heap.size := (by omega)); (try have hz1 : w.heap.size + 1 < xl.w.heap.size := (by omega)); (try have hz2 : w.heap.size + 1 + 1 < xl.w.heap.size := (by omega))) | ((with_reducible refine (C.out _ (hr.out.bel (by (repeat (first | (with_reducible exact Below.refl _ _) | (with_reducible assumption) | (with_reducible refine Later.out _ ?_) | (with_reducible refine bel_alloc ?_ _) | (with_reducible refine bel_drew ?_) | (with_reducible refine bel_drewN ?_ _) | (with_reducible refine bel_set ?_ ?_ _) | (with_reducible refine After.out _ ?_ ?_) | (dsimp only; omega) | omega | (simp only [World.size_alloc, World.size_setCell, World.size_drew]; omega)))))).mono ?_); rintro e w' ⟨rfl, xl, rfl⟩; have hsz := xl.bel.size; (try simp only [World.size_alloc, World.size_setCell, World.size_drew] at hsz); (try have hz0 : w.heap.size < xl.w.heap.size := (by omega)); (try have hz1 : w.heap.size + 1 < xl.w.heap.size := (by omega)); (try have hz2 : w.heap.size + 1 + 1 < xl.w.heap.size := (by omega)))) | (go_at_call 62; first | ((with_reducible refine (Calls.later (D.out _)).mono ?_); rintro e w' ⟨rfl, xl, rfl⟩; have hsz := xl.bel.size; (try simp only [World.size_alloc, World.size_setCell, World.size_drew] at hsz); (try have hz0 : w.heap.size < xl.w.heap.size := (by omega)); (try have hz1 : w.heap.size + 1 < xl.w.heap.size := (by omega)); (try have hz2 : w.heap.size + 1 + 1 < xl.w.heap.size := (by omega))) | ((with_reducible refine (D.out _).mono ?_); rintro e w' ⟨rfl, xl, rfl⟩; have hsz := xl.bel.size; (try simp only [World.size_alloc, World.size_setCell, World.size_drew] at hsz); (try have hz0 : w.heap.size < xl.w.heap.size := (by omega)); (try have hz1 : w.heap.size + 1 < xl.w.heap.size := (by omega)); (try have hz2 : w.heap.size + 1 + 1 < xl.w.heap.size := (by omega)))))
    go_ret
    exact .mk (by rw [X.out]; rfl) (by (repeat (first | (with_reducible exact Below.refl _ _) | (with_reducible assumption) | (with_reducible refine Later.out _ ?_) | (with_reducible refine bel_alloc ?_ _) | (with_reducible refine bel_drew ?_) | (with_reducible refine bel_drewN ?_ _) | (with_reducible refine bel_set ?_ ?_ _) | (with_reducible refine After.out _ ?_ ?_) | (dsimp only; omega) | omega | (simp only [World.size_alloc, World.size_setCell, World.size_drew]; omega))))
/-- What a function value must do for a table: tell `p` of each of its rules, whenever it is called later. -/
def TellsU (g : Nat) (pre lb : Array Value) (p : Rul → Bool) (L : List Rul) (w : World) : Prop :=
  ∀ r ∈ L, ∀ (ax : Option Addr) (cx : Nat) (w' : World), Below w.heap.size w w' → Row w' ax (intCells r.sg) → r.sg.length ≤ cx → cx ≤ maxLen → Calls Tryd.prog g (pre.push (.agg #[.slice ax r.sg.length cx, .string r.rom]) ++ lb) w' (Ret w' (.bool (p r)))
set_option maxHeartbeats 1000000 in
theorem indexFuncU_any (g : Nat) (pre lb : Array Value) (p : Rul → Bool) (L : List Rul) (a : Option Addr) (n c : Nat) (w : World) (eg : ∀ args w, (callFunc g args).run Tryd.prog w = .ok (.enter g args) w)
    (hn : L.length = n) (hm : n ≤ 1048576) (hr : RulesR w a L) (hp : TellsU g pre lb p L w) :
    Calls Tryd.prog 64 #[.slice a n c, .func (.func g) pre lb] w (Ret w (.int .i64 (idxU p L))) := by
  subst hn
  replace hr := Lib.hid hr
  replace hp := Lib.hid hp
  go_enter Tryd.func64, Tryd.ntmps64
  go_wp2_with fail
  go_loopw [8] (fun i wr => ∃ k : Nat, k ≤ L.length ∧ i = .int .i64 k ∧ (∀ j (hj : j < L.length), j < k → p L[j] = false) ∧ ∃ z : Later w, wr = z.w) (fun i _ => L.length - (intOf i).toNat)
  case atStart => exact ⟨0, Nat.zero_le _, rfl, fun j _ h => absurd h (by omega), ⟨_, Below.refl _ _⟩, rfl⟩
  case round =>
    obtain ⟨k, hk, rfl, hall, z, rfl⟩ := hrel
    replace hall := Lib.hid hall
    by_cases hlt : k < L.length
    · obtain ⟨b, o, ai, ci, rfl, hb, q0, q1, q2, q3, q4⟩ := hr.out.at_ hlt
      have hc := hp.out L[k] (List.getElem_mem hlt) ai ci z.w z.bel (q2.bel z.bel) q3 q4
      clear q2 q3 q4
      cases hv : p L[k]
      · rw [hv] at hc
        replace hc := Lib.hid hc
        have X := Lib.hid (show ∀ j (hj : j < L.length), j < k + 1 → p L[j] = false from fun j hj h => by
          rcases Nat.lt_or_ge j k with h1 | h1
          · exact hall.out j hj h1
          · obtain rfl : j = k := by omega
            exact hv)
        clear hv
        go_wp2_with (go_at_fn g; (with_reducible refine hc.out.mono ?_); rintro e w' ⟨rfl, y1, rfl⟩)
        go_roundw
        case rel => exact ⟨k + 1, by omega, by go_num, X.out, ⟨_, by (repeat (first | (with_reducible exact Below.refl _ _) | (with_reducible assumption) | (with_reducible refine Later.out _ ?_) | (with_reducible refine bel_alloc ?_ _) | (with_reducible refine bel_drew ?_) | (with_reducible refine bel_drewN ?_ _) | (with_reducible refine bel_set ?_ ?_ _) | (with_reducible refine After.out _ ?_ ?_) | (dsimp only; omega) | omega | (simp only [World.size_alloc, World.size_setCell, World.size_drew]; omega)))⟩, rfl⟩
        case measure => first | (simp [intOf]; done) | (simp [intOf]; omega) | omega
      · rw [hv] at hc
        replace hc := Lib.hid hc
        have X := Lib.hid (idxU_some hlt hv fun j hj h => hall.out j hj h)
        clear hv
        go_wp2_with (go_at_fn g; (with_reducible refine hc.out.mono ?_); rintro e w' ⟨rfl, y1, rfl⟩)
        go_ret
        exact .mk (by rw [X.out]; rfl) (by (repeat (first | (with_reducible exact Below.refl _ _) | (with_reducible assumption) | (with_reducible refine Later.out _ ?_) | (with_reducible refine bel_alloc ?_ _) | (with_reducible refine bel_drew ?_) | (with_reducible refine bel_drewN ?_ _) | (with_reducible refine bel_set ?_ ?_ _) | (with_reducible refine After.out _ ?_ ?_) | (dsimp only; omega) | omega | (simp only [World.size_alloc, World.size_setCell, World.size_drew]; omega))))
    · obtain rfl : k = L.length := by omega
      have X := Lib.hid (idxU_none fun j hj => hall.out j hj hj)
      go_wp2_with fail
      go_ret
      exact .mk (by rw [X.out]; rfl) (by (repeat (first | (with_reducible exact Below.refl _ _) | (with_reducible assumption) | (with_reducible refine Later.out _ ?_) | (with_reducible refine bel_alloc ?_ _) | (with_reducible refine bel_drew ?_) | (with_reducible refine bel_drewN ?_ _) | (with_reducible refine bel_set ?_ ?_ _) | (with_reducible refine After.out _ ?_ ?_) | (dsimp only; omega) | omega | (simp only [World.size_alloc, World.size_setCell, World.size_drew]; omega))))
set_option maxHeartbeats 1000000 in
theorem equalI_any (l l' : List Int) (a a' : Option Addr) (n c n' c' : Nat) (w : World) (hn : l.length = n) (hn' : l'.length = n') (hm : n ≤ 1048576) (hm' : n' ≤ 1048576) (hr : Row w a (intCells l)) (hr' : Row w a' (intCells l')) :
    Calls Tryd.prog 49 #[.slice a n c, .slice a' n' c'] w (Ret w (.bool (l == l'))) := by
  subst hn hn'
  by_cases hl : l.length = l'.length
  · replace hr := Lib.hid hr
    replace hr' := Lib.hid hr'
    have e1 : ((l.length : Int) != (l'.length : Int)) = false := by simp [hl]
    have HL := Lib.hid hl
    clear hl
    go_enter Tryd.func49, Tryd.ntmps49
    go_wp2_with fail
    go_loopw [13] (fun i wr => ∃ k : Nat, k ≤ l.length ∧ i = .int .i64 k ∧ (∀ j (h1 : j < l.length) (h2 : j < l'.length), j < k → l[j] = l'[j]) ∧ ∃ z : Later w, wr = z.w) (fun i _ => l.length - (intOf i).toNat)
    case atStart => exact ⟨0, Nat.zero_le _, rfl, fun j _ _ h => absurd h (by omega), LaterC.mk (by (repeat (first | (with_reducible exact Below.refl _ _) | (with_reducible assumption) | (with_reducible refine Later.out _ ?_) | (with_reducible refine bel_alloc ?_ _) | (with_reducible refine bel_drew ?_) | (with_reducible refine bel_drewN ?_ _) | (with_reducible refine bel_set ?_ ?_ _) | (with_reducible refine After.out _ ?_ ?_) | (dsimp only; omega) | omega | (simp only [World.size_alloc, World.size_setCell, World.size_drew]; omega))))⟩
    case round =>
      obtain ⟨k, hk, rfl, hsame, z, rfl⟩ := hrel
      have hzz := z.bel.size
      by_cases hlt : k < l.length
      · have hlt' : k < l'.length := by have := HL.out; omega
        have hi1 : (k : Int) < (l.length : Int) := by omega
        have hi2 : (k : Int) < (l'.length : Int) := by omega
        obtain ⟨b, o, rfl, hb, hc⟩ := hr.out.int hlt
        obtain ⟨b', o', rfl, hb', hc'⟩ := hr'.out.int hlt'
        by_cases hd : l[k] = l'[k]
        · have X := Lib.hid (show ∀ j (h1 : j < l.length) (h2 : j < l'.length), j < k + 1 → l[j] = l'[j] from fun j h1 h2 h => by
            rcases Nat.lt_or_ge j k with h3 | h3
            · exact hsame j h1 h2 h3
            · obtain rfl : j = k := by omega
              exact hd)
          rw [← hd] at hc'
          clear hsame hd
          go_wp2_with fail
          refine wp_region_later (by kernel_rfl) (by kernel_rfl) ?_
          repeat (go_big_quiet_step (fail))
          refine wpQuiet_nil ?_
          rintro _ ⟨xq, rfl⟩
          go_wp2_with fail
          go_roundw
          case rel => exact ⟨k + 1, by omega, by go_num, X.out, LaterC.mk (by (repeat (first | (with_reducible exact Below.refl _ _) | (with_reducible assumption) | (with_reducible refine Later.out _ ?_) | (with_reducible refine bel_alloc ?_ _) | (with_reducible refine bel_drew ?_) | (with_reducible refine bel_drewN ?_ _) | (with_reducible refine bel_set ?_ ?_ _) | (with_reducible refine After.out _ ?_ ?_) | (dsimp only; omega) | omega | (simp only [World.size_alloc, World.size_setCell, World.size_drew]; omega))))⟩
          case measure => first | (simp [intOf]; done) | (simp [intOf]; omega) | omega
        · have X := Lib.hid (beq_of_diff hlt hlt' hd)
          have hd' : (l[k] == l'[k]) = false := by simpa using hd
          clear hsame hd
          go_wp2_with fail
          refine wp_region_later (by kernel_rfl) (by kernel_rfl) ?_
          repeat (go_big_quiet_step (fail))
          refine wpQuiet_nil ?_
          rintro _ ⟨xq, rfl⟩
          go_wp2_with fail
          go_ret
          exact .mk (by rw [X.out]; rfl) (by (repeat (first | (with_reducible exact Below.refl _ _) | (with_reducible assumption) | (with_reducible refine Later.out _ ?_) | (with_reducible refine bel_alloc ?_ _) | (with_reducible refine bel_drew ?_) | (with_reducible refine bel_drewN ?_ _) | (with_reducible refine bel_set ?_ ?_ _) | (with_reducible refine After.out _ ?_ ?_) | (dsimp only; omega) | omega | (simp only [World.size_alloc, World.size_setCell, World.size_drew]; omega))))
      · obtain rfl : k = l.length := by omega
        have X := Lib.hid (beq_of_all HL.out fun j h1 h2 => hsame j h1 h2 h1)
        clear hsame
        go_wp2_with fail
        go_ret
        exact .mk (by rw [X.out]; rfl) (by (repeat (first | (with_reducible exact Below.refl _ _) | (with_reducible assumption) | (with_reducible refine Later.out _ ?_) | (with_reducible refine bel_alloc ?_ _) | (with_reducible refine bel_drew ?_) | (with_reducible refine bel_drewN ?_ _) | (with_reducible refine bel_set ?_ ?_ _) | (with_reducible refine After.out _ ?_ ?_) | (dsimp only; omega) | omega | (simp only [World.size_alloc, World.size_setCell, World.size_drew]; omega))))
  · have X := Lib.hid (beq_of_len hl)
    have e1 : ((l.length : Int) != (l'.length : Int)) = true := by simp; omega
    clear hr hr'
    go_enter Tryd.func49, Tryd.ntmps49
    go_wp2_with fail
    go_ret
    exact .mk (by rw [X.out]; rfl) (by (repeat (first | (with_reducible exact Below.refl _ _) | (with_reducible assumption) | (with_reducible refine Later.out _ ?_) | (with_reducible refine bel_alloc ?_ _) | (with_reducible refine bel_drew ?_) | (with_reducible refine bel_drewN ?_ _) | (with_reducible refine bel_set ?_ ?_ _) | (with_reducible refine After.out _ ?_ ?_) | (dsimp only; omega) | omega | (simp only [World.size_alloc, World.size_setCell, World.size_drew]; omega))))
set_option maxHeartbeats 1000000 in
theorem findRule1_any (r : Rul) (s : List Int) (ar a : Option Addr) (cr n c b : Nat) (w : World) (hn : s.length = n) (hm : n ≤ 1048576) (hs : r.sg.length ≤ 1048576) (hr : Row w ar (intCells r.sg)) (hr' : Row w a (intCells s)) (hb : w.cell? ⟨b, 0, none⟩ = some (.slice a n c)) (hbl : b < w.heap.size) :
    Calls Tryd.prog 99 #[.agg #[.slice ar r.sg.length cr, .string r.rom], .pointer (some ⟨b, 0, none⟩)] w (Ret w (.bool (r.sg == s))) := by
  have C := Lib.hid (fun (w : World) (hr : Row w ar (intCells r.sg)) (hr' : Row w a (intCells s)) => equalI_any r.sg s ar a r.sg.length cr n c w rfl hn hs hm hr hr')
  replace hr := Lib.hid hr
  replace hr' := Lib.hid hr'
  go_enter Tryd.func99, Tryd.ntmps99
  go_wp2_with fail
  with_reducible refine (C.out _ (hr.out.bel (by (repeat (first | (with_reducible exact Below.refl _ _) | (with_reducible assumption) | (with_reducible refine Later.out _ ?_) | (with_reducible refine bel_alloc ?_ _) | (with_reducible refine bel_drew ?_) | (with_reducible refine bel_drewN ?_ _) | (with_reducible refine bel_set ?_ ?_ _) | (with_reducible refine After.out _ ?_ ?_) | (dsimp only; omega) | omega | (simp only [World.size_alloc, World.size_setCell, World.size_drew]; omega))))) (hr'.out.bel (by (repeat (first | (with_reducible exact Below.refl _ _) | (with_reducible assumption) | (with_reducible refine Later.out _ ?_) | (with_reducible refine bel_alloc ?_ _) | (with_reducible refine bel_drew ?_) | (with_reducible refine bel_drewN ?_ _) | (with_reducible refine bel_set ?_ ?_ _) | (with_reducible refine After.out _ ?_ ?_) | (dsimp only; omega) | omega | (simp only [World.size_alloc, World.size_setCell, World.size_drew]; omega)))))).mono ?_
  rintro e w' ⟨rfl, y1, rfl⟩
  have hsy1 := y1.bel.size
  (try simp only [World.size_alloc, World.size_setCell, World.size_drew] at hsy1)
  go_wp2_with fail
  go_ret
  exact .mk rfl (by (repeat (first | (with_reducible exact Below.refl _ _) | (with_reducible assumption) | (with_reducible refine Later.out _ ?_) | (with_reducible refine bel_alloc ?_ _) | (with_reducible refine bel_drew ?_) | (with_reducible refine bel_drewN ?_ _) | (with_reducible refine bel_set ?_ ?_ _) | (with_reducible refine After.out _ ?_ ?_) | (dsimp only; omega) | omega | (simp only [World.size_alloc, World.size_setCell, World.size_drew]; omega))))
theorem enters_findRule1 : ∀ args w, (callFunc 99 args).run Tryd.prog w = .ok (.enter 99 args) w := fun _ _ => by kernel_rfl
theorem tells_findRule {T : List Rul} {s : List Int} {a : Option Addr} {n c b : Nat} {w : World} (hok : ∀ r ∈ T, RulOk r) (hn : s.length = n) (hm : n ≤ 1048576) (hr' : Row w a (intCells s)) (hb : w.cell? ⟨b, 0, none⟩ = some (.slice a n c)) (hbl : b < w.heap.size) :
    TellsU 99 #[] #[.pointer (some ⟨b, 0, none⟩)] (fun r => r.sg == s) T w :=
  fun r hr ax cx w' hbel hrow _ _ => by simpa using findRule1_any r s ax a cx n c b w' hn hm (hok r hr).s hrow (hr'.bel hbel) ((hbel.cell hbl).trans hb) (Nat.lt_of_lt_of_le hbl hbel.size)
set_option maxHeartbeats 1000000 in
theorem findRule_any (T : List Rul) (s : List Int) (aT a : Option Addr) (nT cT n c : Nat) (w : World) (hnT : T.length = nT) (hmT : nT ≤ 1048576) (hok : ∀ r ∈ T, RulOk r) (hn : s.length = n) (hm : n ≤ 1048576) (hr : RulesR w aT T) (hr' : Row w a (intCells s)) :
    Calls Tryd.prog 77 #[.slice aT nT cT, .slice a n c] w (Ret w (.int .i64 (findR T s))) := by
  have C := Lib.hid (fun (w : World) (b : Nat) (hr : RulesR w aT T) (hr' : Row w a (intCells s)) (hb : w.cell? ⟨b, 0, none⟩ = some (.slice a n c)) (hbl : b < w.heap.size) =>
    indexFuncU_any 99 #[] #[.pointer (some ⟨b, 0, none⟩)] (fun r => r.sg == s) T aT nT cT w enters_findRule1 hnT hmT hr (tells_findRule hok hn hm hr' hb hbl))
  replace hr := Lib.hid hr
  replace hr' := Lib.hid hr'
  replace hok := Lib.hid hok
  go_enter Tryd.func77, Tryd.ntmps77
  go_wp2_with fail
  with_reducible refine (C.out _ _ (hr.out.bel (by (repeat (first | (with_reducible exact Below.refl _ _) | (with_reducible assumption) | (with_reducible refine Later.out _ ?_) | (with_reducible refine bel_alloc ?_ _) | (with_reducible refine bel_drew ?_) | (with_reducible refine bel_drewN ?_ _) | (with_reducible refine bel_set ?_ ?_ _) | (with_reducible refine After.out _ ?_ ?_) | (dsimp only; omega) | omega | (simp only [World.size_alloc, World.size_setCell, World.size_drew]; omega))))) (hr'.out.bel (by (repeat (first | (with_reducible exact Below.refl _ _) | (with_reducible assumption) | (with_reducible refine Later.out _ ?_) | (with_reducible refine bel_alloc ?_ _) | (with_reducible refine bel_drew ?_) | (with_reducible refine bel_drewN ?_ _) | (with_reducible refine bel_set ?_ ?_ _) | (with_reducible refine After.out _ ?_ ?_) | (dsimp only; omega) | omega | (simp only [World.size_alloc, World.size_setCell, World.size_drew]; omega))))) (by simp [go_sem, ↓IntWalk.iteOmega]) (by simp only [World.size_alloc]; omega)).mono ?_
  rintro e w' ⟨rfl, y1, rfl⟩
  have hsy1 := y1.bel.size
  (try simp only [World.size_alloc] at hsy1)
  go_wp2_with fail
  go_ret
  exact .mk rfl (by (repeat (first | (with_reducible exact Below.refl _ _) | (with_reducible assumption) | (with_reducible refine Later.out _ ?_) | (with_reducible refine bel_alloc ?_ _) | (with_reducible refine bel_drew ?_) | (with_reducible refine bel_drewN ?_ _) | (with_reducible refine bel_set ?_ ?_ _) | (with_reducible refine After.out _ ?_ ?_) | (dsimp only; omega) | omega | (simp only [World.size_alloc, World.size_setCell, World.size_drew]; omega))))
set_option maxHeartbeats 1000000 in
theorem isTable_any (T : List Rul) (a : Option Addr) (n c : Nat) (w : World) (hn : T.length = n) (hm : n ≤ 1048576) (hnc : n ≤ c) (hcm : c ≤ maxLen) (hok : ∀ r ∈ T, RulOk r) (hr : RulesR w a T) :
    Calls Tryd.prog 52 #[.slice a n c] w (Ret w (.bool (tableB T))) := by
  subst hn
  unfold maxLen at hcm
  replace hr := Lib.hid hr
  replace hok := Lib.hid hok
  go_enter Tryd.func52, Tryd.ntmps52
  go_wp2_with fail
  go_loopw [7] (fun i wr => ∃ k : Nat, k ≤ T.length ∧ i = .int .i64 k ∧ (∀ j, j < k → tabAt T j = true) ∧ ∃ z : Later w, wr = z.w) (fun i _ => T.length - (intOf i).toNat)
  case atStart => exact ⟨0, Nat.zero_le _, rfl, fun j h => absurd h (by omega), ⟨_, Below.refl _ _⟩, rfl⟩
  case round =>
    obtain ⟨k, hk, rfl, hall, z, rfl⟩ := hrel
    replace hall := Lib.hid hall
    have hzz := z.bel.size
    by_cases hlt : k < T.length
    · obtain ⟨b, o, ai, ci, rfl, hb, q0, q1, q2, q3, q4⟩ := hr.out.at_ hlt
      have hok1 := hok.out _ (List.getElem_mem hlt)
      have HT := tabAt_get hlt
      have C := fun (w : World) (hr : Row w ai (intCells T[k].sg)) => isRule_any T[k] ai ci w hok1 hr
      have F := fun (cT : Nat) (w : World) (hr : RulesR w (some ⟨b, o, none⟩) (T.take k)) (hr' : Row w ai (intCells T[k].sg)) => findRule_any (T.take k) T[k].sg (some ⟨b, o, none⟩) ai k cT T[k].sg.length ci w (by rw [List.length_take]; omega) (by omega) (fun r hr => hok.out r (List.mem_of_mem_take hr)) rfl hok1.s hr hr'
      have hrk := Lib.hid (hr.out.take k)
      replace q2 := Lib.hid q2
      obtain ⟨v, hv⟩ : ∃ v, ruleB T[k] = v := ⟨_, rfl⟩
      obtain ⟨u, hu⟩ : ∃ v, findR (T.take k) T[k].sg = v := ⟨_, rfl⟩
      simp only [hv] at C HT
      simp only [hu] at F HT
      replace C := Lib.hid C
      replace F := Lib.hid F
      clear hv hu q3 q4
      cases v
      · have X := Lib.hid (tableB_bad hlt (by rw [HT]; rfl))
        clear HT
        go_wp2_with fail
        refine wp_region_later (by kernel_rfl) (by kernel_rfl) ?_
        repeat (go_big_quiet_step ((first | (go_at_call 76; exact Calls.later (C.out _ (q2.out.bel (by (repeat (first | (with_reducible exact Below.refl _ _) | (with_reducible assumption) | (with_reducible refine Later.out _ ?_) | (with_reducible refine bel_alloc ?_ _) | (with_reducible refine bel_drew ?_) | (with_reducible refine bel_drewN ?_ _) | (with_reducible refine bel_set ?_ ?_ _) | (with_reducible refine After.out _ ?_ ?_) | (dsimp only; omega) | omega | (simp only [World.size_alloc, World.size_setCell, World.size_drew]; omega))))))))))
        refine wpQuiet_nil ?_
        rintro _ ⟨xq, rfl⟩
        go_wp2_with fail
        go_ret
        exact .mk (by rw [X.out]; rfl) (by (repeat (first | (with_reducible exact Below.refl _ _) | (with_reducible assumption) | (with_reducible refine Later.out _ ?_) | (with_reducible refine bel_alloc ?_ _) | (with_reducible refine bel_drew ?_) | (with_reducible refine bel_drewN ?_ _) | (with_reducible refine bel_set ?_ ?_ _) | (with_reducible refine After.out _ ?_ ?_) | (dsimp only; omega) | omega | (simp only [World.size_alloc, World.size_setCell, World.size_drew]; omega))))
      · by_cases h0 : 0 ≤ u
        · have X := Lib.hid (tableB_bad hlt (by rw [HT]; simp [h0]))
          clear HT
          go_wp2_with fail
          refine wp_region_later (by kernel_rfl) (by kernel_rfl) ?_
          repeat (go_big_quiet_step ((first | (go_at_call 76; exact Calls.later (C.out _ (q2.out.bel (by (repeat (first | (with_reducible exact Below.refl _ _) | (with_reducible assumption) | (with_reducible refine Later.out _ ?_) | (with_reducible refine bel_alloc ?_ _) | (with_reducible refine bel_drew ?_) | (with_reducible refine bel_drewN ?_ _) | (with_reducible refine bel_set ?_ ?_ _) | (with_reducible refine After.out _ ?_ ?_) | (dsimp only; omega) | omega | (simp only [World.size_alloc, World.size_setCell, World.size_drew]; omega))))))) | (go_at_call 77; exact Calls.later (F.out _ _ (hrk.out.bel (by (repeat (first | (with_reducible exact Below.refl _ _) | (with_reducible assumption) | (with_reducible refine Later.out _ ?_) | (with_reducible refine bel_alloc ?_ _) | (with_reducible refine bel_drew ?_) | (with_reducible refine bel_drewN ?_ _) | (with_reducible refine bel_set ?_ ?_ _) | (with_reducible refine After.out _ ?_ ?_) | (dsimp only; omega) | omega | (simp only [World.size_alloc, World.size_setCell, World.size_drew]; omega))))) (q2.out.bel (by (repeat (first | (with_reducible exact Below.refl _ _) | (with_reducible assumption) | (with_reducible refine Later.out _ ?_) | (with_reducible refine bel_alloc ?_ _) | (with_reducible refine bel_drew ?_) | (with_reducible refine bel_drewN ?_ _) | (with_reducible refine bel_set ?_ ?_ _) | (with_reducible refine After.out _ ?_ ?_) | (dsimp only; omega) | omega | (simp only [World.size_alloc, World.size_setCell, World.size_drew]; omega))))))))))
          refine wpQuiet_nil ?_
          rintro _ ⟨xq, rfl⟩
          go_wp2_with fail
          go_ret
          exact .mk (by rw [X.out]; rfl) (by (repeat (first | (with_reducible exact Below.refl _ _) | (with_reducible assumption) | (with_reducible refine Later.out _ ?_) | (with_reducible refine bel_alloc ?_ _) | (with_reducible refine bel_drew ?_) | (with_reducible refine bel_drewN ?_ _) | (with_reducible refine bel_set ?_ ?_ _) | (with_reducible refine After.out _ ?_ ?_) | (dsimp only; omega) | omega | (simp only [World.size_alloc, World.size_setCell, World.size_drew]; omega))))
        · have X := Lib.hid (show ∀ j, j < k + 1 → tabAt T j = true from fun j hj => by
            rcases Nat.lt_or_ge j k with h1 | h1
            · exact hall.out j h1
            · obtain rfl : j = k := by omega
              rw [HT]; simp [h0])
          clear HT
          go_wp2_with fail
          refine wp_region_later (by kernel_rfl) (by kernel_rfl) ?_
          repeat (go_big_quiet_step ((first | (go_at_call 76; exact Calls.later (C.out _ (q2.out.bel (by (repeat (first | (with_reducible exact Below.refl _ _) | (with_reducible assumption) | (with_reducible refine Later.out _ ?_) | (with_reducible refine bel_alloc ?_ _) | (with_reducible refine bel_drew ?_) | (with_reducible refine bel_drewN ?_ _) | (with_reducible refine bel_set ?_ ?_ _) | (with_reducible refine After.out _ ?_ ?_) | (dsimp only; omega) | omega | (simp only [World.size_alloc, World.size_setCell, World.size_drew]; omega))))))) | (go_at_call 77; exact Calls.later (F.out _ _ (hrk.out.bel (by (repeat (first | (with_reducible exact Below.refl _ _) | (with_reducible assumption) | (with_reducible refine Later.out _ ?_) | (with_reducible refine bel_alloc ?_ _) | (with_reducible refine bel_drew ?_) | (with_reducible refine bel_drewN ?_ _) | (with_reducible refine bel_set ?_ ?_ _) | (with_reducible refine After.out _ ?_ ?_) | (dsimp only; omega) | omega | (simp only [World.size_alloc, World.size_setCell, World.size_drew]; omega))))) (q2.out.bel (by (repeat (first | (with_reducible exact Below.refl _ _) | (with_reducible assumption) | (with_reducible refine Later.out _ ?_) | (with_reducible refine bel_alloc ?_ _) | (with_reducible refine bel_drew ?_) | (with_reducible refine bel_drewN ?_ _) | (with_reducible refine bel_set ?_ ?_ _) | (with_reducible refine After.out _ ?_ ?_) | (dsimp only; omega) | omega | (simp only [World.size_alloc, World.size_setCell, World.size_drew]; omega))))))))))
          refine wpQuiet_nil ?_
          rintro _ ⟨xq, rfl⟩
          go_wp2_with fail
          go_roundw
          case rel => exact ⟨k + 1, by omega, by go_num, X.out, LaterC.mk (by (repeat (first | (with_reducible exact Below.refl _ _) | (with_reducible assumption) | (with_reducible refine Later.out _ ?_) | (with_reducible refine bel_alloc ?_ _) | (with_reducible refine bel_drew ?_) | (with_reducible refine bel_drewN ?_ _) | (with_reducible refine bel_set ?_ ?_ _) | (with_reducible refine After.out _ ?_ ?_) | (dsimp only; omega) | omega | (simp only [World.size_alloc, World.size_setCell, World.size_drew]; omega))))⟩
          case measure => first | (simp [intOf]; done) | (simp [intOf]; omega) | omega
    · obtain rfl : k = T.length := by omega
      have X := Lib.hid (tableB_all fun j hj => hall.out j hj)
      go_wp2_with fail
      go_ret
      exact .mk (by rw [X.out]; simp [go_sem]; try omega) (by (repeat (first | (with_reducible exact Below.refl _ _) | (with_reducible assumption) | (with_reducible refine Later.out _ ?_) | (with_reducible refine bel_alloc ?_ _) | (with_reducible refine bel_drew ?_) | (with_reducible refine bel_drewN ?_ _) | (with_reducible refine bel_set ?_ ?_ _) | (with_reducible refine After.out _ ?_ ?_) | (dsimp only; omega) | omega | (simp only [World.size_alloc, World.size_setCell, World.size_drew]; omega))))
end Go.Proofs.YtokbolgaokbdcaaDoor
