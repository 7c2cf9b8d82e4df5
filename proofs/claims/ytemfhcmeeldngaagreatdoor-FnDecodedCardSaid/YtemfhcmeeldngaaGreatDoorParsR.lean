import Derived.Test.YtemfhcmeeldngaaGreatDoorFirstS
/- CountParsings and FirstParsing, both sides. -/
set_option linter.unusedSimpArgs false
set_option linter.unusedVariables false
namespace Go.Proofs.YtemfhcmeeldngaaGreatDoor
open Go.RowKit
/-- What FirstParsing answers. -/
def frL (T : List Rul) (s : ByteArray) : List Int := if textB T s then fpL T s else []
def frC (T : List Rul) (s : ByteArray) : Int := if textB T s then (if fpK T s then 0 else 4) else 1
theorem frL_len (T : List Rul) (s : ByteArray) : (frL T s).length ≤ s.size := by
  unfold frL
  split
  · exact fpL_len T s
  · simp
set_option maxHeartbeats 2000000 in
theorem first_spec (T : List Rul) (s : ByteArray) (a : Option Addr) (n c : Nat) (w : World) (hn : T.length = n) (hm : n ≤ 1048576) (hok : ∀ r ∈ T, RulOk r) (hs : s.size ≤ 1048576) (hr : RulesR w a T) :
    Calls Tryz.prog 56 #[.slice a n c, .string s] w (RetOwn w 2 1 (frL T s).length (intCells (frL T s)) fun v => .tuple #[v, .int .i64 (frC T s)]) := by
  have C := fun (w : World) (hr : RulesR w a T) => sCode_any T s a n c w hn hm hok hs hr
  have D := fun (w : World) (hr : RulesR w a T) => sFirst_any T s a n c w hn hm hok hs hr
  cases ht : textB T s
  · rw [show frL T s = [] by simp [frL, ht], show frC T s = 1 by simp [frC, ht]]
    rw [ht] at C
    rw [show (if (false : Bool) = true then (0 : Int) else 1) = 1 from rfl] at C
    replace C := Lib.hid C
    replace hr := Lib.hid hr
    clear hok ht D
    go_enter Tryz.func56, Tryz.ntmps56
    go_wp2_with fail
    with_reducible refine (C.out _ (hr.out.bel (by (repeat (first | (with_reducible exact Below.refl _ _) | (with_reducible assumption) | (with_reducible refine Later.out _ ?_) | (with_reducible refine bel_alloc ?_ _) | (with_reducible refine bel_drew ?_) | (with_reducible refine bel_drewN ?_ _) | (with_reducible refine bel_set ?_ ?_ _) | (with_reducible refine After.out _ ?_ ?_) | (dsimp only; omega) | omega | (simp only [World.size_alloc, World.size_setCell, World.size_drew]; omega)))))).mono ?_
    rintro e w' ⟨rfl, y0, rfl⟩
    have hsy0 := y0.bel.size
    (try simp only [World.size_alloc, World.size_setCell, World.size_drew] at hsy0)
    go_wp2_with fail
    refine bodyPost_ret (by simp [results, Tryz.results56, go_sem, ↓IntWalk.iteOmega, *]; try rfl) rfl ?_
    exact RetOwn.mk (.slice none 0 0) rfl (World.ownsRow_nil _ _ _ _) (by (repeat (first | (with_reducible exact Below.refl _ _) | (with_reducible assumption) | (with_reducible refine Later.out _ ?_) | (with_reducible refine bel_alloc ?_ _) | (with_reducible refine bel_drew ?_) | (with_reducible refine bel_drewN ?_ _) | (with_reducible refine bel_set ?_ ?_ _) | (with_reducible refine After.out _ ?_ ?_) | (dsimp only; omega) | omega | (simp only [World.size_alloc, World.size_setCell, World.size_drew]; omega))))
  · have hR : frL T s = fpL T s := by simp [frL, ht]
    rw [ht] at C
    rw [show (if (true : Bool) = true then (0 : Int) else 1) = 0 from rfl] at C
    cases hk : fpK T s
    · rw [hR, show fpL T s = [] by simp [fpL, hk], show frC T s = 4 by simp [frC, ht, hk]]
      rw [hk, show fpL T s = [] by simp [fpL, hk]] at D
      replace C := Lib.hid C
      replace D := Lib.hid D
      replace hr := Lib.hid hr
      clear hok ht hk hR
      go_enter Tryz.func56, Tryz.ntmps56
      go_wp2_with fail
      with_reducible refine (C.out _ (hr.out.bel (by (repeat (first | (with_reducible exact Below.refl _ _) | (with_reducible assumption) | (with_reducible refine Later.out _ ?_) | (with_reducible refine bel_alloc ?_ _) | (with_reducible refine bel_drew ?_) | (with_reducible refine bel_drewN ?_ _) | (with_reducible refine bel_set ?_ ?_ _) | (with_reducible refine After.out _ ?_ ?_) | (dsimp only; omega) | omega | (simp only [World.size_alloc, World.size_setCell, World.size_drew]; omega)))))).mono ?_
      rintro e w' ⟨rfl, y0, rfl⟩
      have hsy0 := y0.bel.size
      (try simp only [World.size_alloc, World.size_setCell, World.size_drew] at hsy0)
      go_wp2_with fail
      with_reducible refine (D.out _ (hr.out.bel (by (repeat (first | (with_reducible exact Below.refl _ _) | (with_reducible assumption) | (with_reducible refine Later.out _ ?_) | (with_reducible refine bel_alloc ?_ _) | (with_reducible refine bel_drew ?_) | (with_reducible refine bel_drewN ?_ _) | (with_reducible refine bel_set ?_ ?_ _) | (with_reducible refine After.out _ ?_ ?_) | (dsimp only; omega) | omega | (simp only [World.size_alloc, World.size_setCell, World.size_drew]; omega)))))).mono ?_
      rintro e w' ⟨a1, c1, rfl, hown, y1, rfl⟩
      have hsy1 := y1.bel.size
      (try simp only [World.size_alloc, World.size_setCell, World.size_drew] at hsy1)
      have O1 := Lib.hid (Owns.of hown)
      clear hown
      go_wp2_with fail
      refine bodyPost_ret (by simp [results, Tryz.results56, go_sem, ↓IntWalk.iteOmega, *]; try rfl) rfl ?_
      exact RetOwn.mk (.slice none 0 0) rfl (World.ownsRow_nil _ _ _ _) (by (repeat (first | (with_reducible exact Below.refl _ _) | (with_reducible assumption) | (with_reducible refine Later.out _ ?_) | (with_reducible refine bel_alloc ?_ _) | (with_reducible refine bel_drew ?_) | (with_reducible refine bel_drewN ?_ _) | (with_reducible refine bel_set ?_ ?_ _) | (with_reducible refine After.out _ ?_ ?_) | (dsimp only; omega) | omega | (simp only [World.size_alloc, World.size_setCell, World.size_drew]; omega))))
    · rw [hR, show frC T s = 0 by simp [frC, ht, hk]]
      rw [hk] at D
      replace C := Lib.hid C
      replace D := Lib.hid D
      replace hr := Lib.hid hr
      clear hok ht hk hR
      go_enter Tryz.func56, Tryz.ntmps56
      go_wp2_with fail
      with_reducible refine (C.out _ (hr.out.bel (by (repeat (first | (with_reducible exact Below.refl _ _) | (with_reducible assumption) | (with_reducible refine Later.out _ ?_) | (with_reducible refine bel_alloc ?_ _) | (with_reducible refine bel_drew ?_) | (with_reducible refine bel_drewN ?_ _) | (with_reducible refine bel_set ?_ ?_ _) | (with_reducible refine After.out _ ?_ ?_) | (dsimp only; omega) | omega | (simp only [World.size_alloc, World.size_setCell, World.size_drew]; omega)))))).mono ?_
      rintro e w' ⟨rfl, y0, rfl⟩
      have hsy0 := y0.bel.size
      (try simp only [World.size_alloc, World.size_setCell, World.size_drew] at hsy0)
      go_wp2_with fail
      with_reducible refine (D.out _ (hr.out.bel (by (repeat (first | (with_reducible exact Below.refl _ _) | (with_reducible assumption) | (with_reducible refine Later.out _ ?_) | (with_reducible refine bel_alloc ?_ _) | (with_reducible refine bel_drew ?_) | (with_reducible refine bel_drewN ?_ _) | (with_reducible refine bel_set ?_ ?_ _) | (with_reducible refine After.out _ ?_ ?_) | (dsimp only; omega) | omega | (simp only [World.size_alloc, World.size_setCell, World.size_drew]; omega)))))).mono ?_
      rintro e w' ⟨a1, c1, rfl, hown, y1, rfl⟩
      have hsy1 := y1.bel.size
      (try simp only [World.size_alloc, World.size_setCell, World.size_drew] at hsy1)
      have O1 := Lib.hid (Owns.of hown)
      clear hown
      go_wp2_with fail
      refine bodyPost_ret (by simp [results, Tryz.results56, go_sem, ↓IntWalk.iteOmega, *]; try rfl) rfl ?_
      exact RetOwn.mk _ rfl (own_mono O1.out.own (by ((try simp only [World.size_alloc, World.size_setCell, World.size_drew]); omega))) (by (repeat (first | (with_reducible exact Below.refl _ _) | (with_reducible assumption) | (with_reducible refine Later.out _ ?_) | (with_reducible refine bel_alloc ?_ _) | (with_reducible refine bel_drew ?_) | (with_reducible refine bel_drewN ?_ _) | (with_reducible refine bel_set ?_ ?_ _) | (with_reducible refine After.out _ ?_ ?_) | (dsimp only; omega) | omega | (simp only [World.size_alloc, World.size_setCell, World.size_drew]; omega))))
end Go.Proofs.YtemfhcmeeldngaaGreatDoor
