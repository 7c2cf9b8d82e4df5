import Derived.Test.YtflcfdiochohgaaGreatDoorPackB
import Derived.Test.YtflcfdiochohgaaGreatDoorPackAb
import Derived.Test.YtflcfdiochohgaaGreatDoorPackA
import Derived.StillTailTactics
import Derived.Test.YtflcfdiochohgaaGreatDoorPackD
/- Several of my texts, one behind the other: MinF, QTail, MinG. -/
/- slices.MinFunc over slices of numbers, cmp.Compare, cmp.Or. -/
set_option linter.unusedSimpArgs false
set_option linter.unusedVariables false
namespace Go.Proofs.YtflcfdiochohgaaGreatDoor
open Go.RowKit
/-- Slices of slices of numbers, with the values that hold them. -/
structure RowsV (w : World) (a : Option Addr) (S : List (List Int)) (vs : List Value) : Prop where
  len : vs.length = S.length
  row : Row w a vs
  at_ : ∀ i (h : i < S.length), ∃ ai ci, vs[i]? = some (.slice ai S[i].length ci) ∧ Row w ai (intCells S[i])
theorem RowsV.bel {w w' : World} {a : Option Addr} {S : List (List Int)} {vs : List Value} (h : RowsV w a S vs) (hb : Below w.heap.size w w') : RowsV w' a S vs :=
  ⟨h.len, h.row.bel hb, fun i hi => by
    obtain ⟨ai, ci, h4, h5⟩ := h.at_ i hi
    exact ⟨ai, ci, h4, h5.bel hb⟩⟩
def ltC (cf : List Int → List Int → Int) (x y : List Int) : Bool := decide (cf x y < 0)
theorem cmpZ_lt {x y : Int} (h : x < y) : cmpZ x y = -1 := if_pos h
theorem cmpZ_gt {x y : Int} (h : y < x) : cmpZ x y = 1 := by unfold cmpZ; rw [if_neg (by omega), if_pos h]
theorem cmpZ_eq {x y : Int} (h : x = y) : cmpZ x y = 0 := by unfold cmpZ; rw [if_neg (by omega), if_neg (by omega)]
set_option maxHeartbeats 1000000 in
theorem cmpInt_any (x y : Int) (w : World) : Calls Tryz.prog 131 #[.int .i64 x, .int .i64 y] w (Ret w (.int .i64 (cmpZ x y))) := by
  rcases Int.lt_trichotomy x y with h | h | h
  · rw [cmpZ_lt h]
    go_enter Tryz.func131, Tryz.ntmps131
    go_wp2_with go_in
    go_ret
    exact .mk rfl (by (repeat (first | (with_reducible exact Below.refl _ _) | (with_reducible assumption) | (with_reducible refine Later.out _ ?_) | (with_reducible refine bel_alloc ?_ _) | (with_reducible refine bel_drew ?_) | (with_reducible refine bel_drewN ?_ _) | (with_reducible refine bel_set ?_ ?_ _) | (with_reducible refine After.out _ ?_ ?_) | (dsimp only; omega) | omega | (simp only [World.size_alloc, World.size_setCell, World.size_drew]; omega))))
  · rw [cmpZ_eq h]
    subst h
    go_enter Tryz.func131, Tryz.ntmps131
    go_wp2_with go_in
    go_ret
    exact .mk rfl (by (repeat (first | (with_reducible exact Below.refl _ _) | (with_reducible assumption) | (with_reducible refine Later.out _ ?_) | (with_reducible refine bel_alloc ?_ _) | (with_reducible refine bel_drew ?_) | (with_reducible refine bel_drewN ?_ _) | (with_reducible refine bel_set ?_ ?_ _) | (with_reducible refine After.out _ ?_ ?_) | (dsimp only; omega) | omega | (simp only [World.size_alloc, World.size_setCell, World.size_drew]; omega))))
  · rw [cmpZ_gt h]
    have h2 : ¬ x < y := by omega
    go_enter Tryz.func131, Tryz.ntmps131
    go_wp2_with go_in
    go_ret
    exact .mk rfl (by (repeat (first | (with_reducible exact Below.refl _ _) | (with_reducible assumption) | (with_reducible refine Later.out _ ?_) | (with_reducible refine bel_alloc ?_ _) | (with_reducible refine bel_drew ?_) | (with_reducible refine bel_drewN ?_ _) | (with_reducible refine bel_set ?_ ?_ _) | (with_reducible refine After.out _ ?_ ?_) | (dsimp only; omega) | omega | (simp only [World.size_alloc, World.size_setCell, World.size_drew]; omega))))
end Go.Proofs.YtflcfdiochohgaaGreatDoor

/- A drawn region whose first operations read or call quietly, in any order, before a chain of others. -/
set_option linter.unusedSimpArgs false
set_option linter.unusedVariables false
namespace Go.Proofs.YtflcfdiochohgaaGreatDoor
open Go.RowKit
section
variable {P : Program} {ops : Array Oper} {C : World → Prop} {md : Region.Mode}
end
end Go.Proofs.YtflcfdiochohgaaGreatDoor

/- cmp.Or; the comparisons of SmallestCore and BestRepair; the best of a table. -/
set_option linter.unusedSimpArgs false
set_option linter.unusedVariables false
namespace Go.Proofs.YtflcfdiochohgaaGreatDoor
open Go.RowKit
def orL (l : List Int) : Int := match l.find? (fun x => x != 0) with | some x => x | none => 0
theorem orL_two (a b : Int) : orL [a, b] = orZ a b := by
  unfold orL orZ
  by_cases h : a = 0
  · subst h
    by_cases h2 : b = 0
    · subst h2; rfl
    · simp [h2]
  · simp [h]
theorem orL_some {l : List Int} {k : Nat} (hk : k < l.length) (h1 : l[k] ≠ 0) (h : ∀ j (hj : j < l.length), j < k → l[j] = 0) : orL l = l[k] := by
  have : l.find? (fun x => x != 0) = some l[k] := by
    rw [List.find?_eq_some_iff_getElem]
    exact ⟨by simpa using h1, k, hk, rfl, fun j hj => by simp [h j (by omega) hj]⟩
  simp [orL, this]
theorem orL_none {l : List Int} (h : ∀ j (hj : j < l.length), l[j] = 0) : orL l = 0 := by
  have : l.find? (fun x => x != 0) = none := by
    rw [List.find?_eq_none]
    intro x hx
    obtain ⟨j, hj, rfl⟩ := List.mem_iff_getElem.1 hx
    simp [h j hj]
  simp [orL, this]
set_option maxHeartbeats 1000000 in
theorem cmpOr_any (l : List Int) (a : Option Addr) (n c : Nat) (w : World) (hn : l.length = n) (hm : n ≤ 1000) (hr : Row w a (intCells l)) : Calls Tryz.prog 130 #[.slice a n c] w (Ret w (.int .i64 (orL l))) := by
  subst hn
  replace hr := Lib.hid hr
  go_enter Tryz.func130, Tryz.ntmps130
  go_wp2_with fail
  go_loopw [8] (fun i wr => ∃ k : Nat, k ≤ l.length ∧ i = .int .i64 k ∧ (∀ j (hj : j < l.length), j < k → l[j] = 0) ∧ ∃ z : Later w, wr = z.w) (fun i _ => l.length - (intOf i).toNat)
  case atStart => exact ⟨0, Nat.zero_le _, rfl, fun j _ h => absurd h (by omega), LaterC.mk (by (repeat (first | (with_reducible exact Below.refl _ _) | (with_reducible assumption) | (with_reducible refine Later.out _ ?_) | (with_reducible refine bel_alloc ?_ _) | (with_reducible refine bel_drew ?_) | (with_reducible refine bel_drewN ?_ _) | (with_reducible refine bel_set ?_ ?_ _) | (with_reducible refine After.out _ ?_ ?_) | (dsimp only; omega) | omega | (simp only [World.size_alloc, World.size_setCell, World.size_drew]; omega))))⟩
  case round =>
    obtain ⟨k, hk, rfl, hall, z, rfl⟩ := hrel
    replace hall := Lib.hid hall
    by_cases hlt : k < l.length
    · have hi1 : (k : Int) < (l.length : Int) := by omega
      obtain ⟨b, o, rfl, hb, hc⟩ := hr.out.int hlt
      by_cases hv : l[k] = 0
      · have X := Lib.hid (show ∀ j (hj : j < l.length), j < k + 1 → l[j] = 0 from fun j hj h => by
          rcases Nat.lt_or_ge j k with h1 | h1
          · exact hall.out j hj h1
          · obtain rfl : j = k := by omega
            exact hv)
        rw [hv] at hc
        clear hv
        go_wp2_with fail
        go_roundw
        case rel => exact ⟨k + 1, by omega, by go_num, X.out, LaterC.mk (by (repeat (first | (with_reducible exact Below.refl _ _) | (with_reducible assumption) | (with_reducible refine Later.out _ ?_) | (with_reducible refine bel_alloc ?_ _) | (with_reducible refine bel_drew ?_) | (with_reducible refine bel_drewN ?_ _) | (with_reducible refine bel_set ?_ ?_ _) | (with_reducible refine After.out _ ?_ ?_) | (dsimp only; omega) | omega | (simp only [World.size_alloc, World.size_setCell, World.size_drew]; omega))))⟩
        case measure => first | (simp [intOf]; done) | (simp [intOf]; omega) | omega
      · have X := Lib.hid (orL_some hlt hv fun j hj h => hall.out j hj h)
        obtain ⟨x, hx⟩ : ∃ x, l[k] = x := ⟨_, rfl⟩
        rw [hx] at hc hv X
        clear hx
        go_wp2_with fail
        go_ret
        exact .mk (by rw [X.out]; rfl) (by (repeat (first | (with_reducible exact Below.refl _ _) | (with_reducible assumption) | (with_reducible refine Later.out _ ?_) | (with_reducible refine bel_alloc ?_ _) | (with_reducible refine bel_drew ?_) | (with_reducible refine bel_drewN ?_ _) | (with_reducible refine bel_set ?_ ?_ _) | (with_reducible refine After.out _ ?_ ?_) | (dsimp only; omega) | omega | (simp only [World.size_alloc, World.size_setCell, World.size_drew]; omega))))
    · obtain rfl : k = l.length := by omega
      have X := Lib.hid (orL_none fun j hj => hall.out j hj hj)
      go_wp2_with fail
      go_ret
      exact .mk (by rw [X.out]; rfl) (by (repeat (first | (with_reducible exact Below.refl _ _) | (with_reducible assumption) | (with_reducible refine Later.out _ ?_) | (with_reducible refine bel_alloc ?_ _) | (with_reducible refine bel_drew ?_) | (with_reducible refine bel_drewN ?_ _) | (with_reducible refine bel_set ?_ ?_ _) | (with_reducible refine After.out _ ?_ ?_) | (dsimp only; omega) | omega | (simp only [World.size_alloc, World.size_setCell, World.size_drew]; omega))))
def coreCf (x y : List Int) : Int := orL [cmpZ x.length y.length, cmpL x y]
theorem coreCf_lt (x y : List Int) : ltC coreCf x y = coreLt x y := by unfold ltC coreCf coreLt; rw [orL_two]
end Go.Proofs.YtflcfdiochohgaaGreatDoor
