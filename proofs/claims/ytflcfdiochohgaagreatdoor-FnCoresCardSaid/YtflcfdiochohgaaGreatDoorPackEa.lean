import Derived.Test.YtflcfdiochohgaaGreatDoorPackB
import Derived.Test.YtflcfdiochohgaaGreatDoorPackAb
import Derived.Test.YtflcfdiochohgaaGreatDoorPackA
import Derived.StillTailTactics
import Derived.Test.YtflcfdiochohgaaGreatDoorPackD
/- Several of my texts, one behind the other: MinF, QTail, MinG. -/
/- slices.MinFunc over slices of numbers, cmp.Compare, cmp.Or. -/
set_option linter.unusedSimpArgs false
set_option linter.unusedVariables false
namespace Go.Proofs.YtflcfdiochohgaaGreatDoor
open Go.RowKit
/-- Slices of slices of numbers, with the values that hold them. -/
structure RowsV (w : World) (a : Option Addr) (S : List (List Int)) (vs : List Value) : Prop where
  len : vs.length = S.length
  row : Row w a vs
  at_ : ∀ i (h : i < S.length), ∃ ai ci, vs[i]? = some (.slice ai S[i].length ci) ∧ Row w ai (intCells S[i])
theorem Nest.rowsV {w : World} {lo hi : Nat} {a : Option Addr} {n c : Nat} {S : List (List Int)} {vs : List Value} (h : Nest w lo hi a n c S vs) : RowsV w a S vs :=
  ⟨by rw [h.vlen, h.len], h.own.row, fun i hi => by
    obtain ⟨ai, ci, h1, h2⟩ := h.at_ i hi
    exact ⟨ai, ci, h1, h2.row⟩⟩
theorem RowsV.bel {w w' : World} {a : Option Addr} {S : List (List Int)} {vs : List Value} (h : RowsV w a S vs) (hb : Below w.heap.size w w') : RowsV w' a S vs :=
  ⟨h.len, h.row.bel hb, fun i hi => by
    obtain ⟨ai, ci, h4, h5⟩ := h.at_ i hi
    exact ⟨ai, ci, h4, h5.bel hb⟩⟩
theorem RowsV.get {w : World} {a : Option Addr} {S : List (List Int)} {vs : List Value} (h : RowsV w a S vs) {k : Nat} (hk : k < S.length) :
    ∃ b o ai ci, a = some ⟨b, o, none⟩ ∧ b < w.heap.size ∧ w.cell? ⟨b, o + k, none⟩ = some (.slice ai (atL S k).length ci) ∧ atV vs k = .slice ai (atL S k).length ci ∧ Row w ai (intCells (atL S k)) := by
  obtain ⟨ai, ci, h4, h5⟩ := h.at_ k hk
  obtain ⟨b, o, rfl, hc⟩ := h.row k _ h4
  have e : atL S k = S[k] := by unfold atL; rw [getD_at hk]
  rw [e]
  exact ⟨b, o, ai, ci, rfl, World.block_lt_of_cell? w _ hc, hc, by unfold atV; rw [List.getD_eq_getElem?_getD, h4]; rfl, h5⟩
theorem atL_mem {S : List (List Int)} {k : Nat} (hk : k < S.length) : atL S k ∈ S := by
  unfold atL
  rw [getD_at hk]
  exact List.getElem_mem hk
/-- What a function value must do for two of a table's lists: compare them, whenever it is called later. -/
def TellsC (g : Nat) (lb : Array Value) (cf : List Int → List Int → Int) (S : List (List Int)) (w : World) : Prop :=
  ∀ x ∈ S, ∀ y ∈ S, ∀ (ax : Option Addr) (cx : Nat) (ay : Option Addr) (cy : Nat) (w' : World), Below w.heap.size w w' → Row w' ax (intCells x) → Row w' ay (intCells y) →
    Calls Tryz.prog g (#[.slice ax x.length cx, .slice ay y.length cy] ++ lb) w' (Ret w' (.int .i64 (cf x y)))
def ltC (cf : List Int → List Int → Int) (x y : List Int) : Bool := decide (cf x y < 0)
set_option maxRecDepth 8000 in
set_option maxHeartbeats 2000000 in
theorem minFunc_any (g : Nat) (lb : Array Value) (cf : List Int → List Int → Int) (S : List (List Int)) (vs : List Value) (a : Option Addr) (n c : Nat) (w : World) (eg : ∀ args w, (callFunc g args).run Tryz.prog w = .ok (.enter g args) w)
    (hn : S.length = n) (h0 : 0 < n) (hm : n ≤ 1048576) (hr : RowsV w a S vs) (hp : TellsC g lb cf S w) :
    Calls Tryz.prog 128 #[.slice a n c, .func (.func g) #[] lb] w (Ret w (atV vs (minI (ltC cf) S (n - 1)))) := by
  subst hn
  obtain ⟨b, o, ai0, ci0, rfl, hb, hc0, e0, r0⟩ := hr.get h0
  rw [Nat.add_zero] at hc0
  replace e0 := Lib.hid e0
  replace hr := Lib.hid hr
  replace hp := Lib.hid hp
  have EG := Lib.hid eg
  go_enter Tryz.func128, Tryz.ntmps128
  go_wp2_with fail
  go_loopw [5, 6] (fun m i wr => ∃ k : Nat, k < S.length ∧ m = atV vs (minI (ltC cf) S k) ∧ i = .int .i64 ((k + 1 : Nat) : Int) ∧ ∃ z : Later w, wr = z.w) (fun _ i _ => S.length - (intOf i).toNat)
  case atStart => exact ⟨0, h0, e0.out.symm, rfl, LaterC.mk (by (repeat (first | (with_reducible exact Below.refl _ _) | (with_reducible assumption) | (with_reducible refine Later.out _ ?_) | (with_reducible refine bel_alloc ?_ _) | (with_reducible refine bel_drew ?_) | (with_reducible refine bel_drewN ?_ _) | (with_reducible refine bel_set ?_ ?_ _) | (with_reducible refine After.out _ ?_ ?_) | (dsimp only; omega) | omega | (simp only [World.size_alloc, World.size_setCell, World.size_drew]; omega))))⟩
  case round =>
    obtain ⟨k, hk, rfl, rfl, z, rfl⟩ := hrel
    have hzz := z.bel.size
    have hle := minI_le (ltC cf) S k
    obtain ⟨_, _, am, cm, -, -, -, em, rm⟩ := hr.out.get (k := minI (ltC cf) S k) (by omega)
    rw [em]
    obtain ⟨q, hq⟩ : ∃ q : Nat, k + 1 = q := ⟨_, rfl⟩
    rw [hq]
    by_cases hlt : q < S.length
    · have hi1 : (q : Int) < (S.length : Int) := by omega
      obtain ⟨b', o', ai, ci, eb, -, hc, e2, r2⟩ := hr.out.get hlt
      cases eb
      have hX := hp.out (atL S q) (atL_mem hlt) (atL S (minI (ltC cf) S k)) (atL_mem (by omega)) ai ci am cm z.w z.bel (r2.bel z.bel) (rm.bel z.bel)
      have hY : ltC cf (atL S q) (atL S (minI (ltC cf) S k)) = decide (cf (atL S q) (atL S (minI (ltC cf) S k)) < 0) := rfl
      obtain ⟨v, hv⟩ : ∃ v, cf (atL S q) (atL S (minI (ltC cf) S k)) = v := ⟨_, rfl⟩
      rw [hv] at hX hY
      replace hX := Lib.hid hX
      by_cases hneg : v < 0
      · have X := Lib.hid (show minI (ltC cf) S q = q by rw [← hq]; refine minI_yes ?_; rw [hq]; show ltC cf (atL S q) (atL S (minI (ltC cf) S k)) = true; rw [hY]; exact decide_eq_true hneg)
        replace e2 := Lib.hid e2
        clear hY hv em
        go_wp2_with (go_at_fn g; (with_reducible refine hX.out.mono ?_); rintro e w' ⟨rfl, y1, rfl⟩)
        go_roundw
        case rel => exact ⟨q, hlt, by rw [X.out]; exact e2.out.symm, by go_num, LaterC.mk (by (repeat (first | (with_reducible exact Below.refl _ _) | (with_reducible assumption) | (with_reducible refine Later.out _ ?_) | (with_reducible refine bel_alloc ?_ _) | (with_reducible refine bel_drew ?_) | (with_reducible refine bel_drewN ?_ _) | (with_reducible refine bel_set ?_ ?_ _) | (with_reducible refine After.out _ ?_ ?_) | (dsimp only; omega) | omega | (simp only [World.size_alloc, World.size_setCell, World.size_drew]; omega))))⟩
        case measure => first | (simp [intOf]; done) | (simp [intOf]; omega) | omega
      · have X := Lib.hid (show minI (ltC cf) S q = minI (ltC cf) S k by rw [← hq]; refine minI_no ?_; rw [hq]; show ltC cf (atL S q) (atL S (minI (ltC cf) S k)) = false; rw [hY]; exact decide_eq_false hneg)
        replace em := Lib.hid em
        clear hY hv e2
        go_wp2_with (go_at_fn g; (with_reducible refine hX.out.mono ?_); rintro e w' ⟨rfl, y1, rfl⟩)
        go_roundw
        case rel => exact ⟨q, hlt, by rw [X.out]; exact em.out.symm, by go_num, LaterC.mk (by (repeat (first | (with_reducible exact Below.refl _ _) | (with_reducible assumption) | (with_reducible refine Later.out _ ?_) | (with_reducible refine bel_alloc ?_ _) | (with_reducible refine bel_drew ?_) | (with_reducible refine bel_drewN ?_ _) | (with_reducible refine bel_set ?_ ?_ _) | (with_reducible refine After.out _ ?_ ?_) | (dsimp only; omega) | omega | (simp only [World.size_alloc, World.size_setCell, World.size_drew]; omega))))⟩
        case measure => first | (simp [intOf]; done) | (simp [intOf]; omega) | omega
    · obtain rfl : k = S.length - 1 := by omega
      replace em := Lib.hid em
      go_wp2_with fail
      go_ret
      exact .mk (by rw [em.out]; rfl) (by (repeat (first | (with_reducible exact Below.refl _ _) | (with_reducible assumption) | (with_reducible refine Later.out _ ?_) | (with_reducible refine bel_alloc ?_ _) | (with_reducible refine bel_drew ?_) | (with_reducible refine bel_drewN ?_ _) | (with_reducible refine bel_set ?_ ?_ _) | (with_reducible refine After.out _ ?_ ?_) | (dsimp only; omega) | omega | (simp only [World.size_alloc, World.size_setCell, World.size_drew]; omega))))
theorem cmpZ_lt {x y : Int} (h : x < y) : cmpZ x y = -1 := if_pos h
theorem cmpZ_gt {x y : Int} (h : y < x) : cmpZ x y = 1 := by unfold cmpZ; rw [if_neg (by omega), if_pos h]
theorem cmpZ_eq {x y : Int} (h : x = y) : cmpZ x y = 0 := by unfold cmpZ; rw [if_neg (by omega), if_neg (by omega)]
set_option maxHeartbeats 1000000 in
theorem cmpInt_any (x y : Int) (w : World) : Calls Tryz.prog 131 #[.int .i64 x, .int .i64 y] w (Ret w (.int .i64 (cmpZ x y))) := by
  rcases Int.lt_trichotomy x y with h | h | h
  · rw [cmpZ_lt h]
    go_enter Tryz.func131, Tryz.ntmps131
    go_wp2_with go_in
    go_ret
    exact .mk rfl (by (repeat (first | (with_reducible exact Below.refl _ _) | (with_reducible assumption) | (with_reducible refine Later.out _ ?_) | (with_reducible refine bel_alloc ?_ _) | (with_reducible refine bel_drew ?_) | (with_reducible refine bel_drewN ?_ _) | (with_reducible refine bel_set ?_ ?_ _) | (with_reducible refine After.out _ ?_ ?_) | (dsimp only; omega) | omega | (simp only [World.size_alloc, World.size_setCell, World.size_drew]; omega))))
  · rw [cmpZ_eq h]
    subst h
    go_enter Tryz.func131, Tryz.ntmps131
    go_wp2_with go_in
    go_ret
    exact .mk rfl (by (repeat (first | (with_reducible exact Below.refl _ _) | (with_reducible assumption) | (with_reducible refine Later.out _ ?_) | (with_reducible refine bel_alloc ?_ _) | (with_reducible refine bel_drew ?_) | (with_reducible refine bel_drewN ?_ _) | (with_reducible refine bel_set ?_ ?_ _) | (with_reducible refine After.out _ ?_ ?_) | (dsimp only; omega) | omega | (simp only [World.size_alloc, World.size_setCell, World.size_drew]; omega))))
  · rw [cmpZ_gt h]
    have h2 : ¬ x < y := by omega
    go_enter Tryz.func131, Tryz.ntmps131
    go_wp2_with go_in
    go_ret
    exact .mk rfl (by (repeat (first | (with_reducible exact Below.refl _ _) | (with_reducible assumption) | (with_reducible refine Later.out _ ?_) | (with_reducible refine bel_alloc ?_ _) | (with_reducible refine bel_drew ?_) | (with_reducible refine bel_drewN ?_ _) | (with_reducible refine bel_set ?_ ?_ _) | (with_reducible refine After.out _ ?_ ?_) | (dsimp only; omega) | omega | (simp only [World.size_alloc, World.size_setCell, World.size_drew]; omega))))
end Go.Proofs.YtflcfdiochohgaaGreatDoor

/- A drawn region whose first operations read or call quietly, in any order, before a chain of others. -/
set_option linter.unusedSimpArgs false
set_option linter.unusedVariables false
namespace Go.Proofs.YtflcfdiochohgaaGreatDoor
open Go.RowKit
section
variable {P : Program} {ops : Array Oper} {C : World → Prop} {md : Region.Mode}
end
end Go.Proofs.YtflcfdiochohgaaGreatDoor

/- cmp.Or; the comparisons of SmallestCore and BestRepair; the best of a table. -/
set_option linter.unusedSimpArgs false
set_option linter.unusedVariables false
namespace Go.Proofs.YtflcfdiochohgaaGreatDoor
open Go.RowKit
def orL (l : List Int) : Int := match l.find? (fun x => x != 0) with | some x => x | none => 0
theorem orL_two (a b : Int) : orL [a, b] = orZ a b := by
  unfold orL orZ
  by_cases h : a = 0
  · subst h
    by_cases h2 : b = 0
    · subst h2; rfl
    · simp [h2]
  · simp [h]
theorem orL_some {l : List Int} {k : Nat} (hk : k < l.length) (h1 : l[k] ≠ 0) (h : ∀ j (hj : j < l.length), j < k → l[j] = 0) : orL l = l[k] := by
  have : l.find? (fun x => x != 0) = some l[k] := by
    rw [List.find?_eq_some_iff_getElem]
    exact ⟨by simpa using h1, k, hk, rfl, fun j hj => by simp [h j (by omega) hj]⟩
  simp [orL, this]
theorem orL_none {l : List Int} (h : ∀ j (hj : j < l.length), l[j] = 0) : orL l = 0 := by
  have : l.find? (fun x => x != 0) = none := by
    rw [List.find?_eq_none]
    intro x hx
    obtain ⟨j, hj, rfl⟩ := List.mem_iff_getElem.1 hx
    simp [h j hj]
  simp [orL, this]
set_option maxHeartbeats 1000000 in
theorem cmpOr_any (l : List Int) (a : Option Addr) (n c : Nat) (w : World) (hn : l.length = n) (hm : n ≤ 1000) (hr : Row w a (intCells l)) : Calls Tryz.prog 130 #[.slice a n c] w (Ret w (.int .i64 (orL l))) := by
  subst hn
  replace hr := Lib.hid hr
  go_enter Tryz.func130, Tryz.ntmps130
  go_wp2_with fail
  go_loopw [8] (fun i wr => ∃ k : Nat, k ≤ l.length ∧ i = .int .i64 k ∧ (∀ j (hj : j < l.length), j < k → l[j] = 0) ∧ ∃ z : Later w, wr = z.w) (fun i _ => l.length - (intOf i).toNat)
  case atStart => exact ⟨0, Nat.zero_le _, rfl, fun j _ h => absurd h (by omega), LaterC.mk (by (repeat (first | (with_reducible exact Below.refl _ _) | (with_reducible assumption) | (with_reducible refine Later.out _ ?_) | (with_reducible refine bel_alloc ?_ _) | (with_reducible refine bel_drew ?_) | (with_reducible refine bel_drewN ?_ _) | (with_reducible refine bel_set ?_ ?_ _) | (with_reducible refine After.out _ ?_ ?_) | (dsimp only; omega) | omega | (simp only [World.size_alloc, World.size_setCell, World.size_drew]; omega))))⟩
  case round =>
    obtain ⟨k, hk, rfl, hall, z, rfl⟩ := hrel
    replace hall := Lib.hid hall
    by_cases hlt : k < l.length
    · have hi1 : (k : Int) < (l.length : Int) := by omega
      obtain ⟨b, o, rfl, hb, hc⟩ := hr.out.int hlt
      by_cases hv : l[k] = 0
      · have X := Lib.hid (show ∀ j (hj : j < l.length), j < k + 1 → l[j] = 0 from fun j hj h => by
          rcases Nat.lt_or_ge j k with h1 | h1
          · exact hall.out j hj h1
          · obtain rfl : j = k := by omega
            exact hv)
        rw [hv] at hc
        clear hv
        go_wp2_with fail
        go_roundw
        case rel => exact ⟨k + 1, by omega, by go_num, X.out, LaterC.mk (by (repeat (first | (with_reducible exact Below.refl _ _) | (with_reducible assumption) | (with_reducible refine Later.out _ ?_) | (with_reducible refine bel_alloc ?_ _) | (with_reducible refine bel_drew ?_) | (with_reducible refine bel_drewN ?_ _) | (with_reducible refine bel_set ?_ ?_ _) | (with_reducible refine After.out _ ?_ ?_) | (dsimp only; omega) | omega | (simp only [World.size_alloc, World.size_setCell, World.size_drew]; omega))))⟩
        case measure => first | (simp [intOf]; done) | (simp [intOf]; omega) | omega
      · have X := Lib.hid (orL_some hlt hv fun j hj h => hall.out j hj h)
        obtain ⟨x, hx⟩ : ∃ x, l[k] = x := ⟨_, rfl⟩
        rw [hx] at hc hv X
        clear hx
        go_wp2_with fail
        go_ret
        exact .mk (by rw [X.out]; rfl) (by (repeat (first | (with_reducible exact Below.refl _ _) | (with_reducible assumption) | (with_reducible refine Later.out _ ?_) | (with_reducible refine bel_alloc ?_ _) | (with_reducible refine bel_drew ?_) | (with_reducible refine bel_drewN ?_ _) | (with_reducible refine bel_set ?_ ?_ _) | (with_reducible refine After.out _ ?_ ?_) | (dsimp only; omega) | omega | (simp only [World.size_alloc, World.size_setCell, World.size_drew]; omega))))
    · obtain rfl : k = l.length := by omega
      have X := Lib.hid (orL_none fun j hj => hall.out j hj hj)
      go_wp2_with fail
      go_ret
      exact .mk (by rw [X.out]; rfl) (by (repeat (first | (with_reducible exact Below.refl _ _) | (with_reducible assumption) | (with_reducible refine Later.out _ ?_) | (with_reducible refine bel_alloc ?_ _) | (with_reducible refine bel_drew ?_) | (with_reducible refine bel_drewN ?_ _) | (with_reducible refine bel_set ?_ ?_ _) | (with_reducible refine After.out _ ?_ ?_) | (dsimp only; omega) | omega | (simp only [World.size_alloc, World.size_setCell, World.size_drew]; omega))))
def coreCf (x y : List Int) : Int := orL [cmpZ x.length y.length, cmpL x y]
theorem coreCf_lt (x y : List Int) : ltC coreCf x y = coreLt x y := by unfold ltC coreCf coreLt; rw [orL_two]
theorem enters_small1 : ∀ args w, (callFunc 129 args).run Tryz.prog w = .ok (.enter 129 args) w := fun _ _ => by kernel_rfl
set_option maxHeartbeats 1000000 in
theorem small1_any (x y : List Int) (ax : Option Addr) (cx : Nat) (ay : Option Addr) (cy : Nat) (w : World) (hx : x.length ≤ 1048576) (hy : y.length ≤ 1048576) (rx : Row w ax (intCells x)) (ry : Row w ay (intCells y)) :
    Calls Tryz.prog 129 #[.slice ax x.length cx, .slice ay y.length cy] w (Ret w (.int .i64 (coreCf x y))) := by
  replace rx := Lib.hid rx
  replace ry := Lib.hid ry
  have CC := Lib.hid (fun w rx ry => compare_any x y ax x.length cx ay y.length cy w rfl rfl hx hy rx ry)
  have CZ := Lib.hid (fun (w : World) => cmpInt_any x.length y.length w)
  have CO := Lib.hid (fun a c w hr => cmpOr_any [cmpZ x.length y.length, cmpL x y] a 2 c w rfl (by omega) hr)
  have hE := Lib.hid (show orL [cmpZ x.length y.length, cmpL x y] = coreCf x y from rfl)
  obtain ⟨u, hu⟩ : ∃ u, cmpZ (x.length : Int) y.length = u := ⟨_, rfl⟩
  obtain ⟨v, hv⟩ : ∃ v, cmpL x y = v := ⟨_, rfl⟩
  rw [hu] at CZ hE
  rw [hv] at CC hE
  simp only [hu, hv] at CO
  clear hu hv
  go_enter Tryz.func129, Tryz.ntmps129
  go_wp2_with fail
  with_reducible refine (CZ.out _).mono ?_
  rintro e w' ⟨rfl, y1, rfl⟩
  have hsy1 := y1.bel.size
  (try simp only [World.size_alloc, World.size_setCell, World.size_drew] at hsy1)
  go_wp2_with fail
  with_reducible refine (CC.out _ (rx.out.bel (by (repeat (first | (with_reducible exact Below.refl _ _) | (with_reducible assumption) | (with_reducible refine Later.out _ ?_) | (with_reducible refine bel_alloc ?_ _) | (with_reducible refine bel_drew ?_) | (with_reducible refine bel_drewN ?_ _) | (with_reducible refine bel_set ?_ ?_ _) | (with_reducible refine After.out _ ?_ ?_) | (dsimp only; omega) | omega | (simp only [World.size_alloc, World.size_setCell, World.size_drew]; omega))))) (ry.out.bel (by (repeat (first | (with_reducible exact Below.refl _ _) | (with_reducible assumption) | (with_reducible refine Later.out _ ?_) | (with_reducible refine bel_alloc ?_ _) | (with_reducible refine bel_drew ?_) | (with_reducible refine bel_drewN ?_ _) | (with_reducible refine bel_set ?_ ?_ _) | (with_reducible refine After.out _ ?_ ?_) | (dsimp only; omega) | omega | (simp only [World.size_alloc, World.size_setCell, World.size_drew]; omega)))))).mono ?_
  rintro e w' ⟨rfl, y2, rfl⟩
  have hsy2 := y2.bel.size
  (try simp only [World.size_alloc, World.size_setCell, World.size_drew] at hsy2)
  go_wp2_with fail
  with_reducible refine (CO.out _ _ _ (Row.madeAt (w := y2.w) (cs := #[.int .i64 u, .int .i64 v]) (e := 3) rfl rfl)).mono ?_
  rintro e w' ⟨rfl, y3, rfl⟩
  have hsy3 := y3.bel.size
  (try simp only [World.size_alloc, World.size_setCell, World.size_drew] at hsy3)
  go_wp2_with fail
  go_ret
  exact .mk (by rw [← hE.out]; rfl) (by (repeat (first | (with_reducible exact Below.refl _ _) | (with_reducible assumption) | (with_reducible refine Later.out _ ?_) | (with_reducible refine bel_alloc ?_ _) | (with_reducible refine bel_drew ?_) | (with_reducible refine bel_drewN ?_ _) | (with_reducible refine bel_set ?_ ?_ _) | (with_reducible refine After.out _ ?_ ?_) | (dsimp only; omega) | omega | (simp only [World.size_alloc, World.size_setCell, World.size_drew]; omega))))
theorem tells_small1 {S : List (List Int)} {w : World} (hl : ∀ l ∈ S, l.length ≤ 1048576) : TellsC 129 #[] coreCf S w :=
  fun x hx y hy ax cx ay cy w' hb rx ry => by simpa using small1_any x y ax cx ay cy w' (hl x hx) (hl y hy) rx ry
theorem Nest.pickAt {w : World} {lo hi : Nat} {a : Option Addr} {n c m : Nat} {S : List (List Int)} {vs : List Value} (h : Nest w lo hi a n c S vs) (hm : m < n) :
    ∃ ai ci, atV vs m = .slice ai (atL S m).length ci ∧ Owns w lo hi 2 1 (atL S m).length ai ci (intCells (atL S m)) := by
  have hl := h.len
  obtain ⟨ai, ci, h4, h5⟩ := h.at_ m (by omega)
  have e : atL S m = S[m] := by unfold atL; rw [getD_at (by omega)]
  rw [e]
  exact ⟨ai, ci, by unfold atV; rw [List.getD_eq_getElem?_getD, h4]; rfl, h5⟩
end Go.Proofs.YtflcfdiochohgaaGreatDoor
