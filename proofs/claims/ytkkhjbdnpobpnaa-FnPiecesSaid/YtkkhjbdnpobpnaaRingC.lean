import Derived.Test.YtkkhjbdnpobpnaaRing
import Derived.Laws.StructEq
/- A point among points, the library's way. -/
set_option linter.unusedSimpArgs false
set_option linter.unusedVariables false
namespace Go.Proofs.Ytkkhjbdnpobpnaa
open Go.RowKit
def ptEqB (p q : Pt) : Bool := p.x == q.x && p.y == q.y
theorem ptEqB_iff {p q : Pt} : ptEqB p q = true ↔ p = q := by
  constructor
  · intro h
    simp only [ptEqB, Bool.and_eq_true, beq_iff_eq] at h
    exact Pt.ext' h.1 h.2
  · rintro rfl; simp [ptEqB]
def amongB (L : List Pt) (p : Pt) : Bool := L.any (ptEqB p)
def idxPt (p : Pt) (L : List Pt) : Int := match L.findIdx? (ptEqB p) with
  | some i => i
  | none => -1
theorem idxPt_none {p : Pt} {L : List Pt} (h : ∀ j (hj : j < L.length), ptEqB p L[j] = false) : idxPt p L = -1 := by
  have : L.findIdx? (ptEqB p) = none := by
    rw [List.findIdx?_eq_none_iff]
    intro x hx
    obtain ⟨j, hj, rfl⟩ := List.mem_iff_getElem.1 hx
    exact h j hj
  simp [idxPt, this]
theorem idxPt_some {p : Pt} {L : List Pt} {k : Nat} (hk : k < L.length) (h1 : ptEqB p L[k] = true) (h : ∀ j (hj : j < L.length), j < k → ptEqB p L[j] = false) : idxPt p L = k := by
  have : L.findIdx? (ptEqB p) = some k := by
    rw [List.findIdx?_eq_some_iff_getElem]
    exact ⟨hk, h1, fun j hj => by rw [h j (by omega) hj]; simp⟩
  simp [idxPt, this]
theorem idxPt_nonneg (p : Pt) (L : List Pt) : decide (0 ≤ idxPt p L) = amongB L p := by
  unfold idxPt amongB
  cases h : L.findIdx? (ptEqB p) with
  | none =>
    rw [List.findIdx?_eq_none_iff] at h
    have : L.any (ptEqB p) = false := by rw [Bool.eq_false_iff]; intro hh; obtain ⟨x, hx, hp⟩ := List.any_eq_true.1 hh; rw [h x hx] at hp; cases hp
    simp [this]
  | some i =>
    rw [List.findIdx?_eq_some_iff_getElem] at h
    obtain ⟨hi, hp, _⟩ := h
    have : L.any (ptEqB p) = true := List.any_eq_true.2 ⟨L[i], List.getElem_mem hi, hp⟩
    simp [this]
theorem eqPt_run (p q : Pt) (w : World) : (binOp .eql 25 (.agg #[.int .i64 p.x, .int .i64 p.y]) (.agg #[.int .i64 q.x, .int .i64 q.y])).run Try.prog w = .ok (.bool (ptEqB p q)) w := by
  by_cases h1 : p.x = q.x <;> by_cases h2 : p.y = q.y <;> simp [go_sem, ptEqB, h1, h2]
set_option maxHeartbeats 1000000 in
theorem indexPt_any (p : Pt) (L : List Pt) (a : Option Addr) (n c : Nat) (w : World) (hn : L.length = n) (hm : n ≤ 1048576) (hr : Row w a (ptsCells L)) :
    Calls Try.prog 68 #[.slice a n c, ptV p] w (Ret w (.int .i64 (idxPt p L))) := by
  subst hn
  replace hr := Lib.hid hr
  go_enter Try.func68, Try.ntmps68
  go_wp2_with fail
  go_loopw [8] (fun i wr => ∃ k : Nat, k ≤ L.length ∧ i = .int .i64 k ∧ (∀ j (hj : j < L.length), j < k → ptEqB p L[j] = false) ∧ ∃ z : Later (w.alloc (.cells #[.int .i64 p.x, .int .i64 p.y] 25)), wr = z.w) (fun i _ => L.length - (intOf i).toNat)
  case atStart => exact ⟨0, Nat.zero_le _, rfl, fun j _ h => absurd h (by omega), ⟨_, Below.refl _ _⟩, rfl⟩
  case round =>
    obtain ⟨k, hk, rfl, hall, z, rfl⟩ := hrel
    replace hall := Lib.hid hall
    have hzz := z.bel.size
    simp only [World.size_alloc] at hzz
    by_cases hlt : k < L.length
    · obtain ⟨b, o, rfl, hb, q0, q1⟩ := hr.out.pt hlt
      have hi1 : (k : Int) < (L.length : Int) := by omega
      cases hv : ptEqB p L[k]
      · have X := Lib.hid (show ∀ j (hj : j < L.length), j < k + 1 → ptEqB p L[j] = false from fun j hj h => by
          rcases Nat.lt_or_ge j k with h1 | h1
          · exact hall.out j hj h1
          · obtain rfl : j = k := by omega
            exact hv)
        have hq := fun w => eqPt_run p L[k] w
        simp only [hv] at hq
        clear hv
        go_wp2_with fail
        refine wp_region_later (by kernel_rfl) (by kernel_rfl) ?_
        repeat (go_big_quiet_step (fail))
        refine wpQuiet_nil ?_
        rintro _ ⟨xq, rfl⟩
        go_wp2_with fail
        go_roundw
        case rel => exact ⟨k + 1, by omega, by go_num, X.out, ⟨_, by (repeat (first | (with_reducible exact Below.refl _ _) | (with_reducible assumption) | (with_reducible refine Later.out _ ?_) | (with_reducible refine bel_alloc ?_ _) | (with_reducible refine bel_drew ?_) | (with_reducible refine bel_drewN ?_ _) | (with_reducible refine bel_set ?_ ?_ _) | (with_reducible refine After.out _ ?_ ?_) | (dsimp only; omega) | omega | (simp only [World.size_alloc, World.size_setCell, World.size_drew]; omega)))⟩, rfl⟩
        case measure => first | (simp [intOf]; done) | (simp [intOf]; omega) | omega
      · have X := Lib.hid (idxPt_some hlt hv fun j hj h => hall.out j hj h)
        have hq := fun w => eqPt_run p L[k] w
        simp only [hv] at hq
        clear hv
        go_wp2_with fail
        refine wp_region_later (by kernel_rfl) (by kernel_rfl) ?_
        repeat (go_big_quiet_step (fail))
        refine wpQuiet_nil ?_
        rintro _ ⟨xq, rfl⟩
        go_wp2_with fail
        go_ret
        exact .mk (by rw [X.out]; rfl) (by (repeat (first | (with_reducible exact Below.refl _ _) | (with_reducible assumption) | (with_reducible refine Later.out _ ?_) | (with_reducible refine bel_alloc ?_ _) | (with_reducible refine bel_drew ?_) | (with_reducible refine bel_drewN ?_ _) | (with_reducible refine bel_set ?_ ?_ _) | (with_reducible refine After.out _ ?_ ?_) | (dsimp only; omega) | omega | (simp only [World.size_alloc, World.size_setCell, World.size_drew]; omega))))
    · obtain rfl : k = L.length := by omega
      have X := Lib.hid (idxPt_none fun j hj => hall.out j hj hj)
      go_wp2_with fail
      go_ret
      exact .mk (by rw [X.out]; rfl) (by (repeat (first | (with_reducible exact Below.refl _ _) | (with_reducible assumption) | (with_reducible refine Later.out _ ?_) | (with_reducible refine bel_alloc ?_ _) | (with_reducible refine bel_drew ?_) | (with_reducible refine bel_drewN ?_ _) | (with_reducible refine bel_set ?_ ?_ _) | (with_reducible refine After.out _ ?_ ?_) | (dsimp only; omega) | omega | (simp only [World.size_alloc, World.size_setCell, World.size_drew]; omega))))
theorem containsPt_any (p : Pt) (L : List Pt) (a : Option Addr) (n c : Nat) (w : World) (hn : L.length = n) (hm : n ≤ 1048576) (hr : Row w a (ptsCells L)) :
    Calls Try.prog 52 #[.slice a n c, ptV p] w (Ret w (.bool (amongB L p))) := by
  have X := Lib.hid (idxPt_nonneg p L)
  replace hr := Lib.hid hr
  replace hn := Lib.hid hn
  go_enter Try.func52, Try.ntmps52
  go_wp2_with fail
  with_reducible refine (indexPt_any p L _ _ _ _ hn.out hm (hr.out.bel (by (repeat (first | (with_reducible exact Below.refl _ _) | (with_reducible assumption) | (with_reducible refine Later.out _ ?_) | (with_reducible refine bel_alloc ?_ _) | (with_reducible refine bel_drew ?_) | (with_reducible refine bel_drewN ?_ _) | (with_reducible refine bel_set ?_ ?_ _) | (with_reducible refine After.out _ ?_ ?_) | (dsimp only; omega) | omega | (simp only [World.size_alloc, World.size_setCell, World.size_drew]; omega)))))).mono ?_
  rintro e w' ⟨rfl, y1, rfl⟩
  have hsy1 := y1.bel.size
  (try simp only [World.size_alloc, World.size_setCell, World.size_drew] at hsy1)
  go_wp2_with fail
  go_ret
  exact .mk (by rw [← X.out]; rfl) (by (repeat (first | (with_reducible exact Below.refl _ _) | (with_reducible assumption) | (with_reducible refine Later.out _ ?_) | (with_reducible refine bel_alloc ?_ _) | (with_reducible refine bel_drew ?_) | (with_reducible refine bel_drewN ?_ _) | (with_reducible refine bel_set ?_ ?_ _) | (with_reducible refine After.out _ ?_ ?_) | (dsimp only; omega) | omega | (simp only [World.size_alloc, World.size_setCell, World.size_drew]; omega))))
/-! ### Lists of points -/
def pointB (p : Pt) : Bool := isPointB p.x p.y
set_option maxHeartbeats 1000000 in
theorem arePoints_any (L : List Pt) (a : Option Addr) (n c : Nat) (w : World) (hn : L.length = n) (hm : n ≤ 1048576) (hr : Row w a (ptsCells L)) :
    Calls Try.prog 51 #[.slice a n c] w (Ret w (.bool (L.all pointB))) := by
  subst hn
  replace hr := Lib.hid hr
  go_enter Try.func51, Try.ntmps51
  go_wp2_with fail
  go_loopw [7] (fun i wr => ∃ k : Nat, k ≤ L.length ∧ i = .int .i64 k ∧ (L.take k).all pointB = true ∧ ∃ z : Later w, wr = z.w) (fun i _ => L.length - (intOf i).toNat)
  case atStart => exact ⟨0, Nat.zero_le _, rfl, rfl, ⟨_, Below.refl _ _⟩, rfl⟩
  case round =>
    obtain ⟨k, hk, rfl, hall, z, rfl⟩ := hrel
    replace hall := Lib.hid hall
    by_cases hlt : k < L.length
    · obtain ⟨b, o, rfl, hb, q0, q1⟩ := hr.out.pt hlt
      cases hv : pointB L[k]
      · have X := Lib.hid (show L.all pointB = false by
          rw [Bool.eq_false_iff]; intro h
          have := List.all_eq_true.1 h _ (List.getElem_mem hlt)
          rw [hv] at this; cases this)
        unfold pointB at hv
        replace hv := Lib.hid hv
        go_wp2_with fail
        with_reducible refine (isPoint_b _ hv.out).mono ?_
        rintro e w' ⟨rfl, y1, rfl⟩
        have hsy1 := y1.bel.size
        (try simp only [World.size_alloc, World.size_setCell, World.size_drew] at hsy1)
        go_wp2_with fail
        go_ret
        exact .mk (by rw [X.out]; rfl) (by (repeat (first | (with_reducible exact Below.refl _ _) | (with_reducible assumption) | (with_reducible refine Later.out _ ?_) | (with_reducible refine bel_alloc ?_ _) | (with_reducible refine bel_drew ?_) | (with_reducible refine bel_drewN ?_ _) | (with_reducible refine bel_set ?_ ?_ _) | (with_reducible refine After.out _ ?_ ?_) | (dsimp only; omega) | omega | (simp only [World.size_alloc, World.size_setCell, World.size_drew]; omega))))
      · have X := Lib.hid (show (L.take (k + 1)).all pointB = true by
          rw [List.take_succ_eq_append_getElem hlt, List.all_append, hall.out]; simp [hv])
        unfold pointB at hv
        replace hv := Lib.hid hv
        go_wp2_with fail
        with_reducible refine (isPoint_b _ hv.out).mono ?_
        rintro e w' ⟨rfl, y1, rfl⟩
        have hsy1 := y1.bel.size
        (try simp only [World.size_alloc, World.size_setCell, World.size_drew] at hsy1)
        go_wp2_with fail
        go_roundw
        case rel => exact ⟨k + 1, by omega, by go_num, X.out, ⟨_, by (repeat (first | (with_reducible exact Below.refl _ _) | (with_reducible assumption) | (with_reducible refine Later.out _ ?_) | (with_reducible refine bel_alloc ?_ _) | (with_reducible refine bel_drew ?_) | (with_reducible refine bel_drewN ?_ _) | (with_reducible refine bel_set ?_ ?_ _) | (with_reducible refine After.out _ ?_ ?_) | (dsimp only; omega) | omega | (simp only [World.size_alloc, World.size_setCell, World.size_drew]; omega)))⟩, rfl⟩
        case measure => first | (simp [intOf]; done) | (simp [intOf]; omega) | omega
    · obtain rfl : k = L.length := by omega
      have X := Lib.hid (show L.all pointB = true by have := hall.out; rwa [List.take_length] at this)
      go_wp2_with fail
      go_ret
      exact .mk (by rw [X.out]; rfl) (by (repeat (first | (with_reducible exact Below.refl _ _) | (with_reducible assumption) | (with_reducible refine Later.out _ ?_) | (with_reducible refine bel_alloc ?_ _) | (with_reducible refine bel_drew ?_) | (with_reducible refine bel_drewN ?_ _) | (with_reducible refine bel_set ?_ ?_ _) | (with_reducible refine After.out _ ?_ ?_) | (dsimp only; omega) | omega | (simp only [World.size_alloc, World.size_setCell, World.size_drew]; omega))))
set_option maxHeartbeats 1000000 in
theorem l15Points_any (L : List Pt) (a : Option Addr) (n c : Nat) (w : World) (hn : L.length = n) (hm : n ≤ 1048576) (hr : Row w a (ptsCells L)) :
    Calls Try.prog 57 #[.slice a n c] w (Ret w (.bool (L.all pointB))) := by
  subst hn
  replace hr := Lib.hid hr
  go_enter Try.func57, Try.ntmps57
  go_wp2_with fail
  go_loopw [3] (fun i wr => ∃ k : Nat, k ≤ L.length ∧ i = .int .i64 k ∧ (L.take k).all pointB = true ∧ ∃ z : Later w, wr = z.w) (fun i _ => L.length - (intOf i).toNat)
  case atStart => exact ⟨0, Nat.zero_le _, rfl, rfl, ⟨_, Below.refl _ _⟩, rfl⟩
  case round =>
    obtain ⟨k, hk, rfl, hall, z, rfl⟩ := hrel
    replace hall := Lib.hid hall
    by_cases hlt : k < L.length
    · obtain ⟨b, o, rfl, hb, q0, q1⟩ := hr.out.pt hlt
      cases hv : pointB L[k]
      · have X := Lib.hid (show L.all pointB = false by
          rw [Bool.eq_false_iff]; intro h
          have := List.all_eq_true.1 h _ (List.getElem_mem hlt)
          rw [hv] at this; cases this)
        unfold pointB at hv
        replace hv := Lib.hid hv
        go_wp2_with fail
        with_reducible refine (sIsPoint_b _ hv.out).mono ?_
        rintro e w' ⟨rfl, y1, rfl⟩
        have hsy1 := y1.bel.size
        (try simp only [World.size_alloc, World.size_setCell, World.size_drew] at hsy1)
        go_wp2_with fail
        go_ret
        exact .mk (by rw [X.out]; rfl) (by (repeat (first | (with_reducible exact Below.refl _ _) | (with_reducible assumption) | (with_reducible refine Later.out _ ?_) | (with_reducible refine bel_alloc ?_ _) | (with_reducible refine bel_drew ?_) | (with_reducible refine bel_drewN ?_ _) | (with_reducible refine bel_set ?_ ?_ _) | (with_reducible refine After.out _ ?_ ?_) | (dsimp only; omega) | omega | (simp only [World.size_alloc, World.size_setCell, World.size_drew]; omega))))
      · have X := Lib.hid (show (L.take (k + 1)).all pointB = true by
          rw [List.take_succ_eq_append_getElem hlt, List.all_append, hall.out]; simp [hv])
        unfold pointB at hv
        replace hv := Lib.hid hv
        go_wp2_with fail
        with_reducible refine (sIsPoint_b _ hv.out).mono ?_
        rintro e w' ⟨rfl, y1, rfl⟩
        have hsy1 := y1.bel.size
        (try simp only [World.size_alloc, World.size_setCell, World.size_drew] at hsy1)
        go_wp2_with fail
        go_roundw
        case rel => exact ⟨k + 1, by omega, by go_num, X.out, ⟨_, by (repeat (first | (with_reducible exact Below.refl _ _) | (with_reducible assumption) | (with_reducible refine Later.out _ ?_) | (with_reducible refine bel_alloc ?_ _) | (with_reducible refine bel_drew ?_) | (with_reducible refine bel_drewN ?_ _) | (with_reducible refine bel_set ?_ ?_ _) | (with_reducible refine After.out _ ?_ ?_) | (dsimp only; omega) | omega | (simp only [World.size_alloc, World.size_setCell, World.size_drew]; omega)))⟩, rfl⟩
        case measure => first | (simp [intOf]; done) | (simp [intOf]; omega) | omega
    · obtain rfl : k = L.length := by omega
      have X := Lib.hid (show L.all pointB = true by have := hall.out; rwa [List.take_length] at this)
      go_wp2_with fail
      go_ret
      exact .mk (by rw [X.out]; rfl) (by (repeat (first | (with_reducible exact Below.refl _ _) | (with_reducible assumption) | (with_reducible refine Later.out _ ?_) | (with_reducible refine bel_alloc ?_ _) | (with_reducible refine bel_drew ?_) | (with_reducible refine bel_drewN ?_ _) | (with_reducible refine bel_set ?_ ?_ _) | (with_reducible refine After.out _ ?_ ?_) | (dsimp only; omega) | omega | (simp only [World.size_alloc, World.size_setCell, World.size_drew]; omega))))
theorem ptsB_of {L : List Pt} (h : L.all pointB = true) : PtsB L := ⟨fun p hp => by
  have := List.all_eq_true.1 h p hp
  obtain ⟨a, b, c, d⟩ := isPointB_iff.1 this
  exact ⟨by omega, by omega, by omega, by omega⟩⟩
end Go.Proofs.Ytkkhjbdnpobpnaa
