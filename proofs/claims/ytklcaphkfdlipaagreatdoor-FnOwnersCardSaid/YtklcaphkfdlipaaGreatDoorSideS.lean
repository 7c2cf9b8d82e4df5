import Derived.Test.YtklcaphkfdlipaaGreatDoorPackVa
import Derived.Test.YtklcaphkfdlipaaGreatDoorPackVe
import Derived.Deep.RegionWith
/- On which side of a ring a point lies: the reference's way. -/
set_option linter.unusedSimpArgs false
set_option linter.unusedVariables false
namespace Go.Proofs.YtklcaphkfdlipaaGreatDoor
open Go.RowKit
theorem turn_swap (a b p : Pt) : turnZ b a p = -turnZ a b p := by
  unfold turnZ
  have e1 := Int.mul_comm a.x b.y
  have e2 := Int.mul_comm a.y b.x
  have e3 := Int.mul_comm a.x a.y
  have e4 := Int.mul_comm b.x b.y
  simp only [Int.sub_mul, Int.mul_sub]
  omega
theorem between {q X A D : Int} (hA : 0 < A) (hD : 0 ≤ D) (hDA : D ≤ A) (h : q * A = X * D) : (0 ≤ X → 0 ≤ q ∧ q ≤ X) ∧ (X ≤ 0 → X ≤ q ∧ q ≤ 0) := by
  constructor
  · intro hX
    have h1 : 0 ≤ X * D := Int.mul_nonneg hX hD
    have h2 : X * D ≤ X * A := Int.mul_le_mul_of_nonneg_left hDA hX
    constructor
    · exact Int.le_of_mul_le_mul_right (a := A) (by rw [Int.zero_mul, h]; exact h1) hA
    · exact Int.le_of_mul_le_mul_right (a := A) (by rw [h]; exact h2) hA
  · intro hX
    have h1 : X * D ≤ 0 := Int.mul_nonpos_of_nonpos_of_nonneg hX hD
    have h2 : X * A ≤ X * D := Int.mul_le_mul_of_nonpos_left hX hDA
    constructor
    · exact Int.le_of_mul_le_mul_right (a := A) (by rw [h]; exact h2) hA
    · exact Int.le_of_mul_le_mul_right (a := A) (by rw [Int.zero_mul, h]; exact h1) hA
/-- A point in line with an edge and between its ends in height lies on it. -/
theorem on_of_flat {a b p : Pt} (h1 : b.y ≤ p.y) (h2 : p.y < a.y) (h : turnZ a b p = 0) : isOnB a b p = true := by
  have hq : (p.x - a.x) * (a.y - b.y) = (b.x - a.x) * (a.y - p.y) := by
    unfold turnZ at h
    have e1 := Int.mul_comm (b.y - a.y) (p.x - a.x)
    have e2 : (b.x - a.x) * (p.y - a.y) = -((b.x - a.x) * (a.y - p.y)) := by rw [← Int.mul_neg]; congr 1; omega
    have e3 : (p.x - a.x) * (b.y - a.y) = -((p.x - a.x) * (a.y - b.y)) := by rw [← Int.mul_neg]; congr 1; omega
    omega
  obtain ⟨k1, k2⟩ := between (by omega) (by omega) (by omega) hq
  unfold isOnB
  rw [h]
  simp only [beq_self_eq_true, Bool.true_and, Bool.and_eq_true, inB_iff]
  refine ⟨?_, ?_⟩
  · rcases Int.le_total a.x b.x with hx | hx
    · rw [Int.min_eq_left hx, Int.max_eq_right hx]
      have := k1 (by omega)
      omega
    · rw [Int.min_eq_right hx, Int.max_eq_left hx]
      have := k2 (by omega)
      omega
  · rw [Int.min_eq_right (by omega), Int.max_eq_left (by omega)]
    omega
/-- A ray to the east meets the edge from `a` up to `b`. -/
def sflip (a b p : Pt) : Bool := decide (a.y ≤ p.y) && decide (p.y < b.y) && decide (0 < turnZ a b p)
theorem flip_up {a b p : Pt} (h : a.y ≤ b.y) : flip a b p = sflip a b p := by
  unfold flip sflip
  by_cases h1 : p.y < a.y
  · have : p.y < b.y := by omega
    have h3 : ¬ a.y ≤ p.y := by omega
    simp [h1, this, h3]
  · by_cases h2 : p.y < b.y
    · have h3 : a.y ≤ p.y := by omega
      have h4 : a.y < b.y := by omega
      simp [h1, h2, h3, h4]
    · simp [h1, h2]
theorem flip_down {a b p : Pt} (h : b.y < a.y) (hon : isOnB a b p = false) : flip a b p = sflip b a p := by
  unfold flip sflip
  rw [turn_swap a b p]
  by_cases h1 : p.y < b.y
  · have : p.y < a.y := by omega
    have h3 : ¬ b.y ≤ p.y := by omega
    simp [h1, this, h3]
  · by_cases h2 : p.y < a.y
    · have h3 : b.y ≤ p.y := by omega
      have h4 : ¬ a.y < b.y := by omega
      have h5 : turnZ a b p ≠ 0 := fun e => by rw [on_of_flat h3 h2 e] at hon; cases hon
      have h6 : decide (0 < -turnZ a b p) = !decide (0 < turnZ a b p) := by
        rw [Bool.eq_iff_iff]
        simp only [decide_eq_true_eq, Bool.not_eq_true', decide_eq_false_iff_not]
        omega
      rw [h6]
      simp [h1, h2, h3, h4]
    · simp [h1, h2]
/-- Two variables that hold points of the call's own. -/
def TwoPts (W : World) (A B : Pt) (t7 t8 : Value) (wx : World) : Prop :=
  ∃ g7 g8 : Nat, t7 = .pointer (some ⟨g7, 0, none⟩) ∧ t8 = .pointer (some ⟨g8, 0, none⟩) ∧ W.heap.size ≤ g7 ∧ W.heap.size ≤ g8 ∧ g7 < wx.heap.size ∧ g8 < wx.heap.size ∧ (g7 < g8 ∨ g8 < g7) ∧
    (wx.cell? ⟨g7, 0, none⟩ = some (.int .i64 A.x) ∧ wx.cell? ⟨g7, 1, none⟩ = some (.int .i64 A.y)) ∧ (wx.cell? ⟨g8, 0, none⟩ = some (.int .i64 B.x) ∧ wx.cell? ⟨g8, 1, none⟩ = some (.int .i64 B.y)) ∧
    (wx.frozen? ⟨g7, 0, none⟩ = false ∧ wx.frozen? ⟨g7, 1, none⟩ = false) ∧ (wx.frozen? ⟨g8, 0, none⟩ = false ∧ wx.frozen? ⟨g8, 1, none⟩ = false) ∧ Below W.heap.size W wx
set_option maxRecDepth 4000 in
set_option maxHeartbeats 4000000 in
theorem sSide_any (L : List Pt) (p : Pt) (a : Option Addr) (n c : Nat) (w : World) (hn : L.length = n) (hm : n ≤ 1048576) (hb : PtsB L) (hp : PtB p) (hr : Row w a (ptsCells L)) :
    Calls Tryz.prog 99 #[.slice a n c, ptV p] w (Ret w (.int .i64 (sideZ L p))) := by
  subst hn
  replace hr := Lib.hid hr
  replace hb := Lib.hid hb
  replace hp := Lib.hid hp
  go_enter Tryz.func99, Tryz.ntmps99
  go_wp2_with fail
  go_loopw [5, 6] (fun t5 t6 wr => ∃ k : Nat, k ≤ L.length ∧ t6 = .int .i64 k ∧ t5 = .int .i64 (sideTo L p k) ∧ (∀ i, i < k → onAt L p i = false) ∧ ∃ z : Later (w.alloc (.cells #[.int .i64 p.x, .int .i64 p.y] 72)), wr = z.w) (fun _ t6 _ => L.length - (intOf t6).toNat)
  case atStart => exact ⟨0, Nat.zero_le _, rfl, rfl, fun i h => absurd h (by omega), ⟨_, Below.refl _ _⟩, rfl⟩
  case round =>
    obtain ⟨k, hk, rfl, rfl, hall, z, rfl⟩ := hrel
    replace hall := Lib.hid hall
    have hzz := z.bel.size
    simp only [World.size_alloc] at hzz
    have hsb := sideTo_bd L p k
    by_cases hlt : k < L.length
    · have h0 : 0 < L.length := by omega
      obtain ⟨b, o, rfl, hbb, q0, q1⟩ := hr.out.pt hlt
      rw [← cor_lt hlt] at q0 q1
      have hk1 : (k : Int) < (L.length : Int) := by omega
      have hC1 := Lib.hid (fun z w hz hr => l16At_z (L := L) (i := k + 1) (z := z) (a := some ⟨b, o, none⟩) (n := L.length) (c := c) (w := w) hz rfl h0 hm (by omega) hr)
      have lt_w_z_w : w.heap.size < z.w.heap.size := (by omega)
      have hwr : IntKind.i64.wrap ((k : Int) + 1) = (k : Int) + 1 := IntWalk.i64_in _ (by omega)
      go_upto_region 5 with fail
      go_cut [7, 8] from 15 to 22 (TwoPts z.w (cor L k) (cor L (k + 1)))
      case first =>
        go_region_with (first | (go_at_call 112; (with_reducible refine (hC1.out _ _ (by omega) (hr.out.bel bb)).mono ?_); rintro e w' ⟨rfl, y1, rfl⟩; have hs1 := y1.bel.size; (try simp only [World.size_alloc, World.size_drew] at hs1); (try have ha0 : z.w.heap.size < y1.w.heap.size := (by omega)); (try have ha1 : z.w.heap.size + 1 < y1.w.heap.size := (by omega))))
        all_goals
          go_wp2_with fail
          go_meet
          refine ⟨_, _, rfl, rfl, ?_, ?_, ?_, ?_, ?_, ⟨?_, ?_⟩, ⟨?_, ?_⟩, ⟨?_, ?_⟩, ⟨?_, ?_⟩, ?_⟩
          · ((try simp only [World.size_alloc, World.size_setCell, World.size_drew]); omega)
          · ((try simp only [World.size_alloc, World.size_setCell, World.size_drew]); omega)
          · ((try simp only [World.size_alloc, World.size_setCell, World.size_drew]); omega)
          · ((try simp only [World.size_alloc, World.size_setCell, World.size_drew]); omega)
          · omega
          · simp [go_sem, ↓IntWalk.iteOmega, *]
          · simp [go_sem, ↓IntWalk.iteOmega, *]
          · simp [go_sem, ↓IntWalk.iteOmega, *]
          · simp [go_sem, ↓IntWalk.iteOmega, *]
          · simp [go_sem, ↓IntWalk.iteOmega, *]
          · simp [go_sem, ↓IntWalk.iteOmega, *]
          · simp [go_sem, ↓IntWalk.iteOmega, *]
          · simp [go_sem, ↓IntWalk.iteOmega, *]
          · (exact bb)
      case rest =>
        obtain ⟨g7, g8, rfl, rfl, p7, p8, l7, l8, hne, ⟨a0, a1⟩, ⟨b0, b1⟩, ⟨fa0, fa1⟩, ⟨fb0, fb1⟩, hbel⟩ := hcut
        obtain ⟨y, rfl⟩ := LaterC.mk hbel
        have hsy := y.bel.size
        clear hbel hC1 q0 q1
        have hON := fun w => sOn_any (cor L k) (cor L (k + 1)) p w (hb.out.cor h0 k) (hb.out.cor h0 (k + 1)) hp.out
        have hTU := fun w => sTurn_any (cor L k) (cor L (k + 1)) p w (hb.out.cor h0 k) (hb.out.cor h0 (k + 1)) hp.out
        have hTD := fun w => sTurn_any (cor L (k + 1)) (cor L k) p w (hb.out.cor h0 (k + 1)) (hb.out.cor h0 k) hp.out
        have hsF := fun h => sideTo_flip (L := L) (p := p) (k := k) h
        have hsK := fun h => sideTo_keep (L := L) (p := p) (k := k) h
        have hup := fun h => flip_up (a := cor L k) (b := cor L (k + 1)) (p := p) h
        have hdn := fun h h' => flip_down (a := cor L k) (b := cor L (k + 1)) (p := p) h h'
        have hs1 : sflip (cor L k) (cor L (k + 1)) p = (decide ((cor L k).y ≤ p.y) && decide (p.y < (cor L (k + 1)).y) && decide (0 < turnZ (cor L k) (cor L (k + 1)) p)) := rfl
        have hs2 : sflip (cor L (k + 1)) (cor L k) p = (decide ((cor L (k + 1)).y ≤ p.y) && decide (p.y < (cor L k).y) && decide (0 < turnZ (cor L (k + 1)) (cor L k) p)) := rfl
        have hoe : onAt L p k = isOnB (cor L k) (cor L (k + 1)) p := rfl
        generalize cor L k = A at *
        generalize cor L (k + 1) = B at *
        generalize isOnB A B p = on at *
        generalize turnZ A B p = t at *
        generalize turnZ B A p = t' at *
        generalize flip A B p = fl at *
        generalize sflip A B p = f1 at *
        generalize sflip B A p = f2 at *
        generalize hse : sideTo L p k = s at *
        replace hON := Lib.hid hON
        replace hTU := Lib.hid hTU
        replace hTD := Lib.hid hTD
        obtain ⟨sb1, sb2⟩ := hsb
        cases on
        rotate_left
        · have X := Lib.hid (sideZ_on hlt hoe)
          clear hse hoe hsF hsK hup hdn hs1 hs2
          go_wp2_with fail
          with_reducible refine (hON.out _).mono ?_
          rintro e w' ⟨rfl, y1, rfl⟩
          have hsy1 := y1.bel.size
          (try simp only [World.size_alloc, World.size_setCell, World.size_drew] at hsy1)
          go_wp2_with fail
          go_ret
          exact .mk (by rw [X.out]; rfl) bb
        have Y := Lib.hid (show ∀ i, i < k + 1 → onAt L p i = false from fun i hi => by
          by_cases h : i = k
          · subst h; exact hoe
          · exact hall.out i (by omega))
        clear hoe
        by_cases hd : B.y < A.y
        · have hd1 : decide (B.y < A.y) = true := by simpa using hd
          replace hdn := hdn hd rfl
          clear hup hs1
          rw [hdn, hs2] at hsF hsK
          clear hdn hs2
          rcases hne with hne | hne
          · cases hu : decide (B.y ≤ p.y)
            · have X := Lib.hid (show sideTo L p (k + 1) = s by rw [hsK (by rw [hu]; rfl)])
              clear hse hsF hsK
              go_wp2_with fail
              with_reducible refine (hON.out _).mono ?_
              rintro e w' ⟨rfl, y1, rfl⟩
              have hsy1 := y1.bel.size
              (try simp only [World.size_alloc, World.size_setCell, World.size_drew] at hsy1)
              have lt_w_z_w : w.heap.size < z.w.heap.size := (by omega)
              have lt_w_y_w : w.heap.size < y.w.heap.size := (by omega)
              have lt_z_w_y_w : z.w.heap.size < y.w.heap.size := (by omega)
              have lt_g7_y1 : g7 < y1.w.heap.size := (by omega)
              have lt_g8_y1 : g8 < y1.w.heap.size := (by omega)
              have lt_w_y1 : w.heap.size < y1.w.heap.size := (by omega)
              go_wp2_with fail
              go_roundw
              case rel =>
                refine ⟨k + 1, by omega, by go_num, by rw [X.out], Y.out, LaterC.mk ?_⟩
                (exact bb)
              case measure => first | (simp [intOf]; done) | (simp [intOf]; omega) | omega
            cases hv : decide (p.y < A.y)
            · have X := Lib.hid (show sideTo L p (k + 1) = s by rw [hsK (by rw [hu, hv]; rfl)])
              clear hse hsF hsK
              go_wp2_with fail
              with_reducible refine (hON.out _).mono ?_
              rintro e w' ⟨rfl, y1, rfl⟩
              have hsy1 := y1.bel.size
              (try simp only [World.size_alloc, World.size_setCell, World.size_drew] at hsy1)
              have lt_w_z_w : w.heap.size < z.w.heap.size := (by omega)
              have lt_w_y_w : w.heap.size < y.w.heap.size := (by omega)
              have lt_z_w_y_w : z.w.heap.size < y.w.heap.size := (by omega)
              have lt_g7_y1 : g7 < y1.w.heap.size := (by omega)
              have lt_g8_y1 : g8 < y1.w.heap.size := (by omega)
              have lt_w_y1 : w.heap.size < y1.w.heap.size := (by omega)
              go_wp2_with fail
              go_roundw
              case rel =>
                refine ⟨k + 1, by omega, by go_num, by rw [X.out], Y.out, LaterC.mk ?_⟩
                (exact bb)
              case measure => first | (simp [intOf]; done) | (simp [intOf]; omega) | omega
            cases ht : decide (0 < t')
            · have X := Lib.hid (show sideTo L p (k + 1) = s by rw [hsK (by rw [hu, hv, ht]; rfl)])
              clear hse hsF hsK
              go_wp2_with fail
              with_reducible refine (hON.out _).mono ?_
              rintro e w' ⟨rfl, y1, rfl⟩
              have hsy1 := y1.bel.size
              (try simp only [World.size_alloc, World.size_setCell, World.size_drew] at hsy1)
              have lt_w_z_w : w.heap.size < z.w.heap.size := (by omega)
              have lt_w_y_w : w.heap.size < y.w.heap.size := (by omega)
              have lt_z_w_y_w : z.w.heap.size < y.w.heap.size := (by omega)
              have lt_g7_y1 : g7 < y1.w.heap.size := (by omega)
              have lt_g8_y1 : g8 < y1.w.heap.size := (by omega)
              have lt_w_y1 : w.heap.size < y1.w.heap.size := (by omega)
              go_wp2_with fail
              with_reducible refine (hTD.out _).mono ?_
              rintro e w' ⟨rfl, y2, rfl⟩
              have hsy2 := y2.bel.size
              (try simp only [World.size_alloc, World.size_setCell, World.size_drew] at hsy2)
              go_wp2_with fail
              go_roundw
              case rel =>
                refine ⟨k + 1, by omega, by go_num, by rw [X.out], Y.out, LaterC.mk ?_⟩
                (exact bb)
              case measure => first | (simp [intOf]; done) | (simp [intOf]; omega) | omega
            · have X := Lib.hid (show sideTo L p (k + 1) = -s by rw [hsF (by rw [hu, hv, ht]; rfl)])
              clear hse hsF hsK
              go_wp2_with fail
              with_reducible refine (hON.out _).mono ?_
              rintro e w' ⟨rfl, y1, rfl⟩
              have hsy1 := y1.bel.size
              (try simp only [World.size_alloc, World.size_setCell, World.size_drew] at hsy1)
              have lt_w_z_w : w.heap.size < z.w.heap.size := (by omega)
              have lt_w_y_w : w.heap.size < y.w.heap.size := (by omega)
              have lt_z_w_y_w : z.w.heap.size < y.w.heap.size := (by omega)
              have lt_g7_y1 : g7 < y1.w.heap.size := (by omega)
              have lt_g8_y1 : g8 < y1.w.heap.size := (by omega)
              have lt_w_y1 : w.heap.size < y1.w.heap.size := (by omega)
              go_wp2_with fail
              with_reducible refine (hTD.out _).mono ?_
              rintro e w' ⟨rfl, y2, rfl⟩
              have hsy2 := y2.bel.size
              (try simp only [World.size_alloc, World.size_setCell, World.size_drew] at hsy2)
              go_wp2_with fail
              go_roundw
              case rel =>
                refine ⟨k + 1, by omega, by go_num, by rw [X.out], Y.out, LaterC.mk ?_⟩
                (exact bb)
              case measure => first | (simp [intOf]; done) | (simp [intOf]; omega) | omega
          · cases hu : decide (B.y ≤ p.y)
            · have X := Lib.hid (show sideTo L p (k + 1) = s by rw [hsK (by rw [hu]; rfl)])
              clear hse hsF hsK
              go_wp2_with fail
              with_reducible refine (hON.out _).mono ?_
              rintro e w' ⟨rfl, y1, rfl⟩
              have hsy1 := y1.bel.size
              (try simp only [World.size_alloc, World.size_setCell, World.size_drew] at hsy1)
              have lt_w_z_w : w.heap.size < z.w.heap.size := (by omega)
              have lt_w_y_w : w.heap.size < y.w.heap.size := (by omega)
              have lt_z_w_y_w : z.w.heap.size < y.w.heap.size := (by omega)
              have lt_g7_y1 : g7 < y1.w.heap.size := (by omega)
              have lt_g8_y1 : g8 < y1.w.heap.size := (by omega)
              have lt_w_y1 : w.heap.size < y1.w.heap.size := (by omega)
              go_wp2_with fail
              go_roundw
              case rel =>
                refine ⟨k + 1, by omega, by go_num, by rw [X.out], Y.out, LaterC.mk ?_⟩
                (exact bb)
              case measure => first | (simp [intOf]; done) | (simp [intOf]; omega) | omega
            cases hv : decide (p.y < A.y)
            · have X := Lib.hid (show sideTo L p (k + 1) = s by rw [hsK (by rw [hu, hv]; rfl)])
              clear hse hsF hsK
              go_wp2_with fail
              with_reducible refine (hON.out _).mono ?_
              rintro e w' ⟨rfl, y1, rfl⟩
              have hsy1 := y1.bel.size
              (try simp only [World.size_alloc, World.size_setCell, World.size_drew] at hsy1)
              have lt_w_z_w : w.heap.size < z.w.heap.size := (by omega)
              have lt_w_y_w : w.heap.size < y.w.heap.size := (by omega)
              have lt_z_w_y_w : z.w.heap.size < y.w.heap.size := (by omega)
              have lt_g7_y1 : g7 < y1.w.heap.size := (by omega)
              have lt_g8_y1 : g8 < y1.w.heap.size := (by omega)
              have lt_w_y1 : w.heap.size < y1.w.heap.size := (by omega)
              go_wp2_with fail
              go_roundw
              case rel =>
                refine ⟨k + 1, by omega, by go_num, by rw [X.out], Y.out, LaterC.mk ?_⟩
                (exact bb)
              case measure => first | (simp [intOf]; done) | (simp [intOf]; omega) | omega
            cases ht : decide (0 < t')
            · have X := Lib.hid (show sideTo L p (k + 1) = s by rw [hsK (by rw [hu, hv, ht]; rfl)])
              clear hse hsF hsK
              go_wp2_with fail
              with_reducible refine (hON.out _).mono ?_
              rintro e w' ⟨rfl, y1, rfl⟩
              have hsy1 := y1.bel.size
              (try simp only [World.size_alloc, World.size_setCell, World.size_drew] at hsy1)
              have lt_w_z_w : w.heap.size < z.w.heap.size := (by omega)
              have lt_w_y_w : w.heap.size < y.w.heap.size := (by omega)
              have lt_z_w_y_w : z.w.heap.size < y.w.heap.size := (by omega)
              have lt_g7_y1 : g7 < y1.w.heap.size := (by omega)
              have lt_g8_y1 : g8 < y1.w.heap.size := (by omega)
              have lt_w_y1 : w.heap.size < y1.w.heap.size := (by omega)
              go_wp2_with fail
              with_reducible refine (hTD.out _).mono ?_
              rintro e w' ⟨rfl, y2, rfl⟩
              have hsy2 := y2.bel.size
              (try simp only [World.size_alloc, World.size_setCell, World.size_drew] at hsy2)
              go_wp2_with fail
              go_roundw
              case rel =>
                refine ⟨k + 1, by omega, by go_num, by rw [X.out], Y.out, LaterC.mk ?_⟩
                (exact bb)
              case measure => first | (simp [intOf]; done) | (simp [intOf]; omega) | omega
            · have X := Lib.hid (show sideTo L p (k + 1) = -s by rw [hsF (by rw [hu, hv, ht]; rfl)])
              clear hse hsF hsK
              go_wp2_with fail
              with_reducible refine (hON.out _).mono ?_
              rintro e w' ⟨rfl, y1, rfl⟩
              have hsy1 := y1.bel.size
              (try simp only [World.size_alloc, World.size_setCell, World.size_drew] at hsy1)
              have lt_w_z_w : w.heap.size < z.w.heap.size := (by omega)
              have lt_w_y_w : w.heap.size < y.w.heap.size := (by omega)
              have lt_z_w_y_w : z.w.heap.size < y.w.heap.size := (by omega)
              have lt_g7_y1 : g7 < y1.w.heap.size := (by omega)
              have lt_g8_y1 : g8 < y1.w.heap.size := (by omega)
              have lt_w_y1 : w.heap.size < y1.w.heap.size := (by omega)
              go_wp2_with fail
              with_reducible refine (hTD.out _).mono ?_
              rintro e w' ⟨rfl, y2, rfl⟩
              have hsy2 := y2.bel.size
              (try simp only [World.size_alloc, World.size_setCell, World.size_drew] at hsy2)
              go_wp2_with fail
              go_roundw
              case rel =>
                refine ⟨k + 1, by omega, by go_num, by rw [X.out], Y.out, LaterC.mk ?_⟩
                (exact bb)
              case measure => first | (simp [intOf]; done) | (simp [intOf]; omega) | omega
        · have hd1 : decide (B.y < A.y) = false := by simpa using hd
          replace hup := hup (by omega)
          clear hdn hs2
          rw [hup, hs1] at hsF hsK
          clear hup hs1
          cases hu : decide (A.y ≤ p.y)
          · have X := Lib.hid (show sideTo L p (k + 1) = s by rw [hsK (by rw [hu]; rfl)])
            clear hse hsF hsK
            go_wp2_with fail
            with_reducible refine (hON.out _).mono ?_
            rintro e w' ⟨rfl, y1, rfl⟩
            have hsy1 := y1.bel.size
            (try simp only [World.size_alloc, World.size_setCell, World.size_drew] at hsy1)
            have lt_w_z_w : w.heap.size < z.w.heap.size := (by omega)
            have lt_w_y_w : w.heap.size < y.w.heap.size := (by omega)
            have lt_z_w_y_w : z.w.heap.size < y.w.heap.size := (by omega)
            have lt_g7_y1 : g7 < y1.w.heap.size := (by omega)
            have lt_g8_y1 : g8 < y1.w.heap.size := (by omega)
            have lt_w_y1 : w.heap.size < y1.w.heap.size := (by omega)
            go_wp2_with fail
            go_roundw
            case rel =>
              refine ⟨k + 1, by omega, by go_num, by rw [X.out], Y.out, LaterC.mk ?_⟩
              (exact bb)
            case measure => first | (simp [intOf]; done) | (simp [intOf]; omega) | omega
          cases hv : decide (p.y < B.y)
          · have X := Lib.hid (show sideTo L p (k + 1) = s by rw [hsK (by rw [hu, hv]; rfl)])
            clear hse hsF hsK
            go_wp2_with fail
            with_reducible refine (hON.out _).mono ?_
            rintro e w' ⟨rfl, y1, rfl⟩
            have hsy1 := y1.bel.size
            (try simp only [World.size_alloc, World.size_setCell, World.size_drew] at hsy1)
            have lt_w_z_w : w.heap.size < z.w.heap.size := (by omega)
            have lt_w_y_w : w.heap.size < y.w.heap.size := (by omega)
            have lt_z_w_y_w : z.w.heap.size < y.w.heap.size := (by omega)
            have lt_g7_y1 : g7 < y1.w.heap.size := (by omega)
            have lt_g8_y1 : g8 < y1.w.heap.size := (by omega)
            have lt_w_y1 : w.heap.size < y1.w.heap.size := (by omega)
            go_wp2_with fail
            go_roundw
            case rel =>
              refine ⟨k + 1, by omega, by go_num, by rw [X.out], Y.out, LaterC.mk ?_⟩
              (exact bb)
            case measure => first | (simp [intOf]; done) | (simp [intOf]; omega) | omega
          cases ht : decide (0 < t)
          · have X := Lib.hid (show sideTo L p (k + 1) = s by rw [hsK (by rw [hu, hv, ht]; rfl)])
            clear hse hsF hsK
            go_wp2_with fail
            with_reducible refine (hON.out _).mono ?_
            rintro e w' ⟨rfl, y1, rfl⟩
            have hsy1 := y1.bel.size
            (try simp only [World.size_alloc, World.size_setCell, World.size_drew] at hsy1)
            have lt_w_z_w : w.heap.size < z.w.heap.size := (by omega)
            have lt_w_y_w : w.heap.size < y.w.heap.size := (by omega)
            have lt_z_w_y_w : z.w.heap.size < y.w.heap.size := (by omega)
            have lt_g7_y1 : g7 < y1.w.heap.size := (by omega)
            have lt_g8_y1 : g8 < y1.w.heap.size := (by omega)
            have lt_w_y1 : w.heap.size < y1.w.heap.size := (by omega)
            go_wp2_with fail
            with_reducible refine (hTU.out _).mono ?_
            rintro e w' ⟨rfl, y2, rfl⟩
            have hsy2 := y2.bel.size
            (try simp only [World.size_alloc, World.size_setCell, World.size_drew] at hsy2)
            go_wp2_with fail
            go_roundw
            case rel =>
              refine ⟨k + 1, by omega, by go_num, by rw [X.out], Y.out, LaterC.mk ?_⟩
              (exact bb)
            case measure => first | (simp [intOf]; done) | (simp [intOf]; omega) | omega
          · have X := Lib.hid (show sideTo L p (k + 1) = -s by rw [hsF (by rw [hu, hv, ht]; rfl)])
            clear hse hsF hsK
            go_wp2_with fail
            with_reducible refine (hON.out _).mono ?_
            rintro e w' ⟨rfl, y1, rfl⟩
            have hsy1 := y1.bel.size
            (try simp only [World.size_alloc, World.size_setCell, World.size_drew] at hsy1)
            have lt_w_z_w : w.heap.size < z.w.heap.size := (by omega)
            have lt_w_y_w : w.heap.size < y.w.heap.size := (by omega)
            have lt_z_w_y_w : z.w.heap.size < y.w.heap.size := (by omega)
            have lt_g7_y1 : g7 < y1.w.heap.size := (by omega)
            have lt_g8_y1 : g8 < y1.w.heap.size := (by omega)
            have lt_w_y1 : w.heap.size < y1.w.heap.size := (by omega)
            go_wp2_with fail
            with_reducible refine (hTU.out _).mono ?_
            rintro e w' ⟨rfl, y2, rfl⟩
            have hsy2 := y2.bel.size
            (try simp only [World.size_alloc, World.size_setCell, World.size_drew] at hsy2)
            go_wp2_with fail
            go_roundw
            case rel =>
              refine ⟨k + 1, by omega, by go_num, by rw [X.out], Y.out, LaterC.mk ?_⟩
              (exact bb)
            case measure => first | (simp [intOf]; done) | (simp [intOf]; omega) | omega
    · obtain rfl : k = L.length := by omega
      have X := Lib.hid (sideZ_off hall.out)
      go_wp2_with fail
      go_ret
      exact .mk (by rw [X.out]; rfl) bb
end Go.Proofs.YtklcaphkfdlipaaGreatDoor
