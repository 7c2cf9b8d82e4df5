import Derived.Test.YtklcaphkfdlipaaGreatDoorPackVa
import Derived.Test.YtklcaphkfdlipaaGreatDoorPackVe
import Derived.Test.YtklcaphkfdlipaaGreatDoorSideS
/- Twice the area of a ring, both sides. -/
set_option linter.unusedSimpArgs false
set_option linter.unusedVariables false
namespace Go.Proofs.YtklcaphkfdlipaaGreatDoor
open Go.RowKit
def tmZ (L : List Pt) (i : Nat) : Int := (cor L i).x * (cor L (i + 1)).y - (cor L i).y * (cor L (i + 1)).x
def areaTo (L : List Pt) (k : Nat) : Int := sumZ (tmZ L) k
theorem areaTo_all (L : List Pt) : areaTo L L.length = areaZ L := rfl
theorem areaTo_succ (L : List Pt) (k : Nat) : areaTo L (k + 1) = areaTo L k + tmZ L k := rfl
theorem tm_bd {A B : Pt} (ha : PtB A) (hb : PtB B) : (-4410000 ≤ A.x * B.y ∧ A.x * B.y ≤ 4410000) ∧ (-4410000 ≤ A.y * B.x ∧ A.y * B.x ≤ 4410000) := by
  obtain ⟨a1, a2, a3, a4⟩ := ha
  obtain ⟨b1, b2, b3, b4⟩ := hb
  exact ⟨mul_bd (M := 2100) (by omega) (by omega) (by omega) (by omega), mul_bd (M := 2100) (by omega) (by omega) (by omega) (by omega)⟩
theorem areaTo_bd {L : List Pt} (hb : PtsB L) (h0 : 0 < L.length) : ∀ k : Nat, -(8820000 * (k : Int)) ≤ areaTo L k ∧ areaTo L k ≤ 8820000 * (k : Int)
  | 0 => by simp [areaTo, sumZ]
  | k + 1 => by
    have ih := areaTo_bd hb h0 k
    have h := tm_bd (hb.cor h0 k) (hb.cor h0 (k + 1))
    rw [areaTo_succ]
    unfold tmZ
    omega
set_option maxRecDepth 4000 in
set_option maxHeartbeats 2000000 in
theorem area_any (L : List Pt) (a : Option Addr) (n c : Nat) (w : World) (hn : L.length = n) (hm : n ≤ 1000) (hb : PtsB L) (hr : Row w a (ptsCells L)) :
    Calls Tryz.prog 101 #[.slice a n c] w (Ret w (.int .i64 (areaZ L))) := by
  subst hn
  replace hr := Lib.hid hr
  replace hb := Lib.hid hb
  go_enter Tryz.func101, Tryz.ntmps101
  go_wp2_with fail
  go_loopw [3, 9] (fun t3 t9 wr => ∃ k : Nat, k ≤ L.length ∧ t9 = .int .i64 k ∧ t3 = .int .i64 (areaTo L k) ∧ ∃ z : Later w, wr = z.w) (fun _ t9 _ => L.length - (intOf t9).toNat)
  case atStart => exact ⟨0, Nat.zero_le _, rfl, rfl, ⟨_, Below.refl _ _⟩, rfl⟩
  case round =>
    obtain ⟨k, hk, rfl, rfl, z, rfl⟩ := hrel
    have hzz := z.bel.size
    by_cases hlt : k < L.length
    · have h0 : 0 < L.length := by omega
      obtain ⟨b, o, rfl, hbb, q0, q1⟩ := hr.out.pt hlt
      rw [← cor_lt hlt] at q0 q1
      have hk1 : (k : Int) < (L.length : Int) := by omega
      have hC1 := Lib.hid (fun z w hz hr => corner_z (L := L) (i := k + 1) (z := z) (a := some ⟨b, o, none⟩) (n := L.length) (c := c) (w := w) hz rfl h0 (by omega) (by omega) hr)
      obtain ⟨⟨m1, m2⟩, m3, m4⟩ := tm_bd (hb.out.cor h0 k) (hb.out.cor h0 (k + 1))
      have hs := areaTo_succ L k
      obtain ⟨s1, s2⟩ := areaTo_bd hb.out h0 k
      unfold tmZ at hs
      generalize cor L k = A at *
      generalize cor L (k + 1) = B at *
      generalize areaTo L k = S at *
      have X := Lib.hid hs
      clear hs
      go_wp2_with fail
      with_reducible refine (hC1.out _ _ (by omega) (hr.out.bel bb)).mono ?_
      rintro e w' ⟨rfl, y1, rfl⟩
      have hsy1 := y1.bel.size
      (try simp only [World.size_alloc, World.size_setCell, World.size_drew] at hsy1)
      have lt_z_w_y1_w : z.w.heap.size < y1.w.heap.size := (by omega)
      go_wp2_with fail
      go_roundw
      case rel =>
        refine ⟨k + 1, by omega, by go_num, by rw [X.out], LaterC.mk ?_⟩
        (exact bb)
      case measure => first | (simp [intOf]; done) | (simp [intOf]; omega) | omega
    · obtain rfl : k = L.length := by omega
      have X := Lib.hid (areaTo_all L)
      go_wp2_with fail
      go_ret
      exact .mk (by rw [← X.out]; rfl) bb
set_option maxRecDepth 4000 in
set_option maxHeartbeats 4000000 in
theorem sSigned_any (L : List Pt) (a : Option Addr) (n c : Nat) (w : World) (hn : L.length = n) (hm : n ≤ 1000) (hb : PtsB L) (hr : Row w a (ptsCells L)) :
    Calls Tryz.prog 119 #[.slice a n c] w (Ret w (.int .i64 (areaZ L))) := by
  subst hn
  replace hr := Lib.hid hr
  replace hb := Lib.hid hb
  go_enter Tryz.func119, Tryz.ntmps119
  go_wp2_with fail
  go_loopw [3, 4] (fun t3 t4 wr => ∃ k : Nat, k ≤ L.length ∧ t4 = .int .i64 k ∧ t3 = .int .i64 (areaTo L k) ∧ ∃ z : Later w, wr = z.w) (fun _ t4 _ => L.length - (intOf t4).toNat)
  case atStart => exact ⟨0, Nat.zero_le _, rfl, rfl, ⟨_, Below.refl _ _⟩, rfl⟩
  case round =>
    obtain ⟨k, hk, rfl, rfl, z, rfl⟩ := hrel
    have hzz := z.bel.size
    by_cases hlt : k < L.length
    · have h0 : 0 < L.length := by omega
      obtain ⟨b, o, rfl, hbb, q0, q1⟩ := hr.out.pt hlt
      rw [← cor_lt hlt] at q0 q1
      have hk1 : (k : Int) < (L.length : Int) := by omega
      have hC1 := Lib.hid (fun z w hz hr => l16At_z (L := L) (i := k + 1) (z := z) (a := some ⟨b, o, none⟩) (n := L.length) (c := c) (w := w) hz rfl h0 (by omega) (by omega) hr)
      obtain ⟨⟨m1, m2⟩, m3, m4⟩ := tm_bd (hb.out.cor h0 k) (hb.out.cor h0 (k + 1))
      have hs := areaTo_succ L k
      obtain ⟨s1, s2⟩ := areaTo_bd hb.out h0 k
      unfold tmZ at hs
      generalize cor L k = A at *
      generalize cor L (k + 1) = B at *
      generalize areaTo L k = S at *
      have X := Lib.hid hs
      clear hs
      have hbz : b < z.w.heap.size := by omega
      have hwr : IntKind.i64.wrap ((k : Int) + 1) = (k : Int) + 1 := IntWalk.i64_in _ (by omega)
      go_upto_region 5 with fail
      go_cut [5, 6] from 13 to 21 (TwoPts z.w A B)
      case first =>
        go_region_with (first | (go_at_call 112; (with_reducible refine (hC1.out _ _ (by omega) (hr.out.bel bb)).mono ?_); rintro e w' ⟨rfl, y1, rfl⟩; have hs1 := y1.bel.size; (try simp only [World.size_alloc, World.size_drew] at hs1); (try have ha0 : z.w.heap.size < y1.w.heap.size := (by omega)); (try have ha1 : z.w.heap.size + 1 < y1.w.heap.size := (by omega))))
        all_goals
          go_wp2_with fail
          go_meet
          refine ⟨_, _, rfl, rfl, ?_, ?_, ?_, ?_, ?_, ⟨?_, ?_⟩, ⟨?_, ?_⟩, ⟨?_, ?_⟩, ⟨?_, ?_⟩, ?_⟩
          · ((try simp only [World.size_alloc, World.size_setCell, World.size_drew]); omega)
          · ((try simp only [World.size_alloc, World.size_setCell, World.size_drew]); omega)
          · ((try simp only [World.size_alloc, World.size_setCell, World.size_drew]); omega)
          · ((try simp only [World.size_alloc, World.size_setCell, World.size_drew]); omega)
          · omega
          · simp [go_sem, ↓IntWalk.iteOmega, *]
          · simp [go_sem, ↓IntWalk.iteOmega, *]
          · simp [go_sem, ↓IntWalk.iteOmega, *]
          · simp [go_sem, ↓IntWalk.iteOmega, *]
          · simp [go_sem, ↓IntWalk.iteOmega, *]
          · simp [go_sem, ↓IntWalk.iteOmega, *]
          · simp [go_sem, ↓IntWalk.iteOmega, *]
          · simp [go_sem, ↓IntWalk.iteOmega, *]
          · (exact bb)
      case rest =>
        obtain ⟨g7, g8, rfl, rfl, p7, p8, l7, l8, hne, ⟨a0, a1⟩, ⟨b0, b1⟩, ⟨fa0, fa1⟩, ⟨fb0, fb1⟩, hbel⟩ := hcut
        obtain ⟨y, rfl⟩ := LaterC.mk hbel
        have hsy := y.bel.size
        clear hbel hC1 q0 q1
        go_wp2_with fail
        go_roundw
        case rel =>
          refine ⟨k + 1, by omega, by go_num, by rw [X.out]; go_num, LaterC.mk ?_⟩
          (exact bb)
        case measure => first | (simp [intOf]; done) | (simp [intOf]; omega) | omega
    · obtain rfl : k = L.length := by omega
      have X := Lib.hid (areaTo_all L)
      go_wp2_with fail
      go_ret
      exact .mk (by rw [← X.out]; rfl) bb
end Go.Proofs.YtklcaphkfdlipaaGreatDoor
