import Derived.Test.YtklcaphkfdlipaaGreatDoorPackVa
import Derived.Test.YtklcaphkfdlipaaGreatDoorPackVj
import Derived.Test.YtklcaphkfdlipaaGreatDoorArea
/- Several of my texts, one behind the other: Side, Nrm, FitL, MapL. -/
/- On which side of a ring a point lies: the program's way. -/
set_option linter.unusedSimpArgs false
set_option linter.unusedVariables false
namespace Go.Proofs.YtklcaphkfdlipaaGreatDoor
open Go.RowKit
def onAt (L : List Pt) (p : Pt) (i : Nat) : Bool := isOnB (cor L i) (cor L (i + 1)) p
/-- Does the edge from `a` to `b` turn the side about? -/
def flip (a b p : Pt) : Bool := (decide (p.y < a.y) != decide (p.y < b.y)) && (decide (0 < turnZ a b p) == decide (a.y < b.y))
def sideTo (L : List Pt) (p : Pt) : Nat → Int
  | 0 => -1
  | k + 1 => if flip (cor L k) (cor L (k + 1)) p then -sideTo L p k else sideTo L p k
def sideZ (L : List Pt) (p : Pt) : Int := if (List.range L.length).any (onAt L p) then 0 else sideTo L p L.length
theorem sideTo_bd (L : List Pt) (p : Pt) (k : Nat) : -1 ≤ sideTo L p k ∧ sideTo L p k ≤ 1 := by
  induction k with
  | zero => simp [sideTo]
  | succ k ih => simp only [sideTo]; split <;> omega
theorem sideZ_on {L : List Pt} {p : Pt} {i : Nat} (hi : i < L.length) (h : onAt L p i = true) : sideZ L p = 0 := by
  unfold sideZ
  rw [if_pos]
  exact List.any_eq_true.2 ⟨i, List.mem_range.2 hi, h⟩
theorem sideZ_off {L : List Pt} {p : Pt} (h : ∀ i, i < L.length → onAt L p i = false) : sideZ L p = sideTo L p L.length := by
  unfold sideZ
  rw [if_neg]
  intro hh
  obtain ⟨i, hi, hp⟩ := List.any_eq_true.1 hh
  rw [h i (List.mem_range.1 hi)] at hp
  cases hp
theorem sideTo_flip {L : List Pt} {p : Pt} {k : Nat} (h : flip (cor L k) (cor L (k + 1)) p = true) : sideTo L p (k + 1) = -sideTo L p k := by simp [sideTo, h]
theorem sideTo_keep {L : List Pt} {p : Pt} {k : Nat} (h : flip (cor L k) (cor L (k + 1)) p = false) : sideTo L p (k + 1) = sideTo L p k := by simp [sideTo, h]
set_option maxRecDepth 4000 in
set_option maxHeartbeats 4000000 in
theorem side_any (L : List Pt) (p : Pt) (a : Option Addr) (n c : Nat) (w : World) (hn : L.length = n) (hm : n ≤ 1048576) (hb : PtsB L) (hp : PtB p) (hr : Row w a (ptsCells L)) :
    Calls Tryz.prog 97 #[.slice a n c, ptV p] w (Ret w (.int .i64 (sideZ L p))) := by
  subst hn
  replace hr := Lib.hid hr
  replace hb := Lib.hid hb
  replace hp := Lib.hid hp
  go_enter Tryz.func97, Tryz.ntmps97
  go_wp2_with fail
  go_loopw [5, 11] (fun t5 t11 wr => ∃ k : Nat, k ≤ L.length ∧ t11 = .int .i64 k ∧ t5 = .int .i64 (sideTo L p k) ∧ (∀ i, i < k → onAt L p i = false) ∧ ∃ z : Later (w.alloc (.cells #[.int .i64 p.x, .int .i64 p.y] 72)), wr = z.w) (fun _ t11 _ => L.length - (intOf t11).toNat)
  case atStart => exact ⟨0, Nat.zero_le _, rfl, rfl, fun i h => absurd h (by omega), ⟨_, Below.refl _ _⟩, rfl⟩
  case round =>
    obtain ⟨k, hk, rfl, rfl, hall, z, rfl⟩ := hrel
    replace hall := Lib.hid hall
    have hzz := z.bel.size
    simp only [World.size_alloc] at hzz
    have hsb := sideTo_bd L p k
    by_cases hlt : k < L.length
    · have h0 : 0 < L.length := by omega
      obtain ⟨b, o, rfl, hbb, q0, q1⟩ := hr.out.pt hlt
      rw [← cor_lt hlt] at q0 q1
      have hk1 : (k : Int) < (L.length : Int) := by omega
      have hC1 := Lib.hid (fun z w hz hr => corner_z (L := L) (i := k + 1) (z := z) (a := some ⟨b, o, none⟩) (n := L.length) (c := c) (w := w) hz rfl h0 hm (by omega) hr)
      have hON := fun w => isOn_any (cor L k) (cor L (k + 1)) p w (hb.out.cor h0 k) (hb.out.cor h0 (k + 1)) hp.out
      have hTU := fun w => turn_any (cor L k) (cor L (k + 1)) p w (hb.out.cor h0 k) (hb.out.cor h0 (k + 1)) hp.out
      have hsF := fun h => sideTo_flip (L := L) (p := p) (k := k) h
      have hsK := fun h => sideTo_keep (L := L) (p := p) (k := k) h
      have hfl : flip (cor L k) (cor L (k + 1)) p = ((decide (p.y < (cor L k).y) != decide (p.y < (cor L (k + 1)).y)) && (decide (0 < turnZ (cor L k) (cor L (k + 1)) p) == decide ((cor L k).y < (cor L (k + 1)).y))) := rfl
      have hoe : onAt L p k = isOnB (cor L k) (cor L (k + 1)) p := rfl
      generalize cor L k = A at *
      generalize cor L (k + 1) = B at *
      generalize isOnB A B p = on at *
      generalize turnZ A B p = t at *
      generalize hfe : flip A B p = fl at *
      clear hfe
      generalize hse : sideTo L p k = s at *
      replace hON := Lib.hid hON
      replace hTU := Lib.hid hTU
      obtain ⟨sb1, sb2⟩ := hsb
      cases on
      rotate_left
      · have X := Lib.hid (sideZ_on hlt hoe)
        clear hse hoe hsF hsK hfl
        go_wp2_with fail
        with_reducible refine (hC1.out _ _ (by omega) (hr.out.bel bb)).mono ?_
        rintro e w' ⟨rfl, y1, rfl⟩
        have hsy1 := y1.bel.size
        (try simp only [World.size_alloc, World.size_setCell, World.size_drew] at hsy1)
        have lt_w_z_w : w.heap.size < z.w.heap.size := (by omega)
        have lt_w_y1_w : w.heap.size < y1.w.heap.size := (by omega)
        have lt_z_w_y1_w : z.w.heap.size < y1.w.heap.size := (by omega)
        go_wp2_with fail
        with_reducible refine (hON.out _).mono ?_
        rintro e w' ⟨rfl, y2, rfl⟩
        have hsy2 := y2.bel.size
        (try simp only [World.size_alloc, World.size_setCell, World.size_drew] at hsy2)
        go_wp2_with fail
        go_ret
        exact .mk (by rw [X.out]; rfl) bb
      have Y := Lib.hid (show ∀ i, i < k + 1 → onAt L p i = false from fun i hi => by
        by_cases h : i = k
        · subst h; exact hoe
        · exact hall.out i (by omega))
      clear hoe
      cases hu : decide (p.y < A.y) <;> cases hv : decide (p.y < B.y)
      · have X := Lib.hid (show sideTo L p (k + 1) = s by rw [hsK (by rw [hfl, hu, hv]; rfl)])
        clear hse hsF hsK hfl
        go_wp2_with fail
        with_reducible refine (hC1.out _ _ (by omega) (hr.out.bel bb)).mono ?_
        rintro e w' ⟨rfl, y1, rfl⟩
        have hsy1 := y1.bel.size
        (try simp only [World.size_alloc, World.size_setCell, World.size_drew] at hsy1)
        have lt_w_z_w : w.heap.size < z.w.heap.size := (by omega)
        have lt_w_y1_w : w.heap.size < y1.w.heap.size := (by omega)
        have lt_z_w_y1_w : z.w.heap.size < y1.w.heap.size := (by omega)
        go_wp2_with fail
        with_reducible refine (hON.out _).mono ?_
        rintro e w' ⟨rfl, y2, rfl⟩
        have hsy2 := y2.bel.size
        (try simp only [World.size_alloc, World.size_setCell, World.size_drew] at hsy2)
        have lt_w_z_w : w.heap.size < z.w.heap.size := (by omega)
        have lt_w_y1_w : w.heap.size < y1.w.heap.size := (by omega)
        have lt_w_y2_w : w.heap.size < y2.w.heap.size := (by omega)
        have lt_z_w_y1_w : z.w.heap.size < y1.w.heap.size := (by omega)
        have lt_z_w_y2_w : z.w.heap.size < y2.w.heap.size := (by omega)
        have lt_y1_w_y2_w : y1.w.heap.size < y2.w.heap.size := (by omega)
        go_wp2_with fail
        go_roundw
        case rel =>
          refine ⟨k + 1, by omega, by go_num, by rw [X.out], Y.out, LaterC.mk ?_⟩
          (exact bb)
        case measure => first | (simp [intOf]; done) | (simp [intOf]; omega) | omega
      · have hab : decide (A.y < B.y) = true := by
          have h1 := hu
          have h2 := hv
          simp at h1 h2 ⊢
          omega
        cases ht : decide (0 < t)
        · have X := Lib.hid (show sideTo L p (k + 1) = s by rw [hsK (by rw [hfl, hu, hv, hab, ht]; rfl)])
          clear hse hsF hsK hfl
          go_wp2_with fail
          with_reducible refine (hC1.out _ _ (by omega) (hr.out.bel bb)).mono ?_
          rintro e w' ⟨rfl, y1, rfl⟩
          have hsy1 := y1.bel.size
          (try simp only [World.size_alloc, World.size_setCell, World.size_drew] at hsy1)
          have lt_w_z_w : w.heap.size < z.w.heap.size := (by omega)
          have lt_w_y1_w : w.heap.size < y1.w.heap.size := (by omega)
          have lt_z_w_y1_w : z.w.heap.size < y1.w.heap.size := (by omega)
          go_wp2_with fail
          with_reducible refine (hON.out _).mono ?_
          rintro e w' ⟨rfl, y2, rfl⟩
          have hsy2 := y2.bel.size
          (try simp only [World.size_alloc, World.size_setCell, World.size_drew] at hsy2)
          have lt_w_z_w : w.heap.size < z.w.heap.size := (by omega)
          have lt_w_y1_w : w.heap.size < y1.w.heap.size := (by omega)
          have lt_w_y2_w : w.heap.size < y2.w.heap.size := (by omega)
          have lt_z_w_y1_w : z.w.heap.size < y1.w.heap.size := (by omega)
          have lt_z_w_y2_w : z.w.heap.size < y2.w.heap.size := (by omega)
          have lt_y1_w_y2_w : y1.w.heap.size < y2.w.heap.size := (by omega)
          go_wp2_with fail
          refine wp_region_plan [(0, true), (1, true), (2, true), (5, true), (6, true), (7, true), (8, true), (9, true), (3, false), (4, true), (10, true)] (C := LaterC _) (by kernel_rfl) (by kernel_rfl) (by kernel_rfl) rfl (fun _ _ d _ _ h => by cases d <;> exact h) (LaterC.mk ((Below.refl _ _).drew)) ?_
          first | (refine plan_quiet nth0 rfl ?_; intro KP hKP; go_big_quiet_op; go_big_quiet_on) | (refine plan_skip_q nth0 rfl rfl ?_; simp only [Act.put, List.setIfInBounds_toArray, List.set_cons_zero, List.set_cons_succ])
          first | (refine plan_quiet nth1 rfl ?_; intro KP hKP; go_big_quiet_op; go_big_quiet_on) | (refine plan_skip_q nth1 rfl rfl ?_; simp only [Act.put, List.setIfInBounds_toArray, List.set_cons_zero, List.set_cons_succ])
          first | (refine plan_quiet nth2 rfl ?_; intro KP hKP; go_big_quiet_op; go_big_quiet_on) | (refine plan_skip_q nth2 rfl rfl ?_; simp only [Act.put, List.setIfInBounds_toArray, List.set_cons_zero, List.set_cons_succ])
          first | (refine plan_quiet nth5 rfl ?_; intro KP hKP; go_big_quiet_op; go_big_quiet_on) | (refine plan_skip_q nth5 rfl rfl ?_; simp only [Act.put, List.setIfInBounds_toArray, List.set_cons_zero, List.set_cons_succ])
          first | (refine plan_quiet nth6 rfl ?_; intro KP hKP; go_big_quiet_op; go_big_quiet_on) | (refine plan_skip_q nth6 rfl rfl ?_; simp only [Act.put, List.setIfInBounds_toArray, List.set_cons_zero, List.set_cons_succ])
          first | (refine plan_quiet nth7 rfl ?_; intro KP hKP; go_big_quiet_op; go_big_quiet_on) | (refine plan_skip_q nth7 rfl rfl ?_; simp only [Act.put, List.setIfInBounds_toArray, List.set_cons_zero, List.set_cons_succ])
          first | (refine plan_quiet nth8 rfl ?_; intro KP hKP; go_big_quiet_op; go_big_quiet_on) | (refine plan_skip_q nth8 rfl rfl ?_; simp only [Act.put, List.setIfInBounds_toArray, List.set_cons_zero, List.set_cons_succ])
          first | (refine plan_quiet nth9 rfl ?_; intro KP hKP; go_big_quiet_op; go_big_quiet_on) | (refine plan_skip_q nth9 rfl rfl ?_; simp only [Act.put, List.setIfInBounds_toArray, List.set_cons_zero, List.set_cons_succ])
          first | (refine plan_loud nth3 rfl ?_; intro KP hKP; go_wp2_with (first | (go_at_call 135; first | ((with_reducible refine (Calls.later (hTU.out _)).mono ?_); rintro e w' ⟨rfl, xl, rfl⟩; have hsz := xl.bel.size; (try simp only [World.size_alloc, World.size_setCell, World.size_drew] at hsz); (try have hz0 : w.heap.size < xl.w.heap.size := (by omega)); (try have hz1 : w.heap.size + 1 < xl.w.heap.size := (by omega)); (try have hz2 : w.heap.size + 1 + 1 < xl.w.heap.size := (by omega))) | ((with_reducible refine (hTU.out _).mono ?_); rintro e w' ⟨rfl, xl, rfl⟩; have hsz := xl.bel.size; (try simp only [World.size_alloc, World.size_setCell, World.size_drew] at hsz); (try have hz0 : w.heap.size < xl.w.heap.size := (by omega)); (try have hz1 : w.heap.size + 1 < xl.w.heap.size := (by omega)); (try have hz2 : w.heap.size + 1 + 1 < xl.w.heap.size := (by omega))))); refine hKP _ _ (LaterC.mk bb) ?_; clear hKP KP) | (refine plan_skip nth3 rfl rfl (LaterC.mk bb) ?_; simp only [Act.put, List.setIfInBounds_toArray, List.set_cons_zero, List.set_cons_succ])
          first | (refine plan_quiet nth4 rfl ?_; intro KP hKP; go_big_quiet_op; go_big_quiet_on) | (refine plan_skip_q nth4 rfl rfl ?_; simp only [Act.put, List.setIfInBounds_toArray, List.set_cons_zero, List.set_cons_succ])
          first | (refine plan_quiet nth10 rfl ?_; intro KP hKP; go_big_quiet_op; go_big_quiet_on) | (refine plan_skip_q nth10 rfl rfl ?_; simp only [Act.put, List.setIfInBounds_toArray, List.set_cons_zero, List.set_cons_succ])
          refine plan_nil ?_
          go_wp2_with fail
          go_roundw
          case rel =>
            refine ⟨k + 1, by omega, by go_num, by rw [X.out], Y.out, LaterC.mk ?_⟩
            (exact bb)
          case measure => first | (simp [intOf]; done) | (simp [intOf]; omega) | omega
        · have X := Lib.hid (show sideTo L p (k + 1) = -s by rw [hsF (by rw [hfl, hu, hv, hab, ht]; rfl)])
          clear hse hsF hsK hfl
          go_wp2_with fail
          with_reducible refine (hC1.out _ _ (by omega) (hr.out.bel bb)).mono ?_
          rintro e w' ⟨rfl, y1, rfl⟩
          have hsy1 := y1.bel.size
          (try simp only [World.size_alloc, World.size_setCell, World.size_drew] at hsy1)
          have lt_w_z_w : w.heap.size < z.w.heap.size := (by omega)
          have lt_w_y1_w : w.heap.size < y1.w.heap.size := (by omega)
          have lt_z_w_y1_w : z.w.heap.size < y1.w.heap.size := (by omega)
          go_wp2_with fail
          with_reducible refine (hON.out _).mono ?_
          rintro e w' ⟨rfl, y2, rfl⟩
          have hsy2 := y2.bel.size
          (try simp only [World.size_alloc, World.size_setCell, World.size_drew] at hsy2)
          have lt_w_z_w : w.heap.size < z.w.heap.size := (by omega)
          have lt_w_y1_w : w.heap.size < y1.w.heap.size := (by omega)
          have lt_w_y2_w : w.heap.size < y2.w.heap.size := (by omega)
          have lt_z_w_y1_w : z.w.heap.size < y1.w.heap.size := (by omega)
          have lt_z_w_y2_w : z.w.heap.size < y2.w.heap.size := (by omega)
          have lt_y1_w_y2_w : y1.w.heap.size < y2.w.heap.size := (by omega)
          go_wp2_with fail
          refine wp_region_plan [(0, true), (1, true), (2, true), (5, true), (6, true), (7, true), (8, true), (9, true), (3, false), (4, true), (10, true)] (C := LaterC _) (by kernel_rfl) (by kernel_rfl) (by kernel_rfl) rfl (fun _ _ d _ _ h => by cases d <;> exact h) (LaterC.mk ((Below.refl _ _).drew)) ?_
          first | (refine plan_quiet nth0 rfl ?_; intro KP hKP; go_big_quiet_op; go_big_quiet_on) | (refine plan_skip_q nth0 rfl rfl ?_; simp only [Act.put, List.setIfInBounds_toArray, List.set_cons_zero, List.set_cons_succ])
          first | (refine plan_quiet nth1 rfl ?_; intro KP hKP; go_big_quiet_op; go_big_quiet_on) | (refine plan_skip_q nth1 rfl rfl ?_; simp only [Act.put, List.setIfInBounds_toArray, List.set_cons_zero, List.set_cons_succ])
          first | (refine plan_quiet nth2 rfl ?_; intro KP hKP; go_big_quiet_op; go_big_quiet_on) | (refine plan_skip_q nth2 rfl rfl ?_; simp only [Act.put, List.setIfInBounds_toArray, List.set_cons_zero, List.set_cons_succ])
          first | (refine plan_quiet nth5 rfl ?_; intro KP hKP; go_big_quiet_op; go_big_quiet_on) | (refine plan_skip_q nth5 rfl rfl ?_; simp only [Act.put, List.setIfInBounds_toArray, List.set_cons_zero, List.set_cons_succ])
          first | (refine plan_quiet nth6 rfl ?_; intro KP hKP; go_big_quiet_op; go_big_quiet_on) | (refine plan_skip_q nth6 rfl rfl ?_; simp only [Act.put, List.setIfInBounds_toArray, List.set_cons_zero, List.set_cons_succ])
          first | (refine plan_quiet nth7 rfl ?_; intro KP hKP; go_big_quiet_op; go_big_quiet_on) | (refine plan_skip_q nth7 rfl rfl ?_; simp only [Act.put, List.setIfInBounds_toArray, List.set_cons_zero, List.set_cons_succ])
          first | (refine plan_quiet nth8 rfl ?_; intro KP hKP; go_big_quiet_op; go_big_quiet_on) | (refine plan_skip_q nth8 rfl rfl ?_; simp only [Act.put, List.setIfInBounds_toArray, List.set_cons_zero, List.set_cons_succ])
          first | (refine plan_quiet nth9 rfl ?_; intro KP hKP; go_big_quiet_op; go_big_quiet_on) | (refine plan_skip_q nth9 rfl rfl ?_; simp only [Act.put, List.setIfInBounds_toArray, List.set_cons_zero, List.set_cons_succ])
          first | (refine plan_loud nth3 rfl ?_; intro KP hKP; go_wp2_with (first | (go_at_call 135; first | ((with_reducible refine (Calls.later (hTU.out _)).mono ?_); rintro e w' ⟨rfl, xl, rfl⟩; have hsz := xl.bel.size; (try simp only [World.size_alloc, World.size_setCell, World.size_drew] at hsz); (try have hz0 : w.heap.size < xl.w.heap.size := (by omega)); (try have hz1 : w.heap.size + 1 < xl.w.heap.size := (by omega)); (try have hz2 : w.heap.size + 1 + 1 < xl.w.heap.size := (by omega))) | ((with_reducible refine (hTU.out _).mono ?_); rintro e w' ⟨rfl, xl, rfl⟩; have hsz := xl.bel.size; (try simp only [World.size_alloc, World.size_setCell, World.size_drew] at hsz); (try have hz0 : w.heap.size < xl.w.heap.size := (by omega)); (try have hz1 : w.heap.size + 1 < xl.w.heap.size := (by omega)); (try have hz2 : w.heap.size + 1 + 1 < xl.w.heap.size := (by omega))))); refine hKP _ _ (LaterC.mk bb) ?_; clear hKP KP) | (refine plan_skip nth3 rfl rfl (LaterC.mk bb) ?_; simp only [Act.put, List.setIfInBounds_toArray, List.set_cons_zero, List.set_cons_succ])
          first | (refine plan_quiet nth4 rfl ?_; intro KP hKP; go_big_quiet_op; go_big_quiet_on) | (refine plan_skip_q nth4 rfl rfl ?_; simp only [Act.put, List.setIfInBounds_toArray, List.set_cons_zero, List.set_cons_succ])
          first | (refine plan_quiet nth10 rfl ?_; intro KP hKP; go_big_quiet_op; go_big_quiet_on) | (refine plan_skip_q nth10 rfl rfl ?_; simp only [Act.put, List.setIfInBounds_toArray, List.set_cons_zero, List.set_cons_succ])
          refine plan_nil ?_
          go_wp2_with fail
          go_roundw
          case rel =>
            refine ⟨k + 1, by omega, by go_num, by rw [X.out], Y.out, LaterC.mk ?_⟩
            (exact bb)
          case measure => first | (simp [intOf]; done) | (simp [intOf]; omega) | omega
      · have hab : decide (A.y < B.y) = false := by
          have h1 := hu
          have h2 := hv
          simp at h1 h2 ⊢
          omega
        cases ht : decide (0 < t)
        · have X := Lib.hid (show sideTo L p (k + 1) = -s by rw [hsF (by rw [hfl, hu, hv, hab, ht]; rfl)])
          clear hse hsF hsK hfl
          go_wp2_with fail
          with_reducible refine (hC1.out _ _ (by omega) (hr.out.bel bb)).mono ?_
          rintro e w' ⟨rfl, y1, rfl⟩
          have hsy1 := y1.bel.size
          (try simp only [World.size_alloc, World.size_setCell, World.size_drew] at hsy1)
          have lt_w_z_w : w.heap.size < z.w.heap.size := (by omega)
          have lt_w_y1_w : w.heap.size < y1.w.heap.size := (by omega)
          have lt_z_w_y1_w : z.w.heap.size < y1.w.heap.size := (by omega)
          go_wp2_with fail
          with_reducible refine (hON.out _).mono ?_
          rintro e w' ⟨rfl, y2, rfl⟩
          have hsy2 := y2.bel.size
          (try simp only [World.size_alloc, World.size_setCell, World.size_drew] at hsy2)
          have lt_w_z_w : w.heap.size < z.w.heap.size := (by omega)
          have lt_w_y1_w : w.heap.size < y1.w.heap.size := (by omega)
          have lt_w_y2_w : w.heap.size < y2.w.heap.size := (by omega)
          have lt_z_w_y1_w : z.w.heap.size < y1.w.heap.size := (by omega)
          have lt_z_w_y2_w : z.w.heap.size < y2.w.heap.size := (by omega)
          have lt_y1_w_y2_w : y1.w.heap.size < y2.w.heap.size := (by omega)
          go_wp2_with fail
          refine wp_region_plan [(0, true), (1, true), (2, true), (5, true), (6, true), (7, true), (8, true), (9, true), (3, false), (4, true), (10, true)] (C := LaterC _) (by kernel_rfl) (by kernel_rfl) (by kernel_rfl) rfl (fun _ _ d _ _ h => by cases d <;> exact h) (LaterC.mk ((Below.refl _ _).drew)) ?_
          first | (refine plan_quiet nth0 rfl ?_; intro KP hKP; go_big_quiet_op; go_big_quiet_on) | (refine plan_skip_q nth0 rfl rfl ?_; simp only [Act.put, List.setIfInBounds_toArray, List.set_cons_zero, List.set_cons_succ])
          first | (refine plan_quiet nth1 rfl ?_; intro KP hKP; go_big_quiet_op; go_big_quiet_on) | (refine plan_skip_q nth1 rfl rfl ?_; simp only [Act.put, List.setIfInBounds_toArray, List.set_cons_zero, List.set_cons_succ])
          first | (refine plan_quiet nth2 rfl ?_; intro KP hKP; go_big_quiet_op; go_big_quiet_on) | (refine plan_skip_q nth2 rfl rfl ?_; simp only [Act.put, List.setIfInBounds_toArray, List.set_cons_zero, List.set_cons_succ])
          first | (refine plan_quiet nth5 rfl ?_; intro KP hKP; go_big_quiet_op; go_big_quiet_on) | (refine plan_skip_q nth5 rfl rfl ?_; simp only [Act.put, List.setIfInBounds_toArray, List.set_cons_zero, List.set_cons_succ])
          first | (refine plan_quiet nth6 rfl ?_; intro KP hKP; go_big_quiet_op; go_big_quiet_on) | (refine plan_skip_q nth6 rfl rfl ?_; simp only [Act.put, List.setIfInBounds_toArray, List.set_cons_zero, List.set_cons_succ])
          first | (refine plan_quiet nth7 rfl ?_; intro KP hKP; go_big_quiet_op; go_big_quiet_on) | (refine plan_skip_q nth7 rfl rfl ?_; simp only [Act.put, List.setIfInBounds_toArray, List.set_cons_zero, List.set_cons_succ])
          first | (refine plan_quiet nth8 rfl ?_; intro KP hKP; go_big_quiet_op; go_big_quiet_on) | (refine plan_skip_q nth8 rfl rfl ?_; simp only [Act.put, List.setIfInBounds_toArray, List.set_cons_zero, List.set_cons_succ])
          first | (refine plan_quiet nth9 rfl ?_; intro KP hKP; go_big_quiet_op; go_big_quiet_on) | (refine plan_skip_q nth9 rfl rfl ?_; simp only [Act.put, List.setIfInBounds_toArray, List.set_cons_zero, List.set_cons_succ])
          first | (refine plan_loud nth3 rfl ?_; intro KP hKP; go_wp2_with (first | (go_at_call 135; first | ((with_reducible refine (Calls.later (hTU.out _)).mono ?_); rintro e w' ⟨rfl, xl, rfl⟩; have hsz := xl.bel.size; (try simp only [World.size_alloc, World.size_setCell, World.size_drew] at hsz); (try have hz0 : w.heap.size < xl.w.heap.size := (by omega)); (try have hz1 : w.heap.size + 1 < xl.w.heap.size := (by omega)); (try have hz2 : w.heap.size + 1 + 1 < xl.w.heap.size := (by omega))) | ((with_reducible refine (hTU.out _).mono ?_); rintro e w' ⟨rfl, xl, rfl⟩; have hsz := xl.bel.size; (try simp only [World.size_alloc, World.size_setCell, World.size_drew] at hsz); (try have hz0 : w.heap.size < xl.w.heap.size := (by omega)); (try have hz1 : w.heap.size + 1 < xl.w.heap.size := (by omega)); (try have hz2 : w.heap.size + 1 + 1 < xl.w.heap.size := (by omega))))); refine hKP _ _ (LaterC.mk bb) ?_; clear hKP KP) | (refine plan_skip nth3 rfl rfl (LaterC.mk bb) ?_; simp only [Act.put, List.setIfInBounds_toArray, List.set_cons_zero, List.set_cons_succ])
          first | (refine plan_quiet nth4 rfl ?_; intro KP hKP; go_big_quiet_op; go_big_quiet_on) | (refine plan_skip_q nth4 rfl rfl ?_; simp only [Act.put, List.setIfInBounds_toArray, List.set_cons_zero, List.set_cons_succ])
          first | (refine plan_quiet nth10 rfl ?_; intro KP hKP; go_big_quiet_op; go_big_quiet_on) | (refine plan_skip_q nth10 rfl rfl ?_; simp only [Act.put, List.setIfInBounds_toArray, List.set_cons_zero, List.set_cons_succ])
          refine plan_nil ?_
          go_wp2_with fail
          go_roundw
          case rel =>
            refine ⟨k + 1, by omega, by go_num, by rw [X.out], Y.out, LaterC.mk ?_⟩
            (exact bb)
          case measure => first | (simp [intOf]; done) | (simp [intOf]; omega) | omega
        · have X := Lib.hid (show sideTo L p (k + 1) = s by rw [hsK (by rw [hfl, hu, hv, hab, ht]; rfl)])
          clear hse hsF hsK hfl
          go_wp2_with fail
          with_reducible refine (hC1.out _ _ (by omega) (hr.out.bel bb)).mono ?_
          rintro e w' ⟨rfl, y1, rfl⟩
          have hsy1 := y1.bel.size
          (try simp only [World.size_alloc, World.size_setCell, World.size_drew] at hsy1)
          have lt_w_z_w : w.heap.size < z.w.heap.size := (by omega)
          have lt_w_y1_w : w.heap.size < y1.w.heap.size := (by omega)
          have lt_z_w_y1_w : z.w.heap.size < y1.w.heap.size := (by omega)
          go_wp2_with fail
          with_reducible refine (hON.out _).mono ?_
          rintro e w' ⟨rfl, y2, rfl⟩
          have hsy2 := y2.bel.size
          (try simp only [World.size_alloc, World.size_setCell, World.size_drew] at hsy2)
          have lt_w_z_w : w.heap.size < z.w.heap.size := (by omega)
          have lt_w_y1_w : w.heap.size < y1.w.heap.size := (by omega)
          have lt_w_y2_w : w.heap.size < y2.w.heap.size := (by omega)
          have lt_z_w_y1_w : z.w.heap.size < y1.w.heap.size := (by omega)
          have lt_z_w_y2_w : z.w.heap.size < y2.w.heap.size := (by omega)
          have lt_y1_w_y2_w : y1.w.heap.size < y2.w.heap.size := (by omega)
          go_wp2_with fail
          refine wp_region_plan [(0, true), (1, true), (2, true), (5, true), (6, true), (7, true), (8, true), (9, true), (3, false), (4, true), (10, true)] (C := LaterC _) (by kernel_rfl) (by kernel_rfl) (by kernel_rfl) rfl (fun _ _ d _ _ h => by cases d <;> exact h) (LaterC.mk ((Below.refl _ _).drew)) ?_
          first | (refine plan_quiet nth0 rfl ?_; intro KP hKP; go_big_quiet_op; go_big_quiet_on) | (refine plan_skip_q nth0 rfl rfl ?_; simp only [Act.put, List.setIfInBounds_toArray, List.set_cons_zero, List.set_cons_succ])
          first | (refine plan_quiet nth1 rfl ?_; intro KP hKP; go_big_quiet_op; go_big_quiet_on) | (refine plan_skip_q nth1 rfl rfl ?_; simp only [Act.put, List.setIfInBounds_toArray, List.set_cons_zero, List.set_cons_succ])
          first | (refine plan_quiet nth2 rfl ?_; intro KP hKP; go_big_quiet_op; go_big_quiet_on) | (refine plan_skip_q nth2 rfl rfl ?_; simp only [Act.put, List.setIfInBounds_toArray, List.set_cons_zero, List.set_cons_succ])
          first | (refine plan_quiet nth5 rfl ?_; intro KP hKP; go_big_quiet_op; go_big_quiet_on) | (refine plan_skip_q nth5 rfl rfl ?_; simp only [Act.put, List.setIfInBounds_toArray, List.set_cons_zero, List.set_cons_succ])
          first | (refine plan_quiet nth6 rfl ?_; intro KP hKP; go_big_quiet_op; go_big_quiet_on) | (refine plan_skip_q nth6 rfl rfl ?_; simp only [Act.put, List.setIfInBounds_toArray, List.set_cons_zero, List.set_cons_succ])
          first | (refine plan_quiet nth7 rfl ?_; intro KP hKP; go_big_quiet_op; go_big_quiet_on) | (refine plan_skip_q nth7 rfl rfl ?_; simp only [Act.put, List.setIfInBounds_toArray, List.set_cons_zero, List.set_cons_succ])
          first | (refine plan_quiet nth8 rfl ?_; intro KP hKP; go_big_quiet_op; go_big_quiet_on) | (refine plan_skip_q nth8 rfl rfl ?_; simp only [Act.put, List.setIfInBounds_toArray, List.set_cons_zero, List.set_cons_succ])
          first | (refine plan_quiet nth9 rfl ?_; intro KP hKP; go_big_quiet_op; go_big_quiet_on) | (refine plan_skip_q nth9 rfl rfl ?_; simp only [Act.put, List.setIfInBounds_toArray, List.set_cons_zero, List.set_cons_succ])
          first | (refine plan_loud nth3 rfl ?_; intro KP hKP; go_wp2_with (first | (go_at_call 135; first | ((with_reducible refine (Calls.later (hTU.out _)).mono ?_); rintro e w' ⟨rfl, xl, rfl⟩; have hsz := xl.bel.size; (try simp only [World.size_alloc, World.size_setCell, World.size_drew] at hsz); (try have hz0 : w.heap.size < xl.w.heap.size := (by omega)); (try have hz1 : w.heap.size + 1 < xl.w.heap.size := (by omega)); (try have hz2 : w.heap.size + 1 + 1 < xl.w.heap.size := (by omega))) | ((with_reducible refine (hTU.out _).mono ?_); rintro e w' ⟨rfl, xl, rfl⟩; have hsz := xl.bel.size; (try simp only [World.size_alloc, World.size_setCell, World.size_drew] at hsz); (try have hz0 : w.heap.size < xl.w.heap.size := (by omega)); (try have hz1 : w.heap.size + 1 < xl.w.heap.size := (by omega)); (try have hz2 : w.heap.size + 1 + 1 < xl.w.heap.size := (by omega))))); refine hKP _ _ (LaterC.mk bb) ?_; clear hKP KP) | (refine plan_skip nth3 rfl rfl (LaterC.mk bb) ?_; simp only [Act.put, List.setIfInBounds_toArray, List.set_cons_zero, List.set_cons_succ])
          first | (refine plan_quiet nth4 rfl ?_; intro KP hKP; go_big_quiet_op; go_big_quiet_on) | (refine plan_skip_q nth4 rfl rfl ?_; simp only [Act.put, List.setIfInBounds_toArray, List.set_cons_zero, List.set_cons_succ])
          first | (refine plan_quiet nth10 rfl ?_; intro KP hKP; go_big_quiet_op; go_big_quiet_on) | (refine plan_skip_q nth10 rfl rfl ?_; simp only [Act.put, List.setIfInBounds_toArray, List.set_cons_zero, List.set_cons_succ])
          refine plan_nil ?_
          go_wp2_with fail
          go_roundw
          case rel =>
            refine ⟨k + 1, by omega, by go_num, by rw [X.out], Y.out, LaterC.mk ?_⟩
            (exact bb)
          case measure => first | (simp [intOf]; done) | (simp [intOf]; omega) | omega
      · have X := Lib.hid (show sideTo L p (k + 1) = s by rw [hsK (by rw [hfl, hu, hv]; rfl)])
        clear hse hsF hsK hfl
        go_wp2_with fail
        with_reducible refine (hC1.out _ _ (by omega) (hr.out.bel bb)).mono ?_
        rintro e w' ⟨rfl, y1, rfl⟩
        have hsy1 := y1.bel.size
        (try simp only [World.size_alloc, World.size_setCell, World.size_drew] at hsy1)
        have lt_w_z_w : w.heap.size < z.w.heap.size := (by omega)
        have lt_w_y1_w : w.heap.size < y1.w.heap.size := (by omega)
        have lt_z_w_y1_w : z.w.heap.size < y1.w.heap.size := (by omega)
        go_wp2_with fail
        with_reducible refine (hON.out _).mono ?_
        rintro e w' ⟨rfl, y2, rfl⟩
        have hsy2 := y2.bel.size
        (try simp only [World.size_alloc, World.size_setCell, World.size_drew] at hsy2)
        have lt_w_z_w : w.heap.size < z.w.heap.size := (by omega)
        have lt_w_y1_w : w.heap.size < y1.w.heap.size := (by omega)
        have lt_w_y2_w : w.heap.size < y2.w.heap.size := (by omega)
        have lt_z_w_y1_w : z.w.heap.size < y1.w.heap.size := (by omega)
        have lt_z_w_y2_w : z.w.heap.size < y2.w.heap.size := (by omega)
        have lt_y1_w_y2_w : y1.w.heap.size < y2.w.heap.size := (by omega)
        go_wp2_with fail
        go_roundw
        case rel =>
          refine ⟨k + 1, by omega, by go_num, by rw [X.out], Y.out, LaterC.mk ?_⟩
          (exact bb)
        case measure => first | (simp [intOf]; done) | (simp [intOf]; omega) | omega
    · obtain rfl : k = L.length := by omega
      have X := Lib.hid (sideZ_off hall.out)
      go_wp2_with fail
      go_ret
      exact .mk (by rw [X.out]; rfl) bb
end Go.Proofs.YtklcaphkfdlipaaGreatDoor

/- The normal ring, both ways; its edges. -/
set_option linter.unusedSimpArgs false
set_option linter.unusedVariables false
namespace Go.Proofs.YtklcaphkfdlipaaGreatDoor
open Go.RowKit
theorem bool_eq {a b : Bool} (h : a = true ↔ b = true) : a = b := by cases a <;> cases b <;> simp_all
def lexB (p q : Pt) : Bool := decide (p.x < q.x) || (decide (p.x = q.x) && decide (p.y < q.y))
theorem lexB_iff {p q : Pt} : lexB p q = true ↔ p.x < q.x ∨ (p.x = q.x ∧ p.y < q.y) := by simp [lexB]
/-- The index of the first corner, in order of x and y, among so many. -/
def bestTo (L : List Pt) : Nat → Nat
  | 0 => 0
  | k + 1 => if lexB (cor L k) (cor L (bestTo L k)) then k else bestTo L k
theorem bestTo_le (L : List Pt) : ∀ k, bestTo L k ≤ k - 1
  | 0 => Nat.le_refl _
  | k + 1 => by
    unfold bestTo
    split
    · omega
    · have := bestTo_le L k; omega
theorem bestTo_min (L : List Pt) : ∀ k j, j < k → lexB (cor L j) (cor L (bestTo L k)) = false
  | 0, j, h => absurd h (by omega)
  | k + 1, j, h => by
    have ih := bestTo_min L k
    unfold bestTo
    split
    · rename_i hl
      rw [Bool.eq_false_iff]
      intro h2
      rcases (show j < k ∨ j = k by omega) with h3 | h3
      · have h4 := ih j h3
        rw [Bool.eq_false_iff] at h4
        rw [ne_eq, lexB_iff] at h4
        rw [lexB_iff] at h2 hl
        omega
      · subst h3
        rw [lexB_iff] at h2
        omega
    · rename_i hl
      rcases (show j < k ∨ j = k by omega) with h3 | h3
      · exact ih j h3
      · subst h3
        simpa using hl
/-- The normal ring of the reference. -/
def nrm (L : List Pt) : List Pt := (List.range L.length).map fun i => if 0 < areaZ L then cor L (bestTo L L.length + i) else cor L (bestTo L L.length + L.length - i)
theorem nrm_len (L : List Pt) : (nrm L).length = L.length := by simp [nrm]
/-- The ring turned to the left. -/
def lft (L : List Pt) : List Pt := if areaZ L < 0 then L.reverse else L
theorem lft_len (L : List Pt) : (lft L).length = L.length := by unfold lft; split <;> simp
theorem cor_get {L : List Pt} {i : Nat} (h : i < L.length) : cor L i = L[i] := by
  unfold cor
  rw [Nat.mod_eq_of_lt h, List.getD_eq_getElem?_getD, List.getElem?_eq_getElem h]
  rfl
theorem cor_per' (L : List Pt) (i : Nat) : cor L (i + L.length) = cor L i := by unfold cor; rw [Nat.add_mod_right]
theorem cor_rev {L : List Pt} {i : Nat} (h : i < L.length) : cor L.reverse i = cor L (L.length - 1 - i) := by
  rw [cor_get (by simpa using h), cor_get (by omega), List.getElem_reverse]
theorem lft_ends {L : List Pt} {f : Nat} (hf : f < (lft L).length) {i : Nat} (hi : i < L.length) : ((lft L).drop f ++ (lft L).take f)[i]? = some (cor (lft L) (f + i)) := by
  have hl := lft_len L
  by_cases h : f + i < L.length
  · rw [List.getElem?_append_left (by rw [List.length_drop]; omega), List.getElem?_drop, cor_get (by omega), List.getElem?_eq_getElem (by omega)]
  · rw [List.getElem?_append_right (by rw [List.length_drop]; omega), List.length_drop, List.getElem?_take_of_lt (by omega)]
    have e : cor (lft L) (f + i) = cor (lft L) (i - (L.length - f)) := by
      have := cor_per' (lft L) (i - (L.length - f))
      rw [hl] at this
      rw [← this]
      congr 1
      omega
    rw [e, cor_get (by omega), List.getElem?_eq_getElem (by omega)]
    simp only [hl]
theorem nrm_eq {L : List Pt} (h3 : 3 ≤ L.length) (hA : areaZ L ≠ 0) (hd : ∀ i j, j < i → i < L.length → cor L i ≠ cor L j) : (lft L).drop (bestTo (lft L) (lft L).length) ++ (lft L).take (bestTo (lft L) (lft L).length) = nrm L := by
  have hl := lft_len L
  have hf := bestTo_le (lft L) (lft L).length
  refine List.ext_getElem? fun i => ?_
  by_cases hi : i < L.length
  · rw [lft_ends (by omega) hi]
    unfold nrm
    rw [List.getElem?_map, List.getElem?_range hi]
    simp only [Option.map_some, Option.some.injEq]
    by_cases hp : 0 < areaZ L
    · rw [if_pos hp]
      have e : lft L = L := by unfold lft; rw [if_neg (by omega)]
      rw [e]
    · rw [if_neg hp]
      have e : lft L = L.reverse := by unfold lft; rw [if_pos (by omega)]
      have hb0 := bestTo_le L L.length
      have hm := bestTo_min L L.length
      have hm2 := bestTo_min (lft L) (lft L).length
      rw [e] at hf hl hm2 ⊢
      rw [List.length_reverse] at hf hm2 ⊢
      generalize bestTo L.reverse L.length = f at hf hm2 ⊢
      generalize bestTo L L.length = b at hb0 hm ⊢
      have hfb : L.length - 1 - f = b := by
        have h1 := hm (L.length - 1 - f) (by omega)
        have h2 := hm2 (L.length - 1 - b) (by omega)
        rw [cor_rev (by omega), cor_rev (by omega), show L.length - 1 - (L.length - 1 - b) = b by omega] at h2
        have h5 : cor L (L.length - 1 - f) = cor L b := by
          rw [Bool.eq_false_iff, ne_eq, lexB_iff] at h1 h2
          exact Pt.ext' (by omega) (by omega)
        rcases Nat.lt_trichotomy (L.length - 1 - f) b with h6 | h6 | h6
        · exact absurd h5.symm (hd _ _ h6 (by omega))
        · exact h6
        · exact absurd h5 (hd _ _ h6 (by omega))
      subst hfb
      by_cases h : f + i < L.length
      · rw [cor_rev h]
        have := cor_per' L (L.length - 1 - (f + i))
        rw [← this]
        congr 1
        omega
      · have e2 : cor L.reverse (f + i) = cor L.reverse (f + i - L.length) := by
          have := cor_per' L.reverse (f + i - L.length)
          rw [List.length_reverse] at this
          rw [← this]
          congr 1
          omega
        rw [e2, cor_rev (by omega)]
        congr 1
        omega
  · rw [List.getElem?_eq_none (by rw [List.length_append, List.length_drop, List.length_take]; omega), List.getElem?_eq_none (by rw [nrm_len]; omega)]
/-- The edges of the normal ring go around the ring, one way or the other. -/
theorem nrm_edge {L : List Pt} (h3 : 3 ≤ L.length) (i : Nat) (hi : i < L.length) : ∃ k, k < L.length ∧ ((cor (nrm L) i = cor L k ∧ cor (nrm L) (i + 1) = cor L (k + 1)) ∨ (cor (nrm L) i = cor L (k + 1) ∧ cor (nrm L) (i + 1) = cor L k)) := by
  have hb := bestTo_le L L.length
  have hc : ∀ j, j < L.length → cor (nrm L) j = if 0 < areaZ L then cor L (bestTo L L.length + j) else cor L (bestTo L L.length + L.length - j) := fun j hj => by
    rw [cor_get (by rw [nrm_len]; exact hj)]
    simp [nrm]
  have hmod : ∀ m, cor L m = cor L (m % L.length) := fun m => by unfold cor; rw [Nat.mod_mod]
  have hmod1 : ∀ m, cor L (m + 1) = cor L (m % L.length + 1) := fun m => by unfold cor; rw [Nat.add_mod m 1, Nat.add_mod (m % L.length) 1, Nat.mod_mod]
  have h1 : cor (nrm L) (i + 1) = if 0 < areaZ L then cor L (bestTo L L.length + (i + 1)) else cor L (bestTo L L.length + L.length - (i + 1)) := by
    rcases (show i + 1 < L.length ∨ i + 1 = L.length by omega) with h | h
    · exact hc _ h
    · have e : cor (nrm L) (i + 1) = cor (nrm L) 0 := by
        have := cor_per' (nrm L) 0
        rw [nrm_len, Nat.zero_add] at this
        rw [h, this]
      rw [e, hc 0 (by omega), h]
      by_cases hp : 0 < areaZ L
      · rw [if_pos hp, if_pos hp, Nat.add_zero, cor_per']
      · rw [if_neg hp, if_neg hp, Nat.sub_zero, cor_per', Nat.add_sub_cancel]
  rw [hc i hi, h1]
  by_cases hp : 0 < areaZ L
  · rw [if_pos hp, if_pos hp]
    refine ⟨(bestTo L L.length + i) % L.length, Nat.mod_lt _ (by omega), .inl ⟨hmod _, ?_⟩⟩
    rw [← hmod1]
    rfl
  · rw [if_neg hp, if_neg hp]
    refine ⟨(bestTo L L.length + L.length - (i + 1)) % L.length, Nat.mod_lt _ (by omega), .inr ⟨?_, hmod _⟩⟩
    rw [← hmod1]
    congr 1
    omega
theorem edge_nrm {L : List Pt} (h3 : 3 ≤ L.length) (k : Nat) (hk : k < L.length) : ∃ i, i < L.length ∧ ((cor (nrm L) i = cor L k ∧ cor (nrm L) (i + 1) = cor L (k + 1)) ∨ (cor (nrm L) i = cor L (k + 1) ∧ cor (nrm L) (i + 1) = cor L k)) := by
  have hb := bestTo_le L L.length
  have hc : ∀ j, j < L.length → cor (nrm L) j = if 0 < areaZ L then cor L (bestTo L L.length + j) else cor L (bestTo L L.length + L.length - j) := fun j hj => by
    rw [cor_get (by rw [nrm_len]; exact hj)]
    simp [nrm]
  have h1 : ∀ i, i < L.length → cor (nrm L) (i + 1) = if 0 < areaZ L then cor L (bestTo L L.length + (i + 1)) else cor L (bestTo L L.length + L.length - (i + 1)) := fun i hi => by
    rcases (show i + 1 < L.length ∨ i + 1 = L.length by omega) with h | h
    · exact hc _ h
    · have e : cor (nrm L) (i + 1) = cor (nrm L) 0 := by
        have := cor_per' (nrm L) 0
        rw [nrm_len, Nat.zero_add] at this
        rw [h, this]
      rw [e, hc 0 (by omega), h]
      by_cases hp : 0 < areaZ L
      · rw [if_pos hp, if_pos hp, Nat.add_zero, cor_per']
      · rw [if_neg hp, if_neg hp, Nat.sub_zero, cor_per', Nat.add_sub_cancel]
  by_cases hp : 0 < areaZ L
  · rcases (show bestTo L L.length ≤ k ∨ k < bestTo L L.length by omega) with h | h
    · refine ⟨k - bestTo L L.length, by omega, .inl ?_⟩
      rw [hc _ (by omega), h1 _ (by omega), if_pos hp, if_pos hp, show bestTo L L.length + (k - bestTo L L.length) = k by omega, show bestTo L L.length + (k - bestTo L L.length + 1) = k + 1 by omega]
      exact ⟨rfl, rfl⟩
    · refine ⟨k + L.length - bestTo L L.length, by omega, .inl ?_⟩
      rw [hc _ (by omega), h1 _ (by omega), if_pos hp, if_pos hp, show bestTo L L.length + (k + L.length - bestTo L L.length) = k + L.length by omega, show bestTo L L.length + (k + L.length - bestTo L L.length + 1) = k + 1 + L.length by omega, cor_per', cor_per']
      exact ⟨rfl, rfl⟩
  · rcases (show k + 1 ≤ bestTo L L.length ∨ bestTo L L.length < k + 1 by omega) with h | h
    · refine ⟨bestTo L L.length - (k + 1), by omega, .inr ?_⟩
      rw [hc _ (by omega), h1 _ (by omega), if_neg hp, if_neg hp, show bestTo L L.length + L.length - (bestTo L L.length - (k + 1)) = k + 1 + L.length by omega, show bestTo L L.length + L.length - (bestTo L L.length - (k + 1) + 1) = k + L.length by omega, cor_per', cor_per']
      exact ⟨rfl, rfl⟩
    · refine ⟨bestTo L L.length + L.length - (k + 1), by omega, .inr ?_⟩
      rw [hc _ (by omega), h1 _ (by omega), if_neg hp, if_neg hp, show bestTo L L.length + L.length - (bestTo L L.length + L.length - (k + 1)) = k + 1 by omega, show bestTo L L.length + L.length - (bestTo L L.length + L.length - (k + 1) + 1) = k by omega]
      exact ⟨rfl, rfl⟩
end Go.Proofs.YtklcaphkfdlipaaGreatDoor

/- May two rings lie on a map together: both ways say the same. -/
set_option linter.unusedSimpArgs false
set_option linter.unusedVariables false
namespace Go.Proofs.YtklcaphkfdlipaaGreatDoor
open Go.RowKit
structure Ed where
  p : Pt
  q : Pt
def Ed.back (e : Ed) : Ed := ⟨e.q, e.p⟩
theorem isOn_comm (a b p : Pt) : isOnB a b p = isOnB b a p := by
  unfold isOnB
  have e : (turnZ a b p == 0) = (turnZ b a p == 0) := by
    refine bool_eq ?_
    rw [beq_iff_eq, beq_iff_eq]
    unfold turnZ
    grind
  rw [e, Int.min_comm a.x, Int.max_comm a.x, Int.min_comm a.y, Int.max_comm a.y]
theorem isOn_left (a b : Pt) : isOnB a b a = true := by
  unfold isOnB inB
  have : turnZ a b a = 0 := by unfold turnZ; grind
  rw [this]
  simp only [Bool.and_eq_true, beq_self_eq_true, decide_eq_true_eq, true_and]
  omega
theorem isOn_right (a b : Pt) : isOnB a b b = true := by rw [isOn_comm]; exact isOn_left b a
theorem cross_comm (a b c d : Pt) : crossB a b c d = crossB c d a b := by
  unfold crossB
  cases isOnB a b c <;> cases isOnB a b d <;> cases isOnB c d a <;> cases isOnB c d b <;> cases crossS a b c d <;> cases crossS c d a b <;> rfl
open Classical in
/-- May two edges of different rings lie so (the program's way)? -/
noncomputable def fitB (e f : Ed) : Bool :=
  if e.p = f.q ∧ e.q = f.p then true else if e.p = f.p ∧ e.q = f.q then false
  else if e.p = f.p then !isOnB e.p e.q f.q && !isOnB e.p f.q e.q
  else if e.p = f.q then !isOnB e.p e.q f.p && !isOnB e.p f.p e.q
  else if e.q = f.p then !isOnB e.q e.p f.q && !isOnB e.q f.q e.p
  else if e.q = f.q then !isOnB e.q e.p f.p && !isOnB e.q f.p e.p
  else !crossB e.p e.q f.p f.q
open Classical in
/-- The reference's way. -/
noncomputable def touchB (e f : Ed) : Bool :=
  if crossB e.p e.q f.p f.q = false then true
  else if e.p = f.q ∧ e.q = f.p then true else if e.p = f.p ∧ e.q = f.q then false
  else if e.p = f.p then !isOnB e.p e.q f.q && !isOnB f.p f.q e.q
  else if e.p = f.q then !isOnB e.p e.q f.p && !isOnB f.p f.q e.q
  else if e.q = f.p then !isOnB e.p e.q f.q && !isOnB f.p f.q e.p
  else if e.q = f.q then !isOnB e.p e.q f.p && !isOnB f.p f.q e.p
  else false
theorem cross_share {a b c d : Pt} (h : a = c ∨ a = d ∨ b = c ∨ b = d) : crossB a b c d = true := by
  unfold crossB
  rcases h with rfl | rfl | rfl | rfl
  · rw [isOn_left]; rfl
  · rw [isOn_left]; simp
  · rw [isOn_right]; rfl
  · rw [isOn_right]; simp
theorem fit_touch {e f : Ed} (he : e.p ≠ e.q) (hf : f.p ≠ f.q) : touchB e f = fitB f e := by
  obtain ⟨a, b⟩ := e
  obtain ⟨c, d⟩ := f
  simp only at he hf
  unfold touchB fitB
  simp only
  by_cases h1 : a = c
  · subst h1
    rw [if_neg (by rw [cross_share (.inl rfl)]; decide), if_neg (by rintro ⟨h, _⟩; exact hf h), if_neg (show ¬ (a = b ∧ d = a) from fun h => he h.1)]
    by_cases h2 : b = d
    · subst h2
      rw [if_pos ⟨rfl, rfl⟩, if_pos ⟨rfl, rfl⟩]
    · rw [if_neg (fun h => h2 h.2 : ¬ (a = a ∧ b = d)), if_neg (fun h => h2 h.2.symm : ¬ (a = a ∧ d = b)), if_pos rfl, if_pos rfl, Bool.and_comm]
  · by_cases h2 : a = d
    · subst h2
      rw [if_neg (by rw [cross_share (.inr (.inl rfl))]; decide)]
      by_cases h3 : b = c
      · subst h3
        rw [if_pos ⟨rfl, rfl⟩, if_pos ⟨rfl, rfl⟩]
      · rw [if_neg (fun h => h3 h.2), if_neg (fun h => h1 h.1), if_neg h1, if_pos rfl, if_neg (fun h => h3 h.1.symm), if_neg (fun h => h1 h.1.symm), if_neg (fun h => h1 h.symm), if_neg (fun h => h3 h.symm), if_pos rfl]
        rw [isOn_comm c a b, Bool.and_comm]
    · by_cases h3 : b = c
      · subst h3
        rw [if_neg (by rw [cross_share (.inr (.inr (.inl rfl)))]; decide), if_neg (fun h => h2 h.1), if_neg (fun h => h1 h.1), if_neg h1, if_neg h2, if_pos rfl, if_neg (fun h => h2 h.2.symm), if_neg (fun h => h1 h.1.symm), if_neg (fun h => h1 h.symm), if_pos rfl]
        rw [isOn_comm a b d, Bool.and_comm]
      · by_cases h4 : b = d
        · subst h4
          rw [if_neg (by rw [cross_share (.inr (.inr (.inr rfl)))]; decide), if_neg (fun h => h3 h.2), if_neg (fun h => h1 h.1), if_neg h1, if_neg h2, if_neg h3, if_pos rfl, if_neg (fun h => h3 h.1.symm), if_neg (fun h => h1 h.1.symm), if_neg (fun h => h1 h.symm), if_neg (fun h => h3 h.symm), if_neg (fun h => h2 h.symm), if_pos rfl]
          rw [isOn_comm a b c, isOn_comm c b a, Bool.and_comm]
        · rw [if_neg (fun h => h3 h.1.symm : ¬ (c = b ∧ d = a)), if_neg (fun h => h1 h.1.symm : ¬ (c = a ∧ d = b)), if_neg (fun h => h1 h.symm : ¬ c = a), if_neg (fun h => h3 h.symm : ¬ c = b), if_neg (fun h => h2 h.symm : ¬ d = a), if_neg (fun h => h4 h.symm : ¬ d = b), cross_comm c d a b]
          by_cases hx : crossB a b c d = false
          · rw [if_pos hx, hx]; rfl
          · rw [if_neg hx, if_neg (fun h => h2 h.1), if_neg (fun h => h1 h.1), if_neg h1, if_neg h2, if_neg h3, if_neg h4]
            have : crossB a b c d = true := by simpa using hx
            rw [this]; rfl
/-- The edges of a ring's normal ring. -/
def edg (L : List Pt) : List Ed := (List.range L.length).map fun i => ⟨cor (nrm L) i, cor (nrm L) (i + 1)⟩
theorem edg_len (L : List Pt) : (edg L).length = L.length := by simp [edg]
def dbl (L : List Pt) : List Pt := L.map fun p => ⟨2 * p.x, 2 * p.y⟩
def midIn (side : List Pt → Pt → Int) (L : List Pt) (e : Ed) : Bool := decide (0 < side (dbl L) ⟨e.p.x + e.q.x, e.p.y + e.q.y⟩)
theorem edg_mem {L : List Pt} {e : Ed} (h : e ∈ edg L) : ∃ i, i < L.length ∧ e = ⟨cor (nrm L) i, cor (nrm L) (i + 1)⟩ := by
  obtain ⟨i, hi, rfl⟩ := List.mem_map.1 h
  exact ⟨i, List.mem_range.1 hi, rfl⟩
/-- Edges of a ring have two ends. -/
theorem edg_ne {L : List Pt} (h3 : 3 ≤ L.length) (hd : ∀ i j, j < i → i < L.length → cor L i ≠ cor L j) {e : Ed} (he : e ∈ edg L) : e.p ≠ e.q := by
  obtain ⟨i, hi, rfl⟩ := edg_mem he
  have key : ∀ k, k < L.length → cor L k ≠ cor L (k + 1) := fun k hk h => by
    rcases (show k + 1 < L.length ∨ k + 1 = L.length by omega) with h1 | h1
    · exact hd (k + 1) k (by omega) h1 h.symm
    · have e0 := cor_per' L 0
      rw [Nat.zero_add] at e0
      rw [h1, e0] at h
      exact hd k 0 (by omega) hk h
  obtain ⟨k, hk, ⟨h1, h2⟩ | ⟨h1, h2⟩⟩ := nrm_edge h3 i hi
  · simp only; rw [h1, h2]; exact key k hk
  · simp only; rw [h1, h2]; exact (key k hk).symm
/-- Is the middle of an edge of `A` inside of `B` (the reference's way: the edges as they come)? -/
def anyMid (side : List Pt → Pt → Int) (A B : List Pt) : Bool := (List.range A.length).any fun i => midIn side B ⟨cor A i, cor A (i + 1)⟩
theorem mid_comm (side : List Pt → Pt → Int) (L : List Pt) (a b : Pt) : midIn side L ⟨a, b⟩ = midIn side L ⟨b, a⟩ := by
  unfold midIn
  rw [Int.add_comm a.x, Int.add_comm a.y]
theorem anyMid_edg (side : List Pt → Pt → Int) {A : List Pt} (h3 : 3 ≤ A.length) (B : List Pt) : (edg A).any (midIn side B) = anyMid side A B := by
  refine bool_eq ?_
  unfold anyMid
  rw [List.any_eq_true, List.any_eq_true]
  constructor
  · rintro ⟨e, he, hm⟩
    obtain ⟨i, hi, rfl⟩ := edg_mem he
    obtain ⟨k, hk, ⟨h1, h2⟩ | ⟨h1, h2⟩⟩ := nrm_edge h3 i hi
    · exact ⟨k, List.mem_range.2 hk, by rw [← h1, ← h2]; exact hm⟩
    · exact ⟨k, List.mem_range.2 hk, by rw [mid_comm, ← h1, ← h2]; exact hm⟩
  · rintro ⟨k, hk, hm⟩
    obtain ⟨i, hi, ⟨h1, h2⟩ | ⟨h1, h2⟩⟩ := edge_nrm h3 k (List.mem_range.1 hk)
    · exact ⟨_, List.mem_map.2 ⟨i, List.mem_range.2 hi, rfl⟩, by rw [h1, h2]; exact hm⟩
    · exact ⟨_, List.mem_map.2 ⟨i, List.mem_range.2 hi, rfl⟩, by rw [h1, h2, mid_comm]; exact hm⟩
/-- Can two rings be those of a map (the program's way)? -/
noncomputable def togB (side : List Pt → Pt → Int) (A B : List Pt) : Bool := (edg A).all fun e => !midIn side B e && (edg B).all fun f => fitB e f && !midIn side A f
/-- The reference's way. -/
noncomputable def aptB (side : List Pt → Pt → Int) (A B : List Pt) : Bool := ((edg A).all fun e => (edg B).all fun f => touchB e f) && !anyMid side A B && !anyMid side B A
theorem tog_apt (side : List Pt → Pt → Int) {A B : List Pt} (hA : 3 ≤ A.length) (hB : 3 ≤ B.length) (dA : ∀ i j, j < i → i < A.length → cor A i ≠ cor A j) (dB : ∀ i j, j < i → i < B.length → cor B i ≠ cor B j) : togB side A B = aptB side B A := by
  refine bool_eq ?_
  unfold togB aptB
  rw [← anyMid_edg side hA, ← anyMid_edg side hB]
  simp only [List.all_eq_true, Bool.and_eq_true, Bool.not_eq_true', List.any_eq_false]
  have hne : ∃ e, e ∈ edg A := by
    match h : edg A with
    | [] => have := edg_len A; rw [h] at this; simp at this; omega
    | e :: _ => exact ⟨e, by simp⟩
  constructor
  · intro h
    refine ⟨⟨fun f hf e he => ?_, fun f hf => ?_⟩, fun e he => ?_⟩
    · rw [fit_touch (edg_ne hB dB hf) (edg_ne hA dA he)]
      exact ((h e he).2 f hf).1
    · obtain ⟨e, he⟩ := hne
      simpa using ((h e he).2 f hf).2
    · simpa using (h e he).1
  · rintro ⟨⟨h1, h2⟩, h3⟩ e he
    refine ⟨by simpa using h3 e he, fun f hf => ⟨?_, by simpa using h2 f hf⟩⟩
    rw [← fit_touch (edg_ne hB dB hf) (edg_ne hA dA he)]
    exact h1 f hf e he
end Go.Proofs.YtklcaphkfdlipaaGreatDoor

/- Maps: the plain law. -/
set_option linter.unusedSimpArgs false
set_option linter.unusedVariables false
namespace Go.Proofs.YtklcaphkfdlipaaGreatDoor
open Go.RowKit
theorem ringB_ringP {L : List Pt} (h : ringB L = true) : RingP L := by
  unfold ringB at h
  simp only [Bool.and_eq_true, decide_eq_true_eq] at h
  exact h.2
theorem ringB_sizes {L : List Pt} (h : ringB L = true) : 3 ≤ L.length ∧ L.length ≤ 12 := by
  unfold ringB at h
  simp only [Bool.and_eq_true, inB_iff] at h
  omega
theorem ringB_points {L : List Pt} (h : ringB L = true) : L.all pointB = true := by
  unfold ringB at h
  simp only [Bool.and_eq_true] at h
  exact h.1.2
theorem ringB_small {L : List Pt} (h : ringB L = true) : ∀ p ∈ L, -1000 ≤ p.x ∧ p.x ≤ 1000 ∧ -1000 ≤ p.y ∧ p.y ≤ 1000 := fun p hp => by
  have := List.all_eq_true.1 (ringB_points h) p hp
  obtain ⟨a, b, c, d⟩ := isPointB_iff.1 this
  omega
theorem ringB_sm {L : List Pt} (h : ringB L = true) : ∀ i, SmPt (cor L i) := fun i => by
  have h0 := (ringB_sizes h).1
  obtain ⟨a, b, c, d⟩ := ringB_small h (cor L i) (cor_mem (by omega))
  exact ⟨by omega, by omega, by omega, by omega⟩
theorem ringB_area {L : List Pt} (h : ringB L = true) : areaZ L ≠ 0 := (ringB_ringP h).area (ringB_sizes h).1 (ringB_sm h)
theorem ringB_nrm {L : List Pt} (h : ringB L = true) : (lft L).drop (bestTo (lft L) (lft L).length) ++ (lft L).take (bestTo (lft L) (lft L).length) = nrm L :=
  nrm_eq (ringB_sizes h).1 (ringB_area h) (ringB_ringP h).apart
theorem nrm_mem {L : List Pt} (h0 : 0 < L.length) : ∀ p ∈ nrm L, p ∈ L := fun p hp => by
  unfold nrm at hp
  obtain ⟨i, hi, rfl⟩ := List.mem_map.1 hp
  split
  · exact cor_mem h0
  · exact cor_mem h0
/-- Can the ring at `i` be on a map with those ahead of it? -/
noncomputable def mapAt (R : List (List Pt)) (i : Nat) : Bool := (List.range i).all fun k => togB sideZ (R.getD i []) (R.getD k [])
noncomputable def mapB (R : List (List Pt)) : Bool := decide (R.length ≤ 6) && R.all ringB && (List.range R.length).all (mapAt R)
theorem mapB_long {R : List (List Pt)} (h : ¬ R.length ≤ 6) : mapB R = false := by simp [mapB, h]
theorem mapB_ring {R : List (List Pt)} (h : R.all ringB = false) : mapB R = false := by simp [mapB, h]
theorem mapB_at {R : List (List Pt)} {i : Nat} (h : i < R.length) (hf : mapAt R i = false) : mapB R = false := by
  unfold mapB
  have : (List.range R.length).all (mapAt R) = false := by
    rw [Bool.eq_false_iff]; intro hh
    rw [List.all_eq_true] at hh
    rw [hh i (List.mem_range.2 h)] at hf
    cases hf
  rw [this, Bool.and_false]
theorem mapB_all {R : List (List Pt)} (h1 : R.length ≤ 6) (h2 : R.all ringB = true) (h : ∀ i, i < R.length → mapAt R i = true) : mapB R = true := by
  unfold mapB
  rw [h2, List.all_eq_true.2 fun i hi => h i (List.mem_range.1 hi)]
  simp [h1]
theorem mapB_len {R : List (List Pt)} (h : mapB R = true) : R.length ≤ 6 := by
  unfold mapB at h
  simp only [Bool.and_eq_true, decide_eq_true_eq] at h
  exact h.1.1
theorem mapB_rings {R : List (List Pt)} (h : mapB R = true) : ∀ r ∈ R, ringB r = true := by
  unfold mapB at h
  simp only [Bool.and_eq_true, List.all_eq_true] at h
  exact h.1.2
theorem tog_apt_ring {A B : List Pt} (hA : ringB A = true) (hB : ringB B = true) : togB sideZ A B = aptB sideZ B A :=
  tog_apt sideZ (ringB_sizes hA).1 (ringB_sizes hB).1 (ringB_ringP hA).apart (ringB_ringP hB).apart
end Go.Proofs.YtklcaphkfdlipaaGreatDoor
