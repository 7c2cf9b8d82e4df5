import Derived.Test.YtklcaphkfdlipaaGreatDoorPackVa
import Derived.Test.YtklcaphkfdlipaaGreatDoorTouW
import Derived.Test.YtklcaphkfdlipaaGreatDoorPackVf
/- Middles of edges inside of rings; rings apart: the reference's way. -/
set_option linter.unusedSimpArgs false
set_option linter.unusedVariables false
namespace Go.Proofs.YtklcaphkfdlipaaGreatDoor
open Go.RowKit
theorem anyMid_yes {A B : List Pt} {k : Nat} (h : k < A.length) (hm : midIn sideZ B ⟨cor A k, cor A (k + 1)⟩ = true) : anyMid sideZ A B = true := List.any_eq_true.2 ⟨k, List.mem_range.2 h, hm⟩
theorem anyMid_no {A B : List Pt} (h : ∀ k, k < A.length → midIn sideZ B ⟨cor A k, cor A (k + 1)⟩ = false) : anyMid sideZ A B = false := by
  rw [Bool.eq_false_iff]
  intro hh
  obtain ⟨k, hk, hm⟩ := List.any_eq_true.1 hh
  rw [h k (List.mem_range.1 hk)] at hm
  cases hm
set_option maxRecDepth 8000 in
set_option maxHeartbeats 8000000 in
theorem sMiddle_any (A B : List Pt) (a b : Option Addr) (n c m d : Nat) (w : World) (hn : A.length = n) (hm : B.length = m) (h0 : 0 < n) (hn2 : n ≤ 1000) (hm2 : m ≤ 1000) (hA : SmL A) (hB : SmL B) (hr : Row w a (ptsCells A)) (hr' : Row w b (ptsCells B)) :
    Calls Tryz.prog 162 #[.slice a n c, .slice b m d] w (Ret w (.bool (anyMid sideZ A B))) := by
  subst hn hm
  obtain ⟨ii, j1, j2, j3, j4⟩ := info_pnt
  have Jii := Lib.hid (And.intro j1 (And.intro j2 (And.intro j3 j4)))
  have hat := Lib.hid (fun (k : Nat) (h : k < B.length) => dbl_at h)
  have hall := Lib.hid (show (dbl B).take B.length = dbl B by rw [List.take_of_length_le (by rw [dbl_len]; omega)])
  have hlen := Lib.hid (fun (k : Nat) (h : k ≤ B.length) => (show ((dbl B).take k).length = k by rw [List.length_take, dbl_len]; omega))
  have hlit := Lib.hid (fun (W : World) => World.ownsRow_lit (base := W.heap.size) (e := 72) (size := 2) W #[] 0 (Nat.le_refl _) (by unfold maxLen; omega) rfl)
  have CS := Lib.hid (fun (p : Pt) (hp : PtB p) (a : Option Addr) (c : Nat) (w : World) (hr : Row w a (ptsCells (dbl B))) => sSide_any (dbl B) p a B.length c w (dbl_len B) (by omega) hB.dbl hp hr)
  have hMD := Lib.hid (fun (e : Ed) => (show midIn sideZ B e = decide (0 < sideZ (dbl B) ⟨e.p.x + e.q.x, e.p.y + e.q.y⟩) from rfl))
  have XY := Lib.hid (fun (k : Nat) (h : k < A.length) h2 => anyMid_yes (A := A) (B := B) h h2)
  have XN := Lib.hid (fun h => anyMid_no (A := A) (B := B) h)
  generalize anyMid sideZ A B = T at *
  generalize dbl B = E at *
  generalize midIn sideZ B = MI at *
  replace hr := Lib.hid hr
  replace hr' := Lib.hid hr'
  have hAb := Lib.hid hA
  have hBb := Lib.hid hB
  clear hA hB j1 j2 j3 j4
  go_enter Tryz.func162, Tryz.ntmps162
  go_wp2_with fail
  go_loopw [5, 6] (fun t4 t11 wr => ∃ (k : Nat) (a6 : Option Addr) (c6 : Nat), k ≤ B.length ∧ t11 = .int .i64 k ∧ t4 = .slice a6 k c6 ∧ wr.ownsRow w.heap.size 72 2 (.slice a6 k c6) k (ptsCells (E.take k)) ∧ ∃ z : Later w, wr = z.w) (fun _ t11 _ => B.length - (intOf t11).toNat)
  case atStart => exact ⟨0, _, _, Nat.zero_le _, rfl, rfl, hlit.out _, LaterC.mk bb⟩
  case round =>
    obtain ⟨k, a6, c6, hk, rfl, rfl, hown, z2, rfl⟩ := hrel
    have hz2 := z2.bel.size
    replace hown := Lib.hid hown
    by_cases hlt : k < B.length
    · have hk1 : (k : Int) < (B.length : Int) := by omega
      obtain ⟨b1, o1, rfl, hbb, q0, q1⟩ := hr'.out.pt (k := k) (by omega)
      obtain ⟨i1, i2, i3, i4⟩ := hBb.out.ok _ (List.getElem_mem hlt)
      have X := hat.out k hlt
      have hlk := hlen.out k (by omega)
      have hcl := length_ptsCells (E.take k)
      generalize B[k] = P at *
      replace X := Lib.hid X
      obtain ⟨p, p', hp1, hp2, hp3, hpo, -⟩ := own_tight (Owns.of hown.out) (by omega)
      replace hpo := Lib.hid hpo
      have hbp : b1 < p := by omega
      have hbz : b1 < z2.w.heap.size := by omega
      go_wp2_with fail
      refine wp_region_plan2 [(0, true), (1, true), (2, true), (3, true), (4, true), (5, true), (6, true), (7, true), (8, true), (9, true), (10, true), (11, true), (12, true), (13, true), (14, false), (15, false), (16, true)] (C := AfterC p p' _) (by kernel_rfl) (by kernel_rfl) (by kernel_rfl) rfl (fun _ _ d _ _ h => by cases d <;> exact h) (AfterC.mk ((Between.refl _ _ _).drew)) ?_
      first | (refine plan_quiet nth0 rfl ?_; intro KP hKP; go_big_quiet_op; go_big_quiet_on) | (refine plan_skip_q nth0 rfl rfl ?_; simp only [Act.put, List.setIfInBounds_toArray, List.set_cons_zero, List.set_cons_succ])
      first | (refine plan_quiet nth1 rfl ?_; intro KP hKP; go_big_quiet_op; go_big_quiet_on) | (refine plan_skip_q nth1 rfl rfl ?_; simp only [Act.put, List.setIfInBounds_toArray, List.set_cons_zero, List.set_cons_succ])
      first | (refine plan_quiet nth2 rfl ?_; intro KP hKP; go_big_quiet_op; go_big_quiet_on) | (refine plan_skip_q nth2 rfl rfl ?_; simp only [Act.put, List.setIfInBounds_toArray, List.set_cons_zero, List.set_cons_succ])
      first | (refine plan_quiet nth3 rfl ?_; intro KP hKP; go_big_quiet_op; go_big_quiet_on) | (refine plan_skip_q nth3 rfl rfl ?_; simp only [Act.put, List.setIfInBounds_toArray, List.set_cons_zero, List.set_cons_succ])
      first | (refine plan_quiet nth4 rfl ?_; intro KP hKP; go_big_quiet_op; go_big_quiet_on) | (refine plan_skip_q nth4 rfl rfl ?_; simp only [Act.put, List.setIfInBounds_toArray, List.set_cons_zero, List.set_cons_succ])
      first | (refine plan_quiet nth5 rfl ?_; intro KP hKP; go_big_quiet_op; go_big_quiet_on) | (refine plan_skip_q nth5 rfl rfl ?_; simp only [Act.put, List.setIfInBounds_toArray, List.set_cons_zero, List.set_cons_succ])
      first | (refine plan_quiet nth6 rfl ?_; intro KP hKP; go_big_quiet_op; go_big_quiet_on) | (refine plan_skip_q nth6 rfl rfl ?_; simp only [Act.put, List.setIfInBounds_toArray, List.set_cons_zero, List.set_cons_succ])
      first | (refine plan_quiet nth7 rfl ?_; intro KP hKP; go_big_quiet_op; go_big_quiet_on) | (refine plan_skip_q nth7 rfl rfl ?_; simp only [Act.put, List.setIfInBounds_toArray, List.set_cons_zero, List.set_cons_succ])
      first | (refine plan_quiet nth8 rfl ?_; intro KP hKP; go_big_quiet_op; go_big_quiet_on) | (refine plan_skip_q nth8 rfl rfl ?_; simp only [Act.put, List.setIfInBounds_toArray, List.set_cons_zero, List.set_cons_succ])
      first | (refine plan_quiet nth9 rfl ?_; intro KP hKP; go_big_quiet_op; go_big_quiet_on) | (refine plan_skip_q nth9 rfl rfl ?_; simp only [Act.put, List.setIfInBounds_toArray, List.set_cons_zero, List.set_cons_succ])
      first | (refine plan_quiet nth10 rfl ?_; intro KP hKP; go_big_quiet_op; go_big_quiet_on) | (refine plan_skip_q nth10 rfl rfl ?_; simp only [Act.put, List.setIfInBounds_toArray, List.set_cons_zero, List.set_cons_succ])
      first | (refine plan_quiet nth11 rfl ?_; intro KP hKP; go_big_quiet_op; go_big_quiet_on) | (refine plan_skip_q nth11 rfl rfl ?_; simp only [Act.put, List.setIfInBounds_toArray, List.set_cons_zero, List.set_cons_succ])
      first | (refine plan_quiet nth12 rfl ?_; intro KP hKP; go_big_quiet_op; go_big_quiet_on) | (refine plan_skip_q nth12 rfl rfl ?_; simp only [Act.put, List.setIfInBounds_toArray, List.set_cons_zero, List.set_cons_succ])
      first | (refine plan_quiet nth13 rfl ?_; intro KP hKP; go_big_quiet_op; go_big_quiet_on) | (refine plan_skip_q nth13 rfl rfl ?_; simp only [Act.put, List.setIfInBounds_toArray, List.set_cons_zero, List.set_cons_succ])
      first | (refine plan_loud nth14 rfl ?_; intro KP hKP; go_wp2_with fail; refine hKP _ _ (AfterC.mk (by (repeat (first | (with_reducible exact Between.refl _ _ _) | (with_reducible refine Between.drew ?_) | (with_reducible refine Between.drewN ?_ _) | (with_reducible refine Between.set ?_ ?_ ?_ _) | (with_reducible refine btw_later _ ?_) | (with_reducible refine btw_alloc ?_ _) | (with_reducible refine btw_after _ ?_) | (with_reducible assumption) | (dsimp only; omega) | omega)))) ?_; clear hKP KP) | (refine plan_skip nth14 rfl rfl (AfterC.mk (by (repeat (first | (with_reducible exact Between.refl _ _ _) | (with_reducible refine Between.drew ?_) | (with_reducible refine Between.drewN ?_ _) | (with_reducible refine Between.set ?_ ?_ ?_ _) | (with_reducible refine btw_later _ ?_) | (with_reducible refine btw_alloc ?_ _) | (with_reducible refine btw_after _ ?_) | (with_reducible assumption) | (dsimp only; omega) | omega)))) ?_; simp only [Act.put, List.setIfInBounds_toArray, List.set_cons_zero, List.set_cons_succ])
      refine plan_loud nth15 rfl ?_
      intro KP hKP
      ((refine oper_append_apart _ _ _ _ rfl 72 ii _ 2 16 Tryz.underlying83 Jii.out.1 Jii.out.2.1 Jii.out.2.2.1 Jii.out.2.2.2 rfl (by decide) (p) (p') ?qb1 _ _ _ (ptsCells (E.take k)) rfl ?qb2 ?qb8 _ _ _ (ptCells (dblP P)) rfl ?qb3 ?qb4 ?qb5 ?qb6 ?qb7 ?_); (case qb1 => (first | (dsimp only; omega) | omega | (simp only [World.size_alloc, World.size_setCell, World.size_drew]; omega))); (case qb2 => exact own_bel hpo.out.own bb); (case qb8 => exact hpo.out.lt); (case qb3 => (first | rfl | (simp [boolCells]; done) | (simp [intCells]; done) | (simp; done) | (first | omega | (simp only [List.length_append, List.length_cons, List.length_nil]; omega)))); (case qb4 => exact Row.made _ _ _); (case qb5 => (intro u hu; simp [ptCells] at hu; rcases hu with rfl | rfl <;> rfl)); (case qb6 => (unfold maxLen; (first | omega | (simp only [List.length_append, List.length_cons, List.length_nil]; omega)))); (case qb7 => (first | omega | (simp only [List.length_append, List.length_cons, List.length_nil]; omega))); intro a9 c9 x9 hown9 hat9; clear hat9; replace hown9 := Lib.hid hown9)
      refine hKP _ _ (AfterC.mk (by (repeat (first | (with_reducible exact Between.refl _ _ _) | (with_reducible refine Between.drew ?_) | (with_reducible refine Between.drewN ?_ _) | (with_reducible refine Between.set ?_ ?_ ?_ _) | (with_reducible refine btw_later _ ?_) | (with_reducible refine btw_alloc ?_ _) | (with_reducible refine btw_after _ ?_) | (with_reducible assumption) | (dsimp only; omega) | omega)))) ?_
      clear hKP KP
      simp only [Act.put, List.setIfInBounds_toArray, List.set_cons_zero, List.set_cons_succ]
      refine plan_quiet nth16 rfl ?_
      intro KP hKP
      go_big_quiet_op
      go_big_quiet_on
      refine plan_nil ?_
      go_wp2_with fail
      go_roundw
      case rel => exact ⟨k + 1, a9, c9, by omega, by go_num, rfl, by rw [X.out, ptsCells_append, show ptsCells [dblP P] = ptCells (dblP P) by simp [ptsCells]]; exact own_mono hown9.out hp1, LaterC.mk bb⟩
      case measure => first | (simp [intOf]; done) | (simp [intOf]; omega) | omega
    · obtain rfl : k = B.length := by omega
      have hown8 := hown.out
      rw [hall.out] at hown8
      replace hown8 := Lib.hid (Owns.of hown8)
      clear hown hat hall hlen hlit hBb
      have hrz := Lib.hid (hr.out.bel z2.bel)
      go_wp2_with fail
      go_loopw [7] (fun t7 wr => ∃ k : Nat, k ≤ A.length ∧ t7 = .int .i64 k ∧ (∀ i, i < k → MI ⟨cor A i, cor A (i + 1)⟩ = false) ∧ ∃ z : Later z2.w, wr = z.w) (fun t7 _ => A.length - (intOf t7).toNat)
      case atStart => exact ⟨0, Nat.zero_le _, rfl, fun i h => absurd h (by omega), LaterC.mk bb⟩
      case round =>
        obtain ⟨k, hk, rfl, hno, z, rfl⟩ := hrel
        have hzz := z.bel.size
        replace hno := Lib.hid hno
        by_cases hlt : k < A.length
        · obtain ⟨b1, o1, rfl, hbb, q0, q1⟩ := hrz.out.pt hlt
          rw [← cor_lt hlt] at q0 q1
          have hk1 : (k : Int) < (A.length : Int) := by omega
          have hC1 := Lib.hid (fun z w hz hr => l16At_z (L := A) (i := k + 1) (z := z) (a := some ⟨b1, o1, none⟩) (n := A.length) (c := c) (w := w) hz rfl h0 (by omega) (by omega) hr)
          obtain ⟨i1, i2, i3, i4⟩ := hAb.out.ok _ (cor_mem (i := k) h0)
          obtain ⟨i5, i6, i7, i8⟩ := hAb.out.ok _ (cor_mem (i := k + 1) h0)
          have Y := fun (h : MI ⟨cor A k, cor A (k + 1)⟩ = true) => XY.out k hlt h
          have N := fun (h : MI ⟨cor A k, cor A (k + 1)⟩ = false) => (show ∀ i, i < k + 1 → MI ⟨cor A i, cor A (i + 1)⟩ = false from fun i hi => by
            rcases Nat.lt_or_ge i k with h1 | h1
            · exact hno.out i h1
            · obtain rfl : i = k := by omega
              exact h)
          have hmd := hMD.out ⟨cor A k, cor A (k + 1)⟩
          simp only at hmd
          have CSk := fun (a : Option Addr) (c : Nat) (w : World) hr => CS.out ⟨(cor A k).x + (cor A (k + 1)).x, (cor A k).y + (cor A (k + 1)).y⟩ ⟨by dsimp only; omega, by dsimp only; omega, by dsimp only; omega, by dsimp only; omega⟩ a c w hr
          replace Y := Lib.hid Y
          replace N := Lib.hid N
          generalize MI ⟨cor A k, cor A (k + 1)⟩ = mi at *
          generalize cor A k = P at *
          generalize cor A (k + 1) = Q at *
          generalize sideZ E ⟨P.x + Q.x, P.y + Q.y⟩ = sd at *
          replace CSk := Lib.hid CSk
          have hbz : b1 < z.w.heap.size := by omega
          have hwr : IntKind.i64.wrap ((k : Int) + 1) = (k : Int) + 1 := IntWalk.i64_in _ (by omega)
          go_upto_region 9 with fail
          go_cut [8, 9] from 39 to 47 (TwoPts z.w P Q)
          case first =>
            go_region_with (first | (go_at_call 112; (with_reducible refine (hC1.out _ _ (by omega) (hrz.out.bel bb)).mono ?_); rintro e w' ⟨rfl, y1, rfl⟩; have hs1 := y1.bel.size; (try simp only [World.size_alloc, World.size_drew] at hs1); (try have ha0 : z.w.heap.size < y1.w.heap.size := (by omega)); (try have ha1 : z.w.heap.size + 1 < y1.w.heap.size := (by omega))))
            all_goals
              go_wp2_with fail
              go_meet
              refine ⟨_, _, rfl, rfl, ?_, ?_, ?_, ?_, ?_, ⟨?_, ?_⟩, ⟨?_, ?_⟩, ⟨?_, ?_⟩, ⟨?_, ?_⟩, ?_⟩
              · ((try simp only [World.size_alloc, World.size_setCell, World.size_drew]); omega)
              · ((try simp only [World.size_alloc, World.size_setCell, World.size_drew]); omega)
              · ((try simp only [World.size_alloc, World.size_setCell, World.size_drew]); omega)
              · ((try simp only [World.size_alloc, World.size_setCell, World.size_drew]); omega)
              · omega
              · simp [go_sem, ↓IntWalk.iteOmega, *]
              · simp [go_sem, ↓IntWalk.iteOmega, *]
              · simp [go_sem, ↓IntWalk.iteOmega, *]
              · simp [go_sem, ↓IntWalk.iteOmega, *]
              · simp [go_sem, ↓IntWalk.iteOmega, *]
              · simp [go_sem, ↓IntWalk.iteOmega, *]
              · simp [go_sem, ↓IntWalk.iteOmega, *]
              · simp [go_sem, ↓IntWalk.iteOmega, *]
              · (exact bb)
          case rest =>
            obtain ⟨g7, g8, rfl, rfl, p7, p8, l7, l8, hne, ⟨a0, a1⟩, ⟨b0, b1'⟩, ⟨fa0, fa1⟩, ⟨fb0, fb1⟩, hbel⟩ := hcut
            obtain ⟨y, rfl⟩ := LaterC.mk hbel
            have hsy := y.bel.size
            clear hbel hC1 q0 q1
            go_wp2_with fail
            with_reducible refine (CSk.out _ _ _ (hown8.out.row.bel bb)).mono ?_
            rintro e w' ⟨rfl, y5, rfl⟩
            have hsy5 := y5.bel.size
            (try simp only [World.size_alloc, World.size_setCell, World.size_drew] at hsy5)
            cases hs : decide (0 < sd)
            · have X := Lib.hid (N.out (by rw [hmd]; exact hs))
              clear hmd N Y
              go_wp2_with fail
              go_roundw
              case rel => exact ⟨k + 1, by omega, by go_num, X.out, LaterC.mk bb⟩
              case measure => first | (simp [intOf]; done) | (simp [intOf]; omega) | omega
            · have X := Lib.hid (Y.out (by rw [hmd]; exact hs))
              clear hmd N Y
              go_wp2_with fail
              go_ret
              exact .mk (by rw [X.out]; rfl) bb
        · obtain rfl : k = A.length := by omega
          have X := Lib.hid (XN.out hno.out)
          go_wp2_with fail
          go_ret
          exact .mk (by rw [X.out]; rfl) bb
end Go.Proofs.YtklcaphkfdlipaaGreatDoor
