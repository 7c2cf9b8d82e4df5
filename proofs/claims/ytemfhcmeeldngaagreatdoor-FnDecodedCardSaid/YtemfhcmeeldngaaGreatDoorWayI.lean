import Derived.Test.YtemfhcmeeldngaaGreatDoorPackPb
import Derived.Test.YtemfhcmeeldngaaGreatDoorPackPa
/- The numbers of parsings from each place on: the program's way. -/
set_option linter.unusedSimpArgs false
set_option linter.unusedVariables false
namespace Go.Proofs.YtemfhcmeeldngaaGreatDoor
open Go.RowKit
set_option maxRecDepth 8000 in
set_option maxHeartbeats 4000000 in
theorem parsings_any (T : List Rul) (s : ByteArray) (a : Option Addr) (n c : Nat) (w : World) (hn : T.length = n) (hm : n ≤ 1048576) (hok : ∀ r ∈ T, RulOk r) (hs : s.size ≤ 1048576) (hr : RulesR w a T) :
    Calls Tryz.prog 72 #[.slice a n c, .string s] w (RetOwn w 2 1 (s.size + 1) (intCells (cntL (ways T s) (s.size + 1))) id) := by
  subst hn
  have hmk := run_make_row' (P := Tryz.prog) 25 2 (.int .i64 0) 8 Tryz.underlying25 info_i64 rfl .i64 .i64 (s.size + 1) (by omega) (by omega)
  rw [Int.natCast_succ] at hmk
  have hst0 := World.ownsRow_lit (base := w.heap.size) (e := 2) (size := 1) w ((madeCells #[.int .i64 0] (s.size + 1)).setIfInBounds s.size (.int .i64 1)) (s.size + 1) (Nat.le_refl _) (by unfold maxLen; omega) (by simp [size_madeCells])
  rw [Array.toList_setIfInBounds, toList_madeCells_one] at hst0
  rw [show List.replicate (s.size + 1) (Value.int .i64 0) = intCells (cntL (fun _ => 0) (s.size + 1)) from (cntL_zero _).symm, cntL_set _ (by omega)] at hst0
  have hown0 := World.ownsRow_lit (base := w.heap.size) (e := 2) (size := 1) w (madeCells #[.int .i64 0] (s.size + 1)) (s.size + 1) (Nat.le_refl _) (by unfold maxLen; omega) (by simp [size_madeCells])
  have fz := hown0.frozenAt s.size
  obtain ⟨cz, hcz⟩ : ∃ u, (w.alloc (.cells (madeCells #[.int .i64 0] (s.size + 1)) 2)).cell? ⟨w.heap.size, s.size, none⟩ = some u := ⟨_, (hown0.cellAt s.size (by omega)).trans (List.getElem?_eq_getElem (by rw [hown0.1]; omega))⟩
  clear hown0
  replace hr := Lib.hid hr
  replace hok := Lib.hid hok
  have HO := Lib.hid hst0
  clear hst0
  go_enter Tryz.func72, Tryz.ntmps72
  go_wp2_with fail
  clear hmk
  go_loopw [6] (fun i wr => ∃ m : Nat, m ≤ s.size ∧ i = .int .i64 ((m : Int) - 1) ∧ (∃ F : Nat → Int, (∀ j, j ≤ s.size → F j = wayN T s (s.size - m) j) ∧ wr.ownsRow w.heap.size 2 1 (.slice (some ⟨w.heap.size, 0, none⟩) (s.size + 1) (s.size + 1)) (s.size + 1) (intCells (cntL F (s.size + 1)))) ∧ ∃ z : Later w, wr = z.w) (fun i _ => (intOf i + 1).toNat)
  case atStart =>
    refine ⟨s.size, Nat.le_refl _, rfl, ⟨_, fun j hj => ?_, HO.out⟩, LaterC.mk (by (repeat (first | (with_reducible exact Below.refl _ _) | (with_reducible assumption) | (with_reducible refine Later.out _ ?_) | (with_reducible refine bel_alloc ?_ _) | (with_reducible refine bel_drew ?_) | (with_reducible refine bel_drewN ?_ _) | (with_reducible refine bel_set ?_ ?_ _) | (with_reducible refine After.out _ ?_ ?_) | (dsimp only; omega) | omega | (simp only [World.size_alloc, World.size_setCell, World.size_drew]; omega))))⟩
    rw [Nat.sub_self]
    unfold wayN
    rfl
  case round =>
    obtain ⟨m, hm2, rfl, ⟨F, hF, hown⟩, z, rfl⟩ := hrel
    have hzz := z.bel.size
    have hws : w.heap.size < z.w.heap.size := (hown.lt w.heap.size rfl).2
    replace hown := Lib.hid hown
    cases m with
    | zero =>
      have X := Lib.hid (show cntL F (s.size + 1) = cntL (ways T s) (s.size + 1) from cntL_ext fun j hj => by
        rw [hF j (by omega)]; rfl)
      rw [show ((0 : Nat) : Int) - 1 = -1 from rfl]
      clear hF
      go_wp2_with fail
      go_ret
      refine .mk _ rfl ?_ (by (repeat (first | (with_reducible exact Below.refl _ _) | (with_reducible assumption) | (with_reducible refine Later.out _ ?_) | (with_reducible refine bel_alloc ?_ _) | (with_reducible refine bel_drew ?_) | (with_reducible refine bel_drewN ?_ _) | (with_reducible refine bel_set ?_ ?_ _) | (with_reducible refine After.out _ ?_ ?_) | (dsimp only; omega) | omega | (simp only [World.size_alloc, World.size_setCell, World.size_drew]; omega))))
      rw [← X.out]
      exact hown.out
    | succ p =>
      rw [show ((p + 1 : Nat) : Int) - 1 = (p : Int) by omega]
      have hp1 : (p : Int) < (s.size : Int) := by omega
      have hnp : p + (s.size - (p + 1) + 1) = s.size := by omega
      replace hF := Lib.hid hF
      go_wp2_with fail
      go_loopw [26] (fun i wr => ∃ k : Nat, k ≤ T.length ∧ i = .int .i64 k ∧ (∃ F : Nat → Int, (∀ j, j ≤ s.size → F j = if j = p then wayF (T.take k) s (wayN T s (s.size - (p + 1))) p else wayN T s (s.size - (p + 1)) j) ∧ wr.ownsRow w.heap.size 2 1 (.slice (some ⟨w.heap.size, 0, none⟩) (s.size + 1) (s.size + 1)) (s.size + 1) (intCells (cntL F (s.size + 1)))) ∧ ∃ z : Later w, wr = z.w) (fun i _ => T.length - (intOf i).toNat)
      case atStart =>
        refine ⟨0, Nat.zero_le _, rfl, ⟨F, fun j hj => ?_, hown.out⟩, z, rfl⟩
        rw [hF.out j hj]
        split
        · rename_i e
          subst e
          rw [wayN_far T s _ _ (by omega)]
          rfl
        · rfl
      case round =>
        clear hF hown hzz hws
        clear F
        obtain ⟨k, hk, rfl, ⟨F, hF, hown⟩, y, rfl⟩ := hrel
        have hyy := y.bel.size
        have hws : w.heap.size < y.w.heap.size := (hown.lt w.heap.size rfl).2
        by_cases hlt : k < T.length
        · obtain ⟨b, o, ai, ci, rfl, hb, q0, q1, q2, q3, q4⟩ := hr.out.at_ hlt
          have hok1 := hok.out _ (List.getElem_mem hlt)
          have hi1 : (k : Int) < (T.length : Int) := by omega
          have C := fun (w : World) => fits_any T[k] s p ai ci w hs hok1.t (by omega)
          have hsucc := wayF_succ (s := s) (W := wayN T s (s.size - (p + 1))) (i := p) hlt
          replace q2 := Lib.hid q2
          clear q3 q4
          obtain ⟨acc, hacc⟩ : ∃ acc, wayF (T.take k) s (wayN T s (s.size - (p + 1))) p = acc := ⟨_, rfl⟩
          have hab := wayF_bd (s := s) (W := wayN T s (s.size - (p + 1))) (i := p) (fun j => (wayN_bd T s _ j).1) (T.take k) 0 (by omega) (by unfold M1; omega)
          rw [show (T.take k).foldl (wayS s (wayN T s (s.size - (p + 1))) p) 0 = acc from hacc] at hab
          unfold M1 at hab
          obtain ⟨a0, a1⟩ := hab
          rw [hacc] at hsucc
          simp only [hacc] at hF
          cases hf : fitsAt T[k] s p
          · simp only [hf] at C
            replace C := Lib.hid C
            have X := Lib.hid (show wayF (T.take (k + 1)) s (wayN T s (s.size - (p + 1))) p = acc by rw [hsucc]; unfold wayS; rw [hf]; rfl)
            replace hown := Lib.hid hown
            replace hF := Lib.hid hF
            clear hsucc hacc hf
            go_wp2_with fail
            refine wp_region_later (by kernel_rfl) (by kernel_rfl) ?_
            repeat (go_big_quiet_step ((first | (go_at_call 75; exact Calls.later (C.out _)))))
            refine wpQuiet_nil ?_
            rintro _ ⟨xq, rfl⟩
            go_wp2_with fail
            go_roundw
            case rel => exact ⟨k + 1, by omega, by go_num, ⟨F, by rw [X.out]; exact hF.out, own_bel hown.out (by (repeat (first | (with_reducible exact Below.refl _ _) | (with_reducible assumption) | (with_reducible refine Later.out _ ?_) | (with_reducible refine bel_alloc ?_ _) | (with_reducible refine bel_drew ?_) | (with_reducible refine bel_drewN ?_ _) | (with_reducible refine bel_set ?_ ?_ _) | (with_reducible refine After.out _ ?_ ?_) | (dsimp only; omega) | omega | (simp only [World.size_alloc, World.size_setCell, World.size_drew]; omega))))⟩, LaterC.mk (by (repeat (first | (with_reducible exact Below.refl _ _) | (with_reducible assumption) | (with_reducible refine Later.out _ ?_) | (with_reducible refine bel_alloc ?_ _) | (with_reducible refine bel_drew ?_) | (with_reducible refine bel_drewN ?_ _) | (with_reducible refine bel_set ?_ ?_ _) | (with_reducible refine After.out _ ?_ ?_) | (dsimp only; omega) | omega | (simp only [World.size_alloc, World.size_setCell, World.size_drew]; omega))))⟩
            case measure => first | (simp [intOf]; done) | (simp [intOf]; omega) | omega
          · simp only [hf] at C
            replace C := Lib.hid C
            obtain ⟨f1, f2, -⟩ := fitsAt_iff.1 hf
            obtain ⟨g, hg⟩ : ∃ g, wayN T s (s.size - (p + 1)) (p + T[k].rom.size) = g := ⟨_, rfl⟩
            have hgb := wayN_bd T s (s.size - (p + 1)) (p + T[k].rom.size)
            rw [hg] at hgb
            unfold M1 at hgb
            obtain ⟨g0, g1⟩ := hgb
            have X := Lib.hid (show wayF (T.take (k + 1)) s (wayN T s (s.size - (p + 1))) p = min (acc + g) 1000000000001 by rw [hsucc]; unfold wayS; rw [hf, hg]; rfl)
            have e0 : F p = acc := by rw [hF p (by omega), if_pos rfl]
            have e1 : F (p + T[k].rom.size) = g := by rw [hF _ (by omega), if_neg (by omega), hg]
            have r0 := (hown.cellAt p (by omega)).trans (cntL_get F (by omega))
            have r1 := (hown.cellAt (p + T[k].rom.size) (by omega)).trans (cntL_get F (by omega))
            rw [e0] at r0
            rw [e1] at r1
            have f0 := hown.frozenAt p
            have hmin : (acc + g < 1000000000001 ∧ min (acc + g) 1000000000001 = acc + g) ∨ (1000000000001 ≤ acc + g ∧ min (acc + g) 1000000000001 = 1000000000001) := by omega
            have hst := Lib.hid (fun v (y1 : World) (h : Below y.w.heap.size y.w y1) => cntL_set F (p := p) (N := s.size + 1) (v := v) (by omega) ▸ ((own_bel hown h).stored p (.int .i64 v)).1)
            replace hF := Lib.hid hF
            clear hsucc hacc hf hown e0 e1 hg
            go_wp2_with fail
            refine wp_region_later (by kernel_rfl) (by kernel_rfl) ?_
            repeat (go_big_quiet_step ((first | (go_at_call 75; exact Calls.later (C.out _)))))
            refine wpQuiet_nil ?_
            rintro _ ⟨xq, rfl⟩
            have hsq := xq.bel.size
            (try simp only [World.size_alloc, World.size_drew] at hsq)
            have hlq : w.heap.size < xq.w.heap.size := by omega
            go_wp2_with fail
            refine wp_region_quiet_tail 17 (C := fun w' => ∃ x : Later _, w' = x.w) (by kernel_rfl) (by kernel_rfl) ⟨⟨_, (Below.refl _ _).drew⟩, rfl⟩ ?_
            simp only [List.take_succ_cons, List.take_zero, List.drop_succ_cons, List.drop_zero]
            repeat (go_big_quiet_step (fail))
            refine wpQuiet_nil ?_
            rintro _ ⟨xq, rfl⟩
            go_wp2_with fail
            go_roundw
            case rel =>
              refine ⟨k + 1, by omega, by go_num, ⟨fun j => if j = p then min (acc + g) 1000000000001 else F j, fun j hj => ?_, hst.out _ _ (by (repeat (first | (with_reducible exact Below.refl _ _) | (with_reducible assumption) | (with_reducible refine Later.out _ ?_) | (with_reducible refine bel_alloc ?_ _) | (with_reducible refine bel_drew ?_) | (with_reducible refine bel_drewN ?_ _) | (with_reducible refine bel_set ?_ ?_ _) | (with_reducible refine After.out _ ?_ ?_) | (dsimp only; omega) | omega | (simp only [World.size_alloc, World.size_setCell, World.size_drew]; omega))))⟩, LaterC.mk (by (repeat (first | (with_reducible exact Below.refl _ _) | (with_reducible assumption) | (with_reducible refine Later.out _ ?_) | (with_reducible refine bel_alloc ?_ _) | (with_reducible refine bel_drew ?_) | (with_reducible refine bel_drewN ?_ _) | (with_reducible refine bel_set ?_ ?_ _) | (with_reducible refine After.out _ ?_ ?_) | (dsimp only; omega) | omega | (simp only [World.size_alloc, World.size_setCell, World.size_drew]; omega))))⟩
              by_cases e : j = p
              · simp only [if_pos e]
                rw [X.out]
                try rw [Int.min_comm]
              · simp only [if_neg e]
                rw [hF.out j hj, if_neg e]
            case measure => first | (simp [intOf]; done) | (simp [intOf]; omega) | omega
        · obtain rfl : k = T.length := by omega
          rw [List.take_length] at hF
          have X := Lib.hid (show ∀ j, j ≤ s.size → F j = wayN T s (s.size - p) j from fun j hj => by
            rw [hF j hj, show s.size - p = s.size - (p + 1) + 1 by omega]
            conv => rhs; unfold wayN
            by_cases e : j = p
            · rw [if_pos e, if_pos (by omega), e]
            · rw [if_neg e, if_neg (by omega)])
          replace hown := Lib.hid hown
          clear hF
          go_wp2_with fail
          go_roundw
          case rel => exact ⟨p, by omega, rfl, ⟨F, X.out, hown.out⟩, y, rfl⟩
          case measure => first | (simp [intOf]; done) | (simp [intOf]; omega) | omega
end Go.Proofs.YtemfhcmeeldngaaGreatDoor
