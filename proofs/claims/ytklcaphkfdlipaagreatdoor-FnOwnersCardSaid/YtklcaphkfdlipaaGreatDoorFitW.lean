import Derived.Test.YtklcaphkfdlipaaGreatDoorPackVa
import Derived.Test.YtklcaphkfdlipaaGreatDoorEdgW
import Derived.Laws.StructEq
/- May two edges lie so: the program's way. -/
set_option linter.unusedSimpArgs false
set_option linter.unusedVariables false
namespace Go.Proofs.YtklcaphkfdlipaaGreatDoor
open Go.RowKit
def edEqB (e f : Ed) : Bool := ptEqB e.p f.p && ptEqB e.q f.q
theorem edEqB_iff {e f : Ed} : edEqB e f = true ↔ e.p = f.p ∧ e.q = f.q := by
  unfold edEqB
  rw [Bool.and_eq_true, ptEqB_iff, ptEqB_iff]
theorem eqEd_run (e f : Ed) (w : World) : (binOp .eql 96 (.agg #[.int .i64 e.p.x, .int .i64 e.p.y, .int .i64 e.q.x, .int .i64 e.q.y]) (.agg #[.int .i64 f.p.x, .int .i64 f.p.y, .int .i64 f.q.x, .int .i64 f.q.y])).run Tryz.prog w = .ok (.bool (edEqB e f)) w := by
  by_cases h1 : e.p.x = f.p.x <;> by_cases h2 : e.p.y = f.p.y <;> by_cases h3 : e.q.x = f.q.x <;> by_cases h4 : e.q.y = f.q.y <;> simp [go_sem, edEqB, ptEqB, h1, h2, h3, h4]
set_option maxHeartbeats 1000000 in
theorem back_any (e : Ed) (w : World) : Calls Tryz.prog 71 #[.agg #[.int .i64 e.p.x, .int .i64 e.p.y, .int .i64 e.q.x, .int .i64 e.q.y]] w (Ret w (.agg #[.int .i64 e.q.x, .int .i64 e.q.y, .int .i64 e.p.x, .int .i64 e.p.y])) := by
  go_enter Tryz.func71, Tryz.ntmps71
  go_wp2_with fail
  refine bodyPost_ret (by simp [results, Tryz.results71, go_sem, ↓IntWalk.iteOmega, *]; try rfl) rfl ?_
  exact .mk rfl bb
/-- What `joint` says of two edges. -/
def jointV (e f : Ed) : Value :=
  if ptEqB e.p f.p then .tuple #[ptV e.p, ptV e.q, ptV f.q, .bool true]
  else if ptEqB e.p f.q then .tuple #[ptV e.p, ptV e.q, ptV f.p, .bool true]
  else if ptEqB e.q f.p then .tuple #[ptV e.q, ptV e.p, ptV f.q, .bool true]
  else if ptEqB e.q f.q then .tuple #[ptV e.q, ptV e.p, ptV f.p, .bool true]
  else .tuple #[ptV ⟨0, 0⟩, ptV ⟨0, 0⟩, ptV ⟨0, 0⟩, .bool false]
theorem idx2_0 (a b c d a' b' c' d' : Int) (w : World) : (Instr.index 192 (.agg #[.int .i64 a, .int .i64 b, .int .i64 c, .int .i64 d, .int .i64 a', .int .i64 b', .int .i64 c', .int .i64 d']) (.int .i64 0)).run Tryz.prog w = .ok (.agg #[.int .i64 a, .int .i64 b, .int .i64 c, .int .i64 d]) w := by kernel_rfl
theorem idx2_1 (a b c d a' b' c' d' : Int) (w : World) : (Instr.index 192 (.agg #[.int .i64 a, .int .i64 b, .int .i64 c, .int .i64 d, .int .i64 a', .int .i64 b', .int .i64 c', .int .i64 d']) (.int .i64 1)).run Tryz.prog w = .ok (.agg #[.int .i64 a', .int .i64 b', .int .i64 c', .int .i64 d']) w := by kernel_rfl
set_option maxRecDepth 8000 in
set_option maxHeartbeats 8000000 in
theorem joint_any (e f : Ed) (w : World) : Calls Tryz.prog 180 #[.agg #[.int .i64 e.p.x, .int .i64 e.p.y, .int .i64 e.q.x, .int .i64 e.q.y], .agg #[.int .i64 f.p.x, .int .i64 f.p.y, .int .i64 f.q.x, .int .i64 f.q.y]] w (Ret w (jointV e f)) := by
  have CE := Lib.hid (fun (w : World) => back_any e w)
  have CF := Lib.hid (fun (w : World) => back_any f w)
  have i0 := fun w => idx2_0 e.p.x e.p.y e.q.x e.q.y e.q.x e.q.y e.p.x e.p.y w
  have i1 := fun w => idx2_1 e.p.x e.p.y e.q.x e.q.y e.q.x e.q.y e.p.x e.p.y w
  have j0 := fun w => idx2_0 f.p.x f.p.y f.q.x f.q.y f.q.x f.q.y f.p.x f.p.y w
  have j1 := fun w => idx2_1 f.p.x f.p.y f.q.x f.q.y f.q.x f.q.y f.p.x f.p.y w
  have q1 := fun w => eqPt_run e.p f.p w
  have q2 := fun w => eqPt_run e.p f.q w
  have q3 := fun w => eqPt_run e.q f.p w
  have q4 := fun w => eqPt_run e.q f.q w
  obtain ⟨b1, h1⟩ : ∃ b, ptEqB e.p f.p = b := ⟨_, rfl⟩
  obtain ⟨b2, h2⟩ : ∃ b, ptEqB e.p f.q = b := ⟨_, rfl⟩
  obtain ⟨b3, h3⟩ : ∃ b, ptEqB e.q f.p = b := ⟨_, rfl⟩
  obtain ⟨b4, h4⟩ : ∃ b, ptEqB e.q f.q = b := ⟨_, rfl⟩
  have XV : jointV e f = if b1 then .tuple #[ptV e.p, ptV e.q, ptV f.q, .bool true] else if b2 then .tuple #[ptV e.p, ptV e.q, ptV f.p, .bool true] else if b3 then .tuple #[ptV e.q, ptV e.p, ptV f.q, .bool true] else if b4 then .tuple #[ptV e.q, ptV e.p, ptV f.p, .bool true] else .tuple #[ptV ⟨0, 0⟩, ptV ⟨0, 0⟩, ptV ⟨0, 0⟩, .bool false] := by unfold jointV; rw [h1, h2, h3, h4]
  simp only [h1] at q1
  simp only [h2] at q2
  simp only [h3] at q3
  simp only [h4] at q4
  replace XV := Lib.hid XV
  clear h1 h2 h3 h4
  go_enter Tryz.func180, Tryz.ntmps180
  go_wp2_with fail
  refine wp_region_later (by kernel_rfl) (by kernel_rfl) ?_
  repeat (go_big_quiet_step ((first | (go_at_call 71; exact Calls.later (CE.out _)))))
  refine wpQuiet_nil ?_
  rintro _ ⟨xq, rfl⟩
  go_wp2_with fail
  rename Later _ => xo
  have hsq := xo.bel.size
  simp only [World.size_alloc] at hsq
  have l0 : w.heap.size < xo.w.heap.size := by omega
  have l1 : w.heap.size + 1 < xo.w.heap.size := by omega
  have l2 : w.heap.size + 1 + 1 < xo.w.heap.size := by omega
  have l3 : w.heap.size + 1 + 1 + 1 < xo.w.heap.size := by omega
  have l4 : w.heap.size + 1 + 1 + 1 + 1 < xo.w.heap.size := by omega
  go_loopw [16] (fun t16 wr => ∃ i : Nat, i ≤ 2 ∧ t16 = .int .i64 i ∧ (0 < i → b1 = false ∧ b2 = false) ∧ (1 < i → b3 = false ∧ b4 = false) ∧ ∃ z : Later xo.w, wr = z.w) (fun t16 _ => 2 - (intOf t16).toNat)
  case atStart => exact ⟨0, by omega, rfl, fun h => absurd h (by omega), fun h => absurd h (by omega), ⟨_, Below.refl _ _⟩, rfl⟩
  case round =>
    obtain ⟨i, hi, rfl, n1, n2, z, rfl⟩ := hrel
    have hzz := z.bel.size
    have k0 : w.heap.size < z.w.heap.size := by omega
    have k1 : w.heap.size + 1 < z.w.heap.size := by omega
    have k2 : w.heap.size + 1 + 1 < z.w.heap.size := by omega
    have k3 : w.heap.size + 1 + 1 + 1 < z.w.heap.size := by omega
    have k4 : w.heap.size + 1 + 1 + 1 + 1 < z.w.heap.size := by omega
    rcases (show i = 0 ∨ i = 1 ∨ i = 2 by omega) with rfl | rfl | rfl
    · clear n1 n2 i1
      go_wp2_with fail
      refine wp_region_later (by kernel_rfl) (by kernel_rfl) ?_
      repeat (go_big_quiet_step ((first | (go_at_call 71; exact Calls.later (CF.out _)))))
      refine wpQuiet_nil ?_
      rintro _ ⟨xq, rfl⟩
      go_wp2_with fail
      have hsr := xq.bel.size
      simp only [World.size_alloc] at hsr
      have m0 : w.heap.size < xq.w.heap.size := by omega
      have m1 : w.heap.size + 1 < xq.w.heap.size := by omega
      have m2 : w.heap.size + 1 + 1 < xq.w.heap.size := by omega
      have m3 : w.heap.size + 1 + 1 + 1 < xq.w.heap.size := by omega
      have m4 : w.heap.size + 1 + 1 + 1 + 1 < xq.w.heap.size := by omega
      have m5 : z.w.heap.size < xq.w.heap.size := by omega
      go_loopw [23] (fun t23 wr => ∃ j : Nat, j ≤ 2 ∧ t23 = .int .i64 j ∧ (0 < j → b1 = false) ∧ (1 < j → b2 = false) ∧ ∃ z2 : Later xq.w, wr = z2.w) (fun t23 _ => 2 - (intOf t23).toNat)
      case atStart => exact ⟨0, by omega, rfl, fun h => absurd h (by omega), fun h => absurd h (by omega), ⟨_, Below.refl _ _⟩, rfl⟩
      case round =>
        obtain ⟨j, hj, rfl, g1, g2, z2, rfl⟩ := hrel
        have hz2 := z2.bel.size
        have r0 : w.heap.size < z2.w.heap.size := by omega
        have r1 : w.heap.size + 1 < z2.w.heap.size := by omega
        have r2 : w.heap.size + 1 + 1 < z2.w.heap.size := by omega
        have r3 : w.heap.size + 1 + 1 + 1 < z2.w.heap.size := by omega
        have r4 : w.heap.size + 1 + 1 + 1 + 1 < z2.w.heap.size := by omega
        have r5 : z.w.heap.size < z2.w.heap.size := by omega
        rcases (show j = 0 ∨ j = 1 ∨ j = 2 by omega) with rfl | rfl | rfl
        · clear g1 g2 j1
          cases b1
          · go_wp2_with fail
            go_roundw
            case rel => exact ⟨1, by omega, by go_num, (by simp), fun h => absurd h (by omega), LaterC.mk bb⟩
            case measure => first | (simp [intOf]; done) | (simp [intOf]; omega) | omega
          · go_wp2_with fail
            go_region
            go_wp2_with fail
            refine bodyPost_ret (by simp [results, Tryz.results180, go_sem, ↓IntWalk.iteOmega, *]; try rfl) rfl ?_
            exact .mk (by rw [XV.out]; rfl) bb
        · have g3 := g1 (by omega)
          subst g3
          clear g1 g2 j0
          cases b2
          · go_wp2_with fail
            go_roundw
            case rel => exact ⟨2, by omega, by go_num, (by simp), (by simp), LaterC.mk bb⟩
            case measure => first | (simp [intOf]; done) | (simp [intOf]; omega) | omega
          · go_wp2_with fail
            go_region
            go_wp2_with fail
            refine bodyPost_ret (by simp [results, Tryz.results180, go_sem, ↓IntWalk.iteOmega, *]; try rfl) rfl ?_
            exact .mk (by rw [XV.out]; rfl) bb
        · have g3 := g1 (by omega)
          have g4 := g2 (by omega)
          subst g3 g4
          clear g1 g2 j0 j1
          go_wp2_with fail
          go_roundw
          case rel => exact ⟨1, by omega, by go_num, (by simp), fun h => absurd h (by omega), LaterC.mk bb⟩
          case measure => first | (simp [intOf]; done) | (simp [intOf]; omega) | omega
    · obtain ⟨n3, n4⟩ := n1 (by omega)
      subst n3 n4
      clear n1 n2 i0
      go_wp2_with fail
      refine wp_region_later (by kernel_rfl) (by kernel_rfl) ?_
      repeat (go_big_quiet_step ((first | (go_at_call 71; exact Calls.later (CF.out _)))))
      refine wpQuiet_nil ?_
      rintro _ ⟨xq, rfl⟩
      go_wp2_with fail
      have hsr := xq.bel.size
      simp only [World.size_alloc] at hsr
      have m0 : w.heap.size < xq.w.heap.size := by omega
      have m1 : w.heap.size + 1 < xq.w.heap.size := by omega
      have m2 : w.heap.size + 1 + 1 < xq.w.heap.size := by omega
      have m3 : w.heap.size + 1 + 1 + 1 < xq.w.heap.size := by omega
      have m4 : w.heap.size + 1 + 1 + 1 + 1 < xq.w.heap.size := by omega
      have m5 : z.w.heap.size < xq.w.heap.size := by omega
      go_loopw [23] (fun t23 wr => ∃ j : Nat, j ≤ 2 ∧ t23 = .int .i64 j ∧ (0 < j → b3 = false) ∧ (1 < j → b4 = false) ∧ ∃ z2 : Later xq.w, wr = z2.w) (fun t23 _ => 2 - (intOf t23).toNat)
      case atStart => exact ⟨0, by omega, rfl, fun h => absurd h (by omega), fun h => absurd h (by omega), ⟨_, Below.refl _ _⟩, rfl⟩
      case round =>
        obtain ⟨j, hj, rfl, g1, g2, z2, rfl⟩ := hrel
        have hz2 := z2.bel.size
        have r0 : w.heap.size < z2.w.heap.size := by omega
        have r1 : w.heap.size + 1 < z2.w.heap.size := by omega
        have r2 : w.heap.size + 1 + 1 < z2.w.heap.size := by omega
        have r3 : w.heap.size + 1 + 1 + 1 < z2.w.heap.size := by omega
        have r4 : w.heap.size + 1 + 1 + 1 + 1 < z2.w.heap.size := by omega
        have r5 : z.w.heap.size < z2.w.heap.size := by omega
        rcases (show j = 0 ∨ j = 1 ∨ j = 2 by omega) with rfl | rfl | rfl
        · clear g1 g2 j1
          cases b3
          · go_wp2_with fail
            go_roundw
            case rel => exact ⟨1, by omega, by go_num, (by simp), fun h => absurd h (by omega), LaterC.mk bb⟩
            case measure => first | (simp [intOf]; done) | (simp [intOf]; omega) | omega
          · go_wp2_with fail
            go_region
            go_wp2_with fail
            refine bodyPost_ret (by simp [results, Tryz.results180, go_sem, ↓IntWalk.iteOmega, *]; try rfl) rfl ?_
            exact .mk (by rw [XV.out]; rfl) bb
        · have g3 := g1 (by omega)
          subst g3
          clear g1 g2 j0
          cases b4
          · go_wp2_with fail
            go_roundw
            case rel => exact ⟨2, by omega, by go_num, (by simp), (by simp), LaterC.mk bb⟩
            case measure => first | (simp [intOf]; done) | (simp [intOf]; omega) | omega
          · go_wp2_with fail
            go_region
            go_wp2_with fail
            refine bodyPost_ret (by simp [results, Tryz.results180, go_sem, ↓IntWalk.iteOmega, *]; try rfl) rfl ?_
            exact .mk (by rw [XV.out]; rfl) bb
        · have g3 := g1 (by omega)
          have g4 := g2 (by omega)
          subst g3 g4
          clear g1 g2 j0 j1
          go_wp2_with fail
          go_roundw
          case rel => exact ⟨2, by omega, by go_num, (by simp), (by simp), LaterC.mk bb⟩
          case measure => first | (simp [intOf]; done) | (simp [intOf]; omega) | omega
    · obtain ⟨n3, n4⟩ := n1 (by omega)
      obtain ⟨n5, n6⟩ := n2 (by omega)
      subst n3 n4 n5 n6
      clear n1 n2 i0 i1
      go_wp2_with fail
      refine bodyPost_ret (by simp [results, Tryz.results180, go_sem, ↓IntWalk.iteOmega, *]; try rfl) rfl ?_
      exact .mk (by rw [XV.out]; rfl) bb
end Go.Proofs.YtklcaphkfdlipaaGreatDoor
