import Derived.Test.YtklcaphkfdlipaaGreatDoorPackVa
import Derived.Test.YtklcaphkfdlipaaGreatDoorPackVf
/- May two edges lie so: the reference's way. -/
set_option linter.unusedSimpArgs false
set_option linter.unusedVariables false
namespace Go.Proofs.YtklcaphkfdlipaaGreatDoor
open Go.RowKit
/-- `touchB` by comparisons. -/
theorem touchB_eq (e f : Ed) : touchB e f =
    if crossB e.p e.q f.p f.q = false then true
    else if ptEqB e.p f.q && ptEqB e.q f.p then true else if ptEqB e.p f.p && ptEqB e.q f.q then false
    else if ptEqB e.p f.p then !isOnB e.p e.q f.q && !isOnB f.p f.q e.q
    else if ptEqB e.p f.q then !isOnB e.p e.q f.p && !isOnB f.p f.q e.q
    else if ptEqB e.q f.p then !isOnB e.p e.q f.q && !isOnB f.p f.q e.p
    else if ptEqB e.q f.q then !isOnB e.p e.q f.p && !isOnB f.p f.q e.p
    else false := by
  unfold touchB
  by_cases c0 : crossB e.p e.q f.p f.q = false
  · rw [if_pos c0, if_pos c0]
  rw [if_neg c0, if_neg c0]
  have e1 : (e.p = f.q ∧ e.q = f.p) ↔ (ptEqB e.p f.q && ptEqB e.q f.p) = true := by rw [Bool.and_eq_true, ptEqB_iff, ptEqB_iff]
  have e2 : (e.p = f.p ∧ e.q = f.q) ↔ (ptEqB e.p f.p && ptEqB e.q f.q) = true := by rw [Bool.and_eq_true, ptEqB_iff, ptEqB_iff]
  by_cases c1 : (ptEqB e.p f.q && ptEqB e.q f.p) = true
  · rw [if_pos (e1.2 c1), if_pos c1]
  rw [if_neg (fun h => c1 (e1.1 h)), if_neg c1]
  by_cases c2 : (ptEqB e.p f.p && ptEqB e.q f.q) = true
  · rw [if_pos (e2.2 c2), if_pos c2]
  rw [if_neg (fun h => c2 (e2.1 h)), if_neg c2]
  by_cases c3 : ptEqB e.p f.p = true
  · rw [if_pos (ptEqB_iff.1 c3), if_pos c3]
  rw [if_neg (fun h => c3 (ptEqB_iff.2 h)), if_neg c3]
  by_cases c4 : ptEqB e.p f.q = true
  · rw [if_pos (ptEqB_iff.1 c4), if_pos c4]
  rw [if_neg (fun h => c4 (ptEqB_iff.2 h)), if_neg c4]
  by_cases c5 : ptEqB e.q f.p = true
  · rw [if_pos (ptEqB_iff.1 c5), if_pos c5]
  rw [if_neg (fun h => c5 (ptEqB_iff.2 h)), if_neg c5]
  by_cases c6 : ptEqB e.q f.q = true
  · rw [if_pos (ptEqB_iff.1 c6), if_pos c6]
  rw [if_neg (fun h => c6 (ptEqB_iff.2 h)), if_neg c6]
theorem ptEqB_refl (p : Pt) : ptEqB p p = true := ptEqB_iff.2 rfl
set_option maxRecDepth 8000 in
set_option maxHeartbeats 16000000 in
theorem touch_any (e f : Ed) (w : World) (he : EdB e) (hf : EdB f) : Calls Tryz.prog 161 #[.agg #[.int .i64 e.p.x, .int .i64 e.p.y, .int .i64 e.q.x, .int .i64 e.q.y], .agg #[.int .i64 f.p.x, .int .i64 f.p.y, .int .i64 f.q.x, .int .i64 f.q.y]] w (Ret w (.bool (touchB e f))) := by
  have CX := fun (w : World) => sCross_any e.p e.q f.p f.q w he.p he.q hf.p hf.q
  have OE := fun (b : Pt) (w : World) (h : PtB b) => sOn_any e.p e.q b w he.p he.q h
  have OF := fun (a : Pt) (w : World) (h : PtB a) => sOn_any f.p f.q a w hf.p hf.q h
  have r1 := fun w => eqPt_run e.p f.q w
  have r2 := fun w => eqPt_run e.q f.p w
  have r3 := fun w => eqPt_run e.p f.p w
  have r4 := fun w => eqPt_run e.q f.q w
  have r5 := fun w => eqPt_run e.p e.q w
  have r6 := fun w => eqPt_run e.p e.p w
  have r7 := fun w => eqPt_run f.p e.p w
  have r8 := fun w => eqPt_run f.p e.q w
  have hep := he.p
  have heq := he.q
  have hfp := hf.p
  have hfq := hf.q
  clear he hf
  rw [ptEqB_comm f.p e.p] at r7
  rw [ptEqB_comm f.p e.q] at r8
  rw [ptEqB_refl] at r6
  have XF := touchB_eq e f
  have h5 : (ptEqB e.q f.p = true ∨ ptEqB e.q f.q = true) → ptEqB e.p f.p = false → ptEqB e.p f.q = false → ptEqB e.p e.q = false := fun h h1 h2 => by
    rw [Bool.eq_false_iff]
    intro h3
    rw [ptEqB_iff] at h3
    rw [h3] at h1 h2
    rcases h with h | h <;> simp_all
  generalize touchB e f = T at *
  generalize crossB e.p e.q f.p f.q = x at *
  generalize ptEqB e.p f.q = p1 at *
  generalize ptEqB e.q f.p = p2 at *
  generalize ptEqB e.p f.p = p3 at *
  generalize ptEqB e.q f.q = p4 at *
  generalize ptEqB e.p e.q = p5 at *
  replace CX := Lib.hid CX
  replace h5 := Lib.hid h5
  replace OE := Lib.hid OE
  replace OF := Lib.hid OF
  cases x
  · skip
    have X := Lib.hid XF
    simp only [Bool.true_eq_false, Bool.false_eq_true, if_true, if_false, Bool.and_true, Bool.and_false, Bool.true_and, Bool.false_and] at X
    clear XF OE OF h5
    go_enter Tryz.func161, Tryz.ntmps161
    go_wp2_with fail
    with_reducible refine (CX.out _).mono ?_
    rintro e w' ⟨rfl, y1, rfl⟩
    have hsy1 := y1.bel.size
    (try simp only [World.size_alloc, World.size_setCell, World.size_drew] at hsy1)
    have l0 : w.heap.size < y1.w.heap.size := by omega
    have l1 : w.heap.size + 1 < y1.w.heap.size := by omega
    go_wp2_with fail
    go_ret
    exact .mk (by rw [X.out]; rfl) bb
  cases p1
  · cases p3
    · cases p2
      · cases p4
        · skip
          have X := Lib.hid XF
          simp only [Bool.true_eq_false, Bool.false_eq_true, if_true, if_false, Bool.and_true, Bool.and_false, Bool.true_and, Bool.false_and] at X
          clear XF OE OF h5
          go_enter Tryz.func161, Tryz.ntmps161
          go_wp2_with fail
          with_reducible refine (CX.out _).mono ?_
          rintro e w' ⟨rfl, y1, rfl⟩
          have hsy1 := y1.bel.size
          (try simp only [World.size_alloc, World.size_setCell, World.size_drew] at hsy1)
          have l0 : w.heap.size < y1.w.heap.size := by omega
          have l1 : w.heap.size + 1 < y1.w.heap.size := by omega
          go_wp2_with fail
          go_ret
          exact .mk (by rw [X.out]; rfl) bb
        · skip
          obtain rfl := h5.out (by simp) rfl rfl
          simp only [Bool.true_eq_false, Bool.false_eq_true, if_true, if_false, Bool.and_true, Bool.and_false, Bool.true_and, Bool.false_and] at XF
          have C1 := fun w => OE.out f.p w hfp
          have C2 := fun w => OF.out e.p w hep
          generalize isOnB e.p e.q f.p = o1 at *
          generalize isOnB f.p f.q e.p = o2 at *
          replace C1 := Lib.hid C1
          replace C2 := Lib.hid C2
          clear OE OF h5
          cases o1
          · have X := Lib.hid XF
            clear XF
            go_enter Tryz.func161, Tryz.ntmps161
            go_wp2_with fail
            with_reducible refine (CX.out _).mono ?_
            rintro e w' ⟨rfl, y1, rfl⟩
            have hsy1 := y1.bel.size
            (try simp only [World.size_alloc, World.size_setCell, World.size_drew] at hsy1)
            have l0 : w.heap.size < y1.w.heap.size := by omega
            have l1 : w.heap.size + 1 < y1.w.heap.size := by omega
            go_wp2_with fail
            go_region
            all_goals
              go_wp2_with fail
              with_reducible refine (C1.out _).mono ?_
              rintro e w' ⟨rfl, y3, rfl⟩
              have hsy3 := y3.bel.size
              (try simp only [World.size_alloc, World.size_setCell, World.size_drew] at hsy3)
              have n0 : w.heap.size < y3.w.heap.size := by omega
              have n1 : w.heap.size + 1 < y3.w.heap.size := by omega
              have n2 : y1.w.heap.size < y3.w.heap.size := by omega
              have n3 : y1.w.heap.size + 1 < y3.w.heap.size := by omega
              have n4 : y1.w.heap.size + 1 + 1 < y3.w.heap.size := by omega
              go_wp2_with fail
              with_reducible refine (C2.out _).mono ?_
              rintro e w' ⟨rfl, y4, rfl⟩
              have hsy4 := y4.bel.size
              (try simp only [World.size_alloc, World.size_setCell, World.size_drew] at hsy4)
              go_wp2_with fail
              go_ret
              exact .mk (by rw [X.out]; rfl) bb
          · have X := Lib.hid XF
            clear XF
            go_enter Tryz.func161, Tryz.ntmps161
            go_wp2_with fail
            with_reducible refine (CX.out _).mono ?_
            rintro e w' ⟨rfl, y1, rfl⟩
            have hsy1 := y1.bel.size
            (try simp only [World.size_alloc, World.size_setCell, World.size_drew] at hsy1)
            have l0 : w.heap.size < y1.w.heap.size := by omega
            have l1 : w.heap.size + 1 < y1.w.heap.size := by omega
            go_wp2_with fail
            go_region
            all_goals
              go_wp2_with fail
              with_reducible refine (C1.out _).mono ?_
              rintro e w' ⟨rfl, y3, rfl⟩
              have hsy3 := y3.bel.size
              (try simp only [World.size_alloc, World.size_setCell, World.size_drew] at hsy3)
              go_wp2_with fail
              go_ret
              exact .mk (by rw [X.out]; rfl) bb
      · skip
        obtain rfl := h5.out (by simp) rfl rfl
        simp only [Bool.true_eq_false, Bool.false_eq_true, if_true, if_false, Bool.and_true, Bool.and_false, Bool.true_and, Bool.false_and] at XF
        have C1 := fun w => OE.out f.q w hfq
        have C2 := fun w => OF.out e.p w hep
        generalize isOnB e.p e.q f.q = o1 at *
        generalize isOnB f.p f.q e.p = o2 at *
        replace C1 := Lib.hid C1
        replace C2 := Lib.hid C2
        clear OE OF h5
        cases o1
        · have X := Lib.hid XF
          clear XF
          go_enter Tryz.func161, Tryz.ntmps161
          go_wp2_with fail
          with_reducible refine (CX.out _).mono ?_
          rintro e w' ⟨rfl, y1, rfl⟩
          have hsy1 := y1.bel.size
          (try simp only [World.size_alloc, World.size_setCell, World.size_drew] at hsy1)
          have l0 : w.heap.size < y1.w.heap.size := by omega
          have l1 : w.heap.size + 1 < y1.w.heap.size := by omega
          go_wp2_with fail
          go_region
          all_goals
            go_wp2_with fail
            with_reducible refine (C1.out _).mono ?_
            rintro e w' ⟨rfl, y3, rfl⟩
            have hsy3 := y3.bel.size
            (try simp only [World.size_alloc, World.size_setCell, World.size_drew] at hsy3)
            have n0 : w.heap.size < y3.w.heap.size := by omega
            have n1 : w.heap.size + 1 < y3.w.heap.size := by omega
            have n2 : y1.w.heap.size < y3.w.heap.size := by omega
            have n3 : y1.w.heap.size + 1 < y3.w.heap.size := by omega
            have n4 : y1.w.heap.size + 1 + 1 < y3.w.heap.size := by omega
            go_wp2_with fail
            with_reducible refine (C2.out _).mono ?_
            rintro e w' ⟨rfl, y4, rfl⟩
            have hsy4 := y4.bel.size
            (try simp only [World.size_alloc, World.size_setCell, World.size_drew] at hsy4)
            go_wp2_with fail
            go_ret
            exact .mk (by rw [X.out]; rfl) bb
        · have X := Lib.hid XF
          clear XF
          go_enter Tryz.func161, Tryz.ntmps161
          go_wp2_with fail
          with_reducible refine (CX.out _).mono ?_
          rintro e w' ⟨rfl, y1, rfl⟩
          have hsy1 := y1.bel.size
          (try simp only [World.size_alloc, World.size_setCell, World.size_drew] at hsy1)
          have l0 : w.heap.size < y1.w.heap.size := by omega
          have l1 : w.heap.size + 1 < y1.w.heap.size := by omega
          go_wp2_with fail
          go_region
          all_goals
            go_wp2_with fail
            with_reducible refine (C1.out _).mono ?_
            rintro e w' ⟨rfl, y3, rfl⟩
            have hsy3 := y3.bel.size
            (try simp only [World.size_alloc, World.size_setCell, World.size_drew] at hsy3)
            go_wp2_with fail
            go_ret
            exact .mk (by rw [X.out]; rfl) bb
    · cases p4
      · skip
        simp only [Bool.true_eq_false, Bool.false_eq_true, if_true, if_false, Bool.and_true, Bool.and_false, Bool.true_and, Bool.false_and] at XF
        have C1 := fun w => OE.out f.q w hfq
        have C2 := fun w => OF.out e.q w heq
        generalize isOnB e.p e.q f.q = o1 at *
        generalize isOnB f.p f.q e.q = o2 at *
        replace C1 := Lib.hid C1
        replace C2 := Lib.hid C2
        clear OE OF h5
        cases o1
        · have X := Lib.hid XF
          clear XF
          go_enter Tryz.func161, Tryz.ntmps161
          go_wp2_with fail
          with_reducible refine (CX.out _).mono ?_
          rintro e w' ⟨rfl, y1, rfl⟩
          have hsy1 := y1.bel.size
          (try simp only [World.size_alloc, World.size_setCell, World.size_drew] at hsy1)
          have l0 : w.heap.size < y1.w.heap.size := by omega
          have l1 : w.heap.size + 1 < y1.w.heap.size := by omega
          go_wp2_with fail
          go_region
          all_goals
            go_wp2_with fail
            with_reducible refine (C1.out _).mono ?_
            rintro e w' ⟨rfl, y3, rfl⟩
            have hsy3 := y3.bel.size
            (try simp only [World.size_alloc, World.size_setCell, World.size_drew] at hsy3)
            have n0 : w.heap.size < y3.w.heap.size := by omega
            have n1 : w.heap.size + 1 < y3.w.heap.size := by omega
            have n2 : y1.w.heap.size < y3.w.heap.size := by omega
            have n3 : y1.w.heap.size + 1 < y3.w.heap.size := by omega
            have n4 : y1.w.heap.size + 1 + 1 < y3.w.heap.size := by omega
            go_wp2_with fail
            with_reducible refine (C2.out _).mono ?_
            rintro e w' ⟨rfl, y4, rfl⟩
            have hsy4 := y4.bel.size
            (try simp only [World.size_alloc, World.size_setCell, World.size_drew] at hsy4)
            go_wp2_with fail
            go_ret
            exact .mk (by rw [X.out]; rfl) bb
        · have X := Lib.hid XF
          clear XF
          go_enter Tryz.func161, Tryz.ntmps161
          go_wp2_with fail
          with_reducible refine (CX.out _).mono ?_
          rintro e w' ⟨rfl, y1, rfl⟩
          have hsy1 := y1.bel.size
          (try simp only [World.size_alloc, World.size_setCell, World.size_drew] at hsy1)
          have l0 : w.heap.size < y1.w.heap.size := by omega
          have l1 : w.heap.size + 1 < y1.w.heap.size := by omega
          go_wp2_with fail
          go_region
          all_goals
            go_wp2_with fail
            with_reducible refine (C1.out _).mono ?_
            rintro e w' ⟨rfl, y3, rfl⟩
            have hsy3 := y3.bel.size
            (try simp only [World.size_alloc, World.size_setCell, World.size_drew] at hsy3)
            go_wp2_with fail
            go_ret
            exact .mk (by rw [X.out]; rfl) bb
      · skip
        have X := Lib.hid XF
        simp only [Bool.true_eq_false, Bool.false_eq_true, if_true, if_false, Bool.and_true, Bool.and_false, Bool.true_and, Bool.false_and] at X
        clear XF OE OF h5
        go_enter Tryz.func161, Tryz.ntmps161
        go_wp2_with fail
        with_reducible refine (CX.out _).mono ?_
        rintro e w' ⟨rfl, y1, rfl⟩
        have hsy1 := y1.bel.size
        (try simp only [World.size_alloc, World.size_setCell, World.size_drew] at hsy1)
        have l0 : w.heap.size < y1.w.heap.size := by omega
        have l1 : w.heap.size + 1 < y1.w.heap.size := by omega
        go_wp2_with fail
        go_ret
        exact .mk (by rw [X.out]; rfl) bb
  · cases p2
    · cases p3
      · skip
        simp only [Bool.true_eq_false, Bool.false_eq_true, if_true, if_false, Bool.and_true, Bool.and_false, Bool.true_and, Bool.false_and] at XF
        have C1 := fun w => OE.out f.p w hfp
        have C2 := fun w => OF.out e.q w heq
        generalize isOnB e.p e.q f.p = o1 at *
        generalize isOnB f.p f.q e.q = o2 at *
        replace C1 := Lib.hid C1
        replace C2 := Lib.hid C2
        clear OE OF h5
        cases o1
        · have X := Lib.hid XF
          clear XF
          go_enter Tryz.func161, Tryz.ntmps161
          go_wp2_with fail
          with_reducible refine (CX.out _).mono ?_
          rintro e w' ⟨rfl, y1, rfl⟩
          have hsy1 := y1.bel.size
          (try simp only [World.size_alloc, World.size_setCell, World.size_drew] at hsy1)
          have l0 : w.heap.size < y1.w.heap.size := by omega
          have l1 : w.heap.size + 1 < y1.w.heap.size := by omega
          go_wp2_with fail
          go_region
          all_goals
            go_wp2_with fail
            with_reducible refine (C1.out _).mono ?_
            rintro e w' ⟨rfl, y3, rfl⟩
            have hsy3 := y3.bel.size
            (try simp only [World.size_alloc, World.size_setCell, World.size_drew] at hsy3)
            have n0 : w.heap.size < y3.w.heap.size := by omega
            have n1 : w.heap.size + 1 < y3.w.heap.size := by omega
            have n2 : y1.w.heap.size < y3.w.heap.size := by omega
            have n3 : y1.w.heap.size + 1 < y3.w.heap.size := by omega
            have n4 : y1.w.heap.size + 1 + 1 < y3.w.heap.size := by omega
            go_wp2_with fail
            with_reducible refine (C2.out _).mono ?_
            rintro e w' ⟨rfl, y4, rfl⟩
            have hsy4 := y4.bel.size
            (try simp only [World.size_alloc, World.size_setCell, World.size_drew] at hsy4)
            go_wp2_with fail
            go_ret
            exact .mk (by rw [X.out]; rfl) bb
        · have X := Lib.hid XF
          clear XF
          go_enter Tryz.func161, Tryz.ntmps161
          go_wp2_with fail
          with_reducible refine (CX.out _).mono ?_
          rintro e w' ⟨rfl, y1, rfl⟩
          have hsy1 := y1.bel.size
          (try simp only [World.size_alloc, World.size_setCell, World.size_drew] at hsy1)
          have l0 : w.heap.size < y1.w.heap.size := by omega
          have l1 : w.heap.size + 1 < y1.w.heap.size := by omega
          go_wp2_with fail
          go_region
          all_goals
            go_wp2_with fail
            with_reducible refine (C1.out _).mono ?_
            rintro e w' ⟨rfl, y3, rfl⟩
            have hsy3 := y3.bel.size
            (try simp only [World.size_alloc, World.size_setCell, World.size_drew] at hsy3)
            go_wp2_with fail
            go_ret
            exact .mk (by rw [X.out]; rfl) bb
      · cases p4
        · skip
          simp only [Bool.true_eq_false, Bool.false_eq_true, if_true, if_false, Bool.and_true, Bool.and_false, Bool.true_and, Bool.false_and] at XF
          have C1 := fun w => OE.out f.q w hfq
          have C2 := fun w => OF.out e.q w heq
          generalize isOnB e.p e.q f.q = o1 at *
          generalize isOnB f.p f.q e.q = o2 at *
          replace C1 := Lib.hid C1
          replace C2 := Lib.hid C2
          clear OE OF h5
          cases o1
          · have X := Lib.hid XF
            clear XF
            go_enter Tryz.func161, Tryz.ntmps161
            go_wp2_with fail
            with_reducible refine (CX.out _).mono ?_
            rintro e w' ⟨rfl, y1, rfl⟩
            have hsy1 := y1.bel.size
            (try simp only [World.size_alloc, World.size_setCell, World.size_drew] at hsy1)
            have l0 : w.heap.size < y1.w.heap.size := by omega
            have l1 : w.heap.size + 1 < y1.w.heap.size := by omega
            go_wp2_with fail
            go_region
            all_goals
              go_wp2_with fail
              with_reducible refine (C1.out _).mono ?_
              rintro e w' ⟨rfl, y3, rfl⟩
              have hsy3 := y3.bel.size
              (try simp only [World.size_alloc, World.size_setCell, World.size_drew] at hsy3)
              have n0 : w.heap.size < y3.w.heap.size := by omega
              have n1 : w.heap.size + 1 < y3.w.heap.size := by omega
              have n2 : y1.w.heap.size < y3.w.heap.size := by omega
              have n3 : y1.w.heap.size + 1 < y3.w.heap.size := by omega
              have n4 : y1.w.heap.size + 1 + 1 < y3.w.heap.size := by omega
              go_wp2_with fail
              with_reducible refine (C2.out _).mono ?_
              rintro e w' ⟨rfl, y4, rfl⟩
              have hsy4 := y4.bel.size
              (try simp only [World.size_alloc, World.size_setCell, World.size_drew] at hsy4)
              go_wp2_with fail
              go_ret
              exact .mk (by rw [X.out]; rfl) bb
          · have X := Lib.hid XF
            clear XF
            go_enter Tryz.func161, Tryz.ntmps161
            go_wp2_with fail
            with_reducible refine (CX.out _).mono ?_
            rintro e w' ⟨rfl, y1, rfl⟩
            have hsy1 := y1.bel.size
            (try simp only [World.size_alloc, World.size_setCell, World.size_drew] at hsy1)
            have l0 : w.heap.size < y1.w.heap.size := by omega
            have l1 : w.heap.size + 1 < y1.w.heap.size := by omega
            go_wp2_with fail
            go_region
            all_goals
              go_wp2_with fail
              with_reducible refine (C1.out _).mono ?_
              rintro e w' ⟨rfl, y3, rfl⟩
              have hsy3 := y3.bel.size
              (try simp only [World.size_alloc, World.size_setCell, World.size_drew] at hsy3)
              go_wp2_with fail
              go_ret
              exact .mk (by rw [X.out]; rfl) bb
        · skip
          have X := Lib.hid XF
          simp only [Bool.true_eq_false, Bool.false_eq_true, if_true, if_false, Bool.and_true, Bool.and_false, Bool.true_and, Bool.false_and] at X
          clear XF OE OF h5
          go_enter Tryz.func161, Tryz.ntmps161
          go_wp2_with fail
          with_reducible refine (CX.out _).mono ?_
          rintro e w' ⟨rfl, y1, rfl⟩
          have hsy1 := y1.bel.size
          (try simp only [World.size_alloc, World.size_setCell, World.size_drew] at hsy1)
          have l0 : w.heap.size < y1.w.heap.size := by omega
          have l1 : w.heap.size + 1 < y1.w.heap.size := by omega
          go_wp2_with fail
          go_ret
          exact .mk (by rw [X.out]; rfl) bb
    · skip
      have X := Lib.hid XF
      simp only [Bool.true_eq_false, Bool.false_eq_true, if_true, if_false, Bool.and_true, Bool.and_false, Bool.true_and, Bool.false_and] at X
      clear XF OE OF h5
      go_enter Tryz.func161, Tryz.ntmps161
      go_wp2_with fail
      with_reducible refine (CX.out _).mono ?_
      rintro e w' ⟨rfl, y1, rfl⟩
      have hsy1 := y1.bel.size
      (try simp only [World.size_alloc, World.size_setCell, World.size_drew] at hsy1)
      have l0 : w.heap.size < y1.w.heap.size := by omega
      have l1 : w.heap.size + 1 < y1.w.heap.size := by omega
      go_wp2_with fail
      go_ret
      exact .mk (by rw [X.out]; rfl) bb
end Go.Proofs.YtklcaphkfdlipaaGreatDoor
