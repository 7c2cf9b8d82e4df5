import Derived.Test.YtklcaphkfdlipaaGreatDoorPackVa
import Derived.Test.YtklcaphkfdlipaaGreatDoorFitW
/- Several of my texts, one behind the other: FitF, MidW, TogW. -/
/- May two edges lie so; middles: the program's way. -/
set_option linter.unusedSimpArgs false
set_option linter.unusedVariables false
namespace Go.Proofs.YtklcaphkfdlipaaGreatDoor
open Go.RowKit
theorem ptEqB_comm (p q : Pt) : ptEqB p q = ptEqB q p := bool_eq (by rw [ptEqB_iff, ptEqB_iff]; exact ⟨fun h => h.symm, fun h => h.symm⟩)
/-- `fitB` by comparisons. -/
theorem fitB_eq (e f : Ed) : fitB e f =
    if edEqB e f.back then true else if edEqB e f then false
    else if ptEqB e.p f.p then !isOnB e.p e.q f.q && !isOnB e.p f.q e.q
    else if ptEqB e.p f.q then !isOnB e.p e.q f.p && !isOnB e.p f.p e.q
    else if ptEqB e.q f.p then !isOnB e.q e.p f.q && !isOnB e.q f.q e.p
    else if ptEqB e.q f.q then !isOnB e.q e.p f.p && !isOnB e.q f.p e.p
    else !crossB e.p e.q f.p f.q := by
  unfold fitB
  have e1 : (e.p = f.q ∧ e.q = f.p) ↔ edEqB e f.back = true := by rw [edEqB_iff]; rfl
  have e2 : (e.p = f.p ∧ e.q = f.q) ↔ edEqB e f = true := by rw [edEqB_iff]
  by_cases c1 : edEqB e f.back = true
  · rw [if_pos (e1.2 c1), if_pos c1]
  rw [if_neg (fun h => c1 (e1.1 h)), if_neg c1]
  by_cases c2 : edEqB e f = true
  · rw [if_pos (e2.2 c2), if_pos c2]
  rw [if_neg (fun h => c2 (e2.1 h)), if_neg c2]
  by_cases c3 : ptEqB e.p f.p = true
  · rw [if_pos (ptEqB_iff.1 c3), if_pos c3]
  rw [if_neg (fun h => c3 (ptEqB_iff.2 h)), if_neg c3]
  by_cases c4 : ptEqB e.p f.q = true
  · rw [if_pos (ptEqB_iff.1 c4), if_pos c4]
  rw [if_neg (fun h => c4 (ptEqB_iff.2 h)), if_neg c4]
  by_cases c5 : ptEqB e.q f.p = true
  · rw [if_pos (ptEqB_iff.1 c5), if_pos c5]
  rw [if_neg (fun h => c5 (ptEqB_iff.2 h)), if_neg c5]
  by_cases c6 : ptEqB e.q f.q = true
  · rw [if_pos (ptEqB_iff.1 c6), if_pos c6]
  rw [if_neg (fun h => c6 (ptEqB_iff.2 h)), if_neg c6]
structure EdB (e : Ed) : Prop where
  p : PtB e.p
  q : PtB e.q
set_option maxRecDepth 8000 in
set_option maxHeartbeats 8000000 in
theorem fit_any (e f : Ed) (w : World) (he : EdB e) (hf : EdB f) : Calls Tryz.prog 158 #[.agg #[.int .i64 e.p.x, .int .i64 e.p.y, .int .i64 e.q.x, .int .i64 e.q.y], .agg #[.int .i64 f.p.x, .int .i64 f.p.y, .int .i64 f.q.x, .int .i64 f.q.y]] w (Ret w (.bool (fitB e f))) := by
  have CB := Lib.hid (fun (w : World) => back_any f w)
  have CJ := fun (w : World) => joint_any e f w
  have CX := fun (w : World) => cross_any e.p e.q f.p f.q w he.p he.q hf.p hf.q
  have CO := fun (p a b : Pt) (w : World) (h1 : PtB p) (h2 : PtB a) (h3 : PtB b) => isOn_any p a b w h1 h2 h3
  have q1 := fun w => eqEd_run e f.back w
  have q2 := fun w => eqEd_run e f w
  have XF := fitB_eq e f
  obtain ⟨b1, h1⟩ : ∃ b, edEqB e f.back = b := ⟨_, rfl⟩
  obtain ⟨b2, h2⟩ : ∃ b, edEqB e f = b := ⟨_, rfl⟩
  rw [h1, h2] at XF
  simp only [h1] at q1
  simp only [h2] at q2
  unfold Ed.back at q1
  simp only at q1
  clear h1 h2
  have hep := he.p
  have heq := he.q
  have hfp := hf.p
  have hfq := hf.q
  clear he hf
  cases b1
  rotate_left
  · have X := Lib.hid XF
    simp only [if_true] at X
    clear XF CJ CX CO q2
    go_enter Tryz.func158, Tryz.ntmps158
    go_wp2_with fail
    refine wp_region_later (by kernel_rfl) (by kernel_rfl) ?_
    repeat (go_big_quiet_step ((first | (go_at_call 71; exact Calls.later (CB.out _)))))
    refine wpQuiet_nil ?_
    rintro _ ⟨xq, rfl⟩
    go_wp2_with fail
    go_ret
    exact .mk (by rw [X.out]; rfl) bb
  cases b2
  rotate_left
  · have X := Lib.hid XF
    clear XF CJ CX CO
    go_enter Tryz.func158, Tryz.ntmps158
    go_wp2_with fail
    refine wp_region_later (by kernel_rfl) (by kernel_rfl) ?_
    repeat (go_big_quiet_step ((first | (go_at_call 71; exact Calls.later (CB.out _)))))
    refine wpQuiet_nil ?_
    rintro _ ⟨xq, rfl⟩
    have hsq := xq.bel.size
    simp only [World.size_alloc] at hsq
    have l0 : w.heap.size < xq.w.heap.size := by omega
    have l1 : w.heap.size + 1 < xq.w.heap.size := by omega
    go_wp2_with fail
    go_ret
    exact .mk (by rw [X.out]; rfl) bb
  simp only [Bool.false_eq_true, if_false] at XF
  have XJ : jointV e f = _ := rfl
  unfold jointV at XJ
  have main : ∀ (p a b : Pt), PtB p → PtB a → PtB b → jointV e f = .tuple #[ptV p, ptV a, ptV b, .bool true] → fitB e f = (!isOnB p a b && !isOnB p b a) → Calls Tryz.prog 158 #[.agg #[.int .i64 e.p.x, .int .i64 e.p.y, .int .i64 e.q.x, .int .i64 e.q.y], .agg #[.int .i64 f.p.x, .int .i64 f.p.y, .int .i64 f.q.x, .int .i64 f.q.y]] w (Ret w (.bool (fitB e f))) := by
    intro p a b hp ha hb hJ hF
    rw [hJ] at CJ
    replace CJ := Lib.hid CJ
    have C1 := fun w => CO p a b w hp ha hb
    have C2 := fun w => CO p b a w hp hb ha
    obtain ⟨o1, h1⟩ : ∃ b', isOnB p a b = b' := ⟨_, rfl⟩
    obtain ⟨o2, h2⟩ : ∃ b', isOnB p b a = b' := ⟨_, rfl⟩
    rw [h1, h2] at hF
    simp only [h1] at C1
    simp only [h2] at C2
    rw [hF]
    replace C1 := Lib.hid C1
    replace C2 := Lib.hid C2
    clear h1 h2 XF XJ CO hJ hF CX
    cases o1
    all_goals
      go_enter Tryz.func158, Tryz.ntmps158
      go_wp2_with fail
      refine wp_region_later (by kernel_rfl) (by kernel_rfl) ?_
      repeat (go_big_quiet_step ((first | (go_at_call 71; exact Calls.later (CB.out _)))))
      refine wpQuiet_nil ?_
      rintro _ ⟨xq, rfl⟩
      have hsq := xq.bel.size
      simp only [World.size_alloc] at hsq
      have l0 : w.heap.size < xq.w.heap.size := by omega
      have l1 : w.heap.size + 1 < xq.w.heap.size := by omega
      go_wp2_with fail
      with_reducible refine (CJ.out _).mono ?_
      rintro e w' ⟨rfl, y2, rfl⟩
      have hsy2 := y2.bel.size
      (try simp only [World.size_alloc, World.size_setCell, World.size_drew] at hsy2)
      have m0 : w.heap.size < y2.w.heap.size := by omega
      have m1 : w.heap.size + 1 < y2.w.heap.size := by omega
    · skip
      go_wp2_with fail
      with_reducible refine (C1.out _).mono ?_
      rintro e w' ⟨rfl, y3, rfl⟩
      have hsy3 := y3.bel.size
      (try simp only [World.size_alloc, World.size_setCell, World.size_drew] at hsy3)
      have n2 : y2.w.heap.size < y3.w.heap.size := by omega
      have n3 : y2.w.heap.size + 1 < y3.w.heap.size := by omega
      have n4 : y2.w.heap.size + 1 + 1 < y3.w.heap.size := by omega
      go_wp2_with fail
      with_reducible refine (C2.out _).mono ?_
      rintro e w' ⟨rfl, y4, rfl⟩
      have hsy4 := y4.bel.size
      (try simp only [World.size_alloc, World.size_setCell, World.size_drew] at hsy4)
      go_wp2_with fail
      go_ret
      exact .mk rfl bb
    · skip
      go_wp2_with fail
      with_reducible refine (C1.out _).mono ?_
      rintro e w' ⟨rfl, y3, rfl⟩
      have hsy3 := y3.bel.size
      (try simp only [World.size_alloc, World.size_setCell, World.size_drew] at hsy3)
      go_wp2_with fail
      go_ret
      exact .mk rfl bb
  by_cases c1 : ptEqB e.p f.p = true
  · rw [if_pos c1] at XF XJ
    exact main _ _ _ hep heq hfq (by unfold jointV; rw [if_pos c1]) XF
  rw [if_neg c1] at XF
  by_cases c2 : ptEqB e.p f.q = true
  · rw [if_pos c2] at XF
    exact main _ _ _ hep heq hfp (by unfold jointV; rw [if_neg c1, if_pos c2]) XF
  rw [if_neg c2] at XF
  by_cases c3 : ptEqB e.q f.p = true
  · rw [if_pos c3] at XF
    exact main _ _ _ heq hep hfq (by unfold jointV; rw [if_neg c1, if_neg c2, if_pos c3]) XF
  rw [if_neg c3] at XF
  by_cases c4 : ptEqB e.q f.q = true
  · rw [if_pos c4] at XF
    exact main _ _ _ heq hep hfp (by unfold jointV; rw [if_neg c1, if_neg c2, if_neg c3, if_pos c4]) XF
  rw [if_neg c4] at XF
  have hJ : jointV e f = .tuple #[ptV ⟨0, 0⟩, ptV ⟨0, 0⟩, ptV ⟨0, 0⟩, .bool false] := by unfold jointV; rw [if_neg c1, if_neg c2, if_neg c3, if_neg c4]
  rw [hJ] at CJ
  rw [XF]
  replace CJ := Lib.hid CJ
  obtain ⟨X, hX⟩ : ∃ b', crossB e.p e.q f.p f.q = b' := ⟨_, rfl⟩
  simp only [hX] at CX ⊢
  replace CX := Lib.hid CX
  clear main XF XJ CO c1 c2 c3 c4 hJ hX
  go_enter Tryz.func158, Tryz.ntmps158
  go_wp2_with fail
  refine wp_region_later (by kernel_rfl) (by kernel_rfl) ?_
  repeat (go_big_quiet_step ((first | (go_at_call 71; exact Calls.later (CB.out _)))))
  refine wpQuiet_nil ?_
  rintro _ ⟨xq, rfl⟩
  have hsq := xq.bel.size
  simp only [World.size_alloc] at hsq
  have l0 : w.heap.size < xq.w.heap.size := by omega
  have l1 : w.heap.size + 1 < xq.w.heap.size := by omega
  go_wp2_with fail
  with_reducible refine (CJ.out _).mono ?_
  rintro e w' ⟨rfl, y2, rfl⟩
  have hsy2 := y2.bel.size
  (try simp only [World.size_alloc, World.size_setCell, World.size_drew] at hsy2)
  have m0 : w.heap.size < y2.w.heap.size := by omega
  have m1 : w.heap.size + 1 < y2.w.heap.size := by omega
  go_wp2_with fail
  with_reducible refine (CX.out _).mono ?_
  rintro e w' ⟨rfl, y3, rfl⟩
  have hsy3 := y3.bel.size
  (try simp only [World.size_alloc, World.size_setCell, World.size_drew] at hsy3)
  go_wp2_with fail
  go_ret
  exact .mk rfl bb
end Go.Proofs.YtklcaphkfdlipaaGreatDoor

/- Middles of edges inside of rings: the program's way. -/
set_option linter.unusedSimpArgs false
set_option linter.unusedVariables false
namespace Go.Proofs.YtklcaphkfdlipaaGreatDoor
open Go.RowKit
def dblP (p : Pt) : Pt := ⟨2 * p.x, 2 * p.y⟩
theorem dbl_len (L : List Pt) : (dbl L).length = L.length := by simp [dbl]
theorem dbl_at {L : List Pt} {k : Nat} (h : k < L.length) : (dbl L).take (k + 1) = (dbl L).take k ++ [dblP L[k]] := by
  rw [List.take_succ_eq_append_getElem (by rw [dbl_len]; exact h)]
  simp [dbl, dblP]
/-- Points with coordinates of the office. -/
structure SmL (L : List Pt) : Prop where
  ok : ∀ p ∈ L, -1000 ≤ p.x ∧ p.x ≤ 1000 ∧ -1000 ≤ p.y ∧ p.y ≤ 1000
theorem SmL.dbl {L : List Pt} (h : SmL L) : PtsB (Go.Proofs.YtklcaphkfdlipaaGreatDoor.dbl L) := ⟨fun p hp => by
  obtain ⟨q, hq, rfl⟩ := List.mem_map.1 hp
  obtain ⟨a, b, c, d⟩ := h.ok q hq
  exact ⟨by dsimp only; omega, by dsimp only; omega, by dsimp only; omega, by dsimp only; omega⟩⟩
theorem SmL.ptsB {L : List Pt} (h : SmL L) : PtsB L := ⟨fun p hp => by
  obtain ⟨a, b, c, d⟩ := h.ok p hp
  exact ⟨by omega, by omega, by omega, by omega⟩⟩
structure EdS (e : Ed) : Prop where
  p : -1000 ≤ e.p.x ∧ e.p.x ≤ 1000 ∧ -1000 ≤ e.p.y ∧ e.p.y ≤ 1000
  q : -1000 ≤ e.q.x ∧ e.q.x ≤ 1000 ∧ -1000 ≤ e.q.y ∧ e.q.y ≤ 1000
theorem EdS.b {e : Ed} (h : EdS e) : EdB e := by
  obtain ⟨⟨a, b, c, d⟩, a', b', c', d'⟩ := h
  exact ⟨⟨by omega, by omega, by omega, by omega⟩, ⟨by omega, by omega, by omega, by omega⟩⟩
set_option maxRecDepth 8000 in
set_option maxHeartbeats 4000000 in
theorem doubled_any (L : List Pt) (a : Option Addr) (n c : Nat) (w : World) (hn : L.length = n) (hm : n ≤ 1000) (hb : SmL L) (hr : Row w a (ptsCells L)) :
    Calls Tryz.prog 179 #[.slice a n c] w (RetOwn w 72 2 n (ptsCells (dbl L)) id) := by
  subst hn
  obtain ⟨ii, j1, j2, j3, j4⟩ := info_pnt
  have Jii := Lib.hid (And.intro j1 (And.intro j2 (And.intro j3 j4)))
  have hat := Lib.hid (fun (k : Nat) (h : k < L.length) => dbl_at h)
  have hall := Lib.hid (show (dbl L).take L.length = dbl L by rw [List.take_of_length_le (by rw [dbl_len]; omega)])
  have hlen := Lib.hid (fun (k : Nat) (h : k ≤ L.length) => (show ((dbl L).take k).length = k by rw [List.length_take, dbl_len]; omega))
  generalize dbl L = E at *
  replace hr := Lib.hid hr
  replace hb := Lib.hid hb
  clear j1 j2 j3 j4
  go_enter Tryz.func179, Tryz.ntmps179
  go_wp2_with fail
  go_loopw [3, 8] (fun t4 t11 wr => ∃ (k : Nat) (a6 : Option Addr) (c6 : Nat), k ≤ L.length ∧ t11 = .int .i64 k ∧ t4 = .slice a6 k c6 ∧ wr.ownsRow w.heap.size 72 2 (.slice a6 k c6) k (ptsCells (E.take k)) ∧ ∃ z : Later w, wr = z.w) (fun _ t11 _ => L.length - (intOf t11).toNat)
  case atStart => exact ⟨0, _, _, Nat.zero_le _, rfl, rfl, World.ownsRow_nil _ _ _ _, LaterC.mk bb⟩
  case round =>
    obtain ⟨k, a6, c6, hk, rfl, rfl, hown, z2, rfl⟩ := hrel
    have hz2 := z2.bel.size
    replace hown := Lib.hid hown
    by_cases hlt : k < L.length
    · have hk1 : (k : Int) < (L.length : Int) := by omega
      obtain ⟨b, o, rfl, hbb, q0, q1⟩ := hr.out.pt (k := k) (by omega)
      obtain ⟨b1, b2, b3, b4⟩ := hb.out.ok _ (List.getElem_mem hlt)
      have X := hat.out k hlt
      have hlk := hlen.out k (by omega)
      have hcl := length_ptsCells (E.take k)
      generalize L[k] = P at *
      replace X := Lib.hid X
      go_wp2_with (at_builtin; (refine wpList_append_later _ rfl _ _ _ rfl 72 ii _ 2 16 Tryz.underlying83 Jii.out.1 Jii.out.2.1 Jii.out.2.2.1 Jii.out.2.2.2 rfl (by decide) (w) ?qa1 _ _ _ (ptsCells (E.take k)) rfl ?qa2 _ _ _ (ptCells (dblP P)) rfl ?qa3 ?qa4 ?qa5 ?qa6 ?qa7 ?_); (case qa1 => (exact bb)); (case qa2 => exact own_bel hown.out bb); (case qa3 => (first | rfl | (simp [boolCells]; done) | (simp [intCells]; done) | (simp; done) | (first | omega | (simp only [List.length_append, List.length_cons, List.length_nil]; omega)))); (case qa4 => exact Row.madeAt (by simp only [World.size_alloc]) rfl); (case qa5 => (intro u hu; simp [ptCells] at hu; rcases hu with rfl | rfl <;> rfl)); (case qa6 => (unfold maxLen; (first | omega | (simp only [List.length_append, List.length_cons, List.length_nil]; omega)))); (case qa7 => (first | omega | (simp only [List.length_append, List.length_cons, List.length_nil]; omega))); intro a9 c9 x9 hown9)
      replace hown9 := Lib.hid hown9
      go_roundw
      case rel => exact ⟨k + 1, a9, c9, by omega, by go_num, rfl, by rw [X.out, ptsCells_append, show ptsCells [dblP P] = ptCells (dblP P) by simp [ptsCells]]; exact hown9.out, x9, rfl⟩
      case measure => first | (simp [intOf]; done) | (simp [intOf]; omega) | omega
    · obtain rfl : k = L.length := by omega
      have hown8 := hown.out
      rw [hall.out] at hown8
      replace hown8 := Lib.hid hown8
      go_wp2_with fail
      go_ret
      exact RetOwn.mk _ rfl hown8.out z2.bel
set_option maxRecDepth 8000 in
set_option maxHeartbeats 4000000 in
theorem isMiddleIn_any (L : List Pt) (e : Ed) (a : Option Addr) (n c : Nat) (w : World) (hn : L.length = n) (hm : n ≤ 1000) (hb : SmL L) (he : EdS e) (hr : Row w a (ptsCells L)) :
    Calls Tryz.prog 157 #[.slice a n c, .agg #[.int .i64 e.p.x, .int .i64 e.p.y, .int .i64 e.q.x, .int .i64 e.q.y]] w (Ret w (.bool (midIn sideZ L e))) := by
  have CD := Lib.hid (fun (w : World) (hr : Row w a (ptsCells L)) => doubled_any L a n c w hn hm hb hr)
  obtain ⟨⟨p1, p2, p3, p4⟩, q1, q2, q3, q4⟩ := he
  have CS := fun (a : Option Addr) (c : Nat) (w : World) (hr : Row w a (ptsCells (dbl L))) => side_any (dbl L) ⟨e.p.x + e.q.x, e.p.y + e.q.y⟩ a n c w (by rw [dbl_len]; exact hn) (by omega) hb.dbl ⟨by dsimp only; omega, by dsimp only; omega, by dsimp only; omega, by dsimp only; omega⟩ hr
  have X : midIn sideZ L e = decide (0 < sideZ (dbl L) ⟨e.p.x + e.q.x, e.p.y + e.q.y⟩) := rfl
  obtain ⟨s, hs⟩ : ∃ s, sideZ (dbl L) ⟨e.p.x + e.q.x, e.p.y + e.q.y⟩ = s := ⟨_, rfl⟩
  simp only [hs] at CS
  rw [hs] at X
  replace CS := Lib.hid CS
  replace X := Lib.hid X
  replace hr := Lib.hid hr
  clear hb hs hn
  go_enter Tryz.func157, Tryz.ntmps157
  go_wp2_with fail
  refine wp_region_plan [(0, true), (2, true), (3, true), (4, true), (5, true), (6, true), (7, true), (8, true), (9, true), (10, true), (11, true), (12, true), (13, true), (14, true), (15, true), (16, true), (1, false), (17, false), (18, true), (19, true)] (C := LaterC _) (by kernel_rfl) (by kernel_rfl) (by kernel_rfl) rfl (fun _ _ d _ _ h => by cases d <;> exact h) (LaterC.mk ((Below.refl _ _).drew)) ?_
  first | (refine plan_quiet nth0 rfl ?_; intro KP hKP; go_big_quiet_op; go_big_quiet_on) | (refine plan_skip_q nth0 rfl rfl ?_; simp only [Act.put, List.setIfInBounds_toArray, List.set_cons_zero, List.set_cons_succ])
  first | (refine plan_quiet nth2 rfl ?_; intro KP hKP; go_big_quiet_op; go_big_quiet_on) | (refine plan_skip_q nth2 rfl rfl ?_; simp only [Act.put, List.setIfInBounds_toArray, List.set_cons_zero, List.set_cons_succ])
  first | (refine plan_quiet nth3 rfl ?_; intro KP hKP; go_big_quiet_op; go_big_quiet_on) | (refine plan_skip_q nth3 rfl rfl ?_; simp only [Act.put, List.setIfInBounds_toArray, List.set_cons_zero, List.set_cons_succ])
  first | (refine plan_quiet nth4 rfl ?_; intro KP hKP; go_big_quiet_op; go_big_quiet_on) | (refine plan_skip_q nth4 rfl rfl ?_; simp only [Act.put, List.setIfInBounds_toArray, List.set_cons_zero, List.set_cons_succ])
  first | (refine plan_quiet nth5 rfl ?_; intro KP hKP; go_big_quiet_op; go_big_quiet_on) | (refine plan_skip_q nth5 rfl rfl ?_; simp only [Act.put, List.setIfInBounds_toArray, List.set_cons_zero, List.set_cons_succ])
  first | (refine plan_quiet nth6 rfl ?_; intro KP hKP; go_big_quiet_op; go_big_quiet_on) | (refine plan_skip_q nth6 rfl rfl ?_; simp only [Act.put, List.setIfInBounds_toArray, List.set_cons_zero, List.set_cons_succ])
  first | (refine plan_quiet nth7 rfl ?_; intro KP hKP; go_big_quiet_op; go_big_quiet_on) | (refine plan_skip_q nth7 rfl rfl ?_; simp only [Act.put, List.setIfInBounds_toArray, List.set_cons_zero, List.set_cons_succ])
  first | (refine plan_quiet nth8 rfl ?_; intro KP hKP; go_big_quiet_op; go_big_quiet_on) | (refine plan_skip_q nth8 rfl rfl ?_; simp only [Act.put, List.setIfInBounds_toArray, List.set_cons_zero, List.set_cons_succ])
  first | (refine plan_quiet nth9 rfl ?_; intro KP hKP; go_big_quiet_op; go_big_quiet_on) | (refine plan_skip_q nth9 rfl rfl ?_; simp only [Act.put, List.setIfInBounds_toArray, List.set_cons_zero, List.set_cons_succ])
  first | (refine plan_quiet nth10 rfl ?_; intro KP hKP; go_big_quiet_op; go_big_quiet_on) | (refine plan_skip_q nth10 rfl rfl ?_; simp only [Act.put, List.setIfInBounds_toArray, List.set_cons_zero, List.set_cons_succ])
  first | (refine plan_quiet nth11 rfl ?_; intro KP hKP; go_big_quiet_op; go_big_quiet_on) | (refine plan_skip_q nth11 rfl rfl ?_; simp only [Act.put, List.setIfInBounds_toArray, List.set_cons_zero, List.set_cons_succ])
  first | (refine plan_quiet nth12 rfl ?_; intro KP hKP; go_big_quiet_op; go_big_quiet_on) | (refine plan_skip_q nth12 rfl rfl ?_; simp only [Act.put, List.setIfInBounds_toArray, List.set_cons_zero, List.set_cons_succ])
  first | (refine plan_quiet nth13 rfl ?_; intro KP hKP; go_big_quiet_op; go_big_quiet_on) | (refine plan_skip_q nth13 rfl rfl ?_; simp only [Act.put, List.setIfInBounds_toArray, List.set_cons_zero, List.set_cons_succ])
  first | (refine plan_quiet nth14 rfl ?_; intro KP hKP; go_big_quiet_op; go_big_quiet_on) | (refine plan_skip_q nth14 rfl rfl ?_; simp only [Act.put, List.setIfInBounds_toArray, List.set_cons_zero, List.set_cons_succ])
  first | (refine plan_quiet nth15 rfl ?_; intro KP hKP; go_big_quiet_op; go_big_quiet_on) | (refine plan_skip_q nth15 rfl rfl ?_; simp only [Act.put, List.setIfInBounds_toArray, List.set_cons_zero, List.set_cons_succ])
  first | (refine plan_quiet nth16 rfl ?_; intro KP hKP; go_big_quiet_op; go_big_quiet_on) | (refine plan_skip_q nth16 rfl rfl ?_; simp only [Act.put, List.setIfInBounds_toArray, List.set_cons_zero, List.set_cons_succ])
  first | (refine plan_loud nth1 rfl ?_; intro KP hKP; go_wp2_with (first | (go_at_call 179; (with_reducible refine (CD.out _ (hr.out.bel bb)).mono ?_); rintro e w' ⟨a1, c1, rfl, hown, y1, rfl⟩; have hsz := y1.bel.size; (try simp only [World.size_alloc, World.size_setCell, World.size_drew] at hsz); (try have hz0 : w.heap.size < y1.w.heap.size := (by omega)); (try have hz1 : w.heap.size + 1 < y1.w.heap.size := (by omega)); (try have hz2 : w.heap.size + 1 + 1 < y1.w.heap.size := (by omega)); have O1 := Lib.hid (Owns.of hown); clear hown) | (go_at_call 97; first | ((with_reducible refine (Calls.later (CS.out _ _ _ (O1.out.row.bel bb))).mono ?_); rintro e w' ⟨rfl, xl, rfl⟩; have hsz := xl.bel.size; (try simp only [World.size_alloc, World.size_setCell, World.size_drew] at hsz); (try have hz0 : w.heap.size < xl.w.heap.size := (by omega)); (try have hz1 : w.heap.size + 1 < xl.w.heap.size := (by omega)); (try have hz2 : w.heap.size + 1 + 1 < xl.w.heap.size := (by omega))) | ((with_reducible refine (CS.out _ _ _ (O1.out.row.bel bb)).mono ?_); rintro e w' ⟨rfl, xl, rfl⟩; have hsz := xl.bel.size; (try simp only [World.size_alloc, World.size_setCell, World.size_drew] at hsz); (try have hz0 : w.heap.size < xl.w.heap.size := (by omega)); (try have hz1 : w.heap.size + 1 < xl.w.heap.size := (by omega)); (try have hz2 : w.heap.size + 1 + 1 < xl.w.heap.size := (by omega))))); refine hKP _ _ (LaterC.mk bb) ?_; clear hKP KP) | (refine plan_skip nth1 rfl rfl (LaterC.mk bb) ?_; simp only [Act.put, List.setIfInBounds_toArray, List.set_cons_zero, List.set_cons_succ])
  first | (refine plan_loud nth17 rfl ?_; intro KP hKP; go_wp2_with (first | (go_at_call 179; (with_reducible refine (CD.out _ (hr.out.bel bb)).mono ?_); rintro e w' ⟨a1, c1, rfl, hown, y1, rfl⟩; have hsz := y1.bel.size; (try simp only [World.size_alloc, World.size_setCell, World.size_drew] at hsz); (try have hz0 : w.heap.size < y1.w.heap.size := (by omega)); (try have hz1 : w.heap.size + 1 < y1.w.heap.size := (by omega)); (try have hz2 : w.heap.size + 1 + 1 < y1.w.heap.size := (by omega)); have O1 := Lib.hid (Owns.of hown); clear hown) | (go_at_call 97; first | ((with_reducible refine (Calls.later (CS.out _ _ _ (O1.out.row.bel bb))).mono ?_); rintro e w' ⟨rfl, xl, rfl⟩; have hsz := xl.bel.size; (try simp only [World.size_alloc, World.size_setCell, World.size_drew] at hsz); (try have hz0 : w.heap.size < xl.w.heap.size := (by omega)); (try have hz1 : w.heap.size + 1 < xl.w.heap.size := (by omega)); (try have hz2 : w.heap.size + 1 + 1 < xl.w.heap.size := (by omega))) | ((with_reducible refine (CS.out _ _ _ (O1.out.row.bel bb)).mono ?_); rintro e w' ⟨rfl, xl, rfl⟩; have hsz := xl.bel.size; (try simp only [World.size_alloc, World.size_setCell, World.size_drew] at hsz); (try have hz0 : w.heap.size < xl.w.heap.size := (by omega)); (try have hz1 : w.heap.size + 1 < xl.w.heap.size := (by omega)); (try have hz2 : w.heap.size + 1 + 1 < xl.w.heap.size := (by omega))))); refine hKP _ _ (LaterC.mk bb) ?_; clear hKP KP) | (refine plan_skip nth17 rfl rfl (LaterC.mk bb) ?_; simp only [Act.put, List.setIfInBounds_toArray, List.set_cons_zero, List.set_cons_succ])
  first | (refine plan_quiet nth18 rfl ?_; intro KP hKP; go_big_quiet_op; go_big_quiet_on) | (refine plan_skip_q nth18 rfl rfl ?_; simp only [Act.put, List.setIfInBounds_toArray, List.set_cons_zero, List.set_cons_succ])
  first | (refine plan_quiet nth19 rfl ?_; intro KP hKP; go_big_quiet_op; go_big_quiet_on) | (refine plan_skip_q nth19 rfl rfl ?_; simp only [Act.put, List.setIfInBounds_toArray, List.set_cons_zero, List.set_cons_succ])
  refine plan_nil ?_
  go_wp2_with fail
  go_ret
  exact .mk (by rw [X.out]; rfl) bb
end Go.Proofs.YtklcaphkfdlipaaGreatDoor

/- May two rings lie on a map together: the program's way. -/
set_option linter.unusedSimpArgs false
set_option linter.unusedVariables false
namespace Go.Proofs.YtklcaphkfdlipaaGreatDoor
open Go.RowKit
theorem ringB_smL {L : List Pt} (h : ringB L = true) : SmL L := ⟨ringB_small h⟩
theorem edg_small {L : List Pt} (h : ringB L = true) : ∀ e ∈ edg L, EdS e := fun e he => by
  obtain ⟨i, hi, rfl⟩ := edg_mem he
  have h0 := (ringB_sizes h).1
  have hl : 0 < (nrm L).length := by rw [nrm_len]; omega
  exact ⟨ringB_small h _ (nrm_mem (by omega) _ (cor_mem hl)), ringB_small h _ (nrm_mem (by omega) _ (cor_mem hl))⟩
theorem all_take1 {α : Type} {p : α → Bool} {L : List α} {k : Nat} (hk : k < L.length) (h : (L.take k).all p = true) (hp : p L[k] = true) : (L.take (k + 1)).all p = true := by
  rw [List.take_succ_eq_append_getElem hk, List.all_append, h]; simp [hp]
theorem all_no {α : Type} {p : α → Bool} {L : List α} {k : Nat} (hk : k < L.length) (hp : p L[k] = false) : L.all p = false := by
  rw [Bool.eq_false_iff]; intro h
  have := List.all_eq_true.1 h _ (List.getElem_mem hk)
  rw [hp] at this; cases this
/-- What is asked of an edge of the one ring and one of the other. -/
noncomputable def inP (A : List Pt) (e f : Ed) : Bool := fitB e f && !midIn sideZ A f
noncomputable def outP (A B : List Pt) (e : Ed) : Bool := !midIn sideZ B e && (edg B).all (inP A e)
theorem togB_eq (A B : List Pt) : togB sideZ A B = (edg A).all (outP A B) := rfl
set_option maxRecDepth 8000 in
set_option maxHeartbeats 8000000 in
theorem fitTogether_any (A B : List Pt) (a b : Option Addr) (n c m d : Nat) (w : World) (hn : A.length = n) (hm : B.length = m) (hA : ringB A = true) (hB : ringB B = true) (hr : Row w a (ptsCells A)) (hr' : Row w b (ptsCells B)) :
    Calls Tryz.prog 131 #[.slice a n c, .slice b m d] w (Ret w (.bool (togB sideZ A B))) := by
  subst hn hm
  obtain ⟨a3, a12⟩ := ringB_sizes hA
  obtain ⟨b3, b12⟩ := ringB_sizes hB
  have CA := Lib.hid (fun (w : World) (hr : Row w a (ptsCells A)) => edgesOf_any A a A.length c w rfl hA hr)
  have CB := Lib.hid (fun (w : World) (hr : Row w b (ptsCells B)) => edgesOf_any B b B.length d w rfl hB hr)
  have MA := Lib.hid (fun (e : Ed) (he : EdS e) (w : World) (hr : Row w a (ptsCells A)) => isMiddleIn_any A e a A.length c w rfl (by omega) (ringB_smL hA) he hr)
  have MB := Lib.hid (fun (e : Ed) (he : EdS e) (w : World) (hr : Row w b (ptsCells B)) => isMiddleIn_any B e b B.length d w rfl (by omega) (ringB_smL hB) he hr)
  have sA := Lib.hid (edg_small hA)
  have sB := Lib.hid (edg_small hB)
  have lA := edg_len A
  have lB := edg_len B
  have hO := Lib.hid (fun e => (show outP A B e = (!midIn sideZ B e && (edg B).all (inP A e)) from rfl))
  have hI := Lib.hid (fun e f => (show inP A e f = (fitB e f && !midIn sideZ A f) from rfl))
  rw [togB_eq]
  generalize outP A B = P1 at *
  generalize edg A = E1 at *
  generalize edg B = E2 at *
  generalize inP A = P2 at *
  generalize midIn sideZ A = M1 at *
  generalize midIn sideZ B = M2 at *
  replace hr := Lib.hid hr
  replace hr' := Lib.hid hr'
  clear hA hB
  go_enter Tryz.func131, Tryz.ntmps131
  go_wp2_with fail
  with_reducible refine (CA.out _ (hr.out.bel bb)).mono ?_
  rintro e w' ⟨a1, c1, rfl, hown, y1, rfl⟩
  have hsy1 := y1.bel.size
  (try simp only [World.size_alloc, World.size_setCell, World.size_drew] at hsy1)
  have O1 := Lib.hid (Owns.of hown)
  clear hown
  go_wp2_with fail
  go_loopw [12] (fun t12 wr => ∃ k : Nat, k ≤ A.length ∧ t12 = .int .i64 k ∧ (E1.take k).all P1 = true ∧ ∃ z : Later y1.w, wr = z.w) (fun t12 _ => A.length - (intOf t12).toNat)
  case atStart => exact ⟨0, Nat.zero_le _, rfl, rfl, ⟨_, Below.refl _ _⟩, rfl⟩
  case round =>
    obtain ⟨k, hk, rfl, hall, z, rfl⟩ := hrel
    have hzz := z.bel.size
    replace hall := Lib.hid hall
    by_cases hlt : k < A.length
    · have hk1 : (k : Int) < (A.length : Int) := by omega
      have hk2 : k < E1.length := by omega
      obtain ⟨b1, o1, rfl, hbb, p0, p1, p2, p3⟩ := O1.out.row.ed (k := k) hk2
      have he := sA.out _ (List.getElem_mem hk2)
      have XO := hO.out (E1[k]'hk2)
      have XS := fun (h : P1 (E1[k]'hk2) = true) => all_take1 (p := P1) hk2 hall.out h
      have XN := fun (h : P1 (E1[k]'hk2) = false) => all_no (p := P1) hk2 h
      have hXI := Lib.hid (fun f => hI.out (E1[k]'hk2) f)
      have CM := fun (w : World) (hr : Row w b (ptsCells B)) => MB.out _ he w hr
      have CF := Lib.hid (fun (f : Ed) (hf : EdB f) (w : World) => fit_any _ f w he.b hf)
      generalize hge : E1[k]'hk2 = e at *
      generalize M2 e = mid at *
      generalize P2 e = P2e at *
      generalize P1 e = pe at *
      clear hge he
      replace CM := Lib.hid CM
      replace XS := Lib.hid XS
      replace XN := Lib.hid XN
      cases mid
      rotate_left
      · have X := Lib.hid (XN.out (by rw [XO]; rfl))
        clear XO XN XS
        go_wp2_with fail
        with_reducible refine (CM.out _ (hr'.out.bel bb)).mono ?_
        rintro e w' ⟨rfl, y2, rfl⟩
        have hsy2 := y2.bel.size
        (try simp only [World.size_alloc, World.size_setCell, World.size_drew] at hsy2)
        go_wp2_with fail
        go_ret
        exact .mk (by rw [X.out]; rfl) bb
      have XO' := Lib.hid (show pe = E2.all P2e by rw [XO]; simp)
      clear XO
      go_wp2_with fail
      with_reducible refine (CM.out _ (hr'.out.bel bb)).mono ?_
      rintro e w' ⟨rfl, y2, rfl⟩
      have hsy2 := y2.bel.size
      (try simp only [World.size_alloc, World.size_setCell, World.size_drew] at hsy2)
      have h2 : z.w.heap.size < y2.w.heap.size := by omega
      go_wp2_with fail
      with_reducible refine (CB.out _ (hr'.out.bel bb)).mono ?_
      rintro e w' ⟨a3, c3, rfl, hown, y3, rfl⟩
      have hsy3 := y3.bel.size
      (try simp only [World.size_alloc, World.size_setCell, World.size_drew] at hsy3)
      have O3 := Lib.hid (Owns.of hown)
      clear hown
      have h3 : z.w.heap.size < y3.w.heap.size := by omega
      go_wp2_with fail
      go_loopw [22] (fun t22 wr => ∃ j : Nat, j ≤ B.length ∧ t22 = .int .i64 j ∧ (E2.take j).all P2e = true ∧ ∃ z2 : Later y3.w, wr = z2.w) (fun t22 _ => B.length - (intOf t22).toNat)
      case atStart => exact ⟨0, Nat.zero_le _, rfl, rfl, ⟨_, Below.refl _ _⟩, rfl⟩
      case round =>
        obtain ⟨j, hj, rfl, hall2, z2, rfl⟩ := hrel
        have hz2 := z2.bel.size
        replace hall2 := Lib.hid hall2
        have h4 : z.w.heap.size < z2.w.heap.size := by omega
        by_cases hlt2 : j < B.length
        · have hj1 : (j : Int) < (B.length : Int) := by omega
          have hj2 : j < E2.length := by omega
          obtain ⟨b3', o3, rfl, hbb3, s0, s1, s2, s3⟩ := O3.out.row.ed (k := j) hj2
          have hf := sB.out _ (List.getElem_mem hj2)
          have YI := hXI.out (E2[j]'hj2)
          have YS := fun (h : P2e (E2[j]'hj2) = true) => all_take1 (p := P2e) hj2 hall2.out h
          have YN := fun (h : P2e (E2[j]'hj2) = false) => all_no (p := P2e) hj2 h
          have CM2 := fun (w : World) (hr : Row w a (ptsCells A)) => MA.out _ hf w hr
          have CF2 := fun (w : World) => CF.out _ hf.b w
          generalize hgf : E2[j]'hj2 = f at *
          generalize M1 f = mid2 at *
          generalize P2e f = pf at *
          obtain ⟨ft, hft⟩ : ∃ t, fitB e f = t := ⟨_, rfl⟩
          rw [hft] at YI
          simp only [hft] at CF2
          clear hgf hf hft
          replace CM2 := Lib.hid CM2
          replace CF2 := Lib.hid CF2
          replace YS := Lib.hid YS
          replace YN := Lib.hid YN
          cases ft
          · have X := Lib.hid (XN.out (by rw [XO'.out]; exact YN.out (by rw [YI]; rfl)))
            clear YI YS YN XN XS XO'
            go_wp2_with fail
            with_reducible refine (CF2.out _).mono ?_
            rintro e w' ⟨rfl, y4, rfl⟩
            have hsy4 := y4.bel.size
            (try simp only [World.size_alloc, World.size_setCell, World.size_drew] at hsy4)
            go_wp2_with fail
            go_ret
            exact .mk (by rw [X.out]; rfl) bb
          · cases mid2
            · have X := Lib.hid (YS.out (by rw [YI]; rfl))
              clear YI YS YN XN XS XO'
              go_wp2_with fail
              with_reducible refine (CF2.out _).mono ?_
              rintro e w' ⟨rfl, y4, rfl⟩
              have hsy4 := y4.bel.size
              (try simp only [World.size_alloc, World.size_setCell, World.size_drew] at hsy4)
              have h5 : z2.w.heap.size < y4.w.heap.size := by omega
              go_wp2_with fail
              with_reducible refine (CM2.out _ (hr.out.bel bb)).mono ?_
              rintro e w' ⟨rfl, y5, rfl⟩
              have hsy5 := y5.bel.size
              (try simp only [World.size_alloc, World.size_setCell, World.size_drew] at hsy5)
              go_wp2_with fail
              go_roundw
              case rel => exact ⟨j + 1, by omega, by go_num, X.out, LaterC.mk bb⟩
              case measure => first | (simp [intOf]; done) | (simp [intOf]; omega) | omega
            · have X := Lib.hid (XN.out (by rw [XO'.out]; exact YN.out (by rw [YI]; rfl)))
              clear YI YS YN XN XS XO'
              go_wp2_with fail
              with_reducible refine (CF2.out _).mono ?_
              rintro e w' ⟨rfl, y4, rfl⟩
              have hsy4 := y4.bel.size
              (try simp only [World.size_alloc, World.size_setCell, World.size_drew] at hsy4)
              have h5 : z2.w.heap.size < y4.w.heap.size := by omega
              go_wp2_with fail
              with_reducible refine (CM2.out _ (hr.out.bel bb)).mono ?_
              rintro e w' ⟨rfl, y5, rfl⟩
              have hsy5 := y5.bel.size
              (try simp only [World.size_alloc, World.size_setCell, World.size_drew] at hsy5)
              go_wp2_with fail
              go_ret
              exact .mk (by rw [X.out]; rfl) bb
        · obtain rfl : j = B.length := by omega
          have hal := hall2.out
          rw [List.take_of_length_le (by omega)] at hal
          have X := Lib.hid (XS.out (by rw [XO'.out]; exact hal))
          clear hal hall2 XN XS XO'
          go_wp2_with fail
          go_roundw
          case rel => exact ⟨k + 1, by omega, by go_num, X.out, LaterC.mk bb⟩
          case measure => first | (simp [intOf]; done) | (simp [intOf]; omega) | omega
    · obtain rfl : k = A.length := by omega
      have X := Lib.hid (show E1.all P1 = true by have := hall.out; rwa [List.take_of_length_le (by omega)] at this)
      go_wp2_with fail
      go_ret
      exact .mk (by rw [X.out]; rfl) bb
end Go.Proofs.YtklcaphkfdlipaaGreatDoor
