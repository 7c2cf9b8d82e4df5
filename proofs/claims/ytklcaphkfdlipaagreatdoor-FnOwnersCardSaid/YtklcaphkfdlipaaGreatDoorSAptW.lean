import Derived.Test.YtklcaphkfdlipaaGreatDoorPackVa
import Derived.Test.YtklcaphkfdlipaaGreatDoorSMidW
import Derived.Test.YtklcaphkfdlipaaGreatDoorPackVj
import Derived.Test.YtklcaphkfdlipaaGreatDoorPackVc
/- Is it a map: the reference's way. -/
set_option linter.unusedSimpArgs false
set_option linter.unusedVariables false
namespace Go.Proofs.YtklcaphkfdlipaaGreatDoor
open Go.RowKit
noncomputable def touP (B : List Pt) (e : Ed) : Bool := (edg B).all (touchB e)
theorem aptB_eq (A B : List Pt) : aptB sideZ A B = ((edg A).all (touP B) && !anyMid sideZ A B && !anyMid sideZ B A) := rfl
set_option maxRecDepth 8000 in
set_option maxHeartbeats 8000000 in
theorem sApart_any (A B : List Pt) (a b : Option Addr) (n c m d : Nat) (w : World) (hn : A.length = n) (hm : B.length = m) (hA : ringB A = true) (hB : ringB B = true) (hr : Row w a (ptsCells A)) (hr' : Row w b (ptsCells B)) :
    Calls Tryz.prog 139 #[.slice a n c, .slice b m d] w (Ret w (.bool (aptB sideZ A B))) := by
  subst hn hm
  obtain ⟨a3, a12⟩ := ringB_sizes hA
  obtain ⟨b3, b12⟩ := ringB_sizes hB
  have CA := Lib.hid (fun (w : World) (hr : Row w a (ptsCells A)) => sEdges_any A a A.length c w rfl (by omega) (by omega) (ringB_smL hA).ptsB hr)
  have CB := Lib.hid (fun (w : World) (hr : Row w b (ptsCells B)) => sEdges_any B b B.length d w rfl (by omega) (by omega) (ringB_smL hB).ptsB hr)
  have M1 := fun (w : World) (hr : Row w a (ptsCells A)) (hr' : Row w b (ptsCells B)) => sMiddle_any A B a b A.length c B.length d w rfl rfl (by omega) (by omega) (by omega) (ringB_smL hA) (ringB_smL hB) hr hr'
  have M2 := fun (w : World) (hr : Row w b (ptsCells B)) (hr' : Row w a (ptsCells A)) => sMiddle_any B A b a B.length d A.length c w rfl rfl (by omega) (by omega) (by omega) (ringB_smL hB) (ringB_smL hA) hr hr'
  have sA := Lib.hid (edg_small hA)
  have sB := Lib.hid (edg_small hB)
  have lA := edg_len A
  have lB := edg_len B
  have hO := Lib.hid (fun e => (show touP B e = (edg B).all (touchB e) from rfl))
  have XF := aptB_eq A B
  generalize aptB sideZ A B = T at *
  generalize touP B = P1 at *
  generalize edg A = E1 at *
  generalize edg B = E2 at *
  generalize anyMid sideZ A B = m1 at *
  generalize anyMid sideZ B A = m2 at *
  replace M1 := Lib.hid M1
  replace M2 := Lib.hid M2
  replace hr := Lib.hid hr
  replace hr' := Lib.hid hr'
  replace XF := Lib.hid XF
  clear hA hB
  go_enter Tryz.func139, Tryz.ntmps139
  go_wp2_with fail
  with_reducible refine (CA.out _ (hr.out.bel bb)).mono ?_
  rintro e w' ⟨a1, c1, rfl, hown, y1, rfl⟩
  have hsy1 := y1.bel.size
  (try simp only [World.size_alloc, World.size_setCell, World.size_drew] at hsy1)
  have O1 := Lib.hid (Owns.of hown)
  clear hown
  go_wp2_with fail
  with_reducible refine (CB.out _ (hr'.out.bel bb)).mono ?_
  rintro e w' ⟨a3, c3, rfl, hown, y3, rfl⟩
  have hsy3 := y3.bel.size
  (try simp only [World.size_alloc, World.size_setCell, World.size_drew] at hsy3)
  have O3 := Lib.hid (Owns.of hown)
  clear hown
  have R1 := Lib.hid (O1.out.row.bel y3.bel)
  have R3 := Lib.hid O3.out.row
  clear O1 O3
  go_wp2_with fail
  go_loopw [7] (fun t7 wr => ∃ k : Nat, k ≤ A.length ∧ t7 = .int .i64 k ∧ (E1.take k).all P1 = true ∧ ∃ z : Later y3.w, wr = z.w) (fun t7 _ => A.length - (intOf t7).toNat)
  case atStart => exact ⟨0, Nat.zero_le _, rfl, rfl, ⟨_, Below.refl _ _⟩, rfl⟩
  case round =>
    obtain ⟨k, hk, rfl, hall, z, rfl⟩ := hrel
    have hzz := z.bel.size
    replace hall := Lib.hid hall
    by_cases hlt : k < A.length
    · have hk1 : (k : Int) < (A.length : Int) := by omega
      have hk2 : k < E1.length := by omega
      have he := sA.out _ (List.getElem_mem hk2)
      have XO := hO.out (E1[k]'hk2)
      have XS := Lib.hid (fun (h : P1 (E1[k]'hk2) = true) => all_take1 (p := P1) hk2 hall.out h)
      have XN := Lib.hid (fun (h : P1 (E1[k]'hk2) = false) => all_no (p := P1) hk2 h)
      have CF := Lib.hid (fun (f : Ed) (hf : EdB f) (w : World) => touch_any (E1[k]'hk2) f w he.b hf)
      have RK := Lib.hid (R1.out.ed hk2)
      generalize E1[k]'hk2 = e at *
      generalize touchB e = P2 at *
      generalize P1 e = pe at *
      replace XO := Lib.hid XO
      clear he
      go_wp2_with fail
      go_loopw [8] (fun t8 wr => ∃ j : Nat, j ≤ B.length ∧ t8 = .int .i64 j ∧ (E2.take j).all P2 = true ∧ ∃ z2 : Later y3.w, wr = z2.w) (fun t8 _ => B.length - (intOf t8).toNat)
      case atStart => exact ⟨0, Nat.zero_le _, rfl, rfl, z, rfl⟩
      case round =>
        obtain ⟨j, hj, rfl, hall2, z2, rfl⟩ := hrel
        have hz2 := z2.bel.size
        replace hall2 := Lib.hid hall2
        by_cases hlt2 : j < B.length
        · have hj1 : (j : Int) < (B.length : Int) := by omega
          have hj2 : j < E2.length := by omega
          obtain ⟨b1, o1, rfl, hbb, p0, p1, p2, p3⟩ := RK.out
          obtain ⟨b3', o3, rfl, hbb3, s0, s1, s2, s3⟩ := R3.out.ed hj2
          have hf := sB.out _ (List.getElem_mem hj2)
          have YS := fun (h : P2 (E2[j]'hj2) = true) => all_take1 (p := P2) hj2 hall2.out h
          have YN := fun (h : P2 (E2[j]'hj2) = false) => all_no (p := P2) hj2 h
          have CT := fun (w : World) => CF.out _ hf.b w
          generalize E2[j]'hj2 = f at *
          generalize P2 f = tf at *
          clear hf
          replace CT := Lib.hid CT
          replace YS := Lib.hid YS
          replace YN := Lib.hid YN
          have hbz1 : b1 < z2.w.heap.size := by omega
          have hbz3 : b3' < z2.w.heap.size := by omega
          cases tf
          · have X := Lib.hid (show T = false by rw [XF.out, XN.out (by rw [XO.out]; exact YN.out rfl)]; rfl)
            clear YS YN XN XS XF
            go_wp2_with fail
            refine wp_region_plan [(0, true), (1, true), (2, true), (3, true), (4, true), (5, true), (6, true), (7, true), (8, false), (9, true)] (C := LaterC _) (by kernel_rfl) (by kernel_rfl) (by kernel_rfl) rfl (fun _ _ d _ _ h => by cases d <;> exact h) (LaterC.mk ((Below.refl _ _).drew)) ?_
            first | (refine plan_quiet nth0 rfl ?_; intro KP hKP; go_big_quiet_op; go_big_quiet_on) | (refine plan_skip_q nth0 rfl rfl ?_; simp only [Act.put, List.setIfInBounds_toArray, List.set_cons_zero, List.set_cons_succ])
            first | (refine plan_quiet nth1 rfl ?_; intro KP hKP; go_big_quiet_op; go_big_quiet_on) | (refine plan_skip_q nth1 rfl rfl ?_; simp only [Act.put, List.setIfInBounds_toArray, List.set_cons_zero, List.set_cons_succ])
            first | (refine plan_quiet nth2 rfl ?_; intro KP hKP; go_big_quiet_op; go_big_quiet_on) | (refine plan_skip_q nth2 rfl rfl ?_; simp only [Act.put, List.setIfInBounds_toArray, List.set_cons_zero, List.set_cons_succ])
            first | (refine plan_quiet nth3 rfl ?_; intro KP hKP; go_big_quiet_op; go_big_quiet_on) | (refine plan_skip_q nth3 rfl rfl ?_; simp only [Act.put, List.setIfInBounds_toArray, List.set_cons_zero, List.set_cons_succ])
            first | (refine plan_quiet nth4 rfl ?_; intro KP hKP; go_big_quiet_op; go_big_quiet_on) | (refine plan_skip_q nth4 rfl rfl ?_; simp only [Act.put, List.setIfInBounds_toArray, List.set_cons_zero, List.set_cons_succ])
            first | (refine plan_quiet nth5 rfl ?_; intro KP hKP; go_big_quiet_op; go_big_quiet_on) | (refine plan_skip_q nth5 rfl rfl ?_; simp only [Act.put, List.setIfInBounds_toArray, List.set_cons_zero, List.set_cons_succ])
            first | (refine plan_quiet nth6 rfl ?_; intro KP hKP; go_big_quiet_op; go_big_quiet_on) | (refine plan_skip_q nth6 rfl rfl ?_; simp only [Act.put, List.setIfInBounds_toArray, List.set_cons_zero, List.set_cons_succ])
            first | (refine plan_quiet nth7 rfl ?_; intro KP hKP; go_big_quiet_op; go_big_quiet_on) | (refine plan_skip_q nth7 rfl rfl ?_; simp only [Act.put, List.setIfInBounds_toArray, List.set_cons_zero, List.set_cons_succ])
            first | (refine plan_loud nth8 rfl ?_; intro KP hKP; go_wp2_with (first | (go_at_call 161; first | ((with_reducible refine (Calls.later (CT.out _)).mono ?_); rintro e w' ⟨rfl, xl, rfl⟩; have hsz := xl.bel.size; (try simp only [World.size_alloc, World.size_setCell, World.size_drew] at hsz); (try have hz0 : w.heap.size < xl.w.heap.size := (by omega)); (try have hz1 : w.heap.size + 1 < xl.w.heap.size := (by omega)); (try have hz2 : w.heap.size + 1 + 1 < xl.w.heap.size := (by omega))) | ((with_reducible refine (CT.out _).mono ?_); rintro e w' ⟨rfl, xl, rfl⟩; have hsz := xl.bel.size; (try simp only [World.size_alloc, World.size_setCell, World.size_drew] at hsz); (try have hz0 : w.heap.size < xl.w.heap.size := (by omega)); (try have hz1 : w.heap.size + 1 < xl.w.heap.size := (by omega)); (try have hz2 : w.heap.size + 1 + 1 < xl.w.heap.size := (by omega))))); refine hKP _ _ (LaterC.mk bb) ?_; clear hKP KP) | (refine plan_skip nth8 rfl rfl (LaterC.mk bb) ?_; simp only [Act.put, List.setIfInBounds_toArray, List.set_cons_zero, List.set_cons_succ])
            first | (refine plan_quiet nth9 rfl ?_; intro KP hKP; go_big_quiet_op; go_big_quiet_on) | (refine plan_skip_q nth9 rfl rfl ?_; simp only [Act.put, List.setIfInBounds_toArray, List.set_cons_zero, List.set_cons_succ])
            refine plan_nil ?_
            go_wp2_with fail
            go_ret
            exact .mk (by rw [X.out]; rfl) bb
          · have X := Lib.hid (YS.out rfl)
            clear YS YN XN XS XF
            go_wp2_with fail
            refine wp_region_plan [(0, true), (1, true), (2, true), (3, true), (4, true), (5, true), (6, true), (7, true), (8, false), (9, true)] (C := LaterC _) (by kernel_rfl) (by kernel_rfl) (by kernel_rfl) rfl (fun _ _ d _ _ h => by cases d <;> exact h) (LaterC.mk ((Below.refl _ _).drew)) ?_
            first | (refine plan_quiet nth0 rfl ?_; intro KP hKP; go_big_quiet_op; go_big_quiet_on) | (refine plan_skip_q nth0 rfl rfl ?_; simp only [Act.put, List.setIfInBounds_toArray, List.set_cons_zero, List.set_cons_succ])
            first | (refine plan_quiet nth1 rfl ?_; intro KP hKP; go_big_quiet_op; go_big_quiet_on) | (refine plan_skip_q nth1 rfl rfl ?_; simp only [Act.put, List.setIfInBounds_toArray, List.set_cons_zero, List.set_cons_succ])
            first | (refine plan_quiet nth2 rfl ?_; intro KP hKP; go_big_quiet_op; go_big_quiet_on) | (refine plan_skip_q nth2 rfl rfl ?_; simp only [Act.put, List.setIfInBounds_toArray, List.set_cons_zero, List.set_cons_succ])
            first | (refine plan_quiet nth3 rfl ?_; intro KP hKP; go_big_quiet_op; go_big_quiet_on) | (refine plan_skip_q nth3 rfl rfl ?_; simp only [Act.put, List.setIfInBounds_toArray, List.set_cons_zero, List.set_cons_succ])
            first | (refine plan_quiet nth4 rfl ?_; intro KP hKP; go_big_quiet_op; go_big_quiet_on) | (refine plan_skip_q nth4 rfl rfl ?_; simp only [Act.put, List.setIfInBounds_toArray, List.set_cons_zero, List.set_cons_succ])
            first | (refine plan_quiet nth5 rfl ?_; intro KP hKP; go_big_quiet_op; go_big_quiet_on) | (refine plan_skip_q nth5 rfl rfl ?_; simp only [Act.put, List.setIfInBounds_toArray, List.set_cons_zero, List.set_cons_succ])
            first | (refine plan_quiet nth6 rfl ?_; intro KP hKP; go_big_quiet_op; go_big_quiet_on) | (refine plan_skip_q nth6 rfl rfl ?_; simp only [Act.put, List.setIfInBounds_toArray, List.set_cons_zero, List.set_cons_succ])
            first | (refine plan_quiet nth7 rfl ?_; intro KP hKP; go_big_quiet_op; go_big_quiet_on) | (refine plan_skip_q nth7 rfl rfl ?_; simp only [Act.put, List.setIfInBounds_toArray, List.set_cons_zero, List.set_cons_succ])
            first | (refine plan_loud nth8 rfl ?_; intro KP hKP; go_wp2_with (first | (go_at_call 161; first | ((with_reducible refine (Calls.later (CT.out _)).mono ?_); rintro e w' ⟨rfl, xl, rfl⟩; have hsz := xl.bel.size; (try simp only [World.size_alloc, World.size_setCell, World.size_drew] at hsz); (try have hz0 : w.heap.size < xl.w.heap.size := (by omega)); (try have hz1 : w.heap.size + 1 < xl.w.heap.size := (by omega)); (try have hz2 : w.heap.size + 1 + 1 < xl.w.heap.size := (by omega))) | ((with_reducible refine (CT.out _).mono ?_); rintro e w' ⟨rfl, xl, rfl⟩; have hsz := xl.bel.size; (try simp only [World.size_alloc, World.size_setCell, World.size_drew] at hsz); (try have hz0 : w.heap.size < xl.w.heap.size := (by omega)); (try have hz1 : w.heap.size + 1 < xl.w.heap.size := (by omega)); (try have hz2 : w.heap.size + 1 + 1 < xl.w.heap.size := (by omega))))); refine hKP _ _ (LaterC.mk bb) ?_; clear hKP KP) | (refine plan_skip nth8 rfl rfl (LaterC.mk bb) ?_; simp only [Act.put, List.setIfInBounds_toArray, List.set_cons_zero, List.set_cons_succ])
            first | (refine plan_quiet nth9 rfl ?_; intro KP hKP; go_big_quiet_op; go_big_quiet_on) | (refine plan_skip_q nth9 rfl rfl ?_; simp only [Act.put, List.setIfInBounds_toArray, List.set_cons_zero, List.set_cons_succ])
            refine plan_nil ?_
            go_wp2_with fail
            go_roundw
            case rel => exact ⟨j + 1, by omega, by go_num, X.out, LaterC.mk bb⟩
            case measure => first | (simp [intOf]; done) | (simp [intOf]; omega) | omega
        · obtain rfl : j = B.length := by omega
          have hal := hall2.out
          rw [List.take_of_length_le (by omega)] at hal
          have X := Lib.hid (XS.out (by rw [XO.out]; exact hal))
          clear hal hall2 XN XS XF
          go_wp2_with fail
          go_roundw
          case rel => exact ⟨k + 1, by omega, by go_num, X.out, LaterC.mk bb⟩
          case measure => first | (simp [intOf]; done) | (simp [intOf]; omega) | omega
    · obtain rfl : k = A.length := by omega
      have hal := hall.out
      rw [List.take_of_length_le (by omega)] at hal
      have X := Lib.hid (show T = (!m1 && !m2) by rw [XF.out, hal]; rfl)
      clear hal hall XF
      cases m1
      · skip
        go_wp2_with fail
        with_reducible refine (M1.out _ (hr.out.bel bb) (hr'.out.bel bb)).mono ?_
        rintro e w' ⟨rfl, y5, rfl⟩
        have hsy5 := y5.bel.size
        (try simp only [World.size_alloc, World.size_setCell, World.size_drew] at hsy5)
        go_wp2_with fail
        with_reducible refine (M2.out _ (hr'.out.bel bb) (hr.out.bel bb)).mono ?_
        rintro e w' ⟨rfl, y6, rfl⟩
        have hsy6 := y6.bel.size
        (try simp only [World.size_alloc, World.size_setCell, World.size_drew] at hsy6)
        go_wp2_with fail
        go_ret
        exact .mk (by rw [X.out]; rfl) bb
      · skip
        go_wp2_with fail
        with_reducible refine (M1.out _ (hr.out.bel bb) (hr'.out.bel bb)).mono ?_
        rintro e w' ⟨rfl, y5, rfl⟩
        have hsy5 := y5.bel.size
        (try simp only [World.size_alloc, World.size_setCell, World.size_drew] at hsy5)
        go_wp2_with fail
        go_ret
        exact .mk (by rw [X.out]; rfl) bb
theorem mapAt_yes {R : List (List Pt)} {i : Nat} (h : ∀ k, k < i → togB sideZ (R.getD i []) (R.getD k []) = true) : mapAt R i = true := List.all_eq_true.2 fun k hk => h k (List.mem_range.1 hk)
theorem mapAt_no {R : List (List Pt)} {i k : Nat} (h : k < i) (hf : togB sideZ (R.getD i []) (R.getD k []) = false) : mapAt R i = false := by
  rw [Bool.eq_false_iff]
  intro hh
  rw [List.all_eq_true.1 hh k (List.mem_range.2 h)] at hf
  cases hf
theorem mapB_no_ring {R : List (List Pt)} {i : Nat} (h : i < R.length) (hf : ringB R[i] = false) : mapB R = false := mapB_ring (all_no h hf)
set_option maxRecDepth 8000 in
set_option maxHeartbeats 8000000 in
theorem sIsMap_any (R : List (List Pt)) (a : Option Addr) (n c : Nat) (w : World) (hn : R.length = n) (hm : n ≤ 1048576) (ok : ∀ r ∈ R, r.length ≤ 1048576) (hr : RingsR w a R) :
    Calls Tryz.prog 103 #[.slice a n c] w (Ret w (.bool (mapB R))) := by
  subst hn
  by_cases h6 : R.length ≤ 6
  rotate_left
  · have X := Lib.hid (mapB_long h6)
    clear hr ok
    go_enter Tryz.func103, Tryz.ntmps103
    go_wp2_with fail
    go_ret
    exact .mk (by rw [X.out]; rfl) bb
  have XA := Lib.hid (fun h1 h => mapB_all h6 h1 h)
  have XR := Lib.hid (fun (i : Nat) (h : i < R.length) (hf : ringB R[i] = false) => mapB_no_ring h hf)
  have XN := Lib.hid (fun (i : Nat) (h : i < R.length) hf => mapB_at h hf)
  generalize mapB R = MB at *
  replace hr := Lib.hid hr
  replace ok := Lib.hid ok
  go_enter Tryz.func103, Tryz.ntmps103
  go_wp2_with fail
  go_loopw [3] (fun t3 wr => ∃ k : Nat, k ≤ R.length ∧ t3 = .int .i64 k ∧ (∀ i (hi : i < R.length), i < k → ringB R[i] = true ∧ mapAt R i = true) ∧ ∃ z : Later w, wr = z.w) (fun t3 _ => R.length - (intOf t3).toNat)
  case atStart => exact ⟨0, Nat.zero_le _, rfl, fun i _ h => absurd h (by omega), ⟨_, Below.refl _ _⟩, rfl⟩
  case round =>
    obtain ⟨k, hk, rfl, hgood, z, rfl⟩ := hrel
    have hzz := z.bel.size
    replace hgood := Lib.hid hgood
    by_cases hlt : k < R.length
    · have hk1 : (k : Int) < (R.length : Int) := by omega
      obtain ⟨b, o, ai, ci, rfl, hb, q0, q1, -, -⟩ := hr.out.at_ hlt
      have CR := fun (w : World) (hr : Row w ai (ptsCells R[k])) => sIsRing_any R[k] ai R[k].length ci w rfl (ok.out _ (List.getElem_mem hlt)) hr
      replace q1 := Lib.hid q1
      have hbz : b < z.w.heap.size := by omega
      cases hrk : ringB R[k]
      · rw [hrk] at CR
        replace CR := Lib.hid CR
        have X := Lib.hid (XR.out k hlt hrk)
        clear hrk
        go_wp2_with fail
        with_reducible refine (CR.out _ (q1.out.bel bb)).mono ?_
        rintro e w' ⟨rfl, y2, rfl⟩
        have hsy2 := y2.bel.size
        (try simp only [World.size_alloc, World.size_setCell, World.size_drew] at hsy2)
        go_wp2_with fail
        go_ret
        exact .mk (by rw [X.out]; rfl) bb
      rw [hrk] at CR
      replace CR := Lib.hid CR
      replace hrk := Lib.hid hrk
      have eK : R.getD k [] = R[k] := by simp [hlt]
      replace eK := Lib.hid eK
      go_wp2_with fail
      with_reducible refine (CR.out _ (q1.out.bel bb)).mono ?_
      rintro e w' ⟨rfl, y2, rfl⟩
      have hsy2 := y2.bel.size
      (try simp only [World.size_alloc, World.size_setCell, World.size_drew] at hsy2)
      go_wp2_with fail
      go_loopw [4] (fun t4 wr => ∃ j : Nat, j ≤ k ∧ t4 = .int .i64 j ∧ (∀ i, i < j → togB sideZ (R.getD k []) (R.getD i []) = true) ∧ ∃ z2 : Later w, wr = z2.w) (fun t4 _ => k - (intOf t4).toNat)
      case atStart => exact ⟨0, Nat.zero_le _, rfl, fun i h => absurd h (by omega), LaterC.mk bb⟩
      case round =>
        obtain ⟨j, hj, rfl, hg2, z2, rfl⟩ := hrel
        have hz2 := z2.bel.size
        replace hg2 := Lib.hid hg2
        by_cases hlt2 : j < k
        · have hj1 : (j : Int) < (R.length : Int) := by omega
          have hj2 : j < R.length := by omega
          have hj3 : (j : Int) < (k : Int) := by omega
          obtain ⟨b', o', aj, cj, he, hb', s0, s1, -, -⟩ := hr.out.at_ hj2
          cases he
          have eJ : R.getD j [] = R[j] := by simp [hj2]
          have CP := fun (w : World) (hr : Row w aj (ptsCells R[j])) (hr' : Row w ai (ptsCells R[k])) => sApart_any R[j] R[k] aj ai R[j].length cj R[k].length ci w rfl rfl (hgood.out j hj2 hlt2).1 hrk.out hr hr'
          have et := tog_apt_ring (A := R[k]) (B := R[j]) hrk.out (hgood.out j hj2 hlt2).1
          rw [← eJ, ← eK.out] at et
          rw [← eJ, ← eK.out] at CP
          rw [← et] at CP
          rw [eJ, eK.out] at CP
          have YN := fun (h : togB sideZ (R.getD k []) (R.getD j []) = false) => XN.out k hlt (mapAt_no hlt2 h)
          have YS := fun (h : togB sideZ (R.getD k []) (R.getD j []) = true) => (show ∀ i, i < j + 1 → togB sideZ (R.getD k []) (R.getD i []) = true from fun i hi => by
            rcases Nat.lt_or_ge i j with h1 | h1
            · exact hg2.out i h1
            · obtain rfl : i = j := by omega
              exact h)
          rw [eJ, eK.out] at YN YS
          generalize togB sideZ R[k] R[j] = tg at *
          replace s1 := Lib.hid s1
          replace CP := Lib.hid CP
          replace YN := Lib.hid YN
          replace YS := Lib.hid YS
          clear eJ et
          cases tg
          · have X := Lib.hid (YN.out rfl)
            clear YN YS
            go_wp2_with fail
            refine wp_region_plan [(0, true), (1, true), (2, true), (3, true), (4, true), (5, true), (6, true), (7, true), (8, false), (9, true)] (C := LaterC _) (by kernel_rfl) (by kernel_rfl) (by kernel_rfl) rfl (fun _ _ d _ _ h => by cases d <;> exact h) (LaterC.mk ((Below.refl _ _).drew)) ?_
            first | (refine plan_quiet nth0 rfl ?_; intro KP hKP; go_big_quiet_op; go_big_quiet_on) | (refine plan_skip_q nth0 rfl rfl ?_; simp only [Act.put, List.setIfInBounds_toArray, List.set_cons_zero, List.set_cons_succ])
            first | (refine plan_quiet nth1 rfl ?_; intro KP hKP; go_big_quiet_op; go_big_quiet_on) | (refine plan_skip_q nth1 rfl rfl ?_; simp only [Act.put, List.setIfInBounds_toArray, List.set_cons_zero, List.set_cons_succ])
            first | (refine plan_quiet nth2 rfl ?_; intro KP hKP; go_big_quiet_op; go_big_quiet_on) | (refine plan_skip_q nth2 rfl rfl ?_; simp only [Act.put, List.setIfInBounds_toArray, List.set_cons_zero, List.set_cons_succ])
            first | (refine plan_quiet nth3 rfl ?_; intro KP hKP; go_big_quiet_op; go_big_quiet_on) | (refine plan_skip_q nth3 rfl rfl ?_; simp only [Act.put, List.setIfInBounds_toArray, List.set_cons_zero, List.set_cons_succ])
            first | (refine plan_quiet nth4 rfl ?_; intro KP hKP; go_big_quiet_op; go_big_quiet_on) | (refine plan_skip_q nth4 rfl rfl ?_; simp only [Act.put, List.setIfInBounds_toArray, List.set_cons_zero, List.set_cons_succ])
            first | (refine plan_quiet nth5 rfl ?_; intro KP hKP; go_big_quiet_op; go_big_quiet_on) | (refine plan_skip_q nth5 rfl rfl ?_; simp only [Act.put, List.setIfInBounds_toArray, List.set_cons_zero, List.set_cons_succ])
            first | (refine plan_quiet nth6 rfl ?_; intro KP hKP; go_big_quiet_op; go_big_quiet_on) | (refine plan_skip_q nth6 rfl rfl ?_; simp only [Act.put, List.setIfInBounds_toArray, List.set_cons_zero, List.set_cons_succ])
            first | (refine plan_quiet nth7 rfl ?_; intro KP hKP; go_big_quiet_op; go_big_quiet_on) | (refine plan_skip_q nth7 rfl rfl ?_; simp only [Act.put, List.setIfInBounds_toArray, List.set_cons_zero, List.set_cons_succ])
            first | (refine plan_loud nth8 rfl ?_; intro KP hKP; go_wp2_with (first | (go_at_call 139; first | ((with_reducible refine (Calls.later (CP.out _ (s1.out.bel bb) (q1.out.bel bb))).mono ?_); rintro e w' ⟨rfl, xl, rfl⟩; have hsz := xl.bel.size; (try simp only [World.size_alloc, World.size_setCell, World.size_drew] at hsz); (try have hz0 : w.heap.size < xl.w.heap.size := (by omega)); (try have hz1 : w.heap.size + 1 < xl.w.heap.size := (by omega)); (try have hz2 : w.heap.size + 1 + 1 < xl.w.heap.size := (by omega))) | ((with_reducible refine (CP.out _ (s1.out.bel bb) (q1.out.bel bb)).mono ?_); rintro e w' ⟨rfl, xl, rfl⟩; have hsz := xl.bel.size; (try simp only [World.size_alloc, World.size_setCell, World.size_drew] at hsz); (try have hz0 : w.heap.size < xl.w.heap.size := (by omega)); (try have hz1 : w.heap.size + 1 < xl.w.heap.size := (by omega)); (try have hz2 : w.heap.size + 1 + 1 < xl.w.heap.size := (by omega))))); refine hKP _ _ (LaterC.mk bb) ?_; clear hKP KP) | (refine plan_skip nth8 rfl rfl (LaterC.mk bb) ?_; simp only [Act.put, List.setIfInBounds_toArray, List.set_cons_zero, List.set_cons_succ])
            first | (refine plan_quiet nth9 rfl ?_; intro KP hKP; go_big_quiet_op; go_big_quiet_on) | (refine plan_skip_q nth9 rfl rfl ?_; simp only [Act.put, List.setIfInBounds_toArray, List.set_cons_zero, List.set_cons_succ])
            refine plan_nil ?_
            go_wp2_with fail
            go_ret
            exact .mk (by rw [X.out]; rfl) bb
          · have X := Lib.hid (YS.out rfl)
            clear YN YS
            go_wp2_with fail
            refine wp_region_plan [(0, true), (1, true), (2, true), (3, true), (4, true), (5, true), (6, true), (7, true), (8, false), (9, true)] (C := LaterC _) (by kernel_rfl) (by kernel_rfl) (by kernel_rfl) rfl (fun _ _ d _ _ h => by cases d <;> exact h) (LaterC.mk ((Below.refl _ _).drew)) ?_
            first | (refine plan_quiet nth0 rfl ?_; intro KP hKP; go_big_quiet_op; go_big_quiet_on) | (refine plan_skip_q nth0 rfl rfl ?_; simp only [Act.put, List.setIfInBounds_toArray, List.set_cons_zero, List.set_cons_succ])
            first | (refine plan_quiet nth1 rfl ?_; intro KP hKP; go_big_quiet_op; go_big_quiet_on) | (refine plan_skip_q nth1 rfl rfl ?_; simp only [Act.put, List.setIfInBounds_toArray, List.set_cons_zero, List.set_cons_succ])
            first | (refine plan_quiet nth2 rfl ?_; intro KP hKP; go_big_quiet_op; go_big_quiet_on) | (refine plan_skip_q nth2 rfl rfl ?_; simp only [Act.put, List.setIfInBounds_toArray, List.set_cons_zero, List.set_cons_succ])
            first | (refine plan_quiet nth3 rfl ?_; intro KP hKP; go_big_quiet_op; go_big_quiet_on) | (refine plan_skip_q nth3 rfl rfl ?_; simp only [Act.put, List.setIfInBounds_toArray, List.set_cons_zero, List.set_cons_succ])
            first | (refine plan_quiet nth4 rfl ?_; intro KP hKP; go_big_quiet_op; go_big_quiet_on) | (refine plan_skip_q nth4 rfl rfl ?_; simp only [Act.put, List.setIfInBounds_toArray, List.set_cons_zero, List.set_cons_succ])
            first | (refine plan_quiet nth5 rfl ?_; intro KP hKP; go_big_quiet_op; go_big_quiet_on) | (refine plan_skip_q nth5 rfl rfl ?_; simp only [Act.put, List.setIfInBounds_toArray, List.set_cons_zero, List.set_cons_succ])
            first | (refine plan_quiet nth6 rfl ?_; intro KP hKP; go_big_quiet_op; go_big_quiet_on) | (refine plan_skip_q nth6 rfl rfl ?_; simp only [Act.put, List.setIfInBounds_toArray, List.set_cons_zero, List.set_cons_succ])
            first | (refine plan_quiet nth7 rfl ?_; intro KP hKP; go_big_quiet_op; go_big_quiet_on) | (refine plan_skip_q nth7 rfl rfl ?_; simp only [Act.put, List.setIfInBounds_toArray, List.set_cons_zero, List.set_cons_succ])
            first | (refine plan_loud nth8 rfl ?_; intro KP hKP; go_wp2_with (first | (go_at_call 139; first | ((with_reducible refine (Calls.later (CP.out _ (s1.out.bel bb) (q1.out.bel bb))).mono ?_); rintro e w' ⟨rfl, xl, rfl⟩; have hsz := xl.bel.size; (try simp only [World.size_alloc, World.size_setCell, World.size_drew] at hsz); (try have hz0 : w.heap.size < xl.w.heap.size := (by omega)); (try have hz1 : w.heap.size + 1 < xl.w.heap.size := (by omega)); (try have hz2 : w.heap.size + 1 + 1 < xl.w.heap.size := (by omega))) | ((with_reducible refine (CP.out _ (s1.out.bel bb) (q1.out.bel bb)).mono ?_); rintro e w' ⟨rfl, xl, rfl⟩; have hsz := xl.bel.size; (try simp only [World.size_alloc, World.size_setCell, World.size_drew] at hsz); (try have hz0 : w.heap.size < xl.w.heap.size := (by omega)); (try have hz1 : w.heap.size + 1 < xl.w.heap.size := (by omega)); (try have hz2 : w.heap.size + 1 + 1 < xl.w.heap.size := (by omega))))); refine hKP _ _ (LaterC.mk bb) ?_; clear hKP KP) | (refine plan_skip nth8 rfl rfl (LaterC.mk bb) ?_; simp only [Act.put, List.setIfInBounds_toArray, List.set_cons_zero, List.set_cons_succ])
            first | (refine plan_quiet nth9 rfl ?_; intro KP hKP; go_big_quiet_op; go_big_quiet_on) | (refine plan_skip_q nth9 rfl rfl ?_; simp only [Act.put, List.setIfInBounds_toArray, List.set_cons_zero, List.set_cons_succ])
            refine plan_nil ?_
            go_wp2_with fail
            go_roundw
            case rel => exact ⟨j + 1, by omega, by go_num, by rw [eK.out]; exact X.out, LaterC.mk bb⟩
            case measure => first | (simp [intOf]; done) | (simp [intOf]; omega) | omega
        · obtain rfl : j = k := by omega
          have X := Lib.hid (show ∀ i (hi : i < R.length), i < j + 1 → ringB R[i] = true ∧ mapAt R i = true from fun i hi h => by
            rcases Nat.lt_or_ge i j with h1 | h1
            · exact hgood.out i hi h1
            · obtain rfl : i = j := by omega
              exact ⟨hrk.out, mapAt_yes hg2.out⟩)
          go_wp2_with fail
          go_roundw
          case rel => exact ⟨j + 1, by omega, by go_num, X.out, LaterC.mk bb⟩
          case measure => first | (simp [intOf]; done) | (simp [intOf]; omega) | omega
    · obtain rfl : k = R.length := by omega
      have X := Lib.hid (XA.out (List.all_eq_true.2 fun r hr => by
        obtain ⟨i, hi, rfl⟩ := List.mem_iff_getElem.1 hr
        exact (hgood.out i hi hi).1) fun i hi => (hgood.out i hi hi).2)
      go_wp2_with fail
      go_ret
      exact .mk (by rw [X.out]; rfl) bb
end Go.Proofs.YtklcaphkfdlipaaGreatDoor
