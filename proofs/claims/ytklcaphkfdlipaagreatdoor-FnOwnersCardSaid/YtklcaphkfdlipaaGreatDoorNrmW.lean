import Derived.Test.YtklcaphkfdlipaaGreatDoorPackVa
import Derived.Test.YtklcaphkfdlipaaGreatDoorArW
import Derived.Test.YtklcaphkfdlipaaGreatDoorPackVc
/- The normal ring, both sides. -/
set_option linter.unusedSimpArgs false
set_option linter.unusedVariables false
namespace Go.Proofs.YtklcaphkfdlipaaGreatDoor
open Go.RowKit
theorem PtsB.rev {L : List Pt} (h : PtsB L) : PtsB L.reverse := ⟨fun p hp => h.ok p (List.mem_reverse.1 hp)⟩
theorem PtsB.lft {L : List Pt} (h : PtsB L) : PtsB (Go.Proofs.YtklcaphkfdlipaaGreatDoor.lft L) := by
  unfold Go.Proofs.YtklcaphkfdlipaaGreatDoor.lft
  split
  · exact h.rev
  · exact h
theorem Row.pts_take {w : World} {a : Option Addr} {L : List Pt} (h : Row w a (ptsCells L)) (k : Nat) : Row w a (ptsCells (L.take k)) := h.take_pts k
theorem ptsCells_drop : ∀ (L : List Pt) (k : Nat), ptsCells (L.drop k) = (ptsCells L).drop (k * 2)
  | L, 0 => by simp
  | [], k + 1 => by simp [ptsCells]
  | p :: L, k + 1 => by
    rw [List.drop_succ_cons, ptsCells_drop L k, show (k + 1) * 2 = k * 2 + 2 by omega]
    rfl
theorem Row.pts_drop {w : World} {b o : Nat} {L : List Pt} (h : Row w (some ⟨b, o, Option.none⟩) (ptsCells L)) (k : Nat) : Row w (some ⟨b, o + k * 2, Option.none⟩) (ptsCells (L.drop k)) := fun j v hj => by
  rw [ptsCells_drop, List.getElem?_drop] at hj
  obtain ⟨b', o', he, hc⟩ := h (k * 2 + j) v hj
  cases he
  exact ⟨b, o + k * 2, rfl, by rw [Nat.add_assoc]; exact hc⟩
theorem RowsP.bel {w w' : World} {a : Option Addr} {S : List (List Pt)} (h : RowsP w a S) (hb : Below w.heap.size w w') : RowsP w' a S := fun i hi => by
  obtain ⟨b, o, ai, ci, h1, h2, h3, h4⟩ := h i hi
  exact ⟨b, o, ai, ci, h1, Nat.lt_of_lt_of_le h2 hb.size, (hb.cell h2).trans h3, h4.bel hb⟩
theorem RowsP.two {W : World} {e : TypeId} {a1 a2 : Option Addr} {n1 n2 c1 c2 : Nat} {l1 l2 : List Pt} (h1 : Row W a1 (ptsCells l1)) (h2 : Row W a2 (ptsCells l2)) (e1 : l1.length = n1) (e2 : l2.length = n2) :
    RowsP (W.alloc (.cells #[.slice a1 n1 c1, .slice a2 n2 c2] e)) (some ⟨W.heap.size, 0, none⟩) [l1, l2] := by
  subst e1 e2
  have hb : Below W.heap.size W (W.alloc (.cells #[.slice a1 l1.length c1, .slice a2 l2.length c2] e)) := (Below.refl _ _).alloc (Nat.le_refl _) _
  have hr := Row.made W #[.slice a1 l1.length c1, .slice a2 l2.length c2] e
  intro i hi
  match i, hi with
  | 0, _ =>
    obtain ⟨b, o, h, hc⟩ := hr 0 _ rfl
    cases h
    exact ⟨W.heap.size, 0, a1, c1, rfl, by simp only [World.size_alloc]; omega, hc, h1.bel hb⟩
  | 1, _ =>
    obtain ⟨b, o, h, hc⟩ := hr 1 _ rfl
    cases h
    exact ⟨W.heap.size, 0, a2, c2, rfl, by simp only [World.size_alloc]; omega, hc, h2.bel hb⟩
  | k + 2, h => simp at h; omega
theorem flatP_two (l1 l2 : List Pt) : flatP [l1, l2] 2 = l1 ++ l2 := by simp [flatP]
theorem best_yes {M : List Pt} {k : Nat} (h : lexB (cor M k) (cor M (bestTo M k)) = true) : bestTo M (k + 1) = k := by unfold bestTo; rw [if_pos h]
theorem best_no {M : List Pt} {k : Nat} (h : lexB (cor M k) (cor M (bestTo M k)) = false) : bestTo M (k + 1) = bestTo M k := by
  conv => lhs; unfold bestTo
  rw [if_neg (by rw [h]; decide)]
theorem lex_of {P Q : Pt} {b1 b2 b3 : Bool} (h1 : decide (P.x < Q.x) = b1) (h2 : (P.x == Q.x) = b2) (h3 : decide (P.y < Q.y) = b3) : lexB P Q = (b1 || (b2 && b3)) := by
  unfold lexB
  rw [h1, h3, ← h2]
  rfl
set_option maxRecDepth 8000 in
set_option maxHeartbeats 8000000 in
theorem normal_any (L : List Pt) (a : Option Addr) (n c : Nat) (w : World) (hn : L.length = n) (hR : ringB L = true) (hr : Row w a (ptsCells L)) :
    Calls Tryz.prog 113 #[.slice a n c] w (RetOwn w 72 2 n (ptsCells (nrm L)) id) := by
  subst hn
  obtain ⟨h3, h12⟩ := ringB_sizes hR
  have hb := ptsB_of (ringB_points hR)
  have hN := Lib.hid (ringB_nrm hR)
  have hnl := Lib.hid (nrm_len L)
  have hll := lft_len L
  have CL := Lib.hid (fun (w : World) (hr : Row w a (ptsCells L)) => clonePts_any L a L.length c w rfl (by omega) hr)
  have CA := Lib.hid (fun (a : Option Addr) (c : Nat) (w : World) (hr : Row w a (ptsCells L)) => area_any L a L.length c w rfl (by omega) hb hr)
  obtain ⟨A, hA⟩ : ∃ A, areaZ L = A := ⟨_, rfl⟩
  simp only [hA] at CA
  have hM : lft L = if A < 0 then L.reverse else L := by unfold lft; rw [hA]
  obtain ⟨M, hMe⟩ : ∃ M, lft L = M := ⟨_, rfl⟩
  rw [hMe] at hN hll hM
  replace hr := Lib.hid hr
  replace hM := Lib.hid hM
  clear hb hR hMe
  go_enter Tryz.func113, Tryz.ntmps113
  go_wp2_with fail
  with_reducible refine (CL.out _ (hr.out.bel bb)).mono ?_
  rintro e w' ⟨a1, c1, rfl, hown, y1, rfl⟩
  have hsy1 := y1.bel.size
  (try simp only [World.size_alloc, World.size_setCell, World.size_drew] at hsy1)
  have O1 := Lib.hid (Owns.of hown)
  clear hown
  go_wp2_with fail
  with_reducible refine (CA.out _ _ _ O1.out.row).mono ?_
  rintro e w' ⟨rfl, y2, rfl⟩
  have hsy2 := y2.bel.size
  (try simp only [World.size_alloc, World.size_setCell, World.size_drew] at hsy2)
  have hcap1 := own_caps2 O1.out.own
  have HX : ∃ g, a1 = some ⟨g, 0, none⟩ ∧ w.heap.size ≤ g := by
    obtain ⟨g, h1, h2, _⟩ := O1.out.at_ (j := 0) (by omega)
    exact ⟨g, h1, h2⟩
  obtain ⟨g, rfl, hg⟩ := HX
  cases hneg : decide (A < 0)
  have hml := hM.out
  rw [if_neg (by simpa using hneg)] at hml
  have HM := Lib.hid (show Row y2.w (some ⟨g, 0, none⟩) (ptsCells M) from by rw [hml]; exact O1.out.row.bel y2.bel)
  have hbW := Lib.hid (show Below w.heap.size w y2.w from bb)
  have hgW : g < y2.w.heap.size := by have := O1.out.lt _ rfl; simp only at this; omega
  have hwW : w.heap.size ≤ y2.w.heap.size := by omega
  clear hM hA CA CL O1
  go_wp2_with fail
  generalize y2.w = W0 at *
  clear y2 y1 hsy1 hsy2
  rotate_left
  have hml := hM.out
  rw [if_pos (by simpa using hneg)] at hml
  have CV := Lib.hid (revPts_any L (some ⟨g, 0, none⟩) L.length c1 w.heap.size y1.w.heap.size y2.w (O1.out.bel (B := y1.w.heap.size) y2.bel (Nat.le_refl _)) (by omega) rfl (by omega) (by omega))
  rw [← hml] at CV
  have hgY : g < y2.w.heap.size := by have := O1.out.lt _ rfl; simp only at this; omega
  clear hM hA CA CL
  go_wp2_with fail
  with_reducible refine CV.out.mono ?_
  rintro e w' ⟨rfl, z3, rfl, ho3⟩
  have hs3 := z3.btw.size
  have HM := Lib.hid ho3.row
  have hbW := Lib.hid (show Below w.heap.size w z3.w from bb)
  have hgW : g < z3.w.heap.size := by omega
  have hwW : w.heap.size ≤ z3.w.heap.size := by omega
  clear ho3 CV O1
  go_wp2_with fail
  generalize z3.w = W0 at *
  clear hgY z3 hs3 y2 hsy2 y1 hsy1
  all_goals
    clear hml hneg
    go_loopw [4, 17] (fun t4 t17 wr => ∃ k : Nat, k ≤ L.length ∧ t17 = .int .i64 k ∧ t4 = .int .i64 (bestTo M k : Nat) ∧ ∃ z : Later W0, wr = z.w) (fun _ t17 _ => L.length - (intOf t17).toNat)
    case atStart => exact ⟨0, Nat.zero_le _, rfl, rfl, ⟨_, Below.refl _ _⟩, rfl⟩
    case round =>
      obtain ⟨k, hk, rfl, rfl, z, rfl⟩ := hrel
      have hzz := z.bel.size
      have hbest := bestTo_le M k
      by_cases hlt : k < L.length
      · have hk1 : (k : Int) < (L.length : Int) := by omega
        obtain ⟨b, o, he, hbb, p0, p1⟩ := HM.out.pt (k := k) (by omega)
        cases he
        obtain ⟨b, o, he, hbb', q0, q1⟩ := HM.out.pt (k := bestTo M k) (by omega)
        cases he
        rw [Nat.zero_add] at p0 p1 q0 q1
        rw [← cor_lt (by omega)] at p0 p1 q0 q1
        have Y := fun h => best_yes (M := M) (k := k) h
        have N := fun h => best_no (M := M) (k := k) h
        have LX := fun b1 b2 b3 h1 h2 h3 => lex_of (P := cor M k) (Q := cor M (bestTo M k)) (b1 := b1) (b2 := b2) (b3 := b3) h1 h2 h3
        have hbi : ((bestTo M k : Nat) : Int) < (L.length : Int) := by omega
        generalize cor M k = P at *
        generalize cor M (bestTo M k) = Q at *
        obtain ⟨f, hf⟩ : ∃ f, bestTo M k = f := ⟨_, rfl⟩
        simp only [hf] at q0 q1 N hbi ⊢
        clear hf hbest
        have hgz : g < z.w.heap.size := by omega
        cases h1 : decide (P.x < Q.x) <;> cases h2 : (P.x == Q.x) <;> cases h3 : decide (P.y < Q.y)
        all_goals
          have X := LX _ _ _ h1 h2 h3
          simp only [Bool.true_or, Bool.false_or, Bool.and_true, Bool.true_and, Bool.false_and, Bool.and_false] at X
          first | (have XX := Lib.hid (Y X)) | (have XX := Lib.hid (N X))
          clear LX X Y N
          go_wp2_with fail
          go_roundw
          case rel => exact ⟨k + 1, by omega, by go_num, by rw [XX.out], LaterC.mk bb⟩
          case measure => first | (simp [intOf]; done) | (simp [intOf]; omega) | omega
      · obtain rfl : k = L.length := by omega
        have hN' := hN.out
        rw [hll] at hN'
        obtain ⟨f, hf⟩ : ∃ f, bestTo M L.length = f := ⟨_, rfl⟩
        rw [hf] at hN' hbest
        simp only [hf]
        have hf1 : f < L.length := by omega
        have hf2 : f < c1 := by omega
        have hf3 : f ≤ L.length := by omega
        have hM0 := HM.out.bel z.bel
        have hd : Row z.w (some ⟨g, f * 2, Option.none⟩) (ptsCells (M.drop f)) := by simpa using hM0.pts_drop f
        have hR := Lib.hid (RowsP.two (W := z.w) (e := 83) (c1 := c1 - f) (c2 := c1) hd (hM0.pts_take f) (n1 := L.length - f) (n2 := f) (by simp; omega) (by simp; omega))
        have CC := fun a c w hr => concatPts_any [M.drop f, M.take f] a 2 c 1000 w rfl (by omega) (by intro l hl; simp at hl; rcases hl with rfl | rfl <;> simp <;> omega) (by omega) hr
        rw [flatP_two, hN', hnl.out] at CC
        replace CC := Lib.hid CC
        have hgz : g < z.w.heap.size := by omega
        have hc9 := hcap1.2
        unfold maxLen at hc9
        clear hf hbest hN' hM0 hd
        go_wp2_with fail
        refine wp_region_plan [(0, true), (1, true), (2, true), (3, true), (4, true), (5, true), (6, false), (7, false), (8, true)] (C := LaterC _) (by kernel_rfl) (by kernel_rfl) (by kernel_rfl) rfl (fun _ _ d _ _ h => by cases d <;> exact h) (LaterC.mk ((Below.refl _ _).drew)) ?_
        first | (refine plan_quiet nth0 rfl ?_; intro KP hKP; go_big_quiet_op; go_big_quiet_on) | (refine plan_skip_q nth0 rfl rfl ?_; simp only [Act.put, List.setIfInBounds_toArray, List.set_cons_zero, List.set_cons_succ])
        first | (refine plan_quiet nth1 rfl ?_; intro KP hKP; go_big_quiet_op; go_big_quiet_on) | (refine plan_skip_q nth1 rfl rfl ?_; simp only [Act.put, List.setIfInBounds_toArray, List.set_cons_zero, List.set_cons_succ])
        first | (refine plan_quiet nth2 rfl ?_; intro KP hKP; go_big_quiet_op; go_big_quiet_on) | (refine plan_skip_q nth2 rfl rfl ?_; simp only [Act.put, List.setIfInBounds_toArray, List.set_cons_zero, List.set_cons_succ])
        first | (refine plan_quiet nth3 rfl ?_; intro KP hKP; go_big_quiet_op; go_big_quiet_on) | (refine plan_skip_q nth3 rfl rfl ?_; simp only [Act.put, List.setIfInBounds_toArray, List.set_cons_zero, List.set_cons_succ])
        first | (refine plan_quiet nth4 rfl ?_; intro KP hKP; go_big_quiet_op; go_big_quiet_on) | (refine plan_skip_q nth4 rfl rfl ?_; simp only [Act.put, List.setIfInBounds_toArray, List.set_cons_zero, List.set_cons_succ])
        first | (refine plan_quiet nth5 rfl ?_; intro KP hKP; go_big_quiet_op; go_big_quiet_on) | (refine plan_skip_q nth5 rfl rfl ?_; simp only [Act.put, List.setIfInBounds_toArray, List.set_cons_zero, List.set_cons_succ])
        first | (refine plan_loud nth6 rfl ?_; intro KP hKP; go_wp2_with (first | (go_at_call 144; (with_reducible refine (CC.out _ _ _ (hR.out.bel (by first | exact bel_drew (Below.refl _ _) | exact Below.refl _ _))).mono ?_); rintro e w' ⟨a9, c9, rfl, hown, x9, rfl⟩; have hsz := x9.bel.size; (try simp only [World.size_alloc, World.size_setCell, World.size_drew] at hsz); (try have hz0 : w.heap.size < x9.w.heap.size := (by omega)); (try have hz1 : w.heap.size + 1 < x9.w.heap.size := (by omega)); (try have hz2 : w.heap.size + 1 + 1 < x9.w.heap.size := (by omega)); have H9 := Lib.hid (Owns.of hown); clear hown)); refine hKP _ _ (LaterC.mk bb) ?_; clear hKP KP) | (refine plan_skip nth6 rfl rfl (LaterC.mk bb) ?_; simp only [Act.put, List.setIfInBounds_toArray, List.set_cons_zero, List.set_cons_succ])
        first | (refine plan_loud nth7 rfl ?_; intro KP hKP; go_wp2_with (first | (go_at_call 144; (with_reducible refine (CC.out _ _ _ (hR.out.bel (by first | exact bel_drew (Below.refl _ _) | exact Below.refl _ _))).mono ?_); rintro e w' ⟨a9, c9, rfl, hown, x9, rfl⟩; have hsz := x9.bel.size; (try simp only [World.size_alloc, World.size_setCell, World.size_drew] at hsz); (try have hz0 : w.heap.size < x9.w.heap.size := (by omega)); (try have hz1 : w.heap.size + 1 < x9.w.heap.size := (by omega)); (try have hz2 : w.heap.size + 1 + 1 < x9.w.heap.size := (by omega)); have H9 := Lib.hid (Owns.of hown); clear hown)); refine hKP _ _ (LaterC.mk bb) ?_; clear hKP KP) | (refine plan_skip nth7 rfl rfl (LaterC.mk bb) ?_; simp only [Act.put, List.setIfInBounds_toArray, List.set_cons_zero, List.set_cons_succ])
        first | (refine plan_quiet nth8 rfl ?_; intro KP hKP; go_big_quiet_op; go_big_quiet_on) | (refine plan_skip_q nth8 rfl rfl ?_; simp only [Act.put, List.setIfInBounds_toArray, List.set_cons_zero, List.set_cons_succ])
        refine plan_nil ?_
        go_wp2_with fail
        go_ret
        refine RetOwn.mk _ rfl (own_mono H9.out.own ?_) ?_
        · ((try simp only [World.size_alloc, World.size_setCell, World.size_drew]); omega)
        · exact x9.out (bel_alloc (bel_drew (z.out hbW.out)) _)
set_option maxRecDepth 8000 in
set_option maxHeartbeats 8000000 in
theorem sNormal_any (L : List Pt) (a : Option Addr) (n c : Nat) (w : World) (hn : L.length = n) (h0 : 0 < n) (hm : n ≤ 1000) (hb : PtsB L) (hr : Row w a (ptsCells L)) :
    Calls Tryz.prog 111 #[.slice a n c] w (RetOwn w 72 2 n (ptsCells (nrm L)) id) := by
  subst hn
  obtain ⟨ii, j1, j2, j3, j4⟩ := info_pnt
  have Jii := Lib.hid (And.intro j1 (And.intro j2 (And.intro j3 j4)))
  have CA := Lib.hid (fun (w : World) (hr : Row w a (ptsCells L)) => sSigned_any L a L.length c w rfl hm hb hr)
  have CC := Lib.hid (fun (i : Nat) (v : Int) (w : World) (hz : v = (i : Int)) (hi : i ≤ 4194304) (hr : Row w a (ptsCells L)) => l16At_z (a := a) (n := L.length) (c := c) (w := w) hz rfl h0 (by omega) hi hr)
  have hnl := nrm_len L
  replace hr := Lib.hid hr
  have hlit := Lib.hid (fun (W : World) (h : w.heap.size ≤ W.heap.size) => World.ownsRow_lit (base := w.heap.size) (e := 72) (size := 2) W #[] 0 h (by unfold maxLen; omega) rfl)
  clear j1 j2 j3 j4 hb
  go_enter Tryz.func111, Tryz.ntmps111
  go_wp2_with fail
  go_loopw [4, 5] (fun t4 t5 wr => ∃ k : Nat, k ≤ L.length ∧ t5 = .int .i64 k ∧ t4 = .int .i64 (bestTo L k : Nat) ∧ ∃ z : Later w, wr = z.w) (fun _ t5 _ => L.length - (intOf t5).toNat)
  case atStart => exact ⟨0, Nat.zero_le _, rfl, rfl, ⟨_, Below.refl _ _⟩, rfl⟩
  case round =>
    obtain ⟨k, hk, rfl, rfl, z, rfl⟩ := hrel
    have hzz := z.bel.size
    have hbest := bestTo_le L k
    by_cases hlt : k < L.length
    · have hk1 : (k : Int) < (L.length : Int) := by omega
      obtain ⟨b, o, rfl, hbb, p0, p1⟩ := hr.out.pt (k := k) (by omega)
      obtain ⟨b', o', he, hbb', q0, q1⟩ := hr.out.pt (k := bestTo L k) (by omega)
      cases he
      rw [← cor_lt (by omega)] at p0 p1 q0 q1
      have Y := fun h => best_yes (M := L) (k := k) h
      have N := fun h => best_no (M := L) (k := k) h
      have LX := fun b1 b2 b3 h1 h2 h3 => lex_of (P := cor L k) (Q := cor L (bestTo L k)) (b1 := b1) (b2 := b2) (b3 := b3) h1 h2 h3
      have hbi : ((bestTo L k : Nat) : Int) < (L.length : Int) := by omega
      generalize cor L k = P at *
      generalize cor L (bestTo L k) = Q at *
      obtain ⟨f, hf⟩ : ∃ f, bestTo L k = f := ⟨_, rfl⟩
      simp only [hf] at q0 q1 N hbi ⊢
      clear hf hbest
      have hgz : b < z.w.heap.size := by omega
      cases h1 : decide (P.x < Q.x) <;> cases h2 : (P.x == Q.x) <;> cases h3 : decide (P.y < Q.y)
      all_goals
        have X := LX _ _ _ h1 h2 h3
        simp only [Bool.true_or, Bool.false_or, Bool.and_true, Bool.true_and, Bool.false_and, Bool.and_false] at X
        first | (have XX := Lib.hid (Y X)) | (have XX := Lib.hid (N X))
        clear LX X Y N
        go_wp2_with fail
        refine wp_region_later (by kernel_rfl) (by kernel_rfl) ?_
        repeat (go_big_quiet_step (fail))
        refine wpQuiet_nil ?_
        rintro _ ⟨xq, rfl⟩
        go_wp2_with fail
        go_roundw
        case rel => exact ⟨k + 1, by omega, by go_num, by rw [XX.out], LaterC.mk bb⟩
        case measure => first | (simp [intOf]; done) | (simp [intOf]; omega) | omega
    · obtain rfl : k = L.length := by omega
      obtain ⟨f, hf⟩ : ∃ f, bestTo L L.length = f := ⟨_, rfl⟩
      have hat := Lib.hid (fun (k : Nat) (h : k < L.length) => (show (nrm L).take (k + 1) = (nrm L).take k ++ [if 0 < areaZ L then cor L (f + k) else cor L (f + L.length - k)] by
        rw [List.take_succ_eq_append_getElem (by omega)]
        simp [nrm, hf]))
      simp only [hf]
      rw [hf] at hbest
      have hall := Lib.hid (show (nrm L).take L.length = nrm L by rw [List.take_of_length_le (by omega)])
      have hlen := Lib.hid (fun (k : Nat) (h : k ≤ L.length) => (show ((nrm L).take k).length = k by rw [List.length_take]; omega))
      have hf1 : f < L.length := by omega
      obtain ⟨A, hA⟩ : ∃ A, areaZ L = A := ⟨_, rfl⟩
      simp only [hA] at CA hat
      generalize nrm L = N at *
      clear hf hbest hA
      go_wp2_with fail
      go_loopw [6, 7] (fun t6 t7 wr => ∃ (k : Nat) (a6 : Option Addr) (c6 : Nat), k ≤ L.length ∧ t7 = .int .i64 k ∧ t6 = .slice a6 k c6 ∧ wr.ownsRow w.heap.size 72 2 (.slice a6 k c6) k (ptsCells (N.take k)) ∧ ∃ z : Later w, wr = z.w) (fun _ t7 _ => L.length - (intOf t7).toNat)
      case atStart => exact ⟨0, _, _, Nat.zero_le _, rfl, rfl, hlit.out _ hzz, LaterC.mk bb⟩
      case round =>
        obtain ⟨k, a6, c6, hk, rfl, rfl, hown, z2, rfl⟩ := hrel
        have hz2 := z2.bel.size
        replace hown := Lib.hid hown
        by_cases hlt : k < L.length
        · have hk1 : (k : Int) < (L.length : Int) := by omega
          have X := hat.out k hlt
          have hlk := hlen.out k (by omega)
          have hcl := length_ptsCells (N.take k)
          go_wp2_with fail
          with_reducible refine (CA.out _ (hr.out.bel bb)).mono ?_
          rintro e w' ⟨rfl, y1, rfl⟩
          have hsy1 := y1.bel.size
          (try simp only [World.size_alloc, World.size_setCell, World.size_drew] at hsy1)
          cases hpos : decide (0 < A)
          · rw [if_neg (by simpa using hpos)] at X
            replace X := Lib.hid X
            go_wp2_with fail
            with_reducible refine (CC.out (f + L.length - k) _ _ (by omega) (by omega) (hr.out.bel bb)).mono ?_
            rintro e w' ⟨rfl, y2, rfl⟩
            have hsy2 := y2.bel.size
            (try simp only [World.size_alloc, World.size_setCell, World.size_drew] at hsy2)
            generalize cor L (f + L.length - k) = P at *
            go_wp2_with (at_builtin; (refine wpList_append_later _ rfl _ _ _ rfl 72 ii _ 2 16 Tryz.underlying83 Jii.out.1 Jii.out.2.1 Jii.out.2.2.1 Jii.out.2.2.2 rfl (by decide) (w) ?qa1 _ _ _ (ptsCells (N.take k)) rfl ?qa2 _ _ _ (ptCells P) rfl ?qa3 ?qa4 ?qa5 ?qa6 ?qa7 ?_); (case qa1 => (exact bb)); (case qa2 => exact own_bel hown.out bb); (case qa3 => (first | rfl | (simp [boolCells]; done) | (simp [intCells]; done) | (simp; done) | (first | omega | (simp only [List.length_append, List.length_cons, List.length_nil]; omega)))); (case qa4 => exact Row.madeAt (by simp only [World.size_alloc]; try rfl) rfl); (case qa5 => (intro u hu; simp [ptCells] at hu; rcases hu with rfl | rfl <;> rfl)); (case qa6 => (unfold maxLen; (first | omega | (simp only [List.length_append, List.length_cons, List.length_nil]; omega)))); (case qa7 => (first | omega | (simp only [List.length_append, List.length_cons, List.length_nil]; omega))); intro a9 c9 x9 hown9)
            replace hown9 := Lib.hid hown9
            go_roundw
            case rel => exact ⟨k + 1, a9, c9, by omega, by go_num, rfl, by rw [X.out, ptsCells_append]; simpa [ptsCells] using hown9.out, x9, rfl⟩
            case measure => first | (simp [intOf]; done) | (simp [intOf]; omega) | omega
          · rw [if_pos (by simpa using hpos)] at X
            replace X := Lib.hid X
            go_wp2_with fail
            with_reducible refine (CC.out (f + k) _ _ (by omega) (by omega) (hr.out.bel bb)).mono ?_
            rintro e w' ⟨rfl, y2, rfl⟩
            have hsy2 := y2.bel.size
            (try simp only [World.size_alloc, World.size_setCell, World.size_drew] at hsy2)
            generalize cor L (f + k) = P at *
            go_wp2_with (at_builtin; (refine wpList_append_later _ rfl _ _ _ rfl 72 ii _ 2 16 Tryz.underlying83 Jii.out.1 Jii.out.2.1 Jii.out.2.2.1 Jii.out.2.2.2 rfl (by decide) (w) ?qa8 _ _ _ (ptsCells (N.take k)) rfl ?qa9 _ _ _ (ptCells P) rfl ?qa10 ?qa11 ?qa12 ?qa13 ?qa14 ?_); (case qa8 => (exact bb)); (case qa9 => exact own_bel hown.out bb); (case qa10 => (first | rfl | (simp [boolCells]; done) | (simp [intCells]; done) | (simp; done) | (first | omega | (simp only [List.length_append, List.length_cons, List.length_nil]; omega)))); (case qa11 => exact Row.madeAt (by simp only [World.size_alloc]; try rfl) rfl); (case qa12 => (intro u hu; simp [ptCells] at hu; rcases hu with rfl | rfl <;> rfl)); (case qa13 => (unfold maxLen; (first | omega | (simp only [List.length_append, List.length_cons, List.length_nil]; omega)))); (case qa14 => (first | omega | (simp only [List.length_append, List.length_cons, List.length_nil]; omega))); intro a9 c9 x9 hown9)
            replace hown9 := Lib.hid hown9
            go_roundw
            case rel => exact ⟨k + 1, a9, c9, by omega, by go_num, rfl, by rw [X.out, ptsCells_append]; simpa [ptsCells] using hown9.out, x9, rfl⟩
            case measure => first | (simp [intOf]; done) | (simp [intOf]; omega) | omega
        · obtain rfl : k = L.length := by omega
          have hown8 := hown.out
          rw [hall.out] at hown8
          replace hown8 := Lib.hid hown8
          go_wp2_with fail
          go_ret
          exact RetOwn.mk _ rfl hown8.out z2.bel
end Go.Proofs.YtklcaphkfdlipaaGreatDoor
