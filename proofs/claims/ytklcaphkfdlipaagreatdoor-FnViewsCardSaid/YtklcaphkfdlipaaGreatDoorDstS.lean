import Derived.Test.YtklcaphkfdlipaaGreatDoorDst
/- DistanceOfViews: the reference's side. -/
set_option linter.unusedSimpArgs false
set_option linter.unusedVariables false
namespace Go.Proofs.YtklcaphkfdlipaaGreatDoor
open Go.RowKit
set_option maxRecDepth 8000 in
set_option maxHeartbeats 4000000 in
theorem ds_spec (R : List (List Pt)) (V : List Vw) (x y : Int) (a b : Option Addr) (n c m d : Nat) (w : World) (hn : R.length = n) (hm : n ≤ 1048576) (ok : ∀ r ∈ R, r.length ≤ 1048576) (hr : RingsR w a R)
    (hn' : V.length = m) (hm' : m ≤ 1048576) (ok' : ∀ v ∈ V, VwOk v) (hr' : ViewsR w b V) :
    Calls Tryz.prog 34 #[.slice a n c, .slice b m d, .int .i64 x, .int .i64 y] w (Ret w (.tuple #[.int .i64 (dsN R V x y), .int .i64 (viewC R V [x, y])])) := by
  subst hn hn'
  have CC := Lib.hid (fun (w : World) (hr : RingsR w a R) (hr' : ViewsR w b V) => sView_any R V x y a b R.length c V.length d w rfl hm ok hr rfl hm' ok' hr')
  replace hr := Lib.hid hr
  replace hr' := Lib.hid hr'
  by_cases hK : viewC R V [x, y] = 0
  rotate_left
  · have e1 : dsN R V x y = 0 := by unfold dsN; rw [if_neg hK]
    rw [e1]
    obtain ⟨K, hKe⟩ : ∃ K, viewC R V [x, y] = K := ⟨_, rfl⟩
    rw [hKe] at hK CC ⊢
    have hK1 : (K != 0) = true := by simpa using hK
    clear e1 ok ok' hK hKe
    go_enter Tryz.func34, Tryz.ntmps34
    go_wp2_with fail
    with_reducible refine (CC.out _ (hr.out.bel (by (repeat (first | (with_reducible first | exact Below.refl _ _ | assumption | refine Later.out _ ?_ | refine bel_alloc ?_ _ | refine bel_drew ?_ | refine bel_drewN ?_ _ | refine bel_set ?_ ?_ _ | refine After.out _ ?_ ?_) | (dsimp only; omega) | omega | (simp only [World.size_alloc, World.size_setCell, World.size_drew]; omega))))) (hr'.out.bel (by (repeat (first | (with_reducible first | exact Below.refl _ _ | assumption | refine Later.out _ ?_ | refine bel_alloc ?_ _ | refine bel_drew ?_ | refine bel_drewN ?_ _ | refine bel_set ?_ ?_ _ | refine After.out _ ?_ ?_) | (dsimp only; omega) | omega | (simp only [World.size_alloc, World.size_setCell, World.size_drew]; omega)))))).mono ?_
    rintro e w' ⟨rfl, y1, rfl⟩
    have hsy1 := y1.bel.size
    (try simp only [World.size_alloc, World.size_setCell, World.size_drew] at hsy1)
    go_wp2_with fail
    refine bodyPost_ret (by simp [results, Tryz.results34, go_sem, ↓IntWalk.iteOmega, *]; try rfl) rfl ?_
    exact .mk rfl (by (repeat (first | (with_reducible first | exact Below.refl _ _ | assumption | refine Later.out _ ?_ | refine bel_alloc ?_ _ | refine bel_drew ?_ | refine bel_drewN ?_ _ | refine bel_set ?_ ?_ _ | refine After.out _ ?_ ?_) | (dsimp only; omega) | omega | (simp only [World.size_alloc, World.size_setCell, World.size_drew]; omega))))
  obtain ⟨hB, i, j, rfl, rfl, hi, hj⟩ := viewC_two hK
  have e1 : dsN R V (i : Int) (j : Int) = arTo R (fun k => othB (atV V i) (atV V j) k) R.length := by unfold dsN; rw [if_pos hK]; rfl
  rw [e1, hK]
  rw [hK] at CC
  have h6 := mapB_len (viewsB_map hB)
  have hR := mapB_rings (viewsB_map hB)
  have hvo := viewsB_ok hB
  have hbd := Lib.hid (fun k hk => arTo_bd (p := fun k => othB (atV V i) (atV V j) k) hR k hk)
  have hY := Lib.hid (fun (k : Nat) h => arTo_yes (R := R) (p := fun k => othB (atV V i) (atV V j) k) (k := k) h)
  have hN := Lib.hid (fun (k : Nat) h => arTo_no (R := R) (p := fun k => othB (atV V i) (atV V j) k) (k := k) h)
  have hab := Lib.hid (fun (k : Nat) (h : k < R.length) => aRing_bd (hR _ (List.getElem_mem h)))
  have CA := Lib.hid (fun (k : Nat) (hk : k < R.length) (ak : Option Addr) (ck : Nat) (w : World) (hr : Row w ak (ptsCells R[k])) => l18Area_any R[k] ak R[k].length ck w rfl (hR _ (List.getElem_mem hk)) hr)
  have h0 := Lib.hid (show arTo R (fun k => othB (atV V i) (atV V j) k) 0 = 0 from rfl)
  obtain ⟨b1, o1, a1, c1, rfl, hb1, p0, p1, p2, -, -⟩ := hr'.out.at_ hi
  obtain ⟨b2, o2, a2, c2, he, hb2, q0, q1, q2, -, -⟩ := hr'.out.at_ hj
  cases he
  have l1 : V[i].own.length = R.length := hvo.own _ (List.getElem_mem hi)
  have l2 : V[j].own.length = R.length := hvo.own _ (List.getElem_mem hj)
  rw [l1] at p1
  rw [l2] at q1
  have hO := Lib.hid (fun (k : Nat) (h1 : k < V[i].own.length) (h2 : k < V[j].own.length) => (show othB (atV V i) (atV V j) k = !((V[i].own[k]'h1).toList == (V[j].own[k]'h2).toList) from by
    unfold othB
    rw [atV_get hi, atV_get hj, ownAt_get h1, ownAt_get h2]))
  have hv1 : (i : Int) < (V.length : Int) := by omega
  have hv2 : (j : Int) < (V.length : Int) := by omega
  replace p2 := Lib.hid p2
  replace q2 := Lib.hid q2
  generalize arTo R (fun k => othB (atV V i) (atV V j) k) = AR at *
  have l1' := Lib.hid l1
  have l2' := Lib.hid l2
  clear e1 hB hK ok ok' hR hvo l1 l2
  go_enter Tryz.func34, Tryz.ntmps34
  go_wp2_with fail
  with_reducible refine (CC.out _ (hr.out.bel (by (repeat (first | (with_reducible first | exact Below.refl _ _ | assumption | refine Later.out _ ?_ | refine bel_alloc ?_ _ | refine bel_drew ?_ | refine bel_drewN ?_ _ | refine bel_set ?_ ?_ _ | refine After.out _ ?_ ?_) | (dsimp only; omega) | omega | (simp only [World.size_alloc, World.size_setCell, World.size_drew]; omega))))) (hr'.out.bel (by (repeat (first | (with_reducible first | exact Below.refl _ _ | assumption | refine Later.out _ ?_ | refine bel_alloc ?_ _ | refine bel_drew ?_ | refine bel_drewN ?_ _ | refine bel_set ?_ ?_ _ | refine After.out _ ?_ ?_) | (dsimp only; omega) | omega | (simp only [World.size_alloc, World.size_setCell, World.size_drew]; omega)))))).mono ?_
  rintro e w' ⟨rfl, y1, rfl⟩
  have hsy1 := y1.bel.size
  (try simp only [World.size_alloc, World.size_setCell, World.size_drew] at hsy1)
  go_wp2_with fail
  go_loopw [11, 12] (fun t11 t12 wr => ∃ k : Nat, k ≤ R.length ∧ t12 = .int .i64 k ∧ t11 = .int .i64 (AR k) ∧ ∃ z : Later w, wr = z.w) (fun _ t12 _ => R.length - (intOf t12).toNat)
  case atStart => exact ⟨0, Nat.zero_le _, rfl, by rw [h0.out], LaterC.mk (by (repeat (first | (with_reducible first | exact Below.refl _ _ | assumption | refine Later.out _ ?_ | refine bel_alloc ?_ _ | refine bel_drew ?_ | refine bel_drewN ?_ _ | refine bel_set ?_ ?_ _ | refine After.out _ ?_ ?_) | (dsimp only; omega) | omega | (simp only [World.size_alloc, World.size_setCell, World.size_drew]; omega))))⟩
  case round =>
    obtain ⟨k, hk, rfl, rfl, z, rfl⟩ := hrel
    have hzz := z.bel.size
    obtain ⟨bd1, bd2⟩ := hbd.out k hk
    by_cases hlt : k < R.length
    · have hk1 : (k : Int) < (R.length : Int) := by omega
      have hki : k < V[i].own.length := by have := l1'.out; omega
      have hkj : k < V[j].own.length := by have := l2'.out; omega
      obtain ⟨b3, o3, rfl, hb3, c3⟩ := p2.out.str hki
      obtain ⟨b4, o4, rfl, hb4, c4⟩ := q2.out.str hkj
      obtain ⟨b5, o5, ak, ck, rfl, hb5, s0, s1, -, -⟩ := hr.out.at_ hlt
      have eo := hO.out k hki hkj
      have Y := hY.out k
      have N := hN.out k
      simp only [eo] at Y N
      have CK := Lib.hid (fun (w : World) (hr : Row w ak (ptsCells R[k])) => CA.out k hlt ak ck w hr)
      obtain ⟨m1, m2⟩ := hab.out k hlt
      have eg2 : R.getD k [] = R[k] := by simp [hlt]
      rw [eg2] at Y
      generalize aRing R[k] = A at *
      generalize V[i].own[k]'hki = s at *
      generalize V[j].own[k]'hkj = t at *
      replace s1 := Lib.hid s1
      have z1 : b1 < z.w.heap.size := by omega
      have z3 : b3 < z.w.heap.size := by omega
      have z4 : b4 < z.w.heap.size := by omega
      have z5 : b5 < z.w.heap.size := by omega
      replace eo := Lib.hid eo
      cases hst : (s.toList == t.toList)
      · have X := Lib.hid (Y (by rw [hst]; rfl))
        clear Y N
        go_wp2_with fail
        refine wp_region_later (by kernel_rfl) (by kernel_rfl) ?_
        repeat (go_big_quiet_step (fail))
        refine wpQuiet_nil ?_
        rintro _ ⟨xq, rfl⟩
        go_wp2_with fail
        with_reducible refine (CK.out _ (s1.out.bel (by (repeat (first | (with_reducible first | exact Below.refl _ _ | assumption | refine Later.out _ ?_ | refine bel_alloc ?_ _ | refine bel_drew ?_ | refine bel_drewN ?_ _ | refine bel_set ?_ ?_ _ | refine After.out _ ?_ ?_) | (dsimp only; omega) | omega | (simp only [World.size_alloc, World.size_setCell, World.size_drew]; omega)))))).mono ?_
        rintro e w' ⟨rfl, y3, rfl⟩
        have hsy3 := y3.bel.size
        (try simp only [World.size_alloc, World.size_setCell, World.size_drew] at hsy3)
        go_wp2_with fail
        go_roundw
        case rel => exact ⟨k + 1, by omega, by go_num, by rw [X.out], LaterC.mk (by (repeat (first | (with_reducible first | exact Below.refl _ _ | assumption | refine Later.out _ ?_ | refine bel_alloc ?_ _ | refine bel_drew ?_ | refine bel_drewN ?_ _ | refine bel_set ?_ ?_ _ | refine After.out _ ?_ ?_) | (dsimp only; omega) | omega | (simp only [World.size_alloc, World.size_setCell, World.size_drew]; omega))))⟩
        case measure => first | (simp [intOf]; done) | (simp [intOf]; omega) | omega
      · have X := Lib.hid (N (by rw [hst]; rfl))
        clear Y N
        go_wp2_with fail
        refine wp_region_later (by kernel_rfl) (by kernel_rfl) ?_
        repeat (go_big_quiet_step (fail))
        refine wpQuiet_nil ?_
        rintro _ ⟨xq, rfl⟩
        go_wp2_with fail
        go_roundw
        case rel => exact ⟨k + 1, by omega, by go_num, by rw [X.out], LaterC.mk (by (repeat (first | (with_reducible first | exact Below.refl _ _ | assumption | refine Later.out _ ?_ | refine bel_alloc ?_ _ | refine bel_drew ?_ | refine bel_drewN ?_ _ | refine bel_set ?_ ?_ _ | refine After.out _ ?_ ?_) | (dsimp only; omega) | omega | (simp only [World.size_alloc, World.size_setCell, World.size_drew]; omega))))⟩
        case measure => first | (simp [intOf]; done) | (simp [intOf]; omega) | omega
    · obtain rfl : k = R.length := by omega
      go_wp2_with fail
      refine bodyPost_ret (by simp [results, Tryz.results34, go_sem, ↓IntWalk.iteOmega, *]; try rfl) rfl ?_
      exact .mk rfl (by (repeat (first | (with_reducible first | exact Below.refl _ _ | assumption | refine Later.out _ ?_ | refine bel_alloc ?_ _ | refine bel_drew ?_ | refine bel_drewN ?_ _ | refine bel_set ?_ ?_ _ | refine After.out _ ?_ ?_) | (dsimp only; omega) | omega | (simp only [World.size_alloc, World.size_setCell, World.size_drew]; omega))))
end Go.Proofs.YtklcaphkfdlipaaGreatDoor
