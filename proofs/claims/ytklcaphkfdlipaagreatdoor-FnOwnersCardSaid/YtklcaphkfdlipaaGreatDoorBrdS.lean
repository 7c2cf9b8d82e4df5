import Derived.Test.YtklcaphkfdlipaaGreatDoorPackVa
import Derived.Test.YtklcaphkfdlipaaGreatDoorBrd
/- BorderOf: the reference's side. -/
set_option linter.unusedSimpArgs false
set_option linter.unusedVariables false
namespace Go.Proofs.YtklcaphkfdlipaaGreatDoor
open Go.RowKit
set_option maxRecDepth 8000 in
set_option maxHeartbeats 8000000 in
theorem br_spec (R : List (List Pt)) (V : List Vw) (x : Int) (s : ByteArray) (a b : Option Addr) (n c m d : Nat) (w : World) (hn : R.length = n) (hm : n ≤ 1048576) (ok : ∀ r ∈ R, r.length ≤ 1048576) (hr : RingsR w a R)
    (hn' : V.length = m) (hm' : m ≤ 1048576) (ok' : ∀ v ∈ V, VwOk v) (hr' : ViewsR w b V) :
    Calls Tryz.prog 21 #[.slice a n c, .slice b m d, .int .i64 x, .string s] w (RetOwn w 96 4 (brL R V x s).length (edsCells (brL R V x s)) fun v => .tuple #[v, .int .i64 (viewC R V [x])]) := by
  subst hn hn'
  have CC := Lib.hid (fun (w : World) (hr : RingsR w a R) (hr' : ViewsR w b V) => sView_any R V x x a b R.length c V.length d w rfl hm ok hr rfl hm' ok' hr')
  rw [viewC_one] at CC
  replace hr := Lib.hid hr
  replace hr' := Lib.hid hr'
  by_cases hK : viewC R V [x] = 0
  rotate_left
  · have e1 : brL R V x s = [] := by unfold brL; rw [if_neg hK]
    rw [e1]
    obtain ⟨K, hKe⟩ : ∃ K, viewC R V [x] = K := ⟨_, rfl⟩
    rw [hKe] at hK CC ⊢
    have hK1 : (K != 0) = true := by simpa using hK
    clear e1 ok ok' hK hKe
    go_enter Tryz.func21, Tryz.ntmps21
    go_wp2_with fail
    with_reducible refine (CC.out _ (hr.out.bel bb) (hr'.out.bel bb)).mono ?_
    rintro e w' ⟨rfl, y1, rfl⟩
    go_wp2_with fail
    refine bodyPost_ret (by simp [results, Tryz.results21, go_sem, ↓IntWalk.iteOmega, *]; try rfl) rfl ?_
    exact RetOwn.mk (.slice none 0 0) rfl (World.ownsRow_nil _ _ _ _) bb
  obtain ⟨hB, v, rfl, hv⟩ := viewC_zero hK
  have e1 : brL R V (v : Int) s = outTo (allTo R (atV V v) s R.length) (allTo R (atV V v) s R.length).length := by unfold brL; rw [if_pos hK]; rfl
  rw [e1, hK]
  rw [hK] at CC
  have h6 := mapB_len (viewsB_map hB)
  have hrb := Lib.hid (mapB_rings (viewsB_map hB))
  have hvo := viewsB_ok hB
  have h4 := hvo.four
  obtain ⟨bv, ov, av, cv, rfl, hbv, v0, v1, v2, -, -⟩ := hr'.out.at_ hv
  have hvl : V[v].own.length = R.length := hvo.own _ (List.getElem_mem hv)
  have eu : atV V v = V[v] := atV_get hv
  rw [hvl] at v1
  have CE := Lib.hid (fun (k : Nat) (hk : k < R.length) (ak : Option Addr) (ck : Nat) (w : World) (hr : Row w ak (ptsCells R[k])) => sEdges_any R[k] ak R[k].length ck w rfl (by have := (ringB_sizes (hrb.out _ (List.getElem_mem hk))).1; omega) (by have := (ringB_sizes (hrb.out _ (List.getElem_mem hk))).2; omega) (ringB_smL (hrb.out _ (List.getElem_mem hk))).ptsB hr)
  have hY := Lib.hid (fun (k : Nat) h => allTo_yes (R := R) (u := atV V v) (s := s) (k := k) h)
  have hN := Lib.hid (fun (k : Nat) h => allTo_no (R := R) (u := atV V v) (s := s) (k := k) h)
  have hLen := Lib.hid (allTo_len (R := R) (u := atV V v) (s := s) (fun r hr => (ringB_sizes (hrb.out r hr)).2))
  have hOwn := Lib.hid (fun (k : Nat) (h : k < R.length) => (show ownAt (atV V v) k = V[v].own[k]'(by omega) from by rw [eu]; exact ownAt_get (by omega)))
  obtain ⟨ii, j1, j2, j3, j4⟩ := info_edge'
  have Jii := Lib.hid (And.intro j1 (And.intro j2 (And.intro j3 j4)))
  have hvi : (v : Int) < (V.length : Int) := by omega
  replace v2 := Lib.hid v2
  replace hvl := Lib.hid hvl
  have hA0 := Lib.hid (show allTo R (atV V v) s 0 = [] from rfl)
  generalize allTo R (atV V v) s = AT at *
  clear e1 hB hK ok ok' hvo j1 j2 j3 j4 eu
  go_enter Tryz.func21, Tryz.ntmps21
  go_wp2_with fail
  with_reducible refine (CC.out _ (hr.out.bel bb) (hr'.out.bel bb)).mono ?_
  rintro e w' ⟨rfl, y1, rfl⟩
  have hs1 := y1.bel.size
  have hlit := Lib.hid (fun (base : Nat) (W : World) (h : base ≤ W.heap.size) => World.ownsRow_lit (base := base) (e := 96) (size := 4) W #[] 0 h (by unfold maxLen; omega) rfl)
  go_wp2_with fail
  go_loopw [11, 12] (fun t11 t27 wr => ∃ (k : Nat) (a6 : Option Addr) (c6 : Nat), k ≤ R.length ∧ t27 = .int .i64 k ∧ t11 = .slice a6 (AT k).length c6 ∧ wr.ownsRow w.heap.size 96 4 (.slice a6 (AT k).length c6) (AT k).length (edsCells (AT k)) ∧ ∃ z : Later w, wr = z.w) (fun _ t27 _ => R.length - (intOf t27).toNat)
  case atStart => exact ⟨0, _, 0, Nat.zero_le _, rfl, by rw [hA0.out]; rfl, by rw [hA0.out]; exact hlit.out _ _ hs1, LaterC.mk bb⟩
  case round =>
    obtain ⟨k, a6, c6, hk, rfl, rfl, hown, z, rfl⟩ := hrel
    have hzz := z.bel.size
    replace hown := Lib.hid hown
    have hlk := hLen.out k hk
    have hcl := length_edsCells (AT k)
    by_cases hlt : k < R.length
    · have hk1 : (k : Int) < (R.length : Int) := by omega
      have hkv : k < V[v].own.length := by have := hvl.out; omega
      obtain ⟨bk, ok1, ak, ck, rfl, hbk, q0, q1, -, -⟩ := hr.out.at_ hlt
      obtain ⟨bo, oo, rfl, hbo, p0⟩ := v2.out.str hkv
      have eo := hOwn.out k hlt
      have Y := hY.out k
      have N := hN.out k
      rw [eo] at Y N
      have eg : R.getD k [] = R[k] := by simp [hlt]
      rw [eg] at Y
      have CK := Lib.hid (fun (w : World) (hr : Row w ak (ptsCells R[k])) => CE.out k hlt ak ck w hr)
      have hel := edg_len R[k]
      have hrl := (ringB_sizes (hrb.out _ (List.getElem_mem hlt))).2
      generalize V[v].own[k]'hkv = so at *
      generalize edg R[k] = E at *
      replace q1 := Lib.hid q1
      have z1 : bk < z.w.heap.size := by omega
      have z2 : bo < z.w.heap.size := by omega
      have z3 : bv < z.w.heap.size := by omega
      replace eo := Lib.hid eo
      cases hc : (so.toList == s.toList)
      · have X := Lib.hid (N hc)
        clear Y N
        go_wp2_with fail
        go_roundw
        case rel => exact ⟨k + 1, a6, c6, by omega, by go_num, by rw [X.out], by rw [X.out]; exact hown.out, z, rfl⟩
        case measure => first | (simp [intOf]; done) | (simp [intOf]; omega) | omega
      · have X := Y hc
        have X3 : (AT (k + 1)).length = (AT k).length + R[k].length := by rw [X, List.length_append, hel]
        replace X := Lib.hid X
        replace X3 := Lib.hid X3
        clear Y N
        have hcl2 := length_edsCells E
        go_wp2_with fail
        with_reducible refine (CK.out _ (q1.out.bel bb)).mono ?_
        rintro e w' ⟨a8, c8, rfl, hown, y8, rfl⟩
        have hsy8 := y8.bel.size
        (try simp only [World.size_alloc, World.size_setCell, World.size_drew] at hsy8)
        have O8 := Lib.hid (Owns.of hown)
        clear hown
        go_wp2_with (at_builtin; (refine wpList_append_later _ rfl _ _ _ rfl 96 ii _ 4 32 Tryz.underlying40 Jii.out.1 Jii.out.2.1 Jii.out.2.2.1 Jii.out.2.2.2 rfl (by decide) (w) ?qa1 _ _ _ (edsCells (AT k)) rfl ?qa2 _ _ _ (edsCells E) rfl ?qa3 ?qa4 ?qa5 ?qa6 ?qa7 ?_); (case qa1 => (exact bb)); (case qa2 => exact own_bel hown.out bb); (case qa3 => (first | rfl | (simp [boolCells]; done) | (simp [intCells]; done) | (simp; done) | (first | omega | (simp only [List.length_append, List.length_cons, List.length_nil]; omega)))); (case qa4 => exact O8.out.row); (case qa5 => exact one_eds _); (case qa6 => (unfold maxLen; (first | omega | (simp only [List.length_append, List.length_cons, List.length_nil]; omega)))); (case qa7 => (first | omega | (simp only [List.length_append, List.length_cons, List.length_nil]; omega))); intro a9 c9 x9 hown9)
        replace hown9 := Lib.hid hown9
        go_roundw
        case rel => exact ⟨k + 1, a9, c9, by omega, by go_num, by rw [X3.out], by rw [X3.out, X.out, edsCells_append]; exact hown9.out, x9, rfl⟩
        case measure => first | (simp [intOf]; done) | (simp [intOf]; omega) | omega
    · obtain rfl : k = R.length := by omega
      generalize hA : AT R.length = A at *
      have HA := Lib.hid (Owns.of hown.out).row
      have hgA : ∀ p : Addr, a6 = some p → p.block < z.w.heap.size := (Owns.of hown.out).lt
      replace hgA := Lib.hid hgA
      have oY := Lib.hid (fun (k : Nat) (h : k < A.length) hc => outTo_yes h hc)
      have oN := Lib.hid (fun (k : Nat) (h : k < A.length) hc => outTo_no h hc)
      have oL := Lib.hid (outTo_len A)
      have o0 := Lib.hid (show outTo A 0 = [] from rfl)
      replace hA := Lib.hid hA
      clear hown hY hN hLen hOwn CE hrb hA0 v2
      go_wp2_with fail
      go_loopw [13, 14] (fun t12 t49 wr => ∃ (k : Nat) (a7 : Option Addr) (c7 : Nat), k ≤ A.length ∧ t49 = .int .i64 k ∧ t12 = .slice a7 (outTo A k).length c7 ∧ wr.ownsRow z.w.heap.size 96 4 (.slice a7 (outTo A k).length c7) (outTo A k).length (edsCells (outTo A k)) ∧ ∃ z3 : Later z.w, wr = z3.w) (fun _ t49 _ => A.length - (intOf t49).toNat)
      case atStart => exact ⟨0, _, 0, Nat.zero_le _, rfl, by rw [o0.out]; rfl, by rw [o0.out]; exact hlit.out _ _ (Nat.le_refl _), LaterC.mk bb⟩
      case round =>
        obtain ⟨k, a7, c7, hk, rfl, rfl, hown, z3, rfl⟩ := hrel
        have hz3 := z3.bel.size
        replace hown := Lib.hid hown
        have hlo := oL.out k
        have hcl3 := length_edsCells (outTo A k)
        by_cases hlt : k < A.length
        · have hk1 : (k : Int) < (A.length : Int) := by omega
          obtain ⟨bk, ok1, rfl, hbk, q0, q1, q2, q3⟩ := HA.out.ed hlt
          have Y := oY.out k hlt
          have N := oN.out k hlt
          have CH := Lib.hid (fun (w : World) (hr : Row w (some ⟨bk, ok1, none⟩) (edsCells A)) => has_any A[k].back A (some ⟨bk, ok1, none⟩) A.length c6 w rfl (by omega) hr)
          unfold Ed.back at CH Y N
          simp only at CH
          have z1 : bk < z3.w.heap.size := by omega
          generalize hX : amongE A ⟨A[k].q, A[k].p⟩ = X at *
          generalize A[k] = e at *
          replace Y := Lib.hid Y
          replace N := Lib.hid N
          go_wp2_with fail
          refine wp_region_plan [(0, true), (1, true), (2, true), (3, true), (4, true), (5, true), (6, true), (7, true), (8, true), (9, true), (10, true), (11, true), (12, false), (13, true)] (C := LaterC _) (by kernel_rfl) (by kernel_rfl) (by kernel_rfl) rfl (fun _ _ d _ _ h => by cases d <;> exact h) (LaterC.mk ((Below.refl _ _).drew)) ?_
          first | (refine plan_quiet nth0 rfl ?_; intro KP hKP; go_big_quiet_op; go_big_quiet_on) | (refine plan_skip_q nth0 rfl rfl ?_; simp only [Act.put, List.setIfInBounds_toArray, List.set_cons_zero, List.set_cons_succ])
          first | (refine plan_quiet nth1 rfl ?_; intro KP hKP; go_big_quiet_op; go_big_quiet_on) | (refine plan_skip_q nth1 rfl rfl ?_; simp only [Act.put, List.setIfInBounds_toArray, List.set_cons_zero, List.set_cons_succ])
          first | (refine plan_quiet nth2 rfl ?_; intro KP hKP; go_big_quiet_op; go_big_quiet_on) | (refine plan_skip_q nth2 rfl rfl ?_; simp only [Act.put, List.setIfInBounds_toArray, List.set_cons_zero, List.set_cons_succ])
          first | (refine plan_quiet nth3 rfl ?_; intro KP hKP; go_big_quiet_op; go_big_quiet_on) | (refine plan_skip_q nth3 rfl rfl ?_; simp only [Act.put, List.setIfInBounds_toArray, List.set_cons_zero, List.set_cons_succ])
          first | (refine plan_quiet nth4 rfl ?_; intro KP hKP; go_big_quiet_op; go_big_quiet_on) | (refine plan_skip_q nth4 rfl rfl ?_; simp only [Act.put, List.setIfInBounds_toArray, List.set_cons_zero, List.set_cons_succ])
          first | (refine plan_quiet nth5 rfl ?_; intro KP hKP; go_big_quiet_op; go_big_quiet_on) | (refine plan_skip_q nth5 rfl rfl ?_; simp only [Act.put, List.setIfInBounds_toArray, List.set_cons_zero, List.set_cons_succ])
          first | (refine plan_quiet nth6 rfl ?_; intro KP hKP; go_big_quiet_op; go_big_quiet_on) | (refine plan_skip_q nth6 rfl rfl ?_; simp only [Act.put, List.setIfInBounds_toArray, List.set_cons_zero, List.set_cons_succ])
          first | (refine plan_quiet nth7 rfl ?_; intro KP hKP; go_big_quiet_op; go_big_quiet_on) | (refine plan_skip_q nth7 rfl rfl ?_; simp only [Act.put, List.setIfInBounds_toArray, List.set_cons_zero, List.set_cons_succ])
          first | (refine plan_quiet nth8 rfl ?_; intro KP hKP; go_big_quiet_op; go_big_quiet_on) | (refine plan_skip_q nth8 rfl rfl ?_; simp only [Act.put, List.setIfInBounds_toArray, List.set_cons_zero, List.set_cons_succ])
          first | (refine plan_quiet nth9 rfl ?_; intro KP hKP; go_big_quiet_op; go_big_quiet_on) | (refine plan_skip_q nth9 rfl rfl ?_; simp only [Act.put, List.setIfInBounds_toArray, List.set_cons_zero, List.set_cons_succ])
          first | (refine plan_quiet nth10 rfl ?_; intro KP hKP; go_big_quiet_op; go_big_quiet_on) | (refine plan_skip_q nth10 rfl rfl ?_; simp only [Act.put, List.setIfInBounds_toArray, List.set_cons_zero, List.set_cons_succ])
          first | (refine plan_quiet nth11 rfl ?_; intro KP hKP; go_big_quiet_op; go_big_quiet_on) | (refine plan_skip_q nth11 rfl rfl ?_; simp only [Act.put, List.setIfInBounds_toArray, List.set_cons_zero, List.set_cons_succ])
          first | (refine plan_loud nth12 rfl ?_; intro KP hKP; go_wp2_with (first | (go_at_call 68; first | ((with_reducible refine (Calls.later (CH.out _ (HA.out.bel bb))).mono ?_); rintro e w' ⟨rfl, xl, rfl⟩; have hsz := xl.bel.size; (try simp only [World.size_alloc, World.size_setCell, World.size_drew] at hsz); (try have hz0 : w.heap.size < xl.w.heap.size := (by omega)); (try have hz1 : w.heap.size + 1 < xl.w.heap.size := (by omega)); (try have hz2 : w.heap.size + 1 + 1 < xl.w.heap.size := (by omega))) | ((with_reducible refine (CH.out _ (HA.out.bel bb)).mono ?_); rintro e w' ⟨rfl, xl, rfl⟩; have hsz := xl.bel.size; (try simp only [World.size_alloc, World.size_setCell, World.size_drew] at hsz); (try have hz0 : w.heap.size < xl.w.heap.size := (by omega)); (try have hz1 : w.heap.size + 1 < xl.w.heap.size := (by omega)); (try have hz2 : w.heap.size + 1 + 1 < xl.w.heap.size := (by omega))))); refine hKP _ _ (LaterC.mk bb) ?_; clear hKP KP) | (refine plan_skip nth12 rfl rfl (LaterC.mk bb) ?_; simp only [Act.put, List.setIfInBounds_toArray, List.set_cons_zero, List.set_cons_succ])
          first | (refine plan_quiet nth13 rfl ?_; intro KP hKP; go_big_quiet_op; go_big_quiet_on) | (refine plan_skip_q nth13 rfl rfl ?_; simp only [Act.put, List.setIfInBounds_toArray, List.set_cons_zero, List.set_cons_succ])
          refine plan_nil ?_
          cases X
          · have XY := Y.out rfl
            have X3 : (outTo A (k + 1)).length = (outTo A k).length + 1 := by rw [XY]; simp
            replace XY := Lib.hid XY
            replace X3 := Lib.hid X3
            clear Y N hX
            go_wp2_with (at_builtin; (refine wpList_append_later _ rfl _ _ _ rfl 96 ii _ 4 32 Tryz.underlying40 Jii.out.1 Jii.out.2.1 Jii.out.2.2.1 Jii.out.2.2.2 rfl (by decide) (z.w) ?qa8 _ _ _ (edsCells (outTo A k)) rfl ?qa9 _ _ _ (edCells e) rfl ?qa10 ?qa11 ?qa12 ?qa13 ?qa14 ?_); (case qa8 => (exact bb)); (case qa9 => exact own_bel hown.out bb); (case qa10 => (first | rfl | (simp [boolCells]; done) | (simp [intCells]; done) | (simp; done) | (first | omega | (simp only [List.length_append, List.length_cons, List.length_nil]; omega)))); (case qa11 => exact Row.madeAt (by simp only [World.size_alloc]; try rfl) rfl); (case qa12 => exact one_ed _); (case qa13 => (unfold maxLen; (first | omega | (simp only [List.length_append, List.length_cons, List.length_nil]; omega)))); (case qa14 => (first | omega | (simp only [List.length_append, List.length_cons, List.length_nil]; omega))); intro a9 c9 x9 hown9)
            replace hown9 := Lib.hid hown9
            go_roundw
            case rel => exact ⟨k + 1, a9, c9, by omega, by go_num, by rw [X3.out], by rw [X3.out, XY.out, edsCells_append, show edsCells [e] = edCells e by simp [edsCells]]; exact hown9.out, x9, rfl⟩
            case measure => first | (simp [intOf]; done) | (simp [intOf]; omega) | omega
          · have XN := Lib.hid (N.out rfl)
            clear Y N hX
            go_wp2_with fail
            go_roundw
            case rel => exact ⟨k + 1, a7, c7, by omega, by go_num, by rw [XN.out], by rw [XN.out]; exact own_bel hown.out bb, LaterC.mk bb⟩
            case measure => first | (simp [intOf]; done) | (simp [intOf]; omega) | omega
        · obtain rfl : k = A.length := by omega
          go_wp2_with fail
          refine bodyPost_ret (by simp [results, Tryz.results21, go_sem, ↓IntWalk.iteOmega, *]; try rfl) rfl ?_
          exact RetOwn.mk (.slice a7 (outTo A A.length).length c7) rfl (by rw [hA.out]; exact own_mono hown.out (by omega)) bb
end Go.Proofs.YtklcaphkfdlipaaGreatDoor
