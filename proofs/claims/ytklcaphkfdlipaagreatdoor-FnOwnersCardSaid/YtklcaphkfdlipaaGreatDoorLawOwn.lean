import Derived.Test.YtklcaphkfdlipaaGreatDoorPackVa
import Derived.Test.YtklcaphkfdlipaaGreatDoorDrOf
import Derived.Test.YtklcaphkfdlipaaGreatDoorOaS
import Derived.Test.YtklcaphkfdlipaaGreatDoorBrdS
import Derived.Test.YtklcaphkfdlipaaGreatDoorClm3
import Derived.Test.YtklcaphkfdlipaaGreatDoorPackVn
import Derived.Test.YtklcaphkfdlipaaGreatDoorLikeO
/- The law on owners: their areas add up to the map's, and claimants are told by a view. -/
set_option linter.unusedSimpArgs false
set_option linter.unusedVariables false
namespace Go.Proofs.YtklcaphkfdlipaaGreatDoor
open Go.RowKit
theorem oaL_len (R : List (List Pt)) (V : List Vw) (p : Pt) : (oaL R V p).length ≤ V.length := by
  unfold oaL; split
  · simp
  · simp
set_option maxRecDepth 8000 in
set_option maxHeartbeats 16000000 in
theorem lawOwners_any (a : Option Addr) (n c : Nat) (bs : List Int) (w : World) (hr : Row w a (byteCells bs)) (hl : bs.length = n) (hm : n ≤ maxLen) (hx : ∀ x ∈ bs, 0 ≤ x ∧ x ≤ 255) :
    Calls Tryz.prog 7 #[.slice a n c] w (Ret w (.bool true)) := by
  by_cases hbig : 4096 < n
  · clear hr hl hx
    go_enter Tryz.func7, Tryz.ntmps7
    go_wp2_with fail
    with_reducible refine (big_yes _ _ _ _ hbig hm).mono ?_
    rintro e w' ⟨rfl, y0, rfl⟩
    have hsy0 := y0.bel.size
    (try simp only [World.size_alloc, World.size_setCell, World.size_drew] at hsy0)
    go_wp2_with fail
    go_ret
    exact .mk rfl bb
  have hn4 : n ≤ 4096 := by omega
  replace hr := Lib.hid hr
  replace hx := Lib.hid hx
  replace hl := Lib.hid hl
  clear hbig hm
  obtain ⟨ss, j1, j2, j3, j4⟩ := info_str'
  have Jss := Lib.hid (And.intro j1 (And.intro j2 (And.intro j3 j4)))
  clear j1 j2 j3 j4
  go_enter Tryz.func7, Tryz.ntmps7
  go_wp2_with fail
  with_reducible refine (big_no _ _ _ _ hn4).mono ?_
  rintro e w' ⟨rfl, y0, rfl⟩
  have hsy0 := y0.bel.size
  (try simp only [World.size_alloc, World.size_setCell, World.size_drew] at hsy0)
  go_wp2_with fail
  with_reducible refine (drawAreaOf_any a n c bs _ (hr.out.bel bb) hl.out hn4 hx.out).mono ?_
  rintro e w' ⟨R, a1, n1, c1, T, b1, m1, d1, x, s, rfl, -, -, -, hF, z1, rfl⟩
  have hs1 := z1.bel.size
  obtain ⟨hl1, hn7, hc1, hcm1, ho1, hr1, hl2, hm5, ho2, hr2⟩ := hF.f
  subst hl1 hl2
  have ok1 : ∀ r ∈ R, r.length ≤ 1048576 := fun r hr => by have := (ho1 r hr).len; omega
  have ok2 : ∀ v ∈ T, VwOk v := fun v hv => (ho2 v hv).ok
  have CG := fun (s : ByteArray) (w : World) (hr : RingsR w a1 R) (hr' : ViewsR w b1 T) => ao_impl R T x s a1 b1 R.length c1 T.length d1 w rfl (by omega) hc1 hcm1 ok1 hr rfl (by omega) ok2 hr'
  have CE := fun (w : World) (hr : RingsR w a1 R) (hr' : ViewsR w b1 T) => ao_spec R T x s a1 b1 R.length c1 T.length d1 w rfl (by omega) ok1 hr rfl (by omega) ok2 hr'
  have CP := fun (w : World) (hr : RingsR w a1 R) (hr' : ViewsR w b1 T) => br_impl R T x s a1 b1 R.length c1 T.length d1 w rfl (by omega) hc1 hcm1 ok1 hr rfl (by omega) ok2 hr'
  have CQ := fun (w : World) (hr : RingsR w a1 R) (hr' : ViewsR w b1 T) => br_spec R T x s a1 b1 R.length c1 T.length d1 w rfl (by omega) ok1 hr rfl (by omega) ok2 hr'
  have hbl := brL_len R T x s
  have X1 := fun (h : viewC R T [x] = 0) => viewC_zero h
  have X2 := fun (h : viewC R T [x] = 0) (t : ByteArray) => (show aoN R T x t = arTo R (isO T x.toNat t) R.length by unfold aoN; rw [if_pos h])
  have CT := fun (hM : mapB R = true) (w : World) (hr : RingsR w a1 R) => total_any R a1 R.length c1 w rfl hc1 hcm1 hM ok1 hr
  have CG1 := CG s
  generalize viewC R T [x] = K1 at *
  generalize aoN R T x s = D at CG1 CE
  generalize brL R T x s = BL at *
  have hbl1 : BL.length ≤ 1048576 := by omega
  replace CG1 := Lib.hid CG1
  replace CG := Lib.hid CG
  replace CE := Lib.hid CE
  replace CP := Lib.hid CP
  replace CQ := Lib.hid CQ
  replace CT := Lib.hid CT
  replace X1 := Lib.hid X1
  replace X2 := Lib.hid X2
  replace hr1 := Lib.hid hr1
  replace hr2 := Lib.hid hr2
  clear ho1 ho2 ok1 ok2 hF
  go_wp2_with fail
  with_reducible refine (CG1.out _ (hr1.out.bel bb) (hr2.out.bel bb)).mono ?_
  rintro e w' ⟨rfl, y2, rfl⟩
  have hsy2 := y2.bel.size
  (try simp only [World.size_alloc, World.size_setCell, World.size_drew] at hsy2)
  go_wp2_with fail
  with_reducible refine (CE.out _ (hr1.out.bel bb) (hr2.out.bel bb)).mono ?_
  rintro e w' ⟨rfl, y3, rfl⟩
  have hsy3 := y3.bel.size
  (try simp only [World.size_alloc, World.size_setCell, World.size_drew] at hsy3)
  go_wp2_with fail
  with_reducible refine (drawClm_any a n c bs _ (hr.out.bel bb) hl.out hn4 hx.out).mono ?_
  rintro e w' ⟨R2, a2, n2, c2, T2, b2, m2, d2, ix, rfl, -, -, hF, z4, rfl⟩
  have hs4 := z4.bel.size
  obtain ⟨hl1, hn72, hc2, hcm2, ho1, hr3, hl2, hm52, ho2, hr4⟩ := hF
  subst hl1 hl2
  have ok1 : ∀ r ∈ R2, r.length ≤ 1048576 := fun r hr => by have := (ho1 r hr).len; omega
  have ok2 : ∀ v ∈ T2, VwOk v := fun v hv => (ho2 v hv).ok
  have C1 := Lib.hid (fun (w : World) (hr : RingsR w a2 R2) (hr' : ViewsR w b2 T2) => cl_impl R2 T2 ix a2 b2 R2.length c2 T2.length d2 w rfl (by omega) hc2 hcm2 ok1 hr rfl (by omega) ok2 hr')
  have C2 := Lib.hid (fun (w : World) (hr : RingsR w a2 R2) (hr' : ViewsR w b2 T2) => cl_spec R2 T2 ix a2 b2 R2.length c2 T2.length d2 w rfl (by omega) ok1 hr rfl (by omega) ok2 hr')
  have hcl := clL_len R2 T2 ix
  have X3 := fun (h : clC R2 T2 ix = 0) => (show viewsB R2 T2 = true ∧ ∃ i : Nat, ix = i ∧ i < R2.length from clC_zero h)
  have X4 := fun (h : clC R2 T2 ix = 0) (t : ByteArray) (ht : t ∈ clL R2 T2 ix) => claims_told h ht
  generalize clC R2 T2 ix = K2 at *
  generalize clL R2 T2 ix = CL at *
  have hcl1 : CL.length ≤ 1048576 := by omega
  replace X3 := Lib.hid X3
  replace X4 := Lib.hid X4
  replace hr3 := Lib.hid hr3
  replace hr4 := Lib.hid hr4
  clear ho1 ho2 ok1 ok2 CG1 CE
  go_wp2_with fail
  with_reducible refine (C1.out _ (hr3.out.bel bb) (hr4.out.bel bb)).mono ?_
  rintro e w' ⟨a5, c5, rfl, hown, y5, rfl⟩
  have hsy5 := y5.bel.size
  (try simp only [World.size_alloc, World.size_setCell, World.size_drew] at hsy5)
  have O5 := Lib.hid (Owns.of hown)
  clear hown
  go_wp2_with fail
  with_reducible refine (C2.out _ (hr3.out.bel bb) (hr4.out.bel bb)).mono ?_
  rintro e w' ⟨a6, c6, rfl, hown, y6, rfl⟩
  have hsy6 := y6.bel.size
  (try simp only [World.size_alloc, World.size_setCell, World.size_drew] at hsy6)
  have O6 := Lib.hid (Owns.of hown)
  clear hown
  clear C1 C2
  go_wp2_with fail
  with_reducible refine (drawOwn_any a n c bs _ (hr.out.bel bb) hl.out hn4 hx.out).mono ?_
  rintro e w' ⟨R3, a3, n3, c3, T3, b3, m3, d3, p, rfl, hF, z7, rfl⟩
  have hs7 := z7.bel.size
  obtain ⟨hl1, hn73, hc3, hcm3, ho1, hr5, hl2, hm53, ho2, hr6⟩ := hF
  subst hl1 hl2
  have ok1 : ∀ r ∈ R3, r.length ≤ 1048576 := fun r hr => by have := (ho1 r hr).len; omega
  have ok2 : ∀ v ∈ T3, VwOk v := fun v hv => (ho2 v hv).ok
  have C3 := Lib.hid (fun (w : World) (hr : RingsR w a3 R3) (hr' : ViewsR w b3 T3) => oa_impl R3 T3 p a3 b3 R3.length c3 T3.length d3 w rfl (by omega) hc3 hcm3 ok1 hr rfl (by omega) ok2 hr')
  have C4 := Lib.hid (fun (w : World) (hr : RingsR w a3 R3) (hr' : ViewsR w b3 T3) => oa_spec R3 T3 p a3 b3 R3.length c3 T3.length d3 w rfl (by omega) ok1 hr rfl (by omega) ok2 hr')
  have hol := oaL_len R3 T3 p
  generalize oaC R3 T3 p = K3 at *
  generalize oaL R3 T3 p = OL at *
  obtain ⟨px, py⟩ := p
  dsimp only at *
  have hol1 : OL.length ≤ 1048576 := by omega
  replace hr5 := Lib.hid hr5
  replace hr6 := Lib.hid hr6
  clear ho1 ho2 ok1 ok2
  go_wp2_with fail
  with_reducible refine (C3.out _ (hr5.out.bel bb) (hr6.out.bel bb)).mono ?_
  rintro e w' ⟨a8, c8, rfl, hown, y8, rfl⟩
  have hsy8 := y8.bel.size
  (try simp only [World.size_alloc, World.size_setCell, World.size_drew] at hsy8)
  have O8 := Lib.hid (Owns.of hown)
  clear hown
  go_wp2_with fail
  with_reducible refine (C4.out _ (hr5.out.bel bb) (hr6.out.bel bb)).mono ?_
  rintro e w' ⟨a9, c9, rfl, hown, y9, rfl⟩
  have hsy9 := y9.bel.size
  (try simp only [World.size_alloc, World.size_setCell, World.size_drew] at hsy9)
  have O9 := Lib.hid (Owns.of hown)
  clear hown
  clear C3 C4
  go_wp2_with fail
  with_reducible refine (CP.out _ (hr1.out.bel bb) (hr2.out.bel bb)).mono ?_
  rintro e w' ⟨a10, c10, rfl, hown, y10, rfl⟩
  have hsy10 := y10.bel.size
  (try simp only [World.size_alloc, World.size_setCell, World.size_drew] at hsy10)
  have O10 := Lib.hid (Owns.of hown)
  clear hown
  go_wp2_with fail
  with_reducible refine (CQ.out _ (hr1.out.bel bb) (hr2.out.bel bb)).mono ?_
  rintro e w' ⟨a11, c11, rfl, hown, y11, rfl⟩
  have hsy11 := y11.bel.size
  (try simp only [World.size_alloc, World.size_setCell, World.size_drew] at hsy11)
  have O11 := Lib.hid (Owns.of hown)
  clear hown
  clear CP CQ
  go_wp2_with fail
  with_reducible refine (likeTexts_same _ _ _ _ _ _ _ _ rfl rfl hcl1 (O5.out.row.bel bb) (O6.out.row.bel bb)).mono ?_
  rintro e w' ⟨rfl, y12, rfl⟩
  have hsy12 := y12.bel.size
  (try simp only [World.size_alloc, World.size_setCell, World.size_drew] at hsy12)
  go_wp2_with fail
  with_reducible refine (likeTexts_same _ _ _ _ _ _ _ _ rfl rfl hol1 (O8.out.row.bel bb) (O9.out.row.bel bb)).mono ?_
  rintro e w' ⟨rfl, y13, rfl⟩
  have hsy13 := y13.bel.size
  (try simp only [World.size_alloc, World.size_setCell, World.size_drew] at hsy13)
  go_wp2_with fail
  with_reducible refine (likeEdges_same _ _ _ _ _ _ _ _ rfl rfl hbl1 (O10.out.row.bel bb) (O11.out.row.bel bb)).mono ?_
  rintro e w' ⟨rfl, y14, rfl⟩
  have hsy14 := y14.bel.size
  (try simp only [World.size_alloc, World.size_setCell, World.size_drew] at hsy14)
  go_wp2_with fail
  go_loopw [29] (fun t29 wr => ∃ i : Nat, i ≤ CL.length ∧ t29 = .int .i64 i ∧ ∃ y : Later y14.w, wr = y.w) (fun t29 _ => CL.length - (intOf t29).toNat)
  case atStart => exact ⟨0, Nat.zero_le _, rfl, ⟨_, Below.refl _ _⟩, rfl⟩
  case round =>
    obtain ⟨i, hi, rfl, q, rfl⟩ := hrel
    have hqs := q.bel.size
    by_cases hc : K2 = 0 ∧ i < CL.length
    · obtain ⟨hK2, hlt⟩ := hc
      obtain ⟨hB2, i0, rfl, hi0⟩ := X3.out hK2
      have hKb : (K2 == 0) = true := by simp [hK2]
      have htl := X4.out hK2 CL[i] (List.getElem_mem hlt)
      obtain ⟨v1, v4, vo⟩ := viewsB_ok hB2
      have hvo := Lib.hid vo
      have hi1 : (i : Int) < (CL.length : Int) := by omega
      obtain ⟨bm, om, rfl, hbm, p4⟩ := O5.out.row.str (k := i) (by omega)
      rw [Int.toNat_natCast] at htl
      have eA := fun k => (show telT T2 i0 CL[i] (k + 1) = (telT T2 i0 CL[i] k || ((ownAt (atV T2 k) i0).toList == CL[i].toList)) from rfl)
      have e0 : telT T2 i0 CL[i] 0 = false := rfl
      generalize CL[i] = sc at *
      replace eA := Lib.hid eA
      have hbm' : bm < y14.w.heap.size := by omega
      generalize telT T2 i0 sc = TT at *
      replace htl := Lib.hid htl
      replace e0 := Lib.hid e0
      clear hK2 hB2 vo
      go_wp2_with fail
      go_loopw [30, 31] (fun t30 t31 wr => ∃ k : Nat, k ≤ T2.length ∧ t31 = .int .i64 k ∧ t30 = .bool (TT k) ∧ ∃ y : Later q.w, wr = y.w) (fun _ t31 _ => T2.length - (intOf t31).toNat)
      case atStart => exact ⟨0, Nat.zero_le _, rfl, by rw [e0.out], ⟨_, Below.refl _ _⟩, rfl⟩
      case round =>
        obtain ⟨k, hk, rfl, rfl, u, rfl⟩ := hrel
        have hus := u.bel.size
        by_cases hltk : k < T2.length
        · have hk1 : (k : Int) < (T2.length : Int) := by omega
          obtain ⟨b', o', ak, ck, rfl, hb', -, q1, q2, -, -⟩ := hr4.out.at_ (i := k) hltk
          have hlk := hvo.out _ (List.getElem_mem hltk)
          rw [hlk] at q1
          obtain ⟨bk, ok, rfl, hbk, q3⟩ := q2.str (k := i0) (by omega)
          have eo : T2[k].own[i0]'(by omega) = ownAt (atV T2 k) i0 := by rw [atV_get hltk, ownAt_get]
          rw [eo] at q3
          have hb'1 : b' < y14.w.heap.size := by omega
          have hbk' : bk < y14.w.heap.size := by omega
          have hi01 : (i0 : Int) < (R2.length : Int) := by omega
          have hst := eA.out k
          generalize ownAt (atV T2 k) i0 = sk at *
          clear eo q2 hlk
          rcases hTT : TT k with _ | _
          · rw [hTT] at hst
            rw [Bool.false_or] at hst
            replace hst := Lib.hid hst
            clear hTT
            go_wp2_with fail
            go_quiet (fail)
            go_wp2_with fail
            go_roundw
            case rel => exact ⟨k + 1, by omega, by go_num, by rw [hst.out], LaterC.mk bb⟩
            case measure => first | (simp [intOf]; done) | (simp [intOf]; omega) | omega
          · rw [hTT] at hst
            rw [Bool.true_or] at hst
            replace hst := Lib.hid hst
            clear hTT
            go_wp2_with fail
            go_quiet (fail)
            go_wp2_with fail
            go_roundw
            case rel => exact ⟨k + 1, by omega, by go_num, by rw [hst.out], LaterC.mk bb⟩
            case measure => first | (simp [intOf]; done) | (simp [intOf]; omega) | omega
        · obtain rfl : k = T2.length := by omega
          rw [htl.out]
          go_wp2_with fail
          go_roundw
          case rel => exact ⟨i + 1, by omega, by go_num, LaterC.mk bb⟩
          case measure => first | (simp [intOf]; done) | (simp [intOf]; omega) | omega
    · have hcond : (K2 == 0) = false ∨ ((K2 == 0) = true ∧ ¬ (i : Int) < (CL.length : Int)) := by
        by_cases h : K2 = 0
        · exact .inr ⟨by simp [h], fun h2 => hc ⟨h, by omega⟩⟩
        · exact .inl (by simpa using h)
      clear hc X3 X4
      by_cases hK : K1 = 0
      · obtain ⟨hB1, v, rfl, hv⟩ := X1.out hK
        have hM := viewsB_map hB1
        have h6 := mapB_len hM
        have hR := mapB_rings hM
        have hvo := Lib.hid (viewsB_ok hB1).own
        have CG3 := fun (t : ByteArray) (w : World) (hr : RingsR w a1 R) (hr' : ViewsR w b1 T) => (show Calls Tryz.prog 45 #[.slice a1 R.length c1, .slice b1 T.length d1, .int .i64 (v : Int), .string t] w (Ret w (.tuple #[.int .i64 (arTo R (isO T v t) R.length), .int .i64 0])) by
          have := CG.out t w hr hr'
          rw [X2.out hK t, hK, Int.toNat_natCast] at this
          exact this)
        have hAb : ∀ t, 0 ≤ arTo R (isO T v t) R.length ∧ arTo R (isO T v t) R.length ≤ 6000000000 := fun t => by
          have := arTo_bd (p := isO T v t) hR R.length (Nat.le_refl _)
          omega
        have hsum := owners_sum R T v
        have hSb : ∀ k, k ≤ R.length → 0 ≤ sumN (fun t => arTo R (isO T v t) R.length) (nmT T v k) ∧ sumN (fun t => arTo R (isO T v t) R.length) (nmT T v k) ≤ 36000000000 := fun k hk => by
          have h1 := sumN_bd (A := fun t => arTo R (isO T v t) R.length) (M := 6000000000) (N := nmT T v k) fun t _ => hAb t
          have h2 := nmT_len T v k
          omega
        have hY := fun k h => nmT_yes (V := T) (v := v) (k := k) h
        have hN := fun k h => nmT_no (V := T) (v := v) (k := k) h
        have hNl := nmT_len T v
        have hSn := fun k (h : hasB (nmT T v k) (ownAt (atV T v) k) = false) => (show sumN (fun t => arTo R (isO T v t) R.length) (nmT T v (k + 1)) = sumN (fun t => arTo R (isO T v t) R.length) (nmT T v k) + arTo R (isO T v (ownAt (atV T v) k)) R.length by rw [nmT_no h, sumN_snoc])
        have hSy := fun k (h : hasB (nmT T v k) (ownAt (atV T v) k) = true) => (show sumN (fun t => arTo R (isO T v t) R.length) (nmT T v (k + 1)) = sumN (fun t => arTo R (isO T v t) R.length) (nmT T v k) by rw [nmT_yes h])
        have hS0 : sumN (fun t => arTo R (isO T v t) R.length) (nmT T v 0) = 0 := rfl
        have hN0 : nmT T v 0 = [] := rfl
        have CT2 := CT.out hM
        obtain ⟨SN, hSN⟩ : ∃ SN : Nat → Int, (fun k => sumN (fun t => arTo R (isO T v t) R.length) (nmT T v k)) = SN := ⟨_, rfl⟩
        have hSN1 := fun k => congrFun hSN k
        simp only [hSN1] at hsum hSb hSn hSy hS0
        clear hSN hSN1
        generalize nmT T v = NM at *
        obtain ⟨A, hA⟩ : ∃ A : ByteArray → Int, (fun t => arTo R (isO T v t) R.length) = A := ⟨_, rfl⟩
        have hA1 := fun t => congrFun hA t
        simp only [hA1] at CG3 hAb hSn
        clear hA hA1
        generalize arTo R (fun _ => true) R.length = Tot at *
        replace CG3 := Lib.hid CG3
        replace CT2 := Lib.hid CT2
        replace hAb := Lib.hid hAb
        replace hsum := Lib.hid hsum
        replace hSb := Lib.hid hSb
        replace hY := Lib.hid hY
        replace hN := Lib.hid hN
        replace hSn := Lib.hid hSn
        replace hSy := Lib.hid hSy
        replace hS0 := Lib.hid hS0
        replace hN0 := Lib.hid hN0
        replace hNl := Lib.hid hNl
        have hlit := Lib.hid (World.ownsRow_lit (base := q.w.heap.size) (e := 9) (size := 1) q.w #[] 0 (Nat.le_refl _) (by unfold maxLen; omega) rfl)
        have hv1 : (v : Int) < (T.length : Int) := by omega
        subst hK
        clear hB1 hM hR X1 X2 CG CT
        rcases hcond with hcc | ⟨hcc, hcd⟩
        all_goals
          go_wp2_with fail
          go_loopw [32, 33, 34] (fun t32 t33 t34 wr => ∃ (k : Nat) (an : Option Addr) (cn : Nat), k ≤ R.length ∧ t34 = .int .i64 k ∧ t32 = .int .i64 (SN k) ∧ t33 = .slice an (NM k).length cn ∧ wr.ownsRow q.w.heap.size 9 1 (.slice an (NM k).length cn) (NM k).length (strCells (NM k)) ∧ ∃ y : Later q.w, wr = y.w) (fun _ _ t34 _ => R.length - (intOf t34).toNat)
          case atStart => exact ⟨0, _, _, Nat.zero_le _, rfl, by rw [hS0.out], by rw [hN0.out]; rfl, by rw [hN0.out]; exact hlit.out, ⟨_, bel_alloc (Below.refl _ _) _⟩, rfl⟩
          case round =>
            obtain ⟨k, an, cn, hk, rfl, rfl, rfl, hown, u, rfl⟩ := hrel
            have hus := u.bel.size
            have hNk := hNl.out k
            obtain ⟨sb1, sb2⟩ := hSb.out k hk
            replace hown := Lib.hid hown
            by_cases hltk : k < R.length
            · have hk1 : (k : Int) < (R.length : Int) := by omega
              obtain ⟨b', o', ak, ck, rfl, hb', -, q1, q2, -, -⟩ := hr2.out.at_ (i := v) hv
              have hlk := hvo.out _ (List.getElem_mem hv)
              rw [hlk] at q1
              obtain ⟨bk, ok, rfl, hbk, q3⟩ := q2.str (k := k) (by omega)
              have eo : T[v].own[k]'(by omega) = ownAt (atV T v) k := by rw [atV_get hv, ownAt_get]
              rw [eo] at q3
              have hb'1 : b' < q.w.heap.size := by omega
              have hbk' : bk < q.w.heap.size := by omega
              have hb'2 : b' < y14.w.heap.size := by omega
              have hbk2 : bk < y14.w.heap.size := by omega
              have Yk := hY.out k
              have Nk := hN.out k
              have Snk := hSn.out k
              have Syk := hSy.out k
              generalize ownAt (atV T v) k = sk at *
              have hNk1 : (NM k).length ≤ 1048576 := by omega
              have CH := Lib.hid (fun (w : World) (hr : Row w an (strCells (NM k))) => hasText_any (NM k) sk an (NM k).length cn w rfl hNk1 hr)
              have hrow := Lib.hid (Row.of_own hown.out)
              clear eo q2 hlk
              rcases hh : hasB (NM k) sk with _ | _
              · rw [hh] at CH
                have e1 := Nk hh
                have e2 := Snk hh
                have e3 : (NM (k + 1)).length = (NM k).length + 1 := by rw [e1]; simp
                have e4 : strCells (NM (k + 1)) = strCells (NM k) ++ [.string sk] := by rw [e1]; simp [strCells]
                obtain ⟨ab1, ab2⟩ := hAb.out sk
                replace e2 := Lib.hid e2
                replace e3 := Lib.hid e3
                replace e4 := Lib.hid e4
                clear hh Yk Nk Snk Syk e1
                go_wp2_with fail
                with_reducible refine (CH.out _ (hrow.out.bel bb)).mono ?_
                rintro e w' ⟨rfl, u1, rfl⟩
                have hsu1 := u1.bel.size
                (try simp only [World.size_alloc, World.size_setCell, World.size_drew] at hsu1)
                go_wp2_with (at_builtin; (refine wpList_append_later _ rfl _ _ _ rfl 9 ss _ 1 16 Tryz.underlying46 Jss.out.1 Jss.out.2.1 Jss.out.2.2.1 Jss.out.2.2.2 rfl (by decide) (q.w) ?qa1 _ _ _ (strCells (NM k)) rfl ?qa2 _ _ _ ([.string sk]) rfl ?qa3 ?qa4 ?qa5 ?qa6 ?qa7 ?_); (case qa1 => (exact bb)); (case qa2 => exact own_bel hown.out bb); (case qa3 => (first | rfl | (simp [boolCells]; done) | (simp [intCells]; done) | (simp; done) | (first | omega | (simp only [List.length_append, List.length_cons, List.length_nil]; omega)))); (case qa4 => exact Row.made _ _ _); (case qa5 => exact one_tx2 _); (case qa6 => (unfold maxLen; (first | omega | (simp only [List.length_append, List.length_cons, List.length_nil]; omega)))); (case qa7 => (first | omega | (simp only [List.length_append, List.length_cons, List.length_nil]; omega))); intro a4 c4 x4 hown4; replace hown4 := Lib.hid hown4; have hs4 := x4.bel.size)
                with_reducible refine (CG3.out sk _ (hr1.out.bel bb) (hr2.out.bel bb)).mono ?_
                rintro e w' ⟨rfl, u2, rfl⟩
                go_wp2_with fail
                go_roundw
                case rel => exact ⟨k + 1, a4, c4, by omega, by go_num, by rw [e2.out], by rw [e3.out], by rw [e3.out, e4.out]; exact own_bel hown4.out bb, LaterC.mk bb⟩
                case measure => first | (simp [intOf]; done) | (simp [intOf]; omega) | omega
              · rw [hh] at CH
                have e1 := Yk hh
                have e2 := Syk hh
                replace e1 := Lib.hid e1
                replace e2 := Lib.hid e2
                clear hh Yk Nk Snk Syk
                go_wp2_with fail
                with_reducible refine (CH.out _ (hrow.out.bel bb)).mono ?_
                rintro e w' ⟨rfl, u1, rfl⟩
                have hsu1 := u1.bel.size
                (try simp only [World.size_alloc, World.size_setCell, World.size_drew] at hsu1)
                go_wp2_with fail
                go_roundw
                case rel => exact ⟨k + 1, an, cn, by omega, by go_num, by rw [e2.out], by rw [e1.out], by rw [e1.out]; exact own_bel hown.out bb, LaterC.mk bb⟩
                case measure => first | (simp [intOf]; done) | (simp [intOf]; omega) | omega
            · obtain rfl : k = R.length := by omega
              rw [hsum.out] at sb1 sb2 ⊢
              go_wp2_with fail
              with_reducible refine (CT2.out _ (hr1.out.bel bb)).mono ?_
              rintro e w' ⟨rfl, u3, rfl⟩
              have hsu3 := u3.bel.size
              (try simp only [World.size_alloc, World.size_setCell, World.size_drew] at hsu3)
              go_wp2_with fail
              go_ret
              exact .mk (by simp) bb
      · have hK' : (K1 != 0) = true := by simpa using hK
        rcases hcond with hcc | ⟨hcc, hcd⟩
        all_goals
          go_wp2_with fail
          go_ret
          exact .mk rfl bb
end Go.Proofs.YtklcaphkfdlipaaGreatDoor
