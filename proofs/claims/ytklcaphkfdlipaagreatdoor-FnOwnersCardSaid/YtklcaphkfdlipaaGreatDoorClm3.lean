import Derived.Test.YtklcaphkfdlipaaGreatDoorPackVa
import Derived.Test.YtklcaphkfdlipaaGreatDoorClm2
/- Claimants: the reference's side. -/
set_option linter.unusedSimpArgs false
set_option linter.unusedVariables false
namespace Go.Proofs.YtklcaphkfdlipaaGreatDoor
open Go.RowKit
set_option maxRecDepth 8000 in
set_option maxHeartbeats 4000000 in
theorem cl_spec (R : List (List Pt)) (V : List Vw) (x : Int) (a b : Option Addr) (n c m d : Nat) (w : World) (hn : R.length = n) (hm : n ≤ 1048576) (ok : ∀ r ∈ R, r.length ≤ 1048576) (hr : RingsR w a R)
    (hn' : V.length = m) (hm' : m ≤ 1048576) (ok' : ∀ v ∈ V, VwOk v) (hr' : ViewsR w b V) :
    Calls Tryz.prog 26 #[.slice a n c, .slice b m d, .int .i64 x] w (RetOwn w 9 1 (clL R V x).length (strCells (clL R V x)) fun v => .tuple #[v, .int .i64 (clC R V x)]) := by
  subst hn hn'
  have CC := Lib.hid (fun (w : World) (hr : RingsR w a R) (hr' : ViewsR w b V) => sAreViews_any R V a b R.length c V.length d w rfl hm ok hr rfl hm' ok' hr')
  replace hr := Lib.hid hr
  replace hr' := Lib.hid hr'
  cases hB : viewsB R V
  · have e2 : clC R V x = 1 := by unfold clC; rw [hB]; rfl
    have e1 : clL R V x = [] := by unfold clL; rw [e2, if_neg (by omega)]
    rw [e1, e2]
    rw [hB] at CC
    clear e1 e2 hB ok ok'
    go_enter Tryz.func26, Tryz.ntmps26
    go_wp2_with fail
    with_reducible refine (CC.out _ (hr.out.bel bb) (hr'.out.bel bb)).mono ?_
    rintro e w' ⟨rfl, y1, rfl⟩
    have hsy1 := y1.bel.size
    (try simp only [World.size_alloc, World.size_setCell, World.size_drew] at hsy1)
    go_wp2_with fail
    refine bodyPost_ret (by simp [results, Tryz.results26, go_sem, ↓IntWalk.iteOmega, *]; try rfl) rfl ?_
    exact RetOwn.mk (.slice none 0 0) rfl (World.ownsRow_nil _ _ _ _) bb
  cases hx : inB x 0 ((R.length : Int) - 1)
  · have e2 : clC R V x = 2 := by unfold clC; rw [hB, hx]; rfl
    have e1 : clL R V x = [] := by unfold clL; rw [e2, if_neg (by omega)]
    rw [e1, e2]
    rw [hB] at CC
    replace hx := Lib.hid hx
    clear e1 e2 hB ok ok'
    go_enter Tryz.func26, Tryz.ntmps26
    go_wp2_with fail
    with_reducible refine (CC.out _ (hr.out.bel bb) (hr'.out.bel bb)).mono ?_
    rintro e w' ⟨rfl, y1, rfl⟩
    have hsy1 := y1.bel.size
    (try simp only [World.size_alloc, World.size_setCell, World.size_drew] at hsy1)
    go_wp2_with fail
    with_reducible refine (l01In_b _ hx.out).mono ?_
    rintro e w' ⟨rfl, y3, rfl⟩
    have hsy3 := y3.bel.size
    (try simp only [World.size_alloc, World.size_setCell, World.size_drew] at hsy3)
    go_wp2_with fail
    refine bodyPost_ret (by simp [results, Tryz.results26, go_sem, ↓IntWalk.iteOmega, *]; try rfl) rfl ?_
    exact RetOwn.mk (.slice none 0 0) rfl (World.ownsRow_nil _ _ _ _) bb
  have e2 : clC R V x = 0 := by unfold clC; rw [hB, hx]; rfl
  obtain ⟨-, i, rfl, hi⟩ := clC_zero e2
  have e1 : clL R V (i : Int) = uniq (clTo V i V.length) := by unfold clL; rw [if_pos e2]; rfl
  rw [e1, e2]
  rw [hB] at CC
  have hvo := viewsB_ok hB
  have h4 := hvo.four
  have hOwn := Lib.hid hvo.own
  have hY := Lib.hid (fun (k : Nat) h => clTo_yes (V := V) (i := i) (k := k) h)
  have hN := Lib.hid (fun (k : Nat) h => clTo_no (V := V) (i := i) (k := k) h)
  have hLen := Lib.hid (clTo_len V i)
  have h0 := Lib.hid (show clTo V i 0 = [] from rfl)
  obtain ⟨ii, j1, j2, j3, j4⟩ := info_str'
  have Jii := Lib.hid (And.intro j1 (And.intro j2 (And.intro j3 j4)))
  have CI := Lib.hid (fun (A : List ByteArray) (s : ByteArray) (a : Option Addr) (n c lo : Nat) (w : World) (hn : A.length = n) (hm : n ≤ 1000) (hlo : lo ≤ w.heap.size) (h : Owns w lo w.heap.size 9 1 n a c (strCells A)) => sInsert_any A s a n c lo w hn hm hlo h)
  have hlit := Lib.hid (fun (W : World) (h : w.heap.size ≤ W.heap.size) => World.ownsRow_lit (base := w.heap.size) (e := 9) (size := 1) W #[] 0 h (by unfold maxLen; omega) rfl)
  have hIL := Lib.hid (fun O => insAll_le O)
  have hIS := Lib.hid (fun O s => insAll_snoc O s)
  have hI0 := Lib.hid insAll_nil
  rw [← insAll_uniq]
  replace hx := Lib.hid hx
  generalize hCT : clTo V i = CT at *
  generalize insAll = IA at *
  clear e1 e2 hB ok ok' hvo j1 j2 j3 j4
  go_enter Tryz.func26, Tryz.ntmps26
  go_wp2_with fail
  with_reducible refine (CC.out _ (hr.out.bel bb) (hr'.out.bel bb)).mono ?_
  rintro e w' ⟨rfl, y1, rfl⟩
  have hsy1 := y1.bel.size
  (try simp only [World.size_alloc, World.size_setCell, World.size_drew] at hsy1)
  go_wp2_with fail
  with_reducible refine (l01In_b _ hx.out).mono ?_
  rintro e w' ⟨rfl, y3, rfl⟩
  have hsy3 := y3.bel.size
  (try simp only [World.size_alloc, World.size_setCell, World.size_drew] at hsy3)
  go_wp2_with fail
  go_loopw [8, 9] (fun t8 t9 wr => ∃ (k : Nat) (a6 : Option Addr) (c6 : Nat), k ≤ V.length ∧ t9 = .int .i64 k ∧ t8 = .slice a6 (IA (CT k)).length c6 ∧ Owns wr w.heap.size wr.heap.size 9 1 (IA (CT k)).length a6 c6 (strCells (IA (CT k))) ∧ ∃ z : Later w, wr = z.w) (fun _ t9 _ => V.length - (intOf t9).toNat)
  case atStart => exact ⟨0, _, 0, Nat.zero_le _, rfl, by rw [h0.out, hI0.out]; rfl, by rw [h0.out, hI0.out]; exact Owns.of (hlit.out _ (by omega)), LaterC.mk bb⟩
  case round =>
    obtain ⟨k, a6, c6, hk, rfl, rfl, hown, z, rfl⟩ := hrel
    have hzz := z.bel.size
    replace hown := Lib.hid hown
    have hlk := hLen.out k
    have hil := hIL.out (CT k)
    by_cases hlt : k < V.length
    · have hk1 : (k : Int) < (V.length : Int) := by omega
      obtain ⟨bk, ok1, ak, ck, rfl, hbk, q0, q1, q2, -, -⟩ := hr'.out.at_ hlt
      have hvl : V[k].own.length = R.length := hOwn.out _ (List.getElem_mem hlt)
      have hik : i < V[k].own.length := by omega
      obtain ⟨bo, oo, rfl, hbo, p0⟩ := q2.str hik
      have eo : ownAt (atV V k) i = V[k].own[i]'hik := by rw [atV_get hlt]; exact ownAt_get hik
      have Y := hY.out k
      have N := hN.out k
      rw [eo] at Y N
      rw [hvl] at q1
      have hii : (i : Int) < (R.length : Int) := by omega
      generalize V[k].own[i]'hik = so at *
      have z1 : bk < z.w.heap.size := by omega
      have z2 : bo < z.w.heap.size := by omega
      replace eo := Lib.hid eo
      replace hvl := Lib.hid hvl
      clear q2
      cases hc : so.toList.isEmpty
      · have X := Lib.hid (show IA (CT (k + 1)) = insB so (IA (CT k)) by rw [Y hc]; exact hIS.out _ _)
        have CK := Lib.hid (CI.out (IA (CT k)) so a6 (IA (CT k)).length c6 w.heap.size z.w rfl (by omega) hzz hown.out)
        clear Y N
        go_wp2_with fail
        with_reducible refine CK.out.mono ?_
        rintro e w' ⟨a9, c9, rfl, hown9, y9, rfl⟩
        have hs9 := y9.bel.size
        replace hown9 := Lib.hid hown9
        go_wp2_with fail
        go_roundw
        case rel => exact ⟨k + 1, a9, c9, by omega, by go_num, by rw [X.out], by rw [X.out]; exact hown9.out, LaterC.mk bb⟩
        case measure => first | (simp [intOf]; done) | (simp [intOf]; omega) | omega
      · have X := Lib.hid (N hc)
        clear Y N
        go_wp2_with fail
        go_roundw
        case rel => exact ⟨k + 1, a6, c6, by omega, by go_num, by rw [X.out], by rw [X.out]; exact hown.out, z, rfl⟩
        case measure => first | (simp [intOf]; done) | (simp [intOf]; omega) | omega
    · obtain rfl : k = V.length := by omega
      go_wp2_with fail
      refine bodyPost_ret (by simp [results, Tryz.results26, go_sem, ↓IntWalk.iteOmega, *]; try rfl) rfl ?_
      exact RetOwn.mk _ rfl hown.out.own z.bel
end Go.Proofs.YtklcaphkfdlipaaGreatDoor
