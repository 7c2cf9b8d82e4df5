import Derived.Test.YtklcaphkfdlipaaGreatDoorPackVa
import Derived.Test.YtklcaphkfdlipaaGreatDoorPackVg
import Derived.Test.YtklcaphkfdlipaaGreatDoorInsV
/- Claimants: the walks of both sides. -/
set_option linter.unusedSimpArgs false
set_option linter.unusedVariables false
namespace Go.Proofs.YtklcaphkfdlipaaGreatDoor
open Go.RowKit
/-- The owners that the first views tell for a ring. -/
def clTo (V : List Vw) (i : Nat) : Nat → List ByteArray
  | 0 => []
  | k + 1 => if (ownAt (atV V k) i).toList.isEmpty then clTo V i k else clTo V i k ++ [ownAt (atV V k) i]
theorem clTo_yes {V : List Vw} {i k : Nat} (h : (ownAt (atV V k) i).toList.isEmpty = false) : clTo V i (k + 1) = clTo V i k ++ [ownAt (atV V k) i] := by
  show (if (ownAt (atV V k) i).toList.isEmpty then _ else _) = _
  rw [if_neg (by rw [h]; decide)]
theorem clTo_no {V : List Vw} {i k : Nat} (h : (ownAt (atV V k) i).toList.isEmpty = true) : clTo V i (k + 1) = clTo V i k := by
  show (if (ownAt (atV V k) i).toList.isEmpty then _ else _) = _
  rw [if_pos h]
theorem clTo_len (V : List Vw) (i : Nat) : ∀ k, (clTo V i k).length ≤ k
  | 0 => by simp [clTo]
  | k + 1 => by
    have ih := clTo_len V i k
    cases h : (ownAt (atV V k) i).toList.isEmpty
    · rw [clTo_yes h, List.length_append]; simp; omega
    · rw [clTo_no h]; omega
theorem insAll_snoc (O : List ByteArray) (s : ByteArray) : insAll (O ++ [s]) = insB s (insAll O) := by simp [insAll]
theorem insAll_nil : insAll [] = [] := rfl
theorem insAll_le (O : List ByteArray) : (insAll O).length ≤ O.length := by rw [insAll_uniq]; exact uniq_le O
noncomputable def clC (R : List (List Pt)) (V : List Vw) (x : Int) : Int := if viewsB R V then (if inB x 0 ((R.length : Int) - 1) then 0 else 2) else 1
noncomputable def clL (R : List (List Pt)) (V : List Vw) (x : Int) : List ByteArray := if clC R V x = 0 then uniq (clTo V x.toNat V.length) else []
theorem clC_zero {R : List (List Pt)} {V : List Vw} {x : Int} (h : clC R V x = 0) : viewsB R V = true ∧ ∃ i : Nat, x = i ∧ i < R.length := by
  unfold clC at h
  split at h
  · rename_i hB
    split at h
    · rename_i h2
      rw [inB_iff] at h2
      exact ⟨hB, x.toNat, by omega, by omega⟩
    · omega
  · omega
theorem clL_len (R : List (List Pt)) (V : List Vw) (x : Int) : (clL R V x).length ≤ 4 := by
  unfold clL
  split
  · rename_i h
    have h4 := (viewsB_ok (clC_zero h).1).four
    have h1 := uniq_le (clTo V x.toNat V.length)
    have h2 := clTo_len V x.toNat V.length
    omega
  · simp
theorem lengthR_any (a : Option Addr) (n c : Nat) (w : World) : Calls Tryz.prog 76 #[.slice a n c] w (Ret w (.int .i64 n)) := by
  go_enter Tryz.func76, Tryz.ntmps76
  go_wp2
  go_ret
  exact .mk (by simp) (Below.refl _ _)
set_option maxRecDepth 8000 in
set_option maxHeartbeats 4000000 in
theorem cl_impl (R : List (List Pt)) (V : List Vw) (x : Int) (a b : Option Addr) (n c m d : Nat) (w : World) (hn : R.length = n) (hm : n ≤ 1048576) (hc : n ≤ c) (hcm : c ≤ maxLen) (ok : ∀ r ∈ R, r.length ≤ 1048576) (hr : RingsR w a R)
    (hn' : V.length = m) (hm' : m ≤ 1048576) (ok' : ∀ v ∈ V, VwOk v) (hr' : ViewsR w b V) :
    Calls Tryz.prog 27 #[.slice a n c, .slice b m d, .int .i64 x] w (RetOwn w 9 1 (clL R V x).length (strCells (clL R V x)) fun v => .tuple #[v, .int .i64 (clC R V x)]) := by
  subst hn hn'
  have CC := Lib.hid (fun (w : World) (hr : RingsR w a R) (hr' : ViewsR w b V) => areViews_any R V a b R.length c V.length d w rfl hm hc hcm ok hr rfl hm' ok' hr')
  replace hr := Lib.hid hr
  replace hr' := Lib.hid hr'
  cases hB : viewsB R V
  · have e2 : clC R V x = 1 := by unfold clC; rw [hB]; rfl
    have e1 : clL R V x = [] := by unfold clL; rw [e2, if_neg (by omega)]
    rw [e1, e2]
    rw [hB] at CC
    clear e1 e2 hB ok ok' hcm
    go_enter Tryz.func27, Tryz.ntmps27
    go_wp2_with fail
    with_reducible refine (CC.out _ (hr.out.bel bb) (hr'.out.bel bb)).mono ?_
    rintro e w' ⟨rfl, y1, rfl⟩
    have hsy1 := y1.bel.size
    (try simp only [World.size_alloc, World.size_setCell, World.size_drew] at hsy1)
    go_wp2_with fail
    refine bodyPost_ret (by simp [results, Tryz.results27, go_sem, ↓IntWalk.iteOmega, *]; try rfl) rfl ?_
    exact RetOwn.mk (.slice none 0 0) rfl (World.ownsRow_nil _ _ _ _) bb
  cases hx : inB x 0 ((R.length : Int) - 1)
  · have e2 : clC R V x = 2 := by unfold clC; rw [hB, hx]; rfl
    have e1 : clL R V x = [] := by unfold clL; rw [e2, if_neg (by omega)]
    rw [e1, e2]
    rw [hB] at CC
    replace hx := Lib.hid hx
    clear e1 e2 hB ok ok' hcm
    go_enter Tryz.func27, Tryz.ntmps27
    go_wp2_with fail
    with_reducible refine (CC.out _ (hr.out.bel bb) (hr'.out.bel bb)).mono ?_
    rintro e w' ⟨rfl, y1, rfl⟩
    have hsy1 := y1.bel.size
    (try simp only [World.size_alloc, World.size_setCell, World.size_drew] at hsy1)
    go_wp2_with fail
    with_reducible refine (lengthR_any _ _ _ _).mono ?_
    rintro e w' ⟨rfl, y2, rfl⟩
    have hsy2 := y2.bel.size
    (try simp only [World.size_alloc, World.size_setCell, World.size_drew] at hsy2)
    go_wp2_with fail
    with_reducible refine (within_b _ hx.out).mono ?_
    rintro e w' ⟨rfl, y3, rfl⟩
    have hsy3 := y3.bel.size
    (try simp only [World.size_alloc, World.size_setCell, World.size_drew] at hsy3)
    go_wp2_with fail
    refine bodyPost_ret (by simp [results, Tryz.results27, go_sem, ↓IntWalk.iteOmega, *]; try rfl) rfl ?_
    exact RetOwn.mk (.slice none 0 0) rfl (World.ownsRow_nil _ _ _ _) bb
  have e2 : clC R V x = 0 := by unfold clC; rw [hB, hx]; rfl
  obtain ⟨-, i, rfl, hi⟩ := clC_zero e2
  have e1 : clL R V (i : Int) = uniq (clTo V i V.length) := by unfold clL; rw [if_pos e2]; rfl
  rw [e1, e2]
  rw [hB] at CC
  have hvo := viewsB_ok hB
  have h4 := hvo.four
  have hOwn := Lib.hid hvo.own
  have hY := Lib.hid (fun (k : Nat) h => clTo_yes (V := V) (i := i) (k := k) h)
  have hN := Lib.hid (fun (k : Nat) h => clTo_no (V := V) (i := i) (k := k) h)
  have hLen := Lib.hid (clTo_len V i)
  have h0 := Lib.hid (show clTo V i 0 = [] from rfl)
  obtain ⟨ii, j1, j2, j3, j4⟩ := info_str'
  have Jii := Lib.hid (And.intro j1 (And.intro j2 (And.intro j3 j4)))
  have CS := Lib.hid (fun (O : List ByteArray) (a : Option Addr) (n c lo : Nat) (w : World) (hn : O.length = n) (hm : n ≤ 1048576) (hlo : lo ≤ w.heap.size) (h : Owns w lo w.heap.size 9 1 n a c (strCells O)) => sortedStr_any O a n c lo w hn hm hlo h)
  replace hx := Lib.hid hx
  generalize hCT : clTo V i = CT at *
  clear e1 e2 hB ok ok' hcm hvo j1 j2 j3 j4
  go_enter Tryz.func27, Tryz.ntmps27
  go_wp2_with fail
  with_reducible refine (CC.out _ (hr.out.bel bb) (hr'.out.bel bb)).mono ?_
  rintro e w' ⟨rfl, y1, rfl⟩
  have hsy1 := y1.bel.size
  (try simp only [World.size_alloc, World.size_setCell, World.size_drew] at hsy1)
  go_wp2_with fail
  with_reducible refine (lengthR_any _ _ _ _).mono ?_
  rintro e w' ⟨rfl, y2, rfl⟩
  have hsy2 := y2.bel.size
  (try simp only [World.size_alloc, World.size_setCell, World.size_drew] at hsy2)
  go_wp2_with fail
  with_reducible refine (within_b _ hx.out).mono ?_
  rintro e w' ⟨rfl, y3, rfl⟩
  have hsy3 := y3.bel.size
  (try simp only [World.size_alloc, World.size_setCell, World.size_drew] at hsy3)
  go_wp2_with fail
  go_loopw [8, 25] (fun t8 t25 wr => ∃ (k : Nat) (a6 : Option Addr) (c6 : Nat), k ≤ V.length ∧ t25 = .int .i64 k ∧ t8 = .slice a6 (CT k).length c6 ∧ wr.ownsRow w.heap.size 9 1 (.slice a6 (CT k).length c6) (CT k).length (strCells (CT k)) ∧ ∃ z : Later w, wr = z.w) (fun _ t25 _ => V.length - (intOf t25).toNat)
  case atStart => exact ⟨0, none, 0, Nat.zero_le _, rfl, by rw [h0.out]; rfl, by rw [h0.out]; exact World.ownsRow_nil _ _ _ _, LaterC.mk bb⟩
  case round =>
    obtain ⟨k, a6, c6, hk, rfl, rfl, hown, z, rfl⟩ := hrel
    have hzz := z.bel.size
    replace hown := Lib.hid hown
    have hlk := hLen.out k
    by_cases hlt : k < V.length
    · have hk1 : (k : Int) < (V.length : Int) := by omega
      obtain ⟨bk, ok1, ak, ck, rfl, hbk, q0, q1, q2, -, -⟩ := hr'.out.at_ hlt
      have hvl : V[k].own.length = R.length := hOwn.out _ (List.getElem_mem hlt)
      have hik : i < V[k].own.length := by omega
      obtain ⟨bo, oo, rfl, hbo, p0⟩ := q2.str hik
      have eo : ownAt (atV V k) i = V[k].own[i]'hik := by rw [atV_get hlt]; exact ownAt_get hik
      have Y := hY.out k
      have N := hN.out k
      rw [eo] at Y N
      rw [hvl] at q1
      have hii : (i : Int) < (R.length : Int) := by omega
      generalize V[k].own[i]'hik = so at *
      have z1 : bk < z.w.heap.size := by omega
      have z2 : bo < z.w.heap.size := by omega
      replace eo := Lib.hid eo
      replace hvl := Lib.hid hvl
      clear q2
      have hcl : (strCells (CT k)).length = (CT k).length := by simp [strCells]
      cases hc : so.toList.isEmpty
      · have X := Y hc
        have X3 : (CT (k + 1)).length = (CT k).length + 1 := by rw [X]; simp
        replace X := Lib.hid X
        replace X3 := Lib.hid X3
        clear Y N
        go_wp2_with (at_builtin; (refine wpList_append_later _ rfl _ _ _ rfl 9 ii _ 1 16 Tryz.underlying46 Jii.out.1 Jii.out.2.1 Jii.out.2.2.1 Jii.out.2.2.2 rfl (by decide) (w) ?qa1 _ _ _ (strCells (CT k)) rfl ?qa2 _ _ _ ([.string so]) rfl ?qa3 ?qa4 ?qa5 ?qa6 ?qa7 ?_); (case qa1 => (exact bb)); (case qa2 => exact own_bel hown.out bb); (case qa3 => (first | rfl | (simp; done) | (first | omega | (simp <;> omega)))); (case qa4 => exact Row.madeAt (by simp only [World.size_alloc]; try rfl) rfl); (case qa5 => exact one_str1 _); (case qa6 => (unfold maxLen; (first | omega | (simp <;> omega)))); (case qa7 => (first | omega | (simp <;> omega))); intro a9 c9 x9 hown9)
        replace hown9 := Lib.hid hown9
        go_roundw
        case rel => exact ⟨k + 1, a9, c9, by omega, by go_num, by rw [X3.out], by rw [X3.out, X.out]; simpa [strCells] using hown9.out, x9, rfl⟩
        case measure => first | (simp [intOf]; done) | (simp [intOf]; omega) | omega
      · have X := Lib.hid (N hc)
        clear Y N
        go_wp2_with fail
        go_roundw
        case rel => exact ⟨k + 1, a6, c6, by omega, by go_num, by rw [X.out], by rw [X.out]; exact own_bel hown.out bb, LaterC.mk bb⟩
        case measure => first | (simp [intOf]; done) | (simp [intOf]; omega) | omega
    · obtain rfl : k = V.length := by omega
      have CS2 := Lib.hid (CS.out (CT V.length) a6 (CT V.length).length c6 w.heap.size z.w rfl (by omega) hzz (Owns.of hown.out))
      have hul := uniq_le (CT V.length)
      clear CS hown
      go_wp2_with fail
      with_reducible refine CS2.out.mono ?_
      rintro e w' ⟨rfl, ho, hb⟩
      replace ho := Lib.hid ho
      obtain ⟨y5, rfl⟩ := LaterC.mk (z.bel.trans hb)
      go_wp2_with fail
      refine bodyPost_ret (by simp [results, Tryz.results27, go_sem, ↓IntWalk.iteOmega, *]; try rfl) rfl ?_
      exact RetOwn.mk _ rfl ho.out.own y5.bel
end Go.Proofs.YtklcaphkfdlipaaGreatDoor
