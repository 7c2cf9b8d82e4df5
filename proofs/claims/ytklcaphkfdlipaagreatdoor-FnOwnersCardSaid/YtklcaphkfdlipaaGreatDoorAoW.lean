import Derived.Test.YtklcaphkfdlipaaGreatDoorPackVa
import Derived.Test.YtklcaphkfdlipaaGreatDoorAro
/- AreaOf: both sides. -/
set_option linter.unusedSimpArgs false
set_option linter.unusedVariables false
namespace Go.Proofs.YtklcaphkfdlipaaGreatDoor
open Go.RowKit
/-- Does a view tell this owner for a ring? -/
def isO (V : List Vw) (v : Nat) (s : ByteArray) (k : Nat) : Bool := (ownAt (atV V v) k).toList == s.toList
/-- The area of an owner in a view. -/
noncomputable def aoN (R : List (List Pt)) (V : List Vw) (x : Int) (s : ByteArray) : Int := if viewC R V [x] = 0 then arTo R (isO V x.toNat s) R.length else 0
set_option maxRecDepth 4000 in
set_option maxHeartbeats 1000000 in
theorem ao1_any (V : List Vw) (x i g5 g6 g7 : Nat) (s : ByteArray) (b : Option Addr) (d n : Nat) (w : World) (ok : VwsOk V n) (hx : x < V.length) (hi : i < n) (h5 : w.cell? ⟨g5, 0, none⟩ = some (.slice b V.length d)) (h6 : w.cell? ⟨g6, 0, none⟩ = some (.int .i64 x)) (h7 : w.cell? ⟨g7, 0, none⟩ = some (.string s))
    (hg5 : g5 < w.heap.size) (hg6 : g6 < w.heap.size) (hg7 : g7 < w.heap.size) (hr' : ViewsR w b V) :
    Calls Tryz.prog 91 #[.int .i64 i, .pointer (some ⟨g5, 0, none⟩), .pointer (some ⟨g6, 0, none⟩), .pointer (some ⟨g7, 0, none⟩)] w (Ret w (.bool (isO V x s i))) := by
  obtain ⟨b1, o1, a1, c1, rfl, hb1, p0, p1, p2, -, -⟩ := hr'.at_ hx
  have hl := ok.own _ (List.getElem_mem hx)
  rw [hl] at p1
  obtain ⟨b3, o3, rfl, hb3, c3⟩ := p2.str (k := i) (by omega)
  have eo : V[x].own[i]'(by omega) = ownAt (atV V x) i := by rw [atV_get hx, ownAt_get]
  rw [eo] at c3
  have hv1 : (x : Int) < (V.length : Int) := by omega
  have hi1 : (i : Int) < (n : Int) := by omega
  have eI : isO V x s i = ((ownAt (atV V x) i).toList == s.toList) := rfl
  rw [eI]
  generalize ownAt (atV V x) i = t at *
  clear ok hr' p2 p0 hl eI eo
  go_enter Tryz.func91, Tryz.ntmps91
  go_wp2_with fail
  refine wp_region_later (by kernel_rfl) (by kernel_rfl) ?_
  repeat (go_big_quiet_step (fail))
  refine wpQuiet_nil ?_
  rintro _ ⟨xq, rfl⟩
  go_wp2_with fail
  go_ret
  exact .mk rfl bb
theorem tells_ao {V : List Vw} {x g5 g6 g7 d n : Nat} {s : ByteArray} {b : Option Addr} {w : World} (ok : VwsOk V n) (hx : x < V.length) (h5 : w.cell? ⟨g5, 0, none⟩ = some (.slice b V.length d)) (h6 : w.cell? ⟨g6, 0, none⟩ = some (.int .i64 x)) (h7 : w.cell? ⟨g7, 0, none⟩ = some (.string s))
    (hg5 : g5 < w.heap.size) (hg6 : g6 < w.heap.size) (hg7 : g7 < w.heap.size) (hr' : ViewsR w b V) :
    TellsN 91 #[] #[.pointer (some ⟨g5, 0, none⟩), .pointer (some ⟨g6, 0, none⟩), .pointer (some ⟨g7, 0, none⟩)] (isO V x s) n w :=
  fun i hi w' hb => by simpa using ao1_any V x i g5 g6 g7 s b d n w' ok hx hi ((hb.cell hg5).trans h5) ((hb.cell hg6).trans h6) ((hb.cell hg7).trans h7) (Nat.lt_of_lt_of_le hg5 hb.size) (Nat.lt_of_lt_of_le hg6 hb.size) (Nat.lt_of_lt_of_le hg7 hb.size) (hr'.bel hb)
theorem enters_ao : ∀ args w, (callFunc 91 args).run Tryz.prog w = .ok (.enter 91 args) w := fun _ _ => by kernel_rfl
set_option maxRecDepth 8000 in
set_option maxHeartbeats 4000000 in
theorem ao_impl (R : List (List Pt)) (V : List Vw) (x : Int) (s : ByteArray) (a b : Option Addr) (n c m d : Nat) (w : World) (hn : R.length = n) (hm : n ≤ 1048576) (hc : n ≤ c) (hcm : c ≤ maxLen) (ok : ∀ r ∈ R, r.length ≤ 1048576) (hr : RingsR w a R)
    (hn' : V.length = m) (hm' : m ≤ 1048576) (ok' : ∀ v ∈ V, VwOk v) (hr' : ViewsR w b V) :
    Calls Tryz.prog 45 #[.slice a n c, .slice b m d, .int .i64 x, .string s] w (Ret w (.tuple #[.int .i64 (aoN R V x s), .int .i64 (viewC R V [x])])) := by
  subst hn hn'
  have CC := Lib.hid (fun (e : Option Addr) (w : World) (hr : RingsR w a R) (hr' : ViewsR w b V) (hri : Row w e [.int .i64 x]) => viewCode_any R V [x] a b e R.length c V.length d 1 1 w rfl hm hc hcm ok hr rfl hm' ok' hr' rfl (by omega) (by simpa [intCells] using hri))
  replace hr := Lib.hid hr
  replace hr' := Lib.hid hr'
  by_cases hK : viewC R V [x] = 0
  rotate_left
  · have e1 : aoN R V x s = 0 := by unfold aoN; rw [if_neg hK]
    rw [e1]
    obtain ⟨K, hKe⟩ : ∃ K, viewC R V [x] = K := ⟨_, rfl⟩
    rw [hKe] at hK CC ⊢
    have hK1 : (K != 0) = true := by simpa using hK
    clear e1 ok ok' hcm hK hKe
    go_enter Tryz.func45, Tryz.ntmps45
    go_wp2_with fail
    with_reducible refine (CC.out _ _ (hr.out.bel bb) (hr'.out.bel bb) (Row.madeAt (by simp only [World.size_alloc]; try rfl) rfl)).mono ?_
    rintro e w' ⟨rfl, y1, rfl⟩
    go_wp2_with fail
    refine bodyPost_ret (by simp [results, Tryz.results45, go_sem, ↓IntWalk.iteOmega, *]; try rfl) rfl ?_
    exact .mk rfl bb
  obtain ⟨hB, i, rfl, hi⟩ := viewC_zero hK
  have e1 : aoN R V (i : Int) s = arTo R (isO V i s) R.length := by unfold aoN; rw [if_pos hK]; rfl
  rw [e1, hK]
  rw [hK] at CC
  have h6 := mapB_len (viewsB_map hB)
  have CA := Lib.hid (fun (g5 g6 g7 : Nat) (w : World) (h5 : w.cell? ⟨g5, 0, none⟩ = some (.slice b V.length d)) (h6' : w.cell? ⟨g6, 0, none⟩ = some (.int .i64 i)) (h7 : w.cell? ⟨g7, 0, none⟩ = some (.string s)) (hg5 : g5 < w.heap.size) (hg6 : g6 < w.heap.size) (hg7 : g7 < w.heap.size) (hr : RingsR w a R) (hr' : ViewsR w b V) =>
    areaOf_any 91 #[] #[.pointer (some ⟨g5, 0, none⟩), .pointer (some ⟨g6, 0, none⟩), .pointer (some ⟨g7, 0, none⟩)] (isO V i s) R a R.length c w enters_ao rfl h6 (mapB_rings (viewsB_map hB)) hr (tells_ao (V := V) (x := i) (g5 := g5) (g6 := g6) (g7 := g7) (n := R.length) (viewsB_ok hB) hi h5 h6' h7 hg5 hg6 hg7 hr'))
  generalize arTo R (isO V i s) R.length = N at *
  have hW := Lib.hid (show (((w.alloc (.cells #[.slice b V.length d] 31)).alloc (.cells #[.int .i64 i] 2)).alloc (.cells #[.string s] 9)).cell? ⟨w.heap.size, 0, none⟩ = some (.slice b V.length d) ∧ (((w.alloc (.cells #[.slice b V.length d] 31)).alloc (.cells #[.int .i64 i] 2)).alloc (.cells #[.string s] 9)).cell? ⟨w.heap.size + 1, 0, none⟩ = some (.int .i64 i) ∧ (((w.alloc (.cells #[.slice b V.length d] 31)).alloc (.cells #[.int .i64 i] 2)).alloc (.cells #[.string s] 9)).cell? ⟨w.heap.size + 1 + 1, 0, none⟩ = some (.string s) from by
    refine ⟨?_, ?_, ?_⟩ <;> simp [go_sem, ↓IntWalk.iteOmega])
  clear e1 hB hK ok ok' hcm
  go_enter Tryz.func45, Tryz.ntmps45
  go_wp2_with fail
  with_reducible refine (CC.out _ _ (hr.out.bel bb) (hr'.out.bel bb) (Row.madeAt (by simp only [World.size_alloc]; try rfl) rfl)).mono ?_
  rintro e w' ⟨rfl, y1, rfl⟩
  have hs1 := y1.bel.size
  simp only [World.size_alloc] at hs1
  go_wp2_with fail
  have hbb := y1.out (((Below.refl (((w.alloc (.cells #[.slice b V.length d] 31)).alloc (.cells #[.int .i64 i] 2)).alloc (.cells #[.string s] 9)).heap.size (((w.alloc (.cells #[.slice b V.length d] 31)).alloc (.cells #[.int .i64 i] 2)).alloc (.cells #[.string s] 9))).alloc (by simp only [World.size_alloc]; omega) _))
  simp only [World.size_alloc] at hbb
  obtain ⟨k1, k2, k3⟩ := hW.out
  with_reducible refine (CA.out w.heap.size (w.heap.size + 1) (w.heap.size + 1 + 1) _ ((hbb.cell (p := ⟨w.heap.size, 0, none⟩) (by dsimp only; omega)).trans k1) ((hbb.cell (p := ⟨w.heap.size + 1, 0, none⟩) (by dsimp only; omega)).trans k2) ((hbb.cell (p := ⟨w.heap.size + 1 + 1, 0, none⟩) (by dsimp only; omega)).trans k3) (by omega) (by omega) (by omega) (hr.out.bel bb) (hr'.out.bel bb)).mono ?_
  rintro e w' ⟨rfl, y2, rfl⟩
  clear hbb k1 k2 k3
  go_wp2_with fail
  refine bodyPost_ret (by simp [results, Tryz.results45, go_sem, ↓IntWalk.iteOmega, *]; try rfl) rfl ?_
  exact .mk rfl bb
set_option maxRecDepth 8000 in
set_option maxHeartbeats 4000000 in
theorem ao_spec (R : List (List Pt)) (V : List Vw) (x : Int) (s : ByteArray) (a b : Option Addr) (n c m d : Nat) (w : World) (hn : R.length = n) (hm : n ≤ 1048576) (ok : ∀ r ∈ R, r.length ≤ 1048576) (hr : RingsR w a R)
    (hn' : V.length = m) (hm' : m ≤ 1048576) (ok' : ∀ v ∈ V, VwOk v) (hr' : ViewsR w b V) :
    Calls Tryz.prog 46 #[.slice a n c, .slice b m d, .int .i64 x, .string s] w (Ret w (.tuple #[.int .i64 (aoN R V x s), .int .i64 (viewC R V [x])])) := by
  subst hn hn'
  have CC := fun (w : World) (hr : RingsR w a R) (hr' : ViewsR w b V) => sView_any R V x x a b R.length c V.length d w rfl hm ok hr rfl hm' ok' hr'
  rw [viewC_one] at CC
  replace CC := Lib.hid CC
  replace hr := Lib.hid hr
  replace hr' := Lib.hid hr'
  by_cases hK : viewC R V [x] = 0
  rotate_left
  · have e1 : aoN R V x s = 0 := by unfold aoN; rw [if_neg hK]
    rw [e1]
    obtain ⟨K, hKe⟩ : ∃ K, viewC R V [x] = K := ⟨_, rfl⟩
    rw [hKe] at hK CC ⊢
    have hK1 : (K != 0) = true := by simpa using hK
    clear e1 ok ok' hK hKe
    go_enter Tryz.func46, Tryz.ntmps46
    go_wp2_with fail
    with_reducible refine (CC.out _ (hr.out.bel bb) (hr'.out.bel bb)).mono ?_
    rintro e w' ⟨rfl, y1, rfl⟩
    have hsy1 := y1.bel.size
    (try simp only [World.size_alloc, World.size_setCell, World.size_drew] at hsy1)
    go_wp2_with fail
    refine bodyPost_ret (by simp [results, Tryz.results46, go_sem, ↓IntWalk.iteOmega, *]; try rfl) rfl ?_
    exact .mk rfl bb
  obtain ⟨hB, i, rfl, hi⟩ := viewC_zero hK
  have e1 : aoN R V (i : Int) s = arTo R (isO V i s) R.length := by unfold aoN; rw [if_pos hK]; rfl
  rw [e1, hK]
  rw [hK] at CC
  have h6 := mapB_len (viewsB_map hB)
  have hR := mapB_rings (viewsB_map hB)
  have hvo := viewsB_ok hB
  have hbd := Lib.hid (fun k hk => arTo_bd (p := isO V i s) hR k hk)
  have hY := Lib.hid (fun (k : Nat) h => arTo_yes (R := R) (p := isO V i s) (k := k) h)
  have hN := Lib.hid (fun (k : Nat) h => arTo_no (R := R) (p := isO V i s) (k := k) h)
  have hab := Lib.hid (fun (k : Nat) (h : k < R.length) => aRing_bd (hR _ (List.getElem_mem h)))
  have CA := Lib.hid (fun (k : Nat) (hk : k < R.length) (ak : Option Addr) (ck : Nat) (w : World) (hr : Row w ak (ptsCells R[k])) => l18Area_any R[k] ak R[k].length ck w rfl (hR _ (List.getElem_mem hk)) hr)
  have h0 := Lib.hid (show arTo R (isO V i s) 0 = 0 from rfl)
  obtain ⟨b1, o1, a1, c1, rfl, hb1, p0, p1, p2, -, -⟩ := hr'.out.at_ hi
  have l1 : V[i].own.length = R.length := hvo.own _ (List.getElem_mem hi)
  rw [l1] at p1
  have hO := Lib.hid (fun (k : Nat) (h1 : k < V[i].own.length) => (show isO V i s k = ((V[i].own[k]'h1).toList == s.toList) from by
    unfold isO
    rw [atV_get hi, ownAt_get h1]))
  have hv1 : (i : Int) < (V.length : Int) := by omega
  replace p2 := Lib.hid p2
  generalize arTo R (isO V i s) = AR at *
  have l1' := Lib.hid l1
  clear e1 hB hK ok ok' hR hvo l1
  go_enter Tryz.func46, Tryz.ntmps46
  go_wp2_with fail
  with_reducible refine (CC.out _ (hr.out.bel bb) (hr'.out.bel bb)).mono ?_
  rintro e w' ⟨rfl, y1, rfl⟩
  have hsy1 := y1.bel.size
  (try simp only [World.size_alloc, World.size_setCell, World.size_drew] at hsy1)
  go_wp2_with fail
  go_loopw [11, 12] (fun t11 t12 wr => ∃ k : Nat, k ≤ R.length ∧ t12 = .int .i64 k ∧ t11 = .int .i64 (AR k) ∧ ∃ z : Later w, wr = z.w) (fun _ t12 _ => R.length - (intOf t12).toNat)
  case atStart => exact ⟨0, Nat.zero_le _, rfl, by rw [h0.out], LaterC.mk bb⟩
  case round =>
    obtain ⟨k, hk, rfl, rfl, z, rfl⟩ := hrel
    have hzz := z.bel.size
    obtain ⟨bd1, bd2⟩ := hbd.out k hk
    by_cases hlt : k < R.length
    · have hk1 : (k : Int) < (R.length : Int) := by omega
      have hki : k < V[i].own.length := by have := l1'.out; omega
      obtain ⟨b3, o3, rfl, hb3, c3⟩ := p2.out.str hki
      obtain ⟨b5, o5, ak, ck, rfl, hb5, s0, s1, -, -⟩ := hr.out.at_ hlt
      have eo := hO.out k hki
      have Y := hY.out k
      have N := hN.out k
      simp only [eo] at Y N
      have CK := Lib.hid (fun (w : World) (hr : Row w ak (ptsCells R[k])) => CA.out k hlt ak ck w hr)
      obtain ⟨m1, m2⟩ := hab.out k hlt
      have eg2 : R.getD k [] = R[k] := by simp [hlt]
      rw [eg2] at Y
      generalize aRing R[k] = A at *
      generalize V[i].own[k]'hki = t at *
      replace s1 := Lib.hid s1
      have z1 : b1 < z.w.heap.size := by omega
      have z3 : b3 < z.w.heap.size := by omega
      have z5 : b5 < z.w.heap.size := by omega
      replace eo := Lib.hid eo
      cases hst : (t.toList == s.toList)
      · have X := Lib.hid (N hst)
        clear Y N
        go_wp2_with fail
        go_roundw
        case rel => exact ⟨k + 1, by omega, by go_num, by rw [X.out], LaterC.mk bb⟩
        case measure => first | (simp [intOf]; done) | (simp [intOf]; omega) | omega
      · have X := Lib.hid (Y hst)
        clear Y N
        go_wp2_with fail
        with_reducible refine (CK.out _ (s1.out.bel bb)).mono ?_
        rintro e w' ⟨rfl, y3, rfl⟩
        go_wp2_with fail
        go_roundw
        case rel => exact ⟨k + 1, by omega, by go_num, by rw [X.out], LaterC.mk bb⟩
        case measure => first | (simp [intOf]; done) | (simp [intOf]; omega) | omega
    · obtain rfl : k = R.length := by omega
      go_wp2_with fail
      refine bodyPost_ret (by simp [results, Tryz.results46, go_sem, ↓IntWalk.iteOmega, *]; try rfl) rfl ?_
      exact .mk rfl bb
set_option maxRecDepth 8000 in
set_option maxHeartbeats 4000000 in
/-- The area of a whole map. -/
theorem total_any (R : List (List Pt)) (a : Option Addr) (n c : Nat) (w : World) (hn : R.length = n) (hc : n ≤ c) (hcm : c ≤ maxLen) (hM : mapB R = true) (ok : ∀ r ∈ R, r.length ≤ 1048576) (hr : RingsR w a R) :
    Calls Tryz.prog 53 #[.slice a n c] w (Ret w (.tuple #[.int .i64 (arTo R (fun _ => true) n), .int .i64 0])) := by
  subst hn
  have h6 := mapB_len hM
  have hR := mapB_rings hM
  have CM := fun (w : World) (hr : RingsR w a R) => isMap_any R a R.length c w rfl (by omega) hc hcm ok hr
  rw [hM] at CM
  replace CM := Lib.hid CM
  have hbd := Lib.hid (fun k hk => arTo_bd (p := fun _ => true) hR k hk)
  have hY := Lib.hid (fun (k : Nat) h => arTo_yes (R := R) (p := fun _ => true) (k := k) h)
  have CA := Lib.hid (fun (k : Nat) (hk : k < R.length) (ak : Option Addr) (ck : Nat) (w : World) (hr : Row w ak (ptsCells R[k])) => area_any R[k] ak R[k].length ck w rfl (by have := (ringB_sizes (hR _ (List.getElem_mem hk))).2; omega) (ringB_smL (hR _ (List.getElem_mem hk))).ptsB hr)
  have hal := Lib.hid (fun (k : Nat) (hk : k < R.length) => area_le (hR _ (List.getElem_mem hk)))
  have h0 := Lib.hid (show arTo R (fun _ => true) 0 = 0 from rfl)
  replace hr := Lib.hid hr
  generalize arTo R (fun _ => true) = AR at *
  clear hR hM ok hcm
  go_enter Tryz.func53, Tryz.ntmps53
  go_wp2_with fail
  with_reducible refine (CM.out _ (hr.out.bel bb)).mono ?_
  rintro e w' ⟨rfl, y0, rfl⟩
  have hsy0 := y0.bel.size
  (try simp only [World.size_alloc, World.size_setCell, World.size_drew] at hsy0)
  go_wp2_with fail
  go_loopw [4, 12] (fun s i wr => ∃ k : Nat, k ≤ R.length ∧ i = .int .i64 k ∧ s = .int .i64 (AR k) ∧ ∃ z : Later w, wr = z.w) (fun _ i _ => R.length - (intOf i).toNat)
  case atStart => exact ⟨0, Nat.zero_le _, rfl, by rw [h0.out], LaterC.mk bb⟩
  case round =>
    obtain ⟨k, hk, rfl, rfl, z, rfl⟩ := hrel
    have hzz := z.bel.size
    obtain ⟨bd1, bd2⟩ := hbd.out k hk
    by_cases hlt : k < R.length
    · have hk1 : (k : Int) < (R.length : Int) := by omega
      obtain ⟨b1, o1, ak, ck, rfl, hb1, q0, q1, -, -⟩ := hr.out.at_ hlt
      have CK := Lib.hid (fun (w : World) (hr : Row w ak (ptsCells R[k])) => CA.out k hlt ak ck w hr)
      obtain ⟨l1, l2⟩ := hal.out k hlt
      have Y := hY.out k trivial
      have eg2 : R.getD k [] = R[k] := by simp [hlt]
      rw [eg2] at Y
      unfold aRing at Y
      replace q1 := Lib.hid q1
      have hbz : b1 < z.w.heap.size := by omega
      generalize areaZ R[k] = A at *
      have X := Lib.hid Y
      have ha0 := absI_nonneg A
      have ha1 : absI A ≤ 1000000000 := by unfold absI; omega
      clear Y
      go_wp2_with fail
      with_reducible refine (CK.out _ (q1.out.bel bb)).mono ?_
      rintro e w' ⟨rfl, y2, rfl⟩
      go_wp2_with fail
      with_reducible refine (abs_any A _ (by omega) (by omega)).mono ?_
      rintro e w' ⟨rfl, y3, rfl⟩
      have hsy3 := y3.bel.size
      (try simp only [World.size_alloc, World.size_setCell, World.size_drew] at hsy3)
      generalize absI A = B at *
      go_wp2_with fail
      go_roundw
      case rel => exact ⟨k + 1, by omega, by go_num, by rw [X.out], LaterC.mk bb⟩
      case measure => first | (simp [intOf]; done) | (simp [intOf]; omega) | omega
    · obtain rfl : k = R.length := by omega
      go_wp2_with fail
      refine bodyPost_ret (by simp [results, Tryz.results53, go_sem, ↓IntWalk.iteOmega, *]; try rfl) rfl ?_
      exact .mk rfl bb
end Go.Proofs.YtklcaphkfdlipaaGreatDoor
