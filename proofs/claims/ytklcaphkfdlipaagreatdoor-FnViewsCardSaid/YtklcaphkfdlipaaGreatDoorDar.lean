import Derived.Test.YtklcaphkfdlipaaGreatDoorPackVh
import Derived.Test.YtklcaphkfdlipaaGreatDoorDstS
/- DisputedArea: both sides. -/
set_option linter.unusedSimpArgs false
set_option linter.unusedVariables false
namespace Go.Proofs.YtklcaphkfdlipaaGreatDoor
open Go.RowKit
theorem contI_yes {L : List Int} {x : Int} {k : Nat} (hk : k < L.length) (h : L[k] = x) : L.contains x = true := by
  rw [List.contains_iff_mem, ← h]
  exact List.getElem_mem hk
theorem contI_no {L : List Int} {x : Int} (h : ∀ k (hk : k < L.length), L[k] ≠ x) : L.contains x = false := by
  rw [Bool.eq_false_iff]
  intro hh
  rw [List.contains_iff_mem] at hh
  obtain ⟨k, hk, e⟩ := List.mem_iff_getElem.1 hh
  exact h k hk e
set_option maxHeartbeats 2000000 in
theorem indexI_any (x : Int) (L : List Int) (a : Option Addr) (n c : Nat) (w : World) (hn : L.length = n) (hm : n ≤ 1048576) (hr : Row w a (intCells L)) :
    Calls Tryz.prog 123 #[.slice a n c, .int .i64 x] w (fun r w' => ∃ i : Int, decide (0 ≤ i) = L.contains x ∧ Ret w (.int .i64 i) r w') := by
  subst hn
  replace hr := Lib.hid hr
  go_enter Tryz.func123, Tryz.ntmps123
  go_wp2_with fail
  go_loopw [8] (fun i wr => ∃ k : Nat, k ≤ L.length ∧ i = .int .i64 k ∧ (∀ j (hj : j < L.length), j < k → L[j] ≠ x) ∧ ∃ z : Later w, wr = z.w) (fun i _ => L.length - (intOf i).toNat)
  case atStart => exact ⟨0, Nat.zero_le _, rfl, fun j _ h => absurd h (by omega), ⟨_, by (repeat (first | (with_reducible first | exact Below.refl _ _ | assumption | refine Later.out _ ?_ | refine bel_alloc ?_ _ | refine bel_drew ?_ | refine bel_drewN ?_ _ | refine bel_set ?_ ?_ _ | refine After.out _ ?_ ?_) | (dsimp only; omega) | omega | (simp only [World.size_alloc, World.size_setCell, World.size_drew]; omega)))⟩, rfl⟩
  case round =>
    obtain ⟨k, hk, rfl, hall, z, rfl⟩ := hrel
    replace hall := Lib.hid hall
    have hzz := z.bel.size
    by_cases hlt : k < L.length
    · obtain ⟨b, o, rfl, hb, q0⟩ := hr.out.int hlt
      have hi1 : (k : Int) < (L.length : Int) := by omega
      have hbz : b < z.w.heap.size := by omega
      by_cases hv : L[k] = x
      · have X := Lib.hid (contI_yes hlt hv)
        have hv1 : (x == L[k]) = true := by simp [hv]
        have hv2 : (L[k] == x) = true := by simp [hv]
        generalize L[k] = y at *
        clear hv
        go_wp2_with fail
        (try go_quiet (fail))
        go_wp2_with fail
        go_ret
        exact ⟨k, by rw [X.out]; simp, .mk rfl (by (repeat (first | (with_reducible first | exact Below.refl _ _ | assumption | refine Later.out _ ?_ | refine bel_alloc ?_ _ | refine bel_drew ?_ | refine bel_drewN ?_ _ | refine bel_set ?_ ?_ _ | refine After.out _ ?_ ?_) | (dsimp only; omega) | omega | (simp only [World.size_alloc, World.size_setCell, World.size_drew]; omega))))⟩
      · have X := Lib.hid (show ∀ j (hj : j < L.length), j < k + 1 → L[j] ≠ x from fun j hj hjk => by
          rcases Nat.lt_or_ge j k with h1 | h1
          · exact hall.out j hj h1
          · obtain rfl : j = k := by omega
            exact hv)
        have hv1 : (x == L[k]) = false := by rw [beq_eq_false_iff_ne]; exact fun h => hv h.symm
        have hv2 : (L[k] == x) = false := by rw [beq_eq_false_iff_ne]; exact hv
        generalize L[k] = y at *
        clear hv
        go_wp2_with fail
        (try go_quiet (fail))
        go_wp2_with fail
        go_roundw
        case rel => exact ⟨k + 1, by omega, by go_num, X.out, ⟨_, by (repeat (first | (with_reducible first | exact Below.refl _ _ | assumption | refine Later.out _ ?_ | refine bel_alloc ?_ _ | refine bel_drew ?_ | refine bel_drewN ?_ _ | refine bel_set ?_ ?_ _ | refine After.out _ ?_ ?_) | (dsimp only; omega) | omega | (simp only [World.size_alloc, World.size_setCell, World.size_drew]; omega)))⟩, rfl⟩
        case measure => first | (simp [intOf]; done) | (simp [intOf]; omega) | omega
    · obtain rfl : k = L.length := by omega
      have X := Lib.hid (contI_no (L := L) (x := x) fun j hj => hall.out j hj hj)
      go_wp2_with fail
      go_ret
      exact ⟨-1, by rw [X.out]; rfl, .mk rfl (by (repeat (first | (with_reducible first | exact Below.refl _ _ | assumption | refine Later.out _ ?_ | refine bel_alloc ?_ _ | refine bel_drew ?_ | refine bel_drewN ?_ _ | refine bel_set ?_ ?_ _ | refine After.out _ ?_ ?_) | (dsimp only; omega) | omega | (simp only [World.size_alloc, World.size_setCell, World.size_drew]; omega))))⟩
set_option maxHeartbeats 1000000 in
theorem containsI_any (x : Int) (L : List Int) (a : Option Addr) (n c : Nat) (w : World) (hn : L.length = n) (hm : n ≤ 1048576) (hr : Row w a (intCells L)) :
    Calls Tryz.prog 86 #[.slice a n c, .int .i64 x] w (Ret w (.bool (L.contains x))) := by
  have CI := Lib.hid (fun (w : World) (hr : Row w a (intCells L)) => indexI_any x L a n c w hn hm hr)
  replace hr := Lib.hid hr
  generalize L.contains x = B at *
  clear hn hm
  go_enter Tryz.func86, Tryz.ntmps86
  go_wp2_with fail
  with_reducible refine (CI.out _ (hr.out.bel (by (repeat (first | (with_reducible first | exact Below.refl _ _ | assumption | refine Later.out _ ?_ | refine bel_alloc ?_ _ | refine bel_drew ?_ | refine bel_drewN ?_ _ | refine bel_set ?_ ?_ _ | refine After.out _ ?_ ?_) | (dsimp only; omega) | omega | (simp only [World.size_alloc, World.size_setCell, World.size_drew]; omega)))))).mono ?_
  rintro r w' ⟨i, hi, rfl, y1, rfl⟩
  replace hi := Lib.hid hi
  go_wp2_with fail
  go_ret
  exact .mk (by rw [← hi.out]; rfl) (by (repeat (first | (with_reducible first | exact Below.refl _ _ | assumption | refine Later.out _ ?_ | refine bel_alloc ?_ _ | refine bel_drew ?_ | refine bel_drewN ?_ _ | refine bel_set ?_ ?_ _ | refine After.out _ ?_ ?_) | (dsimp only; omega) | omega | (simp only [World.size_alloc, World.size_setCell, World.size_drew]; omega))))
noncomputable def daN (R : List (List Pt)) (V : List Vw) : Int := if viewsB R V then arTo R (dispB V) R.length else 0
theorem disp_mem {V : List Vw} {n k : Nat} (h : k < n) : (dispTo V n).contains (k : Int) = dispB V k := by
  cases hd : dispB V k
  · rw [Bool.eq_false_iff]
    intro hh
    rw [List.contains_iff_mem] at hh
    unfold dispTo natI at hh
    obtain ⟨i, hi, e⟩ := List.mem_map.1 hh
    have : i = k := by omega
    subst this
    rw [(List.mem_filter.1 hi).2] at hd
    cases hd
  · rw [List.contains_iff_mem]
    unfold dispTo natI
    exact List.mem_map.2 ⟨k, List.mem_filter.2 ⟨List.mem_range.2 h, hd⟩, rfl⟩
theorem arTo_congr {R : List (List Pt)} {p q : Nat → Bool} : ∀ k, (∀ i, i < k → p i = q i) → arTo R p k = arTo R q k
  | 0, _ => rfl
  | k + 1, h => by
    have ih := arTo_congr (R := R) k fun i hi => h i (by omega)
    show (if p k then _ else _) = (if q k then _ else _)
    rw [h k (by omega), ih]
set_option maxHeartbeats 1000000 in
theorem darea1_any (D : List Int) (i g7 : Nat) (a : Option Addr) (c : Nat) (w : World) (hm : D.length ≤ 1000) (h7 : w.cell? ⟨g7, 0, none⟩ = some (.slice a D.length c)) (hr : Row w a (intCells D)) :
    Calls Tryz.prog 85 #[.int .i64 i, .pointer (some ⟨g7, 0, none⟩)] w (Ret w (.bool (D.contains (i : Int)))) := by
  have CI := Lib.hid (fun (w : World) (hr : Row w a (intCells D)) => containsI_any (i : Int) D a D.length c w rfl (by omega) hr)
  replace hr := Lib.hid hr
  generalize D.contains (i : Int) = B at *
  go_enter Tryz.func85, Tryz.ntmps85
  go_wp2_with fail
  with_reducible refine (CI.out _ (hr.out.bel (by (repeat (first | (with_reducible first | exact Below.refl _ _ | assumption | refine Later.out _ ?_ | refine bel_alloc ?_ _ | refine bel_drew ?_ | refine bel_drewN ?_ _ | refine bel_set ?_ ?_ _ | refine After.out _ ?_ ?_) | (dsimp only; omega) | omega | (simp only [World.size_alloc, World.size_setCell, World.size_drew]; omega)))))).mono ?_
  rintro e w' ⟨rfl, y1, rfl⟩
  have hsy1 := y1.bel.size
  (try simp only [World.size_alloc, World.size_setCell, World.size_drew] at hsy1)
  go_wp2_with fail
  go_ret
  exact .mk rfl (by (repeat (first | (with_reducible first | exact Below.refl _ _ | assumption | refine Later.out _ ?_ | refine bel_alloc ?_ _ | refine bel_drew ?_ | refine bel_drewN ?_ _ | refine bel_set ?_ ?_ _ | refine After.out _ ?_ ?_) | (dsimp only; omega) | omega | (simp only [World.size_alloc, World.size_setCell, World.size_drew]; omega))))
theorem tells_darea {V : List Vw} {g7 n c : Nat} {a : Option Addr} {w : World} (hm : (dispTo V n).length ≤ 1000) (h7 : w.cell? ⟨g7, 0, none⟩ = some (.slice a (dispTo V n).length c)) (hg7 : g7 < w.heap.size) (hr : Row w a (intCells (dispTo V n))) :
    TellsN 85 #[] #[.pointer (some ⟨g7, 0, none⟩)] (dispB V) n w :=
  fun i hi w' hb => by
    have := darea1_any (dispTo V n) i g7 a c w' hm ((hb.cell hg7).trans h7) (hr.bel hb)
    rw [disp_mem hi] at this
    simpa using this
theorem enters_darea : ∀ args w, (callFunc 85 args).run Tryz.prog w = .ok (.enter 85 args) w := fun _ _ => by kernel_rfl
set_option maxRecDepth 8000 in
set_option maxHeartbeats 4000000 in
theorem da_impl (R : List (List Pt)) (V : List Vw) (a b : Option Addr) (n c m d : Nat) (w : World) (hn : R.length = n) (hm : n ≤ 1048576) (hc : n ≤ c) (hcm : c ≤ maxLen) (ok : ∀ r ∈ R, r.length ≤ 1048576) (hr : RingsR w a R)
    (hn' : V.length = m) (hm' : m ≤ 1048576) (ok' : ∀ v ∈ V, VwOk v) (hr' : ViewsR w b V) :
    Calls Tryz.prog 36 #[.slice a n c, .slice b m d] w (Ret w (.tuple #[.int .i64 (daN R V), .int .i64 (drC R V)])) := by
  have CC := Lib.hid (fun (w : World) (hr : RingsR w a R) (hr' : ViewsR w b V) => viewCode_any R V [] a b none n c m d 0 0 w hn hm hc hcm ok hr hn' hm' ok' hr' rfl (by omega) (Row.nil _ _))
  rw [viewC_nil] at CC
  replace hr := Lib.hid hr
  replace hr' := Lib.hid hr'
  cases hB : viewsB R V
  · have e1 : daN R V = 0 := by unfold daN; rw [hB]; rfl
    have e2 : drC R V = 1 := by unfold drC; rw [hB]; rfl
    rw [e1, e2]
    rw [e2] at CC
    clear e1 e2 hB ok ok' hcm
    go_enter Tryz.func36, Tryz.ntmps36
    go_wp2_with fail
    with_reducible refine (CC.out _ (hr.out.bel (by (repeat (first | (with_reducible first | exact Below.refl _ _ | assumption | refine Later.out _ ?_ | refine bel_alloc ?_ _ | refine bel_drew ?_ | refine bel_drewN ?_ _ | refine bel_set ?_ ?_ _ | refine After.out _ ?_ ?_) | (dsimp only; omega) | omega | (simp only [World.size_alloc, World.size_setCell, World.size_drew]; omega))))) (hr'.out.bel (by (repeat (first | (with_reducible first | exact Below.refl _ _ | assumption | refine Later.out _ ?_ | refine bel_alloc ?_ _ | refine bel_drew ?_ | refine bel_drewN ?_ _ | refine bel_set ?_ ?_ _ | refine After.out _ ?_ ?_) | (dsimp only; omega) | omega | (simp only [World.size_alloc, World.size_setCell, World.size_drew]; omega)))))).mono ?_
    rintro e w' ⟨rfl, y1, rfl⟩
    have hsy1 := y1.bel.size
    (try simp only [World.size_alloc, World.size_setCell, World.size_drew] at hsy1)
    go_wp2_with fail
    refine bodyPost_ret (by simp [results, Tryz.results36, go_sem, ↓IntWalk.iteOmega, *]; try rfl) rfl ?_
    exact .mk rfl (by (repeat (first | (with_reducible first | exact Below.refl _ _ | assumption | refine Later.out _ ?_ | refine bel_alloc ?_ _ | refine bel_drew ?_ | refine bel_drewN ?_ _ | refine bel_set ?_ ?_ _ | refine After.out _ ?_ ?_) | (dsimp only; omega) | omega | (simp only [World.size_alloc, World.size_setCell, World.size_drew]; omega))))
  · have h6 := mapB_len (viewsB_map hB)
    subst hn
    have CD := Lib.hid (fun (w : World) (hr' : ViewsR w b V) => disputed_any V a b R.length c m d w (by omega) (viewsB_ok hB) hn' hr')
    have hdl := dispTo_len V R.length
    have CA := Lib.hid (fun (g7 : Nat) (aD : Option Addr) (cD : Nat) (w : World) (h7 : w.cell? ⟨g7, 0, none⟩ = some (.slice aD (dispTo V R.length).length cD)) (hg7 : g7 < w.heap.size) (hrD : Row w aD (intCells (dispTo V R.length))) (hr : RingsR w a R) =>
      areaOf_any 85 #[] #[.pointer (some ⟨g7, 0, none⟩)] (dispB V) R a R.length c w enters_darea rfl h6 (mapB_rings (viewsB_map hB)) hr (tells_darea (V := V) (g7 := g7) (n := R.length) (by omega) h7 hg7 hrD))
    have e1 : daN R V = arTo R (dispB V) R.length := by unfold daN; rw [hB]; rfl
    have e2 : drC R V = 0 := by unfold drC; rw [hB]; rfl
    rw [e1, e2]
    rw [e2] at CC
    generalize dispTo V R.length = D at *
    generalize arTo R (dispB V) R.length = N at *
    clear e1 e2 hB ok ok' hcm
    go_enter Tryz.func36, Tryz.ntmps36
    go_wp2_with fail
    with_reducible refine (CC.out _ (hr.out.bel (by (repeat (first | (with_reducible first | exact Below.refl _ _ | assumption | refine Later.out _ ?_ | refine bel_alloc ?_ _ | refine bel_drew ?_ | refine bel_drewN ?_ _ | refine bel_set ?_ ?_ _ | refine After.out _ ?_ ?_) | (dsimp only; omega) | omega | (simp only [World.size_alloc, World.size_setCell, World.size_drew]; omega))))) (hr'.out.bel (by (repeat (first | (with_reducible first | exact Below.refl _ _ | assumption | refine Later.out _ ?_ | refine bel_alloc ?_ _ | refine bel_drew ?_ | refine bel_drewN ?_ _ | refine bel_set ?_ ?_ _ | refine After.out _ ?_ ?_) | (dsimp only; omega) | omega | (simp only [World.size_alloc, World.size_setCell, World.size_drew]; omega)))))).mono ?_
    rintro e w' ⟨rfl, y1, rfl⟩
    have hsy1 := y1.bel.size
    (try simp only [World.size_alloc, World.size_setCell, World.size_drew] at hsy1)
    go_wp2_with fail
    with_reducible refine (CD.out _ (hr'.out.bel (by (repeat (first | (with_reducible first | exact Below.refl _ _ | assumption | refine Later.out _ ?_ | refine bel_alloc ?_ _ | refine bel_drew ?_ | refine bel_drewN ?_ _ | refine bel_set ?_ ?_ _ | refine After.out _ ?_ ?_) | (dsimp only; omega) | omega | (simp only [World.size_alloc, World.size_setCell, World.size_drew]; omega)))))).mono ?_
    rintro e w' ⟨a2, c2, rfl, hown, y2, rfl⟩
    have hsy2 := y2.bel.size
    (try simp only [World.size_alloc, World.size_setCell, World.size_drew] at hsy2)
    have O2 := Lib.hid (Owns.of hown)
    clear hown
    have hW := Lib.hid (show (y2.w.alloc (.cells #[.slice a2 D.length c2] 26)).cell? ⟨y2.w.heap.size, 0, none⟩ = some (.slice a2 D.length c2) from by simp [go_sem, ↓IntWalk.iteOmega])
    go_wp2_with fail
    with_reducible refine (CA.out y2.w.heap.size a2 c2 _ hW.out (by simp only [World.size_alloc]; omega) (O2.out.row.bel (by (repeat (first | (with_reducible first | exact Below.refl _ _ | assumption | refine Later.out _ ?_ | refine bel_alloc ?_ _ | refine bel_drew ?_ | refine bel_drewN ?_ _ | refine bel_set ?_ ?_ _ | refine After.out _ ?_ ?_) | (dsimp only; omega) | omega | (simp only [World.size_alloc, World.size_setCell, World.size_drew]; omega))))) (hr.out.bel (by (repeat (first | (with_reducible first | exact Below.refl _ _ | assumption | refine Later.out _ ?_ | refine bel_alloc ?_ _ | refine bel_drew ?_ | refine bel_drewN ?_ _ | refine bel_set ?_ ?_ _ | refine After.out _ ?_ ?_) | (dsimp only; omega) | omega | (simp only [World.size_alloc, World.size_setCell, World.size_drew]; omega)))))).mono ?_
    rintro e w' ⟨rfl, y3, rfl⟩
    go_wp2_with fail
    refine bodyPost_ret (by simp [results, Tryz.results36, go_sem, ↓IntWalk.iteOmega, *]; try rfl) rfl ?_
    exact .mk rfl (by (repeat (first | (with_reducible first | exact Below.refl _ _ | assumption | refine Later.out _ ?_ | refine bel_alloc ?_ _ | refine bel_drew ?_ | refine bel_drewN ?_ _ | refine bel_set ?_ ?_ _ | refine After.out _ ?_ ?_) | (dsimp only; omega) | omega | (simp only [World.size_alloc, World.size_setCell, World.size_drew]; omega))))
set_option maxRecDepth 4000 in
set_option maxHeartbeats 2000000 in
theorem da_spec (R : List (List Pt)) (V : List Vw) (a b : Option Addr) (n c m d : Nat) (w : World) (hn : R.length = n) (hm : n ≤ 1048576) (ok : ∀ r ∈ R, r.length ≤ 1048576) (hr : RingsR w a R)
    (hn' : V.length = m) (hm' : m ≤ 1048576) (ok' : ∀ v ∈ V, VwOk v) (hr' : ViewsR w b V) :
    Calls Tryz.prog 37 #[.slice a n c, .slice b m d] w (Ret w (.tuple #[.int .i64 (daN R V), .int .i64 (drC R V)])) := by
  have CC := Lib.hid (fun (w : World) (hr : RingsR w a R) (hr' : ViewsR w b V) => sAreViews_any R V a b n c m d w hn hm ok hr hn' hm' ok' hr')
  replace hr := Lib.hid hr
  replace hr' := Lib.hid hr'
  cases hB : viewsB R V
  · have e1 : daN R V = 0 := by unfold daN; rw [hB]; rfl
    have e2 : drC R V = 1 := by unfold drC; rw [hB]; rfl
    rw [e1, e2]
    rw [hB] at CC
    clear e1 e2 hB ok ok'
    go_enter Tryz.func37, Tryz.ntmps37
    go_wp2_with fail
    with_reducible refine (CC.out _ (hr.out.bel (by (repeat (first | (with_reducible first | exact Below.refl _ _ | assumption | refine Later.out _ ?_ | refine bel_alloc ?_ _ | refine bel_drew ?_ | refine bel_drewN ?_ _ | refine bel_set ?_ ?_ _ | refine After.out _ ?_ ?_) | (dsimp only; omega) | omega | (simp only [World.size_alloc, World.size_setCell, World.size_drew]; omega))))) (hr'.out.bel (by (repeat (first | (with_reducible first | exact Below.refl _ _ | assumption | refine Later.out _ ?_ | refine bel_alloc ?_ _ | refine bel_drew ?_ | refine bel_drewN ?_ _ | refine bel_set ?_ ?_ _ | refine After.out _ ?_ ?_) | (dsimp only; omega) | omega | (simp only [World.size_alloc, World.size_setCell, World.size_drew]; omega)))))).mono ?_
    rintro e w' ⟨rfl, y1, rfl⟩
    have hsy1 := y1.bel.size
    (try simp only [World.size_alloc, World.size_setCell, World.size_drew] at hsy1)
    go_wp2_with fail
    refine bodyPost_ret (by simp [results, Tryz.results37, go_sem, ↓IntWalk.iteOmega, *]; try rfl) rfl ?_
    exact .mk rfl (by (repeat (first | (with_reducible first | exact Below.refl _ _ | assumption | refine Later.out _ ?_ | refine bel_alloc ?_ _ | refine bel_drew ?_ | refine bel_drewN ?_ _ | refine bel_set ?_ ?_ _ | refine After.out _ ?_ ?_) | (dsimp only; omega) | omega | (simp only [World.size_alloc, World.size_setCell, World.size_drew]; omega))))
  · subst hn
    have h6 := mapB_len (viewsB_map hB)
    have hR := mapB_rings (viewsB_map hB)
    have CD := Lib.hid (fun (i : Nat) (hi : i < R.length) (w : World) (hr' : ViewsR w b V) => sDisputed_any V i b m d R.length w (viewsB_ok hB) hi (by omega) hn' hr')
    have CA := Lib.hid (fun (k : Nat) (hk : k < R.length) (ak : Option Addr) (ck : Nat) (w : World) (hr : Row w ak (ptsCells R[k])) => l18Area_any R[k] ak R[k].length ck w rfl (hR _ (List.getElem_mem hk)) hr)
    have hbd := Lib.hid (fun k hk => arTo_bd (p := dispB V) hR k hk)
    have hab := Lib.hid (fun (k : Nat) (h : k < R.length) => aRing_bd (hR _ (List.getElem_mem h)))
    have hY := Lib.hid (fun (k : Nat) h => arTo_yes (R := R) (p := dispB V) (k := k) h)
    have hN := Lib.hid (fun (k : Nat) h => arTo_no (R := R) (p := dispB V) (k := k) h)
    have h0 := Lib.hid (show arTo R (dispB V) 0 = 0 from rfl)
    have e1 : daN R V = arTo R (dispB V) R.length := by unfold daN; rw [hB]; rfl
    have e2 : drC R V = 0 := by unfold drC; rw [hB]; rfl
    rw [e1, e2]
    rw [hB] at CC
    generalize arTo R (dispB V) = AR at *
    clear e1 e2 hB ok ok' hR
    go_enter Tryz.func37, Tryz.ntmps37
    go_wp2_with fail
    with_reducible refine (CC.out _ (hr.out.bel (by (repeat (first | (with_reducible first | exact Below.refl _ _ | assumption | refine Later.out _ ?_ | refine bel_alloc ?_ _ | refine bel_drew ?_ | refine bel_drewN ?_ _ | refine bel_set ?_ ?_ _ | refine After.out _ ?_ ?_) | (dsimp only; omega) | omega | (simp only [World.size_alloc, World.size_setCell, World.size_drew]; omega))))) (hr'.out.bel (by (repeat (first | (with_reducible first | exact Below.refl _ _ | assumption | refine Later.out _ ?_ | refine bel_alloc ?_ _ | refine bel_drew ?_ | refine bel_drewN ?_ _ | refine bel_set ?_ ?_ _ | refine After.out _ ?_ ?_) | (dsimp only; omega) | omega | (simp only [World.size_alloc, World.size_setCell, World.size_drew]; omega)))))).mono ?_
    rintro e w' ⟨rfl, y1, rfl⟩
    have hsy1 := y1.bel.size
    (try simp only [World.size_alloc, World.size_setCell, World.size_drew] at hsy1)
    go_wp2_with fail
    go_loopw [6, 7] (fun t6 t7 wr => ∃ k : Nat, k ≤ R.length ∧ t7 = .int .i64 k ∧ t6 = .int .i64 (AR k) ∧ ∃ z : Later w, wr = z.w) (fun _ t7 _ => R.length - (intOf t7).toNat)
    case atStart => exact ⟨0, Nat.zero_le _, rfl, by rw [h0.out], LaterC.mk (by (repeat (first | (with_reducible first | exact Below.refl _ _ | assumption | refine Later.out _ ?_ | refine bel_alloc ?_ _ | refine bel_drew ?_ | refine bel_drewN ?_ _ | refine bel_set ?_ ?_ _ | refine After.out _ ?_ ?_) | (dsimp only; omega) | omega | (simp only [World.size_alloc, World.size_setCell, World.size_drew]; omega))))⟩
    case round =>
      obtain ⟨k, hk, rfl, rfl, z, rfl⟩ := hrel
      have hzz := z.bel.size
      obtain ⟨bd1, bd2⟩ := hbd.out k hk
      by_cases hlt : k < R.length
      · have hk1 : (k : Int) < (R.length : Int) := by omega
        obtain ⟨b5, o5, ak, ck, rfl, hb5, s0, s1, -, -⟩ := hr.out.at_ hlt
        have CDk := Lib.hid (CD.out k hlt)
        have CK := Lib.hid (fun (w : World) (hr : Row w ak (ptsCells R[k])) => CA.out k hlt ak ck w hr)
        obtain ⟨m1, m2⟩ := hab.out k hlt
        have Y := hY.out k
        have N := hN.out k
        have eg2 : R.getD k [] = R[k] := by simp [hlt]
        rw [eg2] at Y
        generalize aRing R[k] = A at *
        replace s1 := Lib.hid s1
        have z5 : b5 < z.w.heap.size := by omega
        go_wp2_with fail
        with_reducible refine (CDk.out _ (hr'.out.bel (by (repeat (first | (with_reducible first | exact Below.refl _ _ | assumption | refine Later.out _ ?_ | refine bel_alloc ?_ _ | refine bel_drew ?_ | refine bel_drewN ?_ _ | refine bel_set ?_ ?_ _ | refine After.out _ ?_ ?_) | (dsimp only; omega) | omega | (simp only [World.size_alloc, World.size_setCell, World.size_drew]; omega)))))).mono ?_
        rintro e w' ⟨rfl, y2, rfl⟩
        have hsy2 := y2.bel.size
        (try simp only [World.size_alloc, World.size_setCell, World.size_drew] at hsy2)
        have z6 : b5 < y2.w.heap.size := by omega
        cases hd : dispB V k
        · have X := Lib.hid (N hd)
          clear Y N
          go_wp2_with fail
          go_roundw
          case rel => exact ⟨k + 1, by omega, by go_num, by rw [X.out], LaterC.mk (by (repeat (first | (with_reducible first | exact Below.refl _ _ | assumption | refine Later.out _ ?_ | refine bel_alloc ?_ _ | refine bel_drew ?_ | refine bel_drewN ?_ _ | refine bel_set ?_ ?_ _ | refine After.out _ ?_ ?_) | (dsimp only; omega) | omega | (simp only [World.size_alloc, World.size_setCell, World.size_drew]; omega))))⟩
          case measure => first | (simp [intOf]; done) | (simp [intOf]; omega) | omega
        · have X := Lib.hid (Y hd)
          clear Y N
          go_wp2_with fail
          with_reducible refine (CK.out _ (s1.out.bel (by (repeat (first | (with_reducible first | exact Below.refl _ _ | assumption | refine Later.out _ ?_ | refine bel_alloc ?_ _ | refine bel_drew ?_ | refine bel_drewN ?_ _ | refine bel_set ?_ ?_ _ | refine After.out _ ?_ ?_) | (dsimp only; omega) | omega | (simp only [World.size_alloc, World.size_setCell, World.size_drew]; omega)))))).mono ?_
          rintro e w' ⟨rfl, y3, rfl⟩
          have hsy3 := y3.bel.size
          (try simp only [World.size_alloc, World.size_setCell, World.size_drew] at hsy3)
          go_wp2_with fail
          go_roundw
          case rel => exact ⟨k + 1, by omega, by go_num, by rw [X.out], LaterC.mk (by (repeat (first | (with_reducible first | exact Below.refl _ _ | assumption | refine Later.out _ ?_ | refine bel_alloc ?_ _ | refine bel_drew ?_ | refine bel_drewN ?_ _ | refine bel_set ?_ ?_ _ | refine After.out _ ?_ ?_) | (dsimp only; omega) | omega | (simp only [World.size_alloc, World.size_setCell, World.size_drew]; omega))))⟩
          case measure => first | (simp [intOf]; done) | (simp [intOf]; omega) | omega
      · obtain rfl : k = R.length := by omega
        go_wp2_with fail
        refine bodyPost_ret (by simp [results, Tryz.results37, go_sem, ↓IntWalk.iteOmega, *]; try rfl) rfl ?_
        exact .mk rfl (by (repeat (first | (with_reducible first | exact Below.refl _ _ | assumption | refine Later.out _ ?_ | refine bel_alloc ?_ _ | refine bel_drew ?_ | refine bel_drewN ?_ _ | refine bel_set ?_ ?_ _ | refine After.out _ ?_ ?_) | (dsimp only; omega) | omega | (simp only [World.size_alloc, World.size_setCell, World.size_drew]; omega))))
end Go.Proofs.YtklcaphkfdlipaaGreatDoor
