import Derived.Test.YtpblghjegbfjeaaPts
import Derived.Test.YtpblghjegbfjeaaMaskB
/- The laws' copies of slices of points: size, copy, comparison, marks. -/
set_option linter.unusedSimpArgs false
set_option linter.unusedVariables false
namespace Go.Proofs.Ytpblghjegbfjeaa
open Go.RowKit
theorem szPointS_any (a : Option Addr) (n c : Nat) (left : Int) (w : World) (hm : n ≤ maxLen) (h3 : 0 ≤ left) (h4 : left ≤ 1048576) :
    Calls Try.prog 42 #[.slice a n c, .int .i64 left] w (Ret w (.int .i64 (if left - n < 0 then -1 else left - n))) := by
  unfold maxLen at hm
  by_cases h : left - n < 0
  · rw [if_pos h]
    have h1 : decide (left - n < 0) = true := by simpa using h
    go_enter Try.func42, Try.ntmps42
    go_wp2_with fail
    go_ret
    exact .mk rfl (by (repeat (first | (with_reducible exact Below.refl _ _) | (with_reducible assumption) | (with_reducible refine Later.out _ ?_) | (with_reducible refine bel_alloc ?_ _) | (with_reducible refine bel_drew ?_) | (with_reducible refine bel_drewN ?_ _) | (with_reducible refine bel_set ?_ ?_ _) | (with_reducible refine After.out _ ?_ ?_) | (dsimp only; omega) | omega | (simp only [World.size_alloc, World.size_setCell, World.size_drew]; omega))))
  · rw [if_neg h]
    have h1 : decide (left - n < 0) = false := by simpa using h
    go_enter Try.func42, Try.ntmps42
    go_wp2_with fail
    go_ret
    exact .mk rfl (by (repeat (first | (with_reducible exact Below.refl _ _) | (with_reducible assumption) | (with_reducible refine Later.out _ ?_) | (with_reducible refine bel_alloc ?_ _) | (with_reducible refine bel_drew ?_) | (with_reducible refine bel_drewN ?_ _) | (with_reducible refine bel_set ?_ ?_ _) | (with_reducible refine After.out _ ?_ ?_) | (dsimp only; omega) | omega | (simp only [World.size_alloc, World.size_setCell, World.size_drew]; omega))))
theorem info_pt : (Try.prog.info? 29).map (fun i => (i.zero, i.size, i.bytes)) = some (some (.agg #[.int .i64 0, .int .i64 0]), 2, 16) := by kernel_rfl
theorem ptsCells_append (L M : List Pt) : ptsCells (L ++ M) = ptsCells L ++ ptsCells M := by simp [ptsCells]
/-- `k` points are done, the others are as they were made. -/
def ptPart (L : List Pt) (k : Nat) : List Value := ptsCells (L.take k) ++ ptsCells (List.replicate (L.length - k) ⟨0, 0⟩)
theorem ptPart_full (L : List Pt) : ptPart L L.length = ptsCells L := by simp [ptPart, ptsCells]
theorem length_ptPart (L : List Pt) (k : Nat) (h : k ≤ L.length) : (ptPart L k).length = L.length * 2 := by
  simp only [ptPart, List.length_append, length_ptsCells, List.length_take, List.length_replicate]
  omega
theorem set_right {α : Type} {A B : List α} {m i : Nat} {x : α} (h : A.length = m) : (A ++ B).set (m + i) x = A ++ B.set i x := by
  rw [List.set_append_right _ _ (by omega), h, Nat.add_sub_cancel_left]
theorem ptPart_step (L : List Pt) (k : Nat) (h : k < L.length) : ((ptPart L k).set (k * 2) (.int .i64 L[k].x)).set (k * 2 + 1) (.int .i64 L[k].y) = ptPart L (k + 1) := by
  have e : L.length - k = (L.length - (k + 1)) + 1 := by omega
  have hl : (ptsCells (L.take k)).length = k * 2 := by rw [length_ptsCells, List.length_take, Nat.min_eq_left (by omega)]
  have h0 := fun (B : List Value) (x : Value) => set_right (A := ptsCells (L.take k)) (B := B) (i := 0) (x := x) hl
  simp only [Nat.add_zero] at h0
  unfold ptPart
  rw [e, List.replicate_succ, h0, set_right hl, List.take_succ_eq_append_getElem h, ptsCells_append, List.append_assoc]
  rfl
theorem ptPart_made (L : List Pt) : ptPart L 0 = (madeCells #[.int .i64 0, .int .i64 0] (L.length * 2)).toList := by
  have e : ptPart L 0 = ptsCells (List.replicate L.length ⟨0, 0⟩) := by simp [ptPart, ptsCells]
  rw [e]
  apply List.ext_getElem?
  intro j
  by_cases hj : j < L.length * 2
  · have hd : j / 2 < (List.replicate L.length (⟨0, 0⟩ : Pt)).length := by rw [List.length_replicate]; omega
    have hm : j % 2 < 2 := Nat.mod_lt _ (by omega)
    have hz : ∀ i, i < 2 → (ptCells ⟨0, 0⟩)[i]? = some (#[Value.int .i64 0, .int .i64 0][i]!) := by
      intro i hi
      rcases (show i = 0 ∨ i = 1 by omega) with rfl | rfl <;> rfl
    have h1 := pts_get hd (i := j % 2) (v := #[Value.int .i64 0, .int .i64 0][j % 2]!) (by rw [List.getElem_replicate]; exact hz _ hm)
    rw [show j / 2 * 2 + j % 2 = j by omega] at h1
    rw [h1]
    simp [madeCells, hj]
  · rw [List.getElem?_eq_none (by rw [length_ptsCells, List.length_replicate]; omega), List.getElem?_eq_none (by simp [madeCells]; omega)]
theorem run_make_k {P : Program} (t e : TypeId) (z : Value) (size bytes : Nat) (ht : P.underlying t = some (.slice e)) (hinfo : (P.info? e).map (fun i => (i.zero, i.size, i.bytes)) = some (some z, size, bytes))
    (kl kc : IntKind) (n : Nat) (hbytes : bytes * n ≤ 281474976710656) (h63 : n ≤ 9223372036854775807) (w : World) :
    (Instr.makeSlice t (.int kl (n : Int)) (.int kc (n : Int))).run P w = .ok (.slice (some ⟨w.heap.size, 0, none⟩) n n) (w.alloc (.cells (madeCells z.cells (n * size)) e)) := by
  obtain ⟨i, hi, hzz⟩ := Option.map_eq_some_iff.1 hinfo
  simp only [Prod.mk.injEq] at hzz
  obtain ⟨hz, hs, hb⟩ := hzz
  have hb' : (i.bytes : Int) * (n : Int) ≤ 281474976710656 := by
    have h : ((i.bytes * n : Nat) : Int) ≤ 281474976710656 := by rw [hb]; omega
    rwa [Int.natCast_mul] at h
  have hr := run_make (P := P) w t e i z ht hi hz kl kc n n (by omega) (Int.le_refl _) hb' (by omega)
  simp only [Int.toNat_natCast, hs] at hr
  exact hr
set_option maxRecDepth 4000 in
set_option maxHeartbeats 1000000 in
theorem toPointS_any (L : List Pt) (a : Option Addr) (n c : Nat) (w : World) (hn : L.length = n) (hm : n ≤ 1048576) (hr : Row w a (ptsCells L)) :
    Calls Try.prog 44 #[.slice a n c] w (RetOwn w 29 2 n (ptsCells L) id) := by
  subst hn
  have hmk := run_make_k (P := Try.prog) 58 29 (.agg #[.int .i64 0, .int .i64 0]) 2 16 Try.underlying58 info_pt .i64 .i64 L.length (by omega) (by omega)
  have hown0 := World.ownsRow_lit (base := w.heap.size) (e := 29) (size := 2) w (madeCells #[.int .i64 0, .int .i64 0] (L.length * 2)) L.length (Nat.le_refl _) (by unfold maxLen; omega) (by simp [size_madeCells])
  rw [← ptPart_made] at hown0
  replace hr := Lib.hid hr
  have HO := Lib.hid hown0
  clear hown0
  go_enter Try.func44, Try.ntmps44
  go_wp2_with fail
  clear hmk
  go_loopw [4] (fun i wr => ∃ k : Nat, k ≤ L.length ∧ i = .int .i64 k ∧ wr.ownsRow w.heap.size 29 2 (.slice (some ⟨w.heap.size, 0, none⟩) L.length L.length) L.length (ptPart L k) ∧ ∃ z : Later w, wr = z.w) (fun i _ => L.length - (intOf i).toNat)
  case atStart => exact ⟨0, Nat.zero_le _, rfl, HO.out, ⟨_, bel_alloc (Below.refl _ _) _⟩, rfl⟩
  case round =>
    obtain ⟨k, hk, rfl, hown, z, rfl⟩ := hrel
    by_cases hlt : k < L.length
    · obtain ⟨b, o, rfl, hb, q0, q1⟩ := hr.out.pt hlt
      have hws : w.heap.size < z.w.heap.size := (hown.lt w.heap.size rfl).2
      have hl := length_ptPart L k hk
      have hcell : ∀ i, i < 2 → ∃ u, z.w.cell? ⟨w.heap.size, k * 2 + i, none⟩ = some u := fun i hi => ⟨_, (hown.cellAt (k * 2 + i) (by omega)).trans (List.getElem?_eq_getElem (by omega))⟩
      obtain ⟨u0, r0⟩ := hcell 0 (by omega)
      obtain ⟨u1, r1⟩ := hcell 1 (by omega)
      rw [Nat.add_zero] at r0
      have f0 := hown.frozenAt (k * 2)
      have f1 := hown.frozenAt (k * 2 + 1)
      have HOW := Lib.hid hown
      clear hown hcell
      go_wp2_with fail
      with_reducible refine (toPoint_any L[k].x L[k].y _).mono ?_
      rintro e w' ⟨rfl, y1, rfl⟩
      have hsy1 := y1.bel.size
      (try simp only [World.size_alloc, World.size_setCell, World.size_drew] at hsy1)
      go_wp2_with fail
      have hst := (((own_bel HOW.out y1.bel).stored (k * 2) (.int .i64 L[k].x)).1.stored (k * 2 + 1) (.int .i64 L[k].y)).1
      rw [ptPart_step L k hlt] at hst
      replace hst := Lib.hid hst
      go_roundw
      case rel =>
        refine ⟨k + 1, by omega, by go_num, hst.out, LaterC.mk ?_⟩
        (repeat (first | (with_reducible exact Below.refl _ _) | (with_reducible assumption) | (with_reducible refine Later.out _ ?_) | (with_reducible refine bel_alloc ?_ _) | (with_reducible refine bel_drew ?_) | (with_reducible refine bel_drewN ?_ _) | (with_reducible refine bel_set ?_ ?_ _) | (with_reducible refine After.out _ ?_ ?_) | (dsimp only; omega) | omega | (simp only [World.size_alloc, World.size_setCell, World.size_drew]; omega)))
      case measure => first | (simp [intOf]; done) | (simp [intOf]; omega) | omega
    · obtain rfl : k = L.length := by omega
      rw [ptPart_full] at hown
      replace hown := Lib.hid hown
      go_wp2_with fail
      go_ret
      exact .mk _ rfl hown.out z.bel
set_option maxHeartbeats 1000000 in
theorem eqPoint_same (x y : Int) (w : World) : Calls Try.prog 61 #[.agg #[.int .i64 x, .int .i64 y], .agg #[.int .i64 x, .int .i64 y]] w (Ret w (.bool true)) := by
  go_enter Try.func61, Try.ntmps61
  go_wp2_with fail
  go_ret
  exact .mk rfl (by (repeat (first | (with_reducible exact Below.refl _ _) | (with_reducible assumption) | (with_reducible refine Later.out _ ?_) | (with_reducible refine bel_alloc ?_ _) | (with_reducible refine bel_drew ?_) | (with_reducible refine bel_drewN ?_ _) | (with_reducible refine bel_set ?_ ?_ _) | (with_reducible refine After.out _ ?_ ?_) | (dsimp only; omega) | omega | (simp only [World.size_alloc, World.size_setCell, World.size_drew]; omega))))
set_option maxHeartbeats 1000000 in
theorem eqPointS_same (L : List Pt) (a a' : Option Addr) (n c n' c' : Nat) (w : World) (hn : L.length = n) (hn' : L.length = n') (hm : n ≤ 1048576) (hr : Row w a (ptsCells L)) (hr' : Row w a' (ptsCells L)) :
    Calls Try.prog 46 #[.slice a n c, .slice a' n' c'] w (Ret w (.bool true)) := by
  subst hn
  subst hn'
  replace hr := Lib.hid hr
  replace hr' := Lib.hid hr'
  go_enter Try.func46, Try.ntmps46
  go_wp2_with fail
  go_loopw [5] (fun i wr => ∃ k : Nat, k ≤ L.length ∧ i = .int .i64 k ∧ ∃ z : Later w, wr = z.w) (fun i _ => L.length - (intOf i).toNat)
  case atStart => exact ⟨0, Nat.zero_le _, rfl, ⟨_, Below.refl _ _⟩, rfl⟩
  case round =>
    obtain ⟨k, hk, rfl, z, rfl⟩ := hrel
    by_cases hlt : k < L.length
    · obtain ⟨b, o, rfl, hb, q0, q1⟩ := hr.out.pt hlt
      obtain ⟨b', o', rfl, hb', s0, s1⟩ := hr'.out.pt hlt
      have hi1 : (k : Int) < (L.length : Int) := by omega
      have hzz := z.bel.size
      go_wp2_with fail
      refine wp_region_plan [(0, true), (1, true), (2, true), (3, true), (4, true), (5, true), (6, true), (7, true), (8, false), (9, true)] (C := LaterC _) (by kernel_rfl) (by kernel_rfl) (by kernel_rfl) rfl (fun _ _ d _ _ h => by cases d <;> exact h) (LaterC.mk ((Below.refl _ _).drew)) ?_
      first | (refine plan_quiet nth0 rfl ?_; intro KP hKP; go_big_quiet_op; go_big_quiet_on) | (refine plan_skip_q nth0 rfl rfl ?_; simp only [Act.put, List.setIfInBounds_toArray, List.set_cons_zero, List.set_cons_succ])
      first | (refine plan_quiet nth1 rfl ?_; intro KP hKP; go_big_quiet_op; go_big_quiet_on) | (refine plan_skip_q nth1 rfl rfl ?_; simp only [Act.put, List.setIfInBounds_toArray, List.set_cons_zero, List.set_cons_succ])
      first | (refine plan_quiet nth2 rfl ?_; intro KP hKP; go_big_quiet_op; go_big_quiet_on) | (refine plan_skip_q nth2 rfl rfl ?_; simp only [Act.put, List.setIfInBounds_toArray, List.set_cons_zero, List.set_cons_succ])
      first | (refine plan_quiet nth3 rfl ?_; intro KP hKP; go_big_quiet_op; go_big_quiet_on) | (refine plan_skip_q nth3 rfl rfl ?_; simp only [Act.put, List.setIfInBounds_toArray, List.set_cons_zero, List.set_cons_succ])
      first | (refine plan_quiet nth4 rfl ?_; intro KP hKP; go_big_quiet_op; go_big_quiet_on) | (refine plan_skip_q nth4 rfl rfl ?_; simp only [Act.put, List.setIfInBounds_toArray, List.set_cons_zero, List.set_cons_succ])
      first | (refine plan_quiet nth5 rfl ?_; intro KP hKP; go_big_quiet_op; go_big_quiet_on) | (refine plan_skip_q nth5 rfl rfl ?_; simp only [Act.put, List.setIfInBounds_toArray, List.set_cons_zero, List.set_cons_succ])
      first | (refine plan_quiet nth6 rfl ?_; intro KP hKP; go_big_quiet_op; go_big_quiet_on) | (refine plan_skip_q nth6 rfl rfl ?_; simp only [Act.put, List.setIfInBounds_toArray, List.set_cons_zero, List.set_cons_succ])
      first | (refine plan_quiet nth7 rfl ?_; intro KP hKP; go_big_quiet_op; go_big_quiet_on) | (refine plan_skip_q nth7 rfl rfl ?_; simp only [Act.put, List.setIfInBounds_toArray, List.set_cons_zero, List.set_cons_succ])
      first | (refine plan_loud nth8 rfl ?_; intro KP hKP; go_wp2_with (first | (go_at_call 61; first | ((with_reducible refine (Calls.later (eqPoint_same L[k].x L[k].y _)).mono ?_); rintro e w' ⟨rfl, xl, rfl⟩; have hsz := xl.bel.size; (try simp only [World.size_alloc, World.size_setCell, World.size_drew] at hsz); (try have hz0 : w.heap.size < xl.w.heap.size := (by omega)); (try have hz1 : w.heap.size + 1 < xl.w.heap.size := (by omega)); (try have hz2 : w.heap.size + 1 + 1 < xl.w.heap.size := (by omega))) | ((with_reducible refine (eqPoint_same L[k].x L[k].y _).mono ?_); rintro e w' ⟨rfl, xl, rfl⟩; have hsz := xl.bel.size; (try simp only [World.size_alloc, World.size_setCell, World.size_drew] at hsz); (try have hz0 : w.heap.size < xl.w.heap.size := (by omega)); (try have hz1 : w.heap.size + 1 < xl.w.heap.size := (by omega)); (try have hz2 : w.heap.size + 1 + 1 < xl.w.heap.size := (by omega))))); refine hKP _ _ (LaterC.mk (by (repeat (first | (with_reducible exact Below.refl _ _) | (with_reducible assumption) | (with_reducible refine Later.out _ ?_) | (with_reducible refine bel_alloc ?_ _) | (with_reducible refine bel_drew ?_) | (with_reducible refine bel_drewN ?_ _) | (with_reducible refine bel_set ?_ ?_ _) | (with_reducible refine After.out _ ?_ ?_) | (dsimp only; omega) | omega | (simp only [World.size_alloc, World.size_setCell, World.size_drew]; omega))))) ?_; clear hKP KP) | (refine plan_skip nth8 rfl rfl (LaterC.mk (by (repeat (first | (with_reducible exact Below.refl _ _) | (with_reducible assumption) | (with_reducible refine Later.out _ ?_) | (with_reducible refine bel_alloc ?_ _) | (with_reducible refine bel_drew ?_) | (with_reducible refine bel_drewN ?_ _) | (with_reducible refine bel_set ?_ ?_ _) | (with_reducible refine After.out _ ?_ ?_) | (dsimp only; omega) | omega | (simp only [World.size_alloc, World.size_setCell, World.size_drew]; omega))))) ?_; simp only [Act.put, List.setIfInBounds_toArray, List.set_cons_zero, List.set_cons_succ])
      first | (refine plan_quiet nth9 rfl ?_; intro KP hKP; go_big_quiet_op; go_big_quiet_on) | (refine plan_skip_q nth9 rfl rfl ?_; simp only [Act.put, List.setIfInBounds_toArray, List.set_cons_zero, List.set_cons_succ])
      refine plan_nil ?_
      go_wp2_with fail
      go_roundw
      case rel => exact ⟨k + 1, by omega, by go_num, ⟨_, by (repeat (first | (with_reducible exact Below.refl _ _) | (with_reducible assumption) | (with_reducible refine Later.out _ ?_) | (with_reducible refine bel_alloc ?_ _) | (with_reducible refine bel_drew ?_) | (with_reducible refine bel_drewN ?_ _) | (with_reducible refine bel_set ?_ ?_ _) | (with_reducible refine After.out _ ?_ ?_) | (dsimp only; omega) | omega | (simp only [World.size_alloc, World.size_setCell, World.size_drew]; omega)))⟩, rfl⟩
      case measure => first | (simp [intOf]; done) | (simp [intOf]; omega) | omega
    · obtain rfl : k = L.length := by omega
      go_wp2_with fail
      go_ret
      exact .mk rfl (by (repeat (first | (with_reducible exact Below.refl _ _) | (with_reducible assumption) | (with_reducible refine Later.out _ ?_) | (with_reducible refine bel_alloc ?_ _) | (with_reducible refine bel_drew ?_) | (with_reducible refine bel_drewN ?_ _) | (with_reducible refine bel_set ?_ ?_ _) | (with_reducible refine After.out _ ?_ ?_) | (dsimp only; omega) | omega | (simp only [World.size_alloc, World.size_setCell, World.size_drew]; omega))))
/-- The call wrote over a slice of the caller's own, and nothing else. -/
def RetMarkP (w : World) (lo hi E n : Nat) (a : Option Addr) (c : Nat) (v : Value) (e : Ending) (w' : World) : Prop :=
  e = .returned v ∧ ∃ z : After w lo hi, w' = z.w ∧ ∃ ys, Owns z.w lo hi E 2 n a c ys
set_option maxHeartbeats 1000000 in
theorem markPointS_any (a : Option Addr) (n c lo hi : Nat) (k : Int) (xs : List Value) (w : World) (h : Owns w lo hi 29 2 n a c xs) (hm : n ≤ 1048576) (hk : 0 ≤ k) (hk' : k ≤ 1099511627776) :
    Calls Try.prog 47 #[.slice a n c, .int .i64 k] w (RetMarkP w lo hi 29 n a c (.int .i64 (k + 2 * n))) := by
  have HO := Lib.hid h
  clear h
  go_enter Try.func47, Try.ntmps47
  go_wp2_with fail
  go_loopw [1, 5] (fun kk i wr => ∃ j : Nat, j ≤ n ∧ i = .int .i64 j ∧ kk = .int .i64 (k + 2 * j) ∧ Between lo hi w wr ∧ ∃ ys, Owns wr lo hi 29 2 n a c ys) (fun _ i _ => n - (intOf i).toNat)
  case atStart => exact ⟨0, Nat.zero_le _, rfl, by simp, Between.refl _ _ _, ⟨_, HO.out⟩⟩
  case round =>
    obtain ⟨j, hj, rfl, rfl, hb, ys, ho⟩ := hrel
    by_cases hlt : j < n
    · have hl : ys.length = n * 2 := ho.own.1
      obtain ⟨g, rfl, g1, g2, hc, hf⟩ := ho.at_ (j := j * 2) (by omega)
      obtain ⟨g', he, -, -, hc', hf'⟩ := ho.at_ (j := j * 2 + 1) (by omega)
      cases he
      obtain ⟨u, hu⟩ : ∃ u, ys[j * 2]? = some u := ⟨_, List.getElem?_eq_getElem (by omega)⟩
      obtain ⟨u', hu'⟩ : ∃ u, ys[j * 2 + 1]? = some u := ⟨_, List.getElem?_eq_getElem (by omega)⟩
      rw [hu] at hc
      rw [hu'] at hc'
      have HS := Lib.hid ho
      have HB := Lib.hid hb
      clear hb ho hu hu'
      go_wp2_with fail
      go_roundw
      case rel => exact ⟨j + 1, by omega, by go_num, by go_num, (HB.out.set (p := ⟨g, j * 2, none⟩) g1 g2 _).set (p := ⟨g, j * 2 + 1, none⟩) g1 g2 _, ⟨_, (HS.out.set (j := j * 2) _).set (j := j * 2 + 1) _⟩⟩
      case measure => simp [intOf]; omega
    · obtain rfl : j = n := by omega
      have HB := Lib.hid hb
      have HO := Lib.hid ho
      clear hb ho
      go_wp2_with fail
      go_ret
      exact ⟨rfl, ⟨_, HB.out⟩, rfl, ⟨_, HO.out⟩⟩
end Go.Proofs.Ytpblghjegbfjeaa
