import Derived.Test.YtklcaphkfdlipaaGreatDoorPts
import Derived.Test.YtklcaphkfdlipaaGreatDoorPackVa
import Derived.Test.YtklcaphkfdlipaaGreatDoorPackVb
import Derived.Lib.SliceRun
import Derived.Lib.AppendZerosOnto
/- Several of my texts, one behind the other: PtS, OwnG, VwW, RgW, PtC, FunC. -/
/- The laws' copies of slices of points: size, copy, comparison, marks. -/
set_option linter.unusedSimpArgs false
set_option linter.unusedVariables false
namespace Go.Proofs.YtklcaphkfdlipaaGreatDoor
open Go.RowKit
theorem szPointS_any (a : Option Addr) (n c : Nat) (left : Int) (w : World) (hm : n ≤ maxLen) (h3 : 0 ≤ left) (h4 : left ≤ 1048576) :
    Calls Tryz.prog 54 #[.slice a n c, .int .i64 left] w (Ret w (.int .i64 (if left - n < 0 then -1 else left - n))) := by
  unfold maxLen at hm
  by_cases h : left - n < 0
  · rw [if_pos h]
    have h1 : decide (left - n < 0) = true := by simpa using h
    go_enter Tryz.func54, Tryz.ntmps54
    go_wp2_with fail
    go_ret
    exact .mk rfl (by (repeat (first | (with_reducible exact Below.refl _ _) | (with_reducible assumption) | (with_reducible refine Later.out _ ?_) | (with_reducible refine bel_alloc ?_ _) | (with_reducible refine bel_drew ?_) | (with_reducible refine bel_drewN ?_ _) | (with_reducible refine bel_set ?_ ?_ _) | (with_reducible refine After.out _ ?_ ?_) | (dsimp only; omega) | omega | (simp only [World.size_alloc, World.size_setCell, World.size_drew]; omega))))
  · rw [if_neg h]
    have h1 : decide (left - n < 0) = false := by simpa using h
    go_enter Tryz.func54, Tryz.ntmps54
    go_wp2_with fail
    go_ret
    exact .mk rfl (by (repeat (first | (with_reducible exact Below.refl _ _) | (with_reducible assumption) | (with_reducible refine Later.out _ ?_) | (with_reducible refine bel_alloc ?_ _) | (with_reducible refine bel_drew ?_) | (with_reducible refine bel_drewN ?_ _) | (with_reducible refine bel_set ?_ ?_ _) | (with_reducible refine After.out _ ?_ ?_) | (dsimp only; omega) | omega | (simp only [World.size_alloc, World.size_setCell, World.size_drew]; omega))))
theorem info_pt : (Tryz.prog.info? 72).map (fun i => (i.zero, i.size, i.bytes)) = some (some (.agg #[.int .i64 0, .int .i64 0]), 2, 16) := by kernel_rfl
theorem ptsCells_append (L M : List Pt) : ptsCells (L ++ M) = ptsCells L ++ ptsCells M := by simp [ptsCells]
/-- `k` points are done, the others are as they were made. -/
def ptPart (L : List Pt) (k : Nat) : List Value := ptsCells (L.take k) ++ ptsCells (List.replicate (L.length - k) ⟨0, 0⟩)
theorem ptPart_full (L : List Pt) : ptPart L L.length = ptsCells L := by simp [ptPart, ptsCells]
theorem length_ptPart (L : List Pt) (k : Nat) (h : k ≤ L.length) : (ptPart L k).length = L.length * 2 := by
  simp only [ptPart, List.length_append, length_ptsCells, List.length_take, List.length_replicate]
  omega
theorem set_right {α : Type} {A B : List α} {m i : Nat} {x : α} (h : A.length = m) : (A ++ B).set (m + i) x = A ++ B.set i x := by
  rw [List.set_append_right _ _ (by omega), h, Nat.add_sub_cancel_left]
theorem ptPart_step (L : List Pt) (k : Nat) (h : k < L.length) : ((ptPart L k).set (k * 2) (.int .i64 L[k].x)).set (k * 2 + 1) (.int .i64 L[k].y) = ptPart L (k + 1) := by
  have e : L.length - k = (L.length - (k + 1)) + 1 := by omega
  have hl : (ptsCells (L.take k)).length = k * 2 := by rw [length_ptsCells, List.length_take, Nat.min_eq_left (by omega)]
  have h0 := fun (B : List Value) (x : Value) => set_right (A := ptsCells (L.take k)) (B := B) (i := 0) (x := x) hl
  simp only [Nat.add_zero] at h0
  unfold ptPart
  rw [e, List.replicate_succ, h0, set_right hl, List.take_succ_eq_append_getElem h, ptsCells_append, List.append_assoc]
  rfl
theorem ptPart_made (L : List Pt) : ptPart L 0 = (madeCells #[.int .i64 0, .int .i64 0] (L.length * 2)).toList := by
  have e : ptPart L 0 = ptsCells (List.replicate L.length ⟨0, 0⟩) := by simp [ptPart, ptsCells]
  rw [e]
  apply List.ext_getElem?
  intro j
  by_cases hj : j < L.length * 2
  · have hd : j / 2 < (List.replicate L.length (⟨0, 0⟩ : Pt)).length := by rw [List.length_replicate]; omega
    have hm : j % 2 < 2 := Nat.mod_lt _ (by omega)
    have hz : ∀ i, i < 2 → (ptCells ⟨0, 0⟩)[i]? = some (#[Value.int .i64 0, .int .i64 0][i]!) := by
      intro i hi
      rcases (show i = 0 ∨ i = 1 by omega) with rfl | rfl <;> rfl
    have h1 := pts_get hd (i := j % 2) (v := #[Value.int .i64 0, .int .i64 0][j % 2]!) (by rw [List.getElem_replicate]; exact hz _ hm)
    rw [show j / 2 * 2 + j % 2 = j by omega] at h1
    rw [h1]
    simp [madeCells, hj]
  · rw [List.getElem?_eq_none (by rw [length_ptsCells, List.length_replicate]; omega), List.getElem?_eq_none (by simp [madeCells]; omega)]
theorem run_make_k {P : Program} (t e : TypeId) (z : Value) (size bytes : Nat) (ht : P.underlying t = some (.slice e)) (hinfo : (P.info? e).map (fun i => (i.zero, i.size, i.bytes)) = some (some z, size, bytes))
    (kl kc : IntKind) (n : Nat) (hbytes : bytes * n ≤ 281474976710656) (h63 : n ≤ 9223372036854775807) (w : World) :
    (Instr.makeSlice t (.int kl (n : Int)) (.int kc (n : Int))).run P w = .ok (.slice (some ⟨w.heap.size, 0, none⟩) n n) (w.alloc (.cells (madeCells z.cells (n * size)) e)) := by
  obtain ⟨i, hi, hzz⟩ := Option.map_eq_some_iff.1 hinfo
  simp only [Prod.mk.injEq] at hzz
  obtain ⟨hz, hs, hb⟩ := hzz
  have hb' : (i.bytes : Int) * (n : Int) ≤ 281474976710656 := by
    have h : ((i.bytes * n : Nat) : Int) ≤ 281474976710656 := by rw [hb]; omega
    rwa [Int.natCast_mul] at h
  have hr := run_make (P := P) w t e i z ht hi hz kl kc n n (by omega) (Int.le_refl _) hb' (by omega)
  simp only [Int.toNat_natCast, hs] at hr
  exact hr
set_option maxRecDepth 4000 in
set_option maxHeartbeats 1000000 in
theorem toPointS_any (L : List Pt) (a : Option Addr) (n c : Nat) (w : World) (hn : L.length = n) (hm : n ≤ 1048576) (hr : Row w a (ptsCells L)) :
    Calls Tryz.prog 58 #[.slice a n c] w (RetOwn w 72 2 n (ptsCells L) id) := by
  subst hn
  have hmk := run_make_k (P := Tryz.prog) 83 72 (.agg #[.int .i64 0, .int .i64 0]) 2 16 Tryz.underlying83 info_pt .i64 .i64 L.length (by omega) (by omega)
  have hown0 := World.ownsRow_lit (base := w.heap.size) (e := 72) (size := 2) w (madeCells #[.int .i64 0, .int .i64 0] (L.length * 2)) L.length (Nat.le_refl _) (by unfold maxLen; omega) (by simp [size_madeCells])
  rw [← ptPart_made] at hown0
  replace hr := Lib.hid hr
  have HO := Lib.hid hown0
  clear hown0
  go_enter Tryz.func58, Tryz.ntmps58
  go_wp2_with fail
  clear hmk
  go_loopw [4] (fun i wr => ∃ k : Nat, k ≤ L.length ∧ i = .int .i64 k ∧ wr.ownsRow w.heap.size 72 2 (.slice (some ⟨w.heap.size, 0, none⟩) L.length L.length) L.length (ptPart L k) ∧ ∃ z : Later w, wr = z.w) (fun i _ => L.length - (intOf i).toNat)
  case atStart => exact ⟨0, Nat.zero_le _, rfl, HO.out, ⟨_, bel_alloc (Below.refl _ _) _⟩, rfl⟩
  case round =>
    obtain ⟨k, hk, rfl, hown, z, rfl⟩ := hrel
    by_cases hlt : k < L.length
    · obtain ⟨b, o, rfl, hb, q0, q1⟩ := hr.out.pt hlt
      have hws : w.heap.size < z.w.heap.size := (hown.lt w.heap.size rfl).2
      have hl := length_ptPart L k hk
      have hcell : ∀ i, i < 2 → ∃ u, z.w.cell? ⟨w.heap.size, k * 2 + i, none⟩ = some u := fun i hi => ⟨_, (hown.cellAt (k * 2 + i) (by omega)).trans (List.getElem?_eq_getElem (by omega))⟩
      obtain ⟨u0, r0⟩ := hcell 0 (by omega)
      obtain ⟨u1, r1⟩ := hcell 1 (by omega)
      rw [Nat.add_zero] at r0
      have f0 := hown.frozenAt (k * 2)
      have f1 := hown.frozenAt (k * 2 + 1)
      have HOW := Lib.hid hown
      clear hown hcell
      go_wp2_with fail
      with_reducible refine (toPoint_any L[k].x L[k].y _).mono ?_
      rintro e w' ⟨rfl, y1, rfl⟩
      have hsy1 := y1.bel.size
      (try simp only [World.size_alloc, World.size_setCell, World.size_drew] at hsy1)
      go_wp2_with fail
      have hst := (((own_bel HOW.out y1.bel).stored (k * 2) (.int .i64 L[k].x)).1.stored (k * 2 + 1) (.int .i64 L[k].y)).1
      rw [ptPart_step L k hlt] at hst
      replace hst := Lib.hid hst
      go_roundw
      case rel =>
        refine ⟨k + 1, by omega, by go_num, hst.out, LaterC.mk ?_⟩
        (repeat (first | (with_reducible exact Below.refl _ _) | (with_reducible assumption) | (with_reducible refine Later.out _ ?_) | (with_reducible refine bel_alloc ?_ _) | (with_reducible refine bel_drew ?_) | (with_reducible refine bel_drewN ?_ _) | (with_reducible refine bel_set ?_ ?_ _) | (with_reducible refine After.out _ ?_ ?_) | (dsimp only; omega) | omega | (simp only [World.size_alloc, World.size_setCell, World.size_drew]; omega)))
      case measure => first | (simp [intOf]; done) | (simp [intOf]; omega) | omega
    · obtain rfl : k = L.length := by omega
      rw [ptPart_full] at hown
      replace hown := Lib.hid hown
      go_wp2_with fail
      go_ret
      exact .mk _ rfl hown.out z.bel
set_option maxHeartbeats 1000000 in
theorem eqPoint_same (x y : Int) (w : World) : Calls Tryz.prog 110 #[.agg #[.int .i64 x, .int .i64 y], .agg #[.int .i64 x, .int .i64 y]] w (Ret w (.bool true)) := by
  go_enter Tryz.func110, Tryz.ntmps110
  go_wp2_with fail
  go_ret
  exact .mk rfl (by (repeat (first | (with_reducible exact Below.refl _ _) | (with_reducible assumption) | (with_reducible refine Later.out _ ?_) | (with_reducible refine bel_alloc ?_ _) | (with_reducible refine bel_drew ?_) | (with_reducible refine bel_drewN ?_ _) | (with_reducible refine bel_set ?_ ?_ _) | (with_reducible refine After.out _ ?_ ?_) | (dsimp only; omega) | omega | (simp only [World.size_alloc, World.size_setCell, World.size_drew]; omega))))
set_option maxHeartbeats 1000000 in
theorem eqPointS_same (L : List Pt) (a a' : Option Addr) (n c n' c' : Nat) (w : World) (hn : L.length = n) (hn' : L.length = n') (hm : n ≤ 1048576) (hr : Row w a (ptsCells L)) (hr' : Row w a' (ptsCells L)) :
    Calls Tryz.prog 62 #[.slice a n c, .slice a' n' c'] w (Ret w (.bool true)) := by
  subst hn
  subst hn'
  replace hr := Lib.hid hr
  replace hr' := Lib.hid hr'
  go_enter Tryz.func62, Tryz.ntmps62
  go_wp2_with fail
  go_loopw [5] (fun i wr => ∃ k : Nat, k ≤ L.length ∧ i = .int .i64 k ∧ ∃ z : Later w, wr = z.w) (fun i _ => L.length - (intOf i).toNat)
  case atStart => exact ⟨0, Nat.zero_le _, rfl, ⟨_, Below.refl _ _⟩, rfl⟩
  case round =>
    obtain ⟨k, hk, rfl, z, rfl⟩ := hrel
    by_cases hlt : k < L.length
    · obtain ⟨b, o, rfl, hb, q0, q1⟩ := hr.out.pt hlt
      obtain ⟨b', o', rfl, hb', s0, s1⟩ := hr'.out.pt hlt
      have hi1 : (k : Int) < (L.length : Int) := by omega
      have hzz := z.bel.size
      go_wp2_with fail
      refine wp_region_plan [(0, true), (1, true), (2, true), (3, true), (4, true), (5, true), (6, true), (7, true), (8, false), (9, true)] (C := LaterC _) (by kernel_rfl) (by kernel_rfl) (by kernel_rfl) rfl (fun _ _ d _ _ h => by cases d <;> exact h) (LaterC.mk ((Below.refl _ _).drew)) ?_
      first | (refine plan_quiet nth0 rfl ?_; intro KP hKP; go_big_quiet_op; go_big_quiet_on) | (refine plan_skip_q nth0 rfl rfl ?_; simp only [Act.put, List.setIfInBounds_toArray, List.set_cons_zero, List.set_cons_succ])
      first | (refine plan_quiet nth1 rfl ?_; intro KP hKP; go_big_quiet_op; go_big_quiet_on) | (refine plan_skip_q nth1 rfl rfl ?_; simp only [Act.put, List.setIfInBounds_toArray, List.set_cons_zero, List.set_cons_succ])
      first | (refine plan_quiet nth2 rfl ?_; intro KP hKP; go_big_quiet_op; go_big_quiet_on) | (refine plan_skip_q nth2 rfl rfl ?_; simp only [Act.put, List.setIfInBounds_toArray, List.set_cons_zero, List.set_cons_succ])
      first | (refine plan_quiet nth3 rfl ?_; intro KP hKP; go_big_quiet_op; go_big_quiet_on) | (refine plan_skip_q nth3 rfl rfl ?_; simp only [Act.put, List.setIfInBounds_toArray, List.set_cons_zero, List.set_cons_succ])
      first | (refine plan_quiet nth4 rfl ?_; intro KP hKP; go_big_quiet_op; go_big_quiet_on) | (refine plan_skip_q nth4 rfl rfl ?_; simp only [Act.put, List.setIfInBounds_toArray, List.set_cons_zero, List.set_cons_succ])
      first | (refine plan_quiet nth5 rfl ?_; intro KP hKP; go_big_quiet_op; go_big_quiet_on) | (refine plan_skip_q nth5 rfl rfl ?_; simp only [Act.put, List.setIfInBounds_toArray, List.set_cons_zero, List.set_cons_succ])
      first | (refine plan_quiet nth6 rfl ?_; intro KP hKP; go_big_quiet_op; go_big_quiet_on) | (refine plan_skip_q nth6 rfl rfl ?_; simp only [Act.put, List.setIfInBounds_toArray, List.set_cons_zero, List.set_cons_succ])
      first | (refine plan_quiet nth7 rfl ?_; intro KP hKP; go_big_quiet_op; go_big_quiet_on) | (refine plan_skip_q nth7 rfl rfl ?_; simp only [Act.put, List.setIfInBounds_toArray, List.set_cons_zero, List.set_cons_succ])
      first | (refine plan_loud nth8 rfl ?_; intro KP hKP; go_wp2_with (first | (go_at_call 110; first | ((with_reducible refine (Calls.later (eqPoint_same L[k].x L[k].y _)).mono ?_); rintro e w' ⟨rfl, xl, rfl⟩; have hsz := xl.bel.size; (try simp only [World.size_alloc, World.size_setCell, World.size_drew] at hsz); (try have hz0 : w.heap.size < xl.w.heap.size := (by omega)); (try have hz1 : w.heap.size + 1 < xl.w.heap.size := (by omega)); (try have hz2 : w.heap.size + 1 + 1 < xl.w.heap.size := (by omega))) | ((with_reducible refine (eqPoint_same L[k].x L[k].y _).mono ?_); rintro e w' ⟨rfl, xl, rfl⟩; have hsz := xl.bel.size; (try simp only [World.size_alloc, World.size_setCell, World.size_drew] at hsz); (try have hz0 : w.heap.size < xl.w.heap.size := (by omega)); (try have hz1 : w.heap.size + 1 < xl.w.heap.size := (by omega)); (try have hz2 : w.heap.size + 1 + 1 < xl.w.heap.size := (by omega))))); refine hKP _ _ (LaterC.mk (by (repeat (first | (with_reducible exact Below.refl _ _) | (with_reducible assumption) | (with_reducible refine Later.out _ ?_) | (with_reducible refine bel_alloc ?_ _) | (with_reducible refine bel_drew ?_) | (with_reducible refine bel_drewN ?_ _) | (with_reducible refine bel_set ?_ ?_ _) | (with_reducible refine After.out _ ?_ ?_) | (dsimp only; omega) | omega | (simp only [World.size_alloc, World.size_setCell, World.size_drew]; omega))))) ?_; clear hKP KP) | (refine plan_skip nth8 rfl rfl (LaterC.mk (by (repeat (first | (with_reducible exact Below.refl _ _) | (with_reducible assumption) | (with_reducible refine Later.out _ ?_) | (with_reducible refine bel_alloc ?_ _) | (with_reducible refine bel_drew ?_) | (with_reducible refine bel_drewN ?_ _) | (with_reducible refine bel_set ?_ ?_ _) | (with_reducible refine After.out _ ?_ ?_) | (dsimp only; omega) | omega | (simp only [World.size_alloc, World.size_setCell, World.size_drew]; omega))))) ?_; simp only [Act.put, List.setIfInBounds_toArray, List.set_cons_zero, List.set_cons_succ])
      first | (refine plan_quiet nth9 rfl ?_; intro KP hKP; go_big_quiet_op; go_big_quiet_on) | (refine plan_skip_q nth9 rfl rfl ?_; simp only [Act.put, List.setIfInBounds_toArray, List.set_cons_zero, List.set_cons_succ])
      refine plan_nil ?_
      go_wp2_with fail
      go_roundw
      case rel => exact ⟨k + 1, by omega, by go_num, ⟨_, by (repeat (first | (with_reducible exact Below.refl _ _) | (with_reducible assumption) | (with_reducible refine Later.out _ ?_) | (with_reducible refine bel_alloc ?_ _) | (with_reducible refine bel_drew ?_) | (with_reducible refine bel_drewN ?_ _) | (with_reducible refine bel_set ?_ ?_ _) | (with_reducible refine After.out _ ?_ ?_) | (dsimp only; omega) | omega | (simp only [World.size_alloc, World.size_setCell, World.size_drew]; omega)))⟩, rfl⟩
      case measure => first | (simp [intOf]; done) | (simp [intOf]; omega) | omega
    · obtain rfl : k = L.length := by omega
      go_wp2_with fail
      go_ret
      exact .mk rfl (by (repeat (first | (with_reducible exact Below.refl _ _) | (with_reducible assumption) | (with_reducible refine Later.out _ ?_) | (with_reducible refine bel_alloc ?_ _) | (with_reducible refine bel_drew ?_) | (with_reducible refine bel_drewN ?_ _) | (with_reducible refine bel_set ?_ ?_ _) | (with_reducible refine After.out _ ?_ ?_) | (dsimp only; omega) | omega | (simp only [World.size_alloc, World.size_setCell, World.size_drew]; omega))))
/-- The call wrote over a slice of the caller's own, and nothing else. -/
def RetMarkP (w : World) (lo hi E n : Nat) (a : Option Addr) (c : Nat) (v : Value) (e : Ending) (w' : World) : Prop :=
  e = .returned v ∧ ∃ z : After w lo hi, w' = z.w ∧ ∃ ys, Owns z.w lo hi E 2 n a c ys
set_option maxHeartbeats 1000000 in
theorem markPointS_any (a : Option Addr) (n c lo hi : Nat) (k : Int) (xs : List Value) (w : World) (h : Owns w lo hi 72 2 n a c xs) (hm : n ≤ 1048576) (hk : 0 ≤ k) (hk' : k ≤ 1099511627776) :
    Calls Tryz.prog 64 #[.slice a n c, .int .i64 k] w (RetMarkP w lo hi 72 n a c (.int .i64 (k + 2 * n))) := by
  have HO := Lib.hid h
  clear h
  go_enter Tryz.func64, Tryz.ntmps64
  go_wp2_with fail
  go_loopw [1, 5] (fun kk i wr => ∃ j : Nat, j ≤ n ∧ i = .int .i64 j ∧ kk = .int .i64 (k + 2 * j) ∧ Between lo hi w wr ∧ ∃ ys, Owns wr lo hi 72 2 n a c ys) (fun _ i _ => n - (intOf i).toNat)
  case atStart => exact ⟨0, Nat.zero_le _, rfl, by simp, Between.refl _ _ _, ⟨_, HO.out⟩⟩
  case round =>
    obtain ⟨j, hj, rfl, rfl, hb, ys, ho⟩ := hrel
    by_cases hlt : j < n
    · have hl : ys.length = n * 2 := ho.own.1
      obtain ⟨g, rfl, g1, g2, hc, hf⟩ := ho.at_ (j := j * 2) (by omega)
      obtain ⟨g', he, -, -, hc', hf'⟩ := ho.at_ (j := j * 2 + 1) (by omega)
      cases he
      obtain ⟨u, hu⟩ : ∃ u, ys[j * 2]? = some u := ⟨_, List.getElem?_eq_getElem (by omega)⟩
      obtain ⟨u', hu'⟩ : ∃ u, ys[j * 2 + 1]? = some u := ⟨_, List.getElem?_eq_getElem (by omega)⟩
      rw [hu] at hc
      rw [hu'] at hc'
      have HS := Lib.hid ho
      have HB := Lib.hid hb
      clear hb ho hu hu'
      go_wp2_with fail
      go_roundw
      case rel => exact ⟨j + 1, by omega, by go_num, by go_num, (HB.out.set (p := ⟨g, j * 2, none⟩) g1 g2 _).set (p := ⟨g, j * 2 + 1, none⟩) g1 g2 _, ⟨_, (HS.out.set (j := j * 2) _).set (j := j * 2 + 1) _⟩⟩
      case measure => simp [intOf]; omega
    · obtain rfl : j = n := by omega
      have HB := Lib.hid hb
      have HO := Lib.hid ho
      clear hb ho
      go_wp2_with fail
      go_ret
      exact ⟨rfl, ⟨_, HB.out⟩, rfl, ⟨_, HO.out⟩⟩
end Go.Proofs.YtklcaphkfdlipaaGreatDoor

/- Lists of rings: rows for reading, lists of one's own; sizes, copies, comparison, marks. -/
set_option linter.unusedSimpArgs false
set_option linter.unusedVariables false
namespace Go.Proofs.YtklcaphkfdlipaaGreatDoor
open Go.RowKit
def RingsR (w : World) (a : Option Addr) (T : List (List Pt)) : Prop :=
  ∀ i (h : i < T.length), ∃ b o ai ci, a = some ⟨b, o, none⟩ ∧ b < w.heap.size ∧ w.cell? ⟨b, o + i, none⟩ = some (.slice ai T[i].length ci) ∧ Row w ai (ptsCells T[i]) ∧ T[i].length ≤ ci ∧ ci ≤ maxLen
theorem RingsR.bel {w w' : World} {a : Option Addr} {T : List (List Pt)} (h : RingsR w a T) (hb : Below w.heap.size w w') : RingsR w' a T := fun i hi => by
  obtain ⟨b, o, ai, ci, h1, h2, h4, h5, h6⟩ := h i hi
  exact ⟨b, o, ai, ci, h1, Nat.lt_of_lt_of_le h2 hb.size, (hb.cell h2).trans h4, h5.bel hb, h6⟩
theorem RingsR.take {w : World} {a : Option Addr} {T : List (List Pt)} (h : RingsR w a T) (k : Nat) : RingsR w a (T.take k) := fun i hi => by
  have hi' : i < T.length := by rw [List.length_take] at hi; omega
  obtain ⟨b, o, ai, ci, h1, h2, h3⟩ := h i hi'
  exact ⟨b, o, ai, ci, h1, h2, by rw [List.getElem_take]; exact h3⟩
theorem RingsR.at_ {w : World} {a : Option Addr} {T : List (List Pt)} (h : RingsR w a T) {i : Nat} (hi : i < T.length) :
    ∃ b o ai ci, a = some ⟨b, o, none⟩ ∧ b < w.heap.size ∧ w.cell? ⟨b, o + i, none⟩ = some (.slice ai T[i].length ci) ∧ Row w ai (ptsCells T[i]) ∧ T[i].length ≤ ci ∧ ci ≤ maxLen := h i hi
theorem RingsR.nil (w : World) (a : Option Addr) : RingsR w a [] := fun i h => absurd h (by simp)
/-- A list of one's own: its elements in the block `g`, their slices in later ones. -/
structure OG (w : World) (g hi n c : Nat) (T : List (List Pt)) (vs : List Value) : Prop where
  own : Owns w g (g + 1) 83 1 n (some ⟨g, 0, none⟩) c vs
  len : T.length ≤ n
  lt : g < w.heap.size
  at_ : ∀ i (h : i < T.length), ∃ ai ci, vs[i]? = some (.slice ai T[i].length ci) ∧ Owns w (g + 1) hi 72 2 T[i].length ai ci (ptsCells T[i]) ∧ T[i].length ≤ ci ∧ ci ≤ maxLen
  sep : ∀ i j gi gj ni nj ci cj, i < j → j < T.length → vs[i]? = some (.slice (some ⟨gi, 0, none⟩) ni ci) → vs[j]? = some (.slice (some ⟨gj, 0, none⟩) nj cj) → gi ≠ gj
theorem OG.bel {w w' : World} {g hi n c : Nat} {T : List (List Pt)} {vs : List Value} (h : OG w g hi n c T vs) (hb : Below w.heap.size w w') (hh : hi ≤ w.heap.size) : OG w' g hi n c T vs :=
  ⟨h.own.bel hb h.lt, h.len, Nat.lt_of_lt_of_le h.lt hb.size, fun i hi' => by
    obtain ⟨ai, ci, h1, h3, h4⟩ := h.at_ i hi'
    exact ⟨ai, ci, h1, h3.bel hb hh, h4⟩, h.sep⟩
theorem OG.btw {w w' : World} {g hi n c lo' hi2 : Nat} {T : List (List Pt)} {vs : List Value} (h : OG w g hi n c T vs) (hb : Between lo' hi2 w w') (hh : hi2 ≤ g) : OG w' g hi n c T vs :=
  ⟨h.own.btw hb (.inr hh), h.len, Nat.lt_of_lt_of_le h.lt hb.size, fun i hi' => by
    obtain ⟨ai, ci, h1, h3, h4⟩ := h.at_ i hi'
    exact ⟨ai, ci, h1, h3.btw hb (.inr (by omega)), h4⟩, h.sep⟩
theorem OG.rows {w : World} {g hi n c : Nat} {T : List (List Pt)} {vs : List Value} (h : OG w g hi n c T vs) : RingsR w (some ⟨g, 0, none⟩) T := fun i hi' => by
  obtain ⟨ai, ci, h1, h3, h4, h5⟩ := h.at_ i hi'
  have hl := h.len
  have hv := h.own.own.1
  have c1 := h.own.own.cellAt (i) (by omega)
  exact ⟨g, 0, ai, ci, rfl, h.lt, by rw [Nat.zero_add, c1]; exact h1, h3.row, h4, h5⟩
theorem OG.zero (w : World) (g n c : Nat) (T : List (List Pt)) (vs : List Value) (h : Owns w g (g + 1) 83 1 n (some ⟨g, 0, none⟩) c vs) (hg : g < w.heap.size) (hn : T.length = n) : OG w g w.heap.size n c (T.take 0) vs :=
  ⟨h, by simp only [List.take_zero, List.length_nil]; omega, hg, fun i hi => absurd hi (by simp), fun i j gi gj ni nj ci cj _ hj => absurd hj (by simp)⟩
theorem OG.step {w y : World} {g n c k : Nat} {T : List (List Pt)} {vs : List Value} (h : OG w g w.heap.size n c (T.take k) vs) (hk : k < T.length) (hkn : k < n) (hb : Below w.heap.size w y) {ai : Option Addr} {ci : Nat}
    (ho : y.ownsRow w.heap.size 72 2 (.slice ai T[k].length ci) T[k].length (ptsCells T[k])) :
    OG (y.setCell ⟨g, k, none⟩ (.slice ai T[k].length ci)) g y.heap.size n c (T.take (k + 1)) (vs.set k (.slice ai T[k].length ci)) := by
  have hv := h.own.own.1
  have hg := h.lt
  have hs := hb.size
  have htk : (T.take k).length = k := by rw [List.length_take]; omega
  have htk1 : (T.take (k + 1)).length = k + 1 := by rw [List.length_take]; omega
  have hcap := own_caps2 ho
  have hO := Owns.of ho
  have hset : ∀ {lo hi n c : Nat} {a : Option Addr} {xs : List Value}, Owns y lo hi 72 2 n a c xs → g < lo → Owns (y.setCell ⟨g, k, none⟩ (.slice ai T[k].length ci)) lo hi 72 2 n a c xs := fun h1 h2 =>
    ⟨own_set h1.own (p := ⟨g, k, none⟩) h2 _, h1.lt⟩
  refine ⟨(h.own.bel hb hg).set _, by omega, by simp only [World.size_setCell]; omega, fun i hi => ?_, fun i j gi gj ni nj ci' cj hij hj h1 h2 => ?_⟩
  · rw [htk1] at hi
    by_cases hik : i = k
    · subst hik
      refine ⟨ai, ci, ?_, ?_, ?_⟩
      · rw [List.getElem?_set_self (by omega)]
        simp
      · simp only [List.getElem_take]
        exact ⟨own_mono (hset hO (by omega)).own (by omega), fun p hp => hO.lt p hp⟩
      · simpa using hcap
    · obtain ⟨aj, cj, e1, e3, e4⟩ := h.at_ i (by omega)
      simp only [List.getElem_take] at e1 e3 e4 ⊢
      refine ⟨aj, cj, ?_, ?_, e4⟩
      · rw [List.getElem?_set_ne (by omega)]
        exact e1
      · have := hset (e3.bel hb (Nat.le_refl _)) (by omega)
        exact ⟨this.own, fun p hp => Nat.lt_of_lt_of_le (this.lt p hp) hs⟩
  · rw [htk1] at hj
    rw [List.getElem?_set_ne (by omega)] at h1
    obtain ⟨a1, c1, e1, e3, _⟩ := h.at_ i (by omega)
    have hgi : gi < w.heap.size := by
      rw [e1] at h1
      injection h1 with h1
      injection h1 with h1
      exact e3.lt _ h1
    by_cases hjk : j = k
    · subst hjk
      rw [List.getElem?_set_self (by omega)] at h2
      injection h2 with h2
      injection h2 with h2
      have := hO.ge _ h2
      simp only at this
      omega
    · rw [List.getElem?_set_ne (by omega)] at h2
      exact h.sep i j gi gj ni nj ci' cj hij (by omega) h1 h2
/-- Such a list of which some is marked: its slices are as they were, what they hold is one's own. -/
structure MG (w : World) (g hi n c : Nat) (T : List (List Pt)) (vs : List Value) : Prop where
  own : ∃ vs', Owns w g (g + 1) 83 1 n (some ⟨g, 0, none⟩) c vs' ∧ ∀ i, i < T.length → vs'[i]? = vs[i]?
  at_ : ∀ i (h : i < T.length), ∃ ai ci xs, vs[i]? = some (.slice ai T[i].length ci) ∧ Owns w (g + 1) hi 72 2 T[i].length ai ci xs
theorem MG.of {w : World} {g hi n c : Nat} {T : List (List Pt)} {vs : List Value} (h : OG w g hi n c T vs) : MG w g hi n c T vs :=
  ⟨⟨vs, h.own, fun _ _ => rfl⟩, fun i hi => by
    obtain ⟨ai, ci, h1, h3, h4⟩ := h.at_ i hi
    exact ⟨ai, ci, _, h1, h3⟩⟩
theorem MG.inner {w w' : World} {g hi n c j p p' cj : Nat} {T : List (List Pt)} {vs xs xs' : List Value} {aj : Option Addr} (h : MG w g hi n c T vs)
    (SEP : ∀ i j gi gj ni nj ci cj, i < j → j < T.length → vs[i]? = some (.slice (some ⟨gi, 0, none⟩) ni ci) → vs[j]? = some (.slice (some ⟨gj, 0, none⟩) nj cj) → gi ≠ gj)
    (hj : j < T.length) (hvj : vs[j]? = some (.slice aj T[j].length cj)) (hp1 : g + 1 ≤ p) (hp' : p' ≤ hi)
    (hpb : ∀ k, p ≤ k → k < p' → (Value.slice aj T[j].length cj).ownBlock = some k) (hoj : Owns w p p' 72 2 T[j].length aj cj xs) (hb : Between p p' w w') (ho2 : Owns w' p p' 72 2 T[j].length aj cj xs') : MG w' g hi n c T vs := by
  obtain ⟨⟨vs', h1, h2⟩, h3⟩ := h
  refine ⟨⟨vs', h1.btw hb (.inl hp1), h2⟩, fun i hi => ?_⟩
  obtain ⟨ai, ci, ys, e1, e2⟩ := h3 i hi
  by_cases hij : i = j
  · subst hij
    rw [hvj] at e1
    injection e1 with e1
    injection e1 with e1 _ e4
    subst e1 e4
    exact ⟨aj, cj, xs', hvj, ⟨own_mono ho2.own (by omega), fun q hq => Nat.lt_of_lt_of_le (ho2.lt q hq) hp'⟩⟩
  · refine ⟨ai, ci, ys, e1, own_keep e2 hb fun k hk => ?_⟩
    by_cases h4 : p ≤ k ∧ k < p'
    · exfalso
      have h5 := own_zero2 hoj (hpb k h4.1 h4.2)
      have h6 := own_zero2 e2 hk
      subst h5 h6
      rcases Nat.lt_or_ge i j with h7 | h7
      · exact SEP i j k k _ _ _ _ h7 hj e1 hvj rfl
      · exact SEP j i k k _ _ _ _ (by omega) hi hvj e1 rfl
    · omega
theorem MG.bel {w w' : World} {g hi n c : Nat} {T : List (List Pt)} {vs : List Value} (h : MG w g hi n c T vs) (hb : Below w.heap.size w w') (hg : g < w.heap.size) (hh : hi ≤ w.heap.size) : MG w' g hi n c T vs := by
  obtain ⟨⟨vs', h1, h2⟩, h3⟩ := h
  refine ⟨⟨vs', h1.bel hb hg, h2⟩, fun i hi => ?_⟩
  obtain ⟨ai, ci, ys, e1, e2⟩ := h3 i hi
  exact ⟨ai, ci, ys, e1, e2.bel hb hh⟩
end Go.Proofs.YtklcaphkfdlipaaGreatDoor

/- Tables of views: sizes, copies, comparison and marks for the laws. -/
set_option linter.unusedSimpArgs false
set_option linter.unusedVariables false
namespace Go.Proofs.YtklcaphkfdlipaaGreatDoor
open Go.RowKit
def vwSz (v : Vw) : Int := bsz v.holder + strSz v.own
theorem vwSz_nonneg (v : Vw) : 0 ≤ vwSz v := by have := strSz_nonneg v.own; have := bsz_nonneg v.holder; unfold vwSz; omega
def viewsSz (V : List Vw) : Int := wSz vwSz V
/-- Views whose sizes fit the laws. -/
structure VwOk (v : Vw) : Prop where
  h : v.holder.size ≤ 1048576
  n : v.own.length ≤ 1048576
  o : ∀ s ∈ v.own, s.size ≤ 1048576
/-- A view that came in. -/
structure VwIn (v : Vw) : Prop where
  h : v.holder.size ≤ maxLen
  n : v.own.length ≤ maxLen
  o : ∀ s ∈ v.own, s.size ≤ maxLen
theorem viewsSz_ok {V : List Vw} {k : Int} (h : ¬ (k - viewsSz V < 0)) (hk : k ≤ 1048576) : ∀ v ∈ V, VwOk v := fun v hv => by
  have h1 : vwSz v ≤ viewsSz V := wSz_mem vwSz_nonneg hv
  have h2 := strSz_nonneg v.own
  have h3 := strSz_len v.own
  have h4 := bsz_nonneg v.holder
  unfold vwSz at h1
  have h5 : bsz v.holder = (v.holder.size : Int) := rfl
  exact ⟨by omega, by omega, fun s hs => by have := strSz_mem hs; omega⟩
theorem viewsSz_len {V : List Vw} {k : Int} (h : ¬ (k - viewsSz V < 0)) (hk : k ≤ 1048576) : V.length ≤ 1048576 := by
  have : (V.length : Int) ≤ viewsSz V := wSz_len vwSz_nonneg V
  omega
theorem viewsSz_nonneg (V : List Vw) : 0 ≤ viewsSz V := wSz_nonneg vwSz_nonneg V
set_option maxHeartbeats 1000000 in
theorem szView_any (v : Vw) (a : Option Addr) (c : Nat) (left : Int) (w : World) (hi : VwIn v) (hr : Row w a (strCells v.own)) (h3 : 0 ≤ left) (h4 : left ≤ 1048576) :
    Calls Tryz.prog 55 #[.agg #[.string v.holder, .slice a v.own.length c], .int .i64 left] w (Ret w (.int .i64 (szR (vwSz v) left))) := by
  obtain ⟨m1, m2, m3⟩ := hi
  have hs := strSz_nonneg v.own
  have hv : vwSz v = (v.holder.size : Int) + strSz v.own := rfl
  by_cases c1 : left - (v.holder.size : Int) < 0
  · have X := Lib.hid (szR_no (S := vwSz v) (left := left) (by omega))
    unfold maxLen at m1
    clear hr hv m3
    go_enter Tryz.func55, Tryz.ntmps55
    go_wp2_with fail
    go_ret
    exact .mk (by rw [X.out]; rfl) (by (repeat (first | (with_reducible exact Below.refl _ _) | (with_reducible assumption) | (with_reducible refine Later.out _ ?_) | (with_reducible refine bel_alloc ?_ _) | (with_reducible refine bel_drew ?_) | (with_reducible refine bel_drewN ?_ _) | (with_reducible refine bel_set ?_ ?_ _) | (with_reducible refine After.out _ ?_ ?_) | (dsimp only; omega) | omega | (simp only [World.size_alloc, World.size_setCell, World.size_drew]; omega))))
  · have C := fun (w : World) (hr : Row w a (strCells v.own)) => szStringS_any v.own a v.own.length c (left - (v.holder.size : Int)) w rfl m2 hr m3 (by omega) (by omega)
    have e : szR (strSz v.own) (left - (v.holder.size : Int)) = szR (vwSz v) left := by
      unfold szR
      rw [hv, show left - (v.holder.size : Int) - strSz v.own = left - ((v.holder.size : Int) + strSz v.own) by omega]
    rw [e] at C
    have hc9 : szR (vwSz v) left < 0 → szR (vwSz v) left = -1 := fun h => by
      unfold szR at h ⊢
      split
      · rfl
      · rename_i h2; rw [if_neg h2] at h; omega
    replace hr := Lib.hid hr
    unfold maxLen at m1
    generalize szR (vwSz v) left = q at C hc9
    replace C := Lib.hid C
    clear e hv m3 hs
    go_enter Tryz.func55, Tryz.ntmps55
    go_wp2_with fail
    with_reducible refine (C.out _ (hr.out.bel (by (repeat (first | (with_reducible exact Below.refl _ _) | (with_reducible assumption) | (with_reducible refine Later.out _ ?_) | (with_reducible refine bel_alloc ?_ _) | (with_reducible refine bel_drew ?_) | (with_reducible refine bel_drewN ?_ _) | (with_reducible refine bel_set ?_ ?_ _) | (with_reducible refine After.out _ ?_ ?_) | (dsimp only; omega) | omega | (simp only [World.size_alloc, World.size_setCell, World.size_drew]; omega)))))).mono ?_
    rintro e w' ⟨rfl, y1, rfl⟩
    have hsy1 := y1.bel.size
    (try simp only [World.size_alloc, World.size_setCell, World.size_drew] at hsy1)
    by_cases hq : q < 0
    · obtain rfl := hc9 hq
      go_wp2_with fail
      go_ret
      exact .mk rfl (by (repeat (first | (with_reducible exact Below.refl _ _) | (with_reducible assumption) | (with_reducible refine Later.out _ ?_) | (with_reducible refine bel_alloc ?_ _) | (with_reducible refine bel_drew ?_) | (with_reducible refine bel_drewN ?_ _) | (with_reducible refine bel_set ?_ ?_ _) | (with_reducible refine After.out _ ?_ ?_) | (dsimp only; omega) | omega | (simp only [World.size_alloc, World.size_setCell, World.size_drew]; omega))))
    · go_wp2_with fail
      go_ret
      exact .mk rfl (by (repeat (first | (with_reducible exact Below.refl _ _) | (with_reducible assumption) | (with_reducible refine Later.out _ ?_) | (with_reducible refine bel_alloc ?_ _) | (with_reducible refine bel_drew ?_) | (with_reducible refine bel_drewN ?_ _) | (with_reducible refine bel_set ?_ ?_ _) | (with_reducible refine After.out _ ?_ ?_) | (dsimp only; omega) | omega | (simp only [World.size_alloc, World.size_setCell, World.size_drew]; omega))))
set_option maxHeartbeats 1000000 in
theorem szViewS_any (L : List Vw) (a : Option Addr) (n c : Nat) (left : Int) (w : World) (hn : L.length = n) (hm : n ≤ maxLen) (hr : ViewsR w a L) (hmx : ∀ c ∈ L, VwIn c) (h3 : 0 ≤ left) (h4 : left ≤ 1048576) :
    Calls Tryz.prog 9 #[.slice a n c, .int .i64 left] w (Ret w (.int .i64 (szR (viewsSz L) left))) := by
  subst hn
  unfold maxLen at hm
  have hnn := wSum_nonneg vwSz_nonneg L
  have hL : viewsSz L = L.length + wSum vwSz L := rfl
  by_cases c1 : left - L.length < 0
  · have X := Lib.hid (szR_no (S := viewsSz L) (left := left) (by omega))
    clear hr hmx hL
    go_enter Tryz.func9, Tryz.ntmps9
    go_wp2_with fail
    go_ret
    exact .mk (by rw [X.out]; rfl) (by (repeat (first | (with_reducible exact Below.refl _ _) | (with_reducible assumption) | (with_reducible refine Later.out _ ?_) | (with_reducible refine bel_alloc ?_ _) | (with_reducible refine bel_drew ?_) | (with_reducible refine bel_drewN ?_ _) | (with_reducible refine bel_set ?_ ?_ _) | (with_reducible refine After.out _ ?_ ?_) | (dsimp only; omega) | omega | (simp only [World.size_alloc, World.size_setCell, World.size_drew]; omega))))
  replace hr := Lib.hid hr
  replace hmx := Lib.hid hmx
  replace hL := Lib.hid hL
  go_enter Tryz.func9, Tryz.ntmps9
  go_wp2_with fail
  go_loopw [1, 5] (fun t1 t5 wr => ∃ k : Nat, k ≤ L.length ∧ t5 = .int .i64 k ∧ t1 = .int .i64 (left - L.length - wSum vwSz (L.take k)) ∧ 0 ≤ left - L.length - wSum vwSz (L.take k) ∧ ∃ z : Later w, wr = z.w) (fun _ t5 _ => L.length - (intOf t5).toNat)
  case atStart => exact ⟨0, Nat.zero_le _, rfl, by simp [wSum], by simp [wSum]; omega, ⟨_, Below.refl _ _⟩, rfl⟩
  case round =>
    obtain ⟨k, hk, rfl, rfl, hp, z, rfl⟩ := hrel
    have hk0 := wSum_nonneg vwSz_nonneg (L.take k)
    by_cases hlt : k < L.length
    · obtain ⟨b, o, ai, ci, rfl, hb, q0, q1, q2, q3, q4⟩ := hr.out.at_ hlt
      have hC := fun (w : World) (hr : Row w ai (strCells L[k].own)) => szView_any L[k] ai ci (left - L.length - wSum vwSz (L.take k)) w (hmx.out _ (List.getElem_mem hlt)) hr hp (by omega)
      have hsucc := wSum_succ vwSz hlt
      have hle := wSum_take vwSz_nonneg L (k + 1)
      have hnk := vwSz_nonneg L[k]
      replace q2 := Lib.hid q2
      obtain ⟨p, hpe⟩ : ∃ p, left - L.length - wSum vwSz (L.take k) = p := ⟨_, rfl⟩
      rw [hpe] at hp
      simp only [hpe] at hC ⊢
      have hp9 : p ≤ 1048576 := by omega
      by_cases hs : p - vwSz L[k] < 0
      · rw [szR_no hs] at hC
        replace hC := Lib.hid hC
        have X := Lib.hid (szR_no (S := viewsSz L) (left := left) (by have := hL.out; omega))
        clear hpe hsucc q3 q4
        go_wp2_with fail
        with_reducible refine (hC.out _ (q2.out.bel (by (repeat (first | (with_reducible exact Below.refl _ _) | (with_reducible assumption) | (with_reducible refine Later.out _ ?_) | (with_reducible refine bel_alloc ?_ _) | (with_reducible refine bel_drew ?_) | (with_reducible refine bel_drewN ?_ _) | (with_reducible refine bel_set ?_ ?_ _) | (with_reducible refine After.out _ ?_ ?_) | (dsimp only; omega) | omega | (simp only [World.size_alloc, World.size_setCell, World.size_drew]; omega)))))).mono ?_
        rintro e w' ⟨rfl, y1, rfl⟩
        have hsy1 := y1.bel.size
        (try simp only [World.size_alloc, World.size_setCell, World.size_drew] at hsy1)
        go_wp2_with fail
        go_ret
        exact .mk (by rw [X.out]; rfl) (by (repeat (first | (with_reducible exact Below.refl _ _) | (with_reducible assumption) | (with_reducible refine Later.out _ ?_) | (with_reducible refine bel_alloc ?_ _) | (with_reducible refine bel_drew ?_) | (with_reducible refine bel_drewN ?_ _) | (with_reducible refine bel_set ?_ ?_ _) | (with_reducible refine After.out _ ?_ ?_) | (dsimp only; omega) | omega | (simp only [World.size_alloc, World.size_setCell, World.size_drew]; omega))))
      · rw [szR_yes hs] at hC
        replace hC := Lib.hid hC
        have X := Lib.hid (show left - L.length - wSum vwSz (L.take (k + 1)) = p - vwSz L[k] by omega)
        have hp2 : 0 ≤ p - vwSz L[k] := by omega
        have hp3 : p - vwSz L[k] ≤ 1048576 := by omega
        clear hpe hsucc q3 q4
        go_wp2_with fail
        with_reducible refine (hC.out _ (q2.out.bel (by (repeat (first | (with_reducible exact Below.refl _ _) | (with_reducible assumption) | (with_reducible refine Later.out _ ?_) | (with_reducible refine bel_alloc ?_ _) | (with_reducible refine bel_drew ?_) | (with_reducible refine bel_drewN ?_ _) | (with_reducible refine bel_set ?_ ?_ _) | (with_reducible refine After.out _ ?_ ?_) | (dsimp only; omega) | omega | (simp only [World.size_alloc, World.size_setCell, World.size_drew]; omega)))))).mono ?_
        rintro e w' ⟨rfl, y1, rfl⟩
        have hsy1 := y1.bel.size
        (try simp only [World.size_alloc, World.size_setCell, World.size_drew] at hsy1)
        go_wp2_with fail
        go_roundw
        case rel => exact ⟨k + 1, by omega, by go_num, by rw [X.out], by rw [X.out]; exact hp2, ⟨_, by (repeat (first | (with_reducible exact Below.refl _ _) | (with_reducible assumption) | (with_reducible refine Later.out _ ?_) | (with_reducible refine bel_alloc ?_ _) | (with_reducible refine bel_drew ?_) | (with_reducible refine bel_drewN ?_ _) | (with_reducible refine bel_set ?_ ?_ _) | (with_reducible refine After.out _ ?_ ?_) | (dsimp only; omega) | omega | (simp only [World.size_alloc, World.size_setCell, World.size_drew]; omega)))⟩, rfl⟩
        case measure => first | (simp [intOf]; done) | (simp [intOf]; omega) | omega
    · obtain rfl : k = L.length := by omega
      rw [List.take_length] at hp ⊢
      have X := Lib.hid (show szR (viewsSz L) left = left - L.length - wSum vwSz L by have := hL.out; rw [szR_yes (by omega)]; omega)
      go_wp2_with fail
      go_ret
      exact .mk (by rw [X.out]; rfl) (by (repeat (first | (with_reducible exact Below.refl _ _) | (with_reducible assumption) | (with_reducible refine Later.out _ ?_) | (with_reducible refine bel_alloc ?_ _) | (with_reducible refine bel_drew ?_) | (with_reducible refine bel_drewN ?_ _) | (with_reducible refine bel_set ?_ ?_ _) | (with_reducible refine After.out _ ?_ ?_) | (dsimp only; omega) | omega | (simp only [World.size_alloc, World.size_setCell, World.size_drew]; omega))))
theorem info_view : (Tryz.prog.info? 64).map (fun i => (i.zero, i.size, i.bytes)) = some (some (.agg #[.string ByteArray.empty, .slice none 0 0]), 2, 40) := by kernel_rfl
theorem run_make_v {P : Program} (t e : TypeId) (z : Value) (size bytes : Nat) (ht : P.underlying t = some (.slice e)) (hinfo : (P.info? e).map (fun i => (i.zero, i.size, i.bytes)) = some (some z, size, bytes))
    (kl kc : IntKind) (n : Nat) (hbytes : bytes * n ≤ 281474976710656) (h63 : n ≤ 9223372036854775807) (w : World) :
    (Instr.makeSlice t (.int kl (n : Int)) (.int kc (n : Int))).run P w = .ok (.slice (some ⟨w.heap.size, 0, none⟩) n n) (w.alloc (.cells (madeCells z.cells (n * size)) e)) := by
  obtain ⟨i, hi, hzz⟩ := Option.map_eq_some_iff.1 hinfo
  simp only [Prod.mk.injEq] at hzz
  obtain ⟨hz, hs, hb⟩ := hzz
  have hb' : (i.bytes : Int) * (n : Int) ≤ 281474976710656 := by
    have h : ((i.bytes * n : Nat) : Int) ≤ 281474976710656 := by rw [hb]; omega
    rwa [Int.natCast_mul] at h
  have hr := run_make (P := P) w t e i z ht hi hz kl kc n n (by omega) (Int.le_refl _) hb' (by omega)
  simp only [Int.toNat_natCast, hs] at hr
  exact hr
/-- A view with owners of its own. -/
def RetView (w : World) (r : Vw) (e : Ending) (w' : World) : Prop :=
  ∃ (a : Option Addr) (c : Nat), e = .returned (.agg #[.string r.holder, .slice a r.own.length c]) ∧ w'.ownsRow w.heap.size 9 1 (.slice a r.own.length c) r.own.length (strCells r.own) ∧ ∃ y : Later w, w' = y.w
/-- A table of one's own. -/
def RetViews (w : World) (T : List Vw) (e : Ending) (w' : World) : Prop :=
  ∃ (g c : Nat) (vs : List Value), e = .returned (.slice (some ⟨g, 0, none⟩) T.length c) ∧ w.heap.size ≤ g ∧ OV w' g w'.heap.size T.length c T vs ∧ ∃ y : Later w, w' = y.w
set_option maxHeartbeats 1000000 in
theorem toView_any (r : Vw) (a : Option Addr) (c : Nat) (w : World) (hm : r.own.length ≤ 1048576) (hr : Row w a (strCells r.own)) :
    Calls Tryz.prog 59 #[.agg #[.string r.holder, .slice a r.own.length c]] w (RetView w r) := by
  have C := Lib.hid (fun (w : World) (hr : Row w a (strCells r.own)) => toStringS_any r.own a r.own.length c w rfl hm hr)
  replace hr := Lib.hid hr
  go_enter Tryz.func59, Tryz.ntmps59
  go_wp2_with fail
  with_reducible refine (C.out _ (hr.out.bel (by (repeat (first | (with_reducible exact Below.refl _ _) | (with_reducible assumption) | (with_reducible refine Later.out _ ?_) | (with_reducible refine bel_alloc ?_ _) | (with_reducible refine bel_drew ?_) | (with_reducible refine bel_drewN ?_ _) | (with_reducible refine bel_set ?_ ?_ _) | (with_reducible refine After.out _ ?_ ?_) | (dsimp only; omega) | omega | (simp only [World.size_alloc, World.size_setCell, World.size_drew]; omega)))))).mono ?_
  rintro e w' ⟨a1, c1, rfl, hown, y1, rfl⟩
  have hsy1 := y1.bel.size
  (try simp only [World.size_alloc, World.size_setCell, World.size_drew] at hsy1)
  have O1 := Lib.hid (Owns.of hown)
  clear hown
  go_wp2_with fail
  refine bodyPost_ret (by simp [results, Tryz.results59, go_sem, ↓IntWalk.iteOmega, *]; try rfl) rfl ?_
  refine ⟨a1, c1, rfl, ?_, LaterC.mk (by (repeat (first | (with_reducible exact Below.refl _ _) | (with_reducible assumption) | (with_reducible refine Later.out _ ?_) | (with_reducible refine bel_alloc ?_ _) | (with_reducible refine bel_drew ?_) | (with_reducible refine bel_drewN ?_ _) | (with_reducible refine bel_set ?_ ?_ _) | (with_reducible refine After.out _ ?_ ?_) | (dsimp only; omega) | omega | (simp only [World.size_alloc, World.size_setCell, World.size_drew]; omega))))⟩
  (refine own_mono (base := ?ob1) ?oh1 ?os1; (case oh1 => ((repeat (with_reducible refine own_set ?_ ?_ _)); (with_reducible exact O1.out.own); all_goals (first | (dsimp only; omega) | omega | (simp only [World.size_alloc, World.size_setCell, World.size_drew]; omega)))); (case os1 => (first | (dsimp only; omega) | omega | (simp only [World.size_alloc, World.size_setCell, World.size_drew]; omega))))
set_option maxRecDepth 4000 in
set_option maxHeartbeats 1000000 in
theorem toViewS_any (L : List Vw) (a : Option Addr) (n c : Nat) (w : World) (hn : L.length = n) (hm : n ≤ 1048576) (hok : ∀ r ∈ L, VwOk r) (hr : ViewsR w a L) :
    Calls Tryz.prog 12 #[.slice a n c] w (RetViews w L) := by
  subst hn
  have hmk := run_make_v (P := Tryz.prog) 31 64 (.agg #[.string ByteArray.empty, .slice none 0 0]) 2 40 Tryz.underlying31 info_view .i64 .i64 L.length (by omega) (by omega)
  have hown0 := World.ownsRow_lit (base := w.heap.size) (e := 64) (size := 2) w (madeCells #[.string ByteArray.empty, .slice none 0 0] (L.length * 2)) L.length (Nat.le_refl _) (by unfold maxLen; omega) (by simp [size_madeCells])
  replace hr := Lib.hid hr
  replace hok := Lib.hid hok
  have HO := Lib.hid (OV.zero _ w.heap.size L.length L.length L _ ⟨hown0, fun p hp => by cases hp; exact Nat.lt_succ_self _⟩ (by simp only [World.size_alloc]; omega) rfl)
  clear hown0
  go_enter Tryz.func12, Tryz.ntmps12
  go_wp2_with fail
  clear hmk
  go_loopw [4] (fun i wr => ∃ k : Nat, k ≤ L.length ∧ i = .int .i64 k ∧ (∃ vs, OV wr w.heap.size wr.heap.size L.length L.length (L.take k) vs) ∧ ∃ z : Later w, wr = z.w) (fun i _ => L.length - (intOf i).toNat)
  case atStart => exact ⟨0, Nat.zero_le _, rfl, ⟨_, HO.out⟩, ⟨_, bel_alloc (Below.refl _ _) _⟩, rfl⟩
  case round =>
    obtain ⟨k, hk, rfl, ⟨vs, hown⟩, z, rfl⟩ := hrel
    by_cases hlt : k < L.length
    · obtain ⟨b, o, ai, ci, rfl, hb, q0, q1, q2, q3, q4⟩ := hr.out.at_ hlt
      have hok1 := hok.out _ (List.getElem_mem hlt)
      have hzz := z.bel.size
      have hws : w.heap.size < z.w.heap.size := hown.lt
      have hvl := hown.own.own.1
      obtain ⟨u0, r0⟩ : ∃ u, z.w.cell? ⟨w.heap.size, k * 2, none⟩ = some u := ⟨_, (hown.own.own.cellAt (k * 2) (by omega)).trans (List.getElem?_eq_getElem (by omega))⟩
      obtain ⟨u1, r1⟩ : ∃ u, z.w.cell? ⟨w.heap.size, k * 2 + 1, none⟩ = some u := ⟨_, (hown.own.own.cellAt (k * 2 + 1) (by omega)).trans (List.getElem?_eq_getElem (by omega))⟩
      have f0 := hown.own.own.frozenAt (k * 2)
      have f1 := hown.own.own.frozenAt (k * 2 + 1)
      have HOW := Lib.hid hown
      have C := Lib.hid (fun (w : World) (hr : Row w ai (strCells L[k].own)) => toView_any L[k] ai ci w hok1.n hr)
      replace q2 := Lib.hid q2
      clear hown q3 q4 hok1
      go_wp2_with fail
      with_reducible refine (C.out _ (q2.out.bel (by (repeat (first | (with_reducible exact Below.refl _ _) | (with_reducible assumption) | (with_reducible refine Later.out _ ?_) | (with_reducible refine bel_alloc ?_ _) | (with_reducible refine bel_drew ?_) | (with_reducible refine bel_drewN ?_ _) | (with_reducible refine bel_set ?_ ?_ _) | (with_reducible refine After.out _ ?_ ?_) | (dsimp only; omega) | omega | (simp only [World.size_alloc, World.size_setCell, World.size_drew]; omega)))))).mono ?_
      rintro e w' ⟨a1, c1, rfl, hown, y1, rfl⟩
      have hsy1 := y1.bel.size
      have O1 := Lib.hid hown
      clear hown
      go_wp2_with fail
      have hst := Lib.hid (HOW.out.step hlt hlt y1.bel O1.out)
      go_roundw
      case rel => exact ⟨k + 1, by omega, by go_num, ⟨_, by simp only [World.size_setCell]; exact hst.out⟩, LaterC.mk (by (repeat (first | (with_reducible exact Below.refl _ _) | (with_reducible assumption) | (with_reducible refine Later.out _ ?_) | (with_reducible refine bel_alloc ?_ _) | (with_reducible refine bel_drew ?_) | (with_reducible refine bel_drewN ?_ _) | (with_reducible refine bel_set ?_ ?_ _) | (with_reducible refine After.out _ ?_ ?_) | (dsimp only; omega) | omega | (simp only [World.size_alloc, World.size_setCell, World.size_drew]; omega))))⟩
      case measure => first | (simp [intOf]; done) | (simp [intOf]; omega) | omega
    · obtain rfl : k = L.length := by omega
      rw [List.take_length] at hown
      replace hown := Lib.hid hown
      go_wp2_with fail
      go_ret
      exact ⟨_, _, vs, rfl, Nat.le_refl _, hown.out, z, rfl⟩
set_option maxHeartbeats 1000000 in
theorem eqView_same (r : Vw) (a a' : Option Addr) (c c' : Nat) (w : World) (hm : r.own.length ≤ 1048576) (hr : Row w a (strCells r.own)) (hr' : Row w a' (strCells r.own)) :
    Calls Tryz.prog 63 #[.agg #[.string r.holder, .slice a r.own.length c], .agg #[.string r.holder, .slice a' r.own.length c']] w (Ret w (.bool true)) := by
  have C := Lib.hid (fun (w : World) (hr : Row w a (strCells r.own)) (hr' : Row w a' (strCells r.own)) => eqStringS_same r.own a a' r.own.length c r.own.length c' w rfl rfl hm hr hr')
  replace hr := Lib.hid hr
  replace hr' := Lib.hid hr'
  go_enter Tryz.func63, Tryz.ntmps63
  go_wp2_with fail
  with_reducible refine (C.out _ (hr.out.bel (by (repeat (first | (with_reducible exact Below.refl _ _) | (with_reducible assumption) | (with_reducible refine Later.out _ ?_) | (with_reducible refine bel_alloc ?_ _) | (with_reducible refine bel_drew ?_) | (with_reducible refine bel_drewN ?_ _) | (with_reducible refine bel_set ?_ ?_ _) | (with_reducible refine After.out _ ?_ ?_) | (dsimp only; omega) | omega | (simp only [World.size_alloc, World.size_setCell, World.size_drew]; omega))))) (hr'.out.bel (by (repeat (first | (with_reducible exact Below.refl _ _) | (with_reducible assumption) | (with_reducible refine Later.out _ ?_) | (with_reducible refine bel_alloc ?_ _) | (with_reducible refine bel_drew ?_) | (with_reducible refine bel_drewN ?_ _) | (with_reducible refine bel_set ?_ ?_ _) | (with_reducible refine After.out _ ?_ ?_) | (dsimp only; omega) | omega | (simp only [World.size_alloc, World.size_setCell, World.size_drew]; omega)))))).mono ?_
  rintro e w' ⟨rfl, y1, rfl⟩
  have hsy1 := y1.bel.size
  (try simp only [World.size_alloc, World.size_setCell, World.size_drew] at hsy1)
  go_wp2_with fail
  go_ret
  exact .mk rfl (by (repeat (first | (with_reducible exact Below.refl _ _) | (with_reducible assumption) | (with_reducible refine Later.out _ ?_) | (with_reducible refine bel_alloc ?_ _) | (with_reducible refine bel_drew ?_) | (with_reducible refine bel_drewN ?_ _) | (with_reducible refine bel_set ?_ ?_ _) | (with_reducible refine After.out _ ?_ ?_) | (dsimp only; omega) | omega | (simp only [World.size_alloc, World.size_setCell, World.size_drew]; omega))))
set_option maxHeartbeats 1000000 in
theorem eqViewS_same (L : List Vw) (a a' : Option Addr) (n c n' c' : Nat) (w : World) (hn : L.length = n) (hn' : L.length = n') (hm : n ≤ 1048576) (hok : ∀ r ∈ L, VwOk r) (hr : ViewsR w a L) (hr' : ViewsR w a' L) :
    Calls Tryz.prog 16 #[.slice a n c, .slice a' n' c'] w (Ret w (.bool true)) := by
  subst hn
  subst hn'
  replace hr := Lib.hid hr
  replace hr' := Lib.hid hr'
  replace hok := Lib.hid hok
  go_enter Tryz.func16, Tryz.ntmps16
  go_wp2_with fail
  go_loopw [5] (fun i wr => ∃ k : Nat, k ≤ L.length ∧ i = .int .i64 k ∧ ∃ z : Later w, wr = z.w) (fun i _ => L.length - (intOf i).toNat)
  case atStart => exact ⟨0, Nat.zero_le _, rfl, ⟨_, Below.refl _ _⟩, rfl⟩
  case round =>
    obtain ⟨k, hk, rfl, z, rfl⟩ := hrel
    by_cases hlt : k < L.length
    · obtain ⟨b, o, ai, ci, rfl, hb, q0, q1, q2, q3, q4⟩ := hr.out.at_ hlt
      obtain ⟨b', o', ai', ci', rfl, hb', s0, s1, s2, s3, s4⟩ := hr'.out.at_ hlt
      have hi1 : (k : Int) < (L.length : Int) := by omega
      have hzz := z.bel.size
      have C := Lib.hid (fun (w : World) (hr : Row w ai (strCells L[k].own)) (hr' : Row w ai' (strCells L[k].own)) => eqView_same L[k] ai ai' ci ci' w (hok.out _ (List.getElem_mem hlt)).n hr hr')
      replace q2 := Lib.hid q2
      replace s2 := Lib.hid s2
      clear q3 q4 s3 s4
      go_wp2_with fail
      refine wp_region_plan [(0, true), (1, true), (2, true), (3, true), (4, true), (5, true), (6, true), (7, true), (8, false), (9, true)] (C := LaterC _) (by kernel_rfl) (by kernel_rfl) (by kernel_rfl) rfl (fun _ _ d _ _ h => by cases d <;> exact h) (LaterC.mk ((Below.refl _ _).drew)) ?_
      first | (refine plan_quiet nth0 rfl ?_; intro KP hKP; go_big_quiet_op; go_big_quiet_on) | (refine plan_skip_q nth0 rfl rfl ?_; simp only [Act.put, List.setIfInBounds_toArray, List.set_cons_zero, List.set_cons_succ])
      first | (refine plan_quiet nth1 rfl ?_; intro KP hKP; go_big_quiet_op; go_big_quiet_on) | (refine plan_skip_q nth1 rfl rfl ?_; simp only [Act.put, List.setIfInBounds_toArray, List.set_cons_zero, List.set_cons_succ])
      first | (refine plan_quiet nth2 rfl ?_; intro KP hKP; go_big_quiet_op; go_big_quiet_on) | (refine plan_skip_q nth2 rfl rfl ?_; simp only [Act.put, List.setIfInBounds_toArray, List.set_cons_zero, List.set_cons_succ])
      first | (refine plan_quiet nth3 rfl ?_; intro KP hKP; go_big_quiet_op; go_big_quiet_on) | (refine plan_skip_q nth3 rfl rfl ?_; simp only [Act.put, List.setIfInBounds_toArray, List.set_cons_zero, List.set_cons_succ])
      first | (refine plan_quiet nth4 rfl ?_; intro KP hKP; go_big_quiet_op; go_big_quiet_on) | (refine plan_skip_q nth4 rfl rfl ?_; simp only [Act.put, List.setIfInBounds_toArray, List.set_cons_zero, List.set_cons_succ])
      first | (refine plan_quiet nth5 rfl ?_; intro KP hKP; go_big_quiet_op; go_big_quiet_on) | (refine plan_skip_q nth5 rfl rfl ?_; simp only [Act.put, List.setIfInBounds_toArray, List.set_cons_zero, List.set_cons_succ])
      first | (refine plan_quiet nth6 rfl ?_; intro KP hKP; go_big_quiet_op; go_big_quiet_on) | (refine plan_skip_q nth6 rfl rfl ?_; simp only [Act.put, List.setIfInBounds_toArray, List.set_cons_zero, List.set_cons_succ])
      first | (refine plan_quiet nth7 rfl ?_; intro KP hKP; go_big_quiet_op; go_big_quiet_on) | (refine plan_skip_q nth7 rfl rfl ?_; simp only [Act.put, List.setIfInBounds_toArray, List.set_cons_zero, List.set_cons_succ])
      first | (refine plan_loud nth8 rfl ?_; intro KP hKP; go_wp2_with (first | (go_at_call 63; first | ((with_reducible refine (Calls.later (C.out _ (q2.out.bel (by (repeat (first | (with_reducible exact Below.refl _ _) | (with_reducible assumption) | (with_reducible refine Later.out _ ?_) | (with_reducible refine bel_alloc ?_ _) | (with_reducible refine bel_drew ?_) | (with_reducible refine bel_drewN ?_ _) | (with_reducible refine bel_set ?_ ?_ _) | (with_reducible refine After.out _ ?_ ?_) | (dsimp only; omega) | omega | (simp only [World.size_alloc, World.size_setCell, World.size_drew]; omega))))) (s2.out.bel (by (repeat (first | (with_reducible exact Below.refl _ _) | (with_reducible assumption) | (with_reducible refine Later.out _ ?_) | (with_reducible refine bel_alloc ?_ _) | (with_reducible refine bel_drew ?_) | (with_reducible refine bel_drewN ?_ _) | (with_reducible refine bel_set ?_ ?_ _) | (with_reducible refine After.out _ ?_ ?_) | (dsimp only; omega) | omega | (simp only [World.size_alloc, World.size_setCell, World.size_drew]; omega))))))).mono ?_); rintro e w' ⟨rfl, xl, rfl⟩; have hsz := xl.bel.size; (try simp only [World.size_alloc, World.size_setCell, World.size_drew] at hsz); (try have hz0 : w.heap.size < xl.w.heap.size := (by omega)); (try have hz1 : w.heap.size + 1 < xl.w.heap.size := (by omega)); (try have hz2 : w.heap.size + 1 + 1 < xl.w.heap.size := (by omega))) | ((with_reducible refine (C.out _ (q2.out.bel (by (repeat (first | (with_reducible exact Below.refl _ _) | (with_reducible assumption) | (with_reducible refine Later.out _ ?_) | (with_reducible refine bel_alloc ?_ _) | (with_reducible refine bel_drew ?_) | (with_reducible refine bel_drewN ?_ _) | (with_reducible refine bel_set ?_ ?_ _) | (with_reducible refine After.out _ ?_ ?_) | (dsimp only; omega) | omega | (simp only [World.size_alloc, World.size_setCell, World.size_drew]; omega))))) (s2.out.bel (by (repeat (first | (with_reducible exact Below.refl _ _) | (with_reducible assumption) | (with_reducible refine Later.out _ ?_) | (with_reducible refine bel_alloc ?_ _) | (with_reducible refine bel_drew ?_) | (with_reducible refine bel_drewN ?_ _) | (with_reducible refine bel_set ?_ ?_ _) | (with_reducible refine After.out _ ?_ ?_) | (dsimp only; omega) | omega | (simp only [World.size_alloc, World.size_setCell, World.size_drew]; omega)))))).mono ?_); rintro e w' ⟨rfl, xl, rfl⟩; have hsz := xl.bel.size; (try simp only [World.size_alloc, World.size_setCell, World.size_drew] at hsz); (try have hz0 : w.heap.size < xl.w.heap.size := (by omega)); (try have hz1 : w.heap.size + 1 < xl.w.heap.size := (by omega)); (try have hz2 : w.heap.size + 1 + 1 < xl.w.heap.size := (by omega))))); refine hKP _ _ (LaterC.mk (by (repeat (first | (with_reducible exact Below.refl _ _) | (with_reducible assumption) | (with_reducible refine Later.out _ ?_) | (with_reducible refine bel_alloc ?_ _) | (with_reducible refine bel_drew ?_) | (with_reducible refine bel_drewN ?_ _) | (with_reducible refine bel_set ?_ ?_ _) | (with_reducible refine After.out _ ?_ ?_) | (dsimp only; omega) | omega | (simp only [World.size_alloc, World.size_setCell, World.size_drew]; omega))))) ?_; clear hKP KP) | (refine plan_skip nth8 rfl rfl (LaterC.mk (by (repeat (first | (with_reducible exact Below.refl _ _) | (with_reducible assumption) | (with_reducible refine Later.out _ ?_) | (with_reducible refine bel_alloc ?_ _) | (with_reducible refine bel_drew ?_) | (with_reducible refine bel_drewN ?_ _) | (with_reducible refine bel_set ?_ ?_ _) | (with_reducible refine After.out _ ?_ ?_) | (dsimp only; omega) | omega | (simp only [World.size_alloc, World.size_setCell, World.size_drew]; omega))))) ?_; simp only [Act.put, List.setIfInBounds_toArray, List.set_cons_zero, List.set_cons_succ])
      first | (refine plan_quiet nth9 rfl ?_; intro KP hKP; go_big_quiet_op; go_big_quiet_on) | (refine plan_skip_q nth9 rfl rfl ?_; simp only [Act.put, List.setIfInBounds_toArray, List.set_cons_zero, List.set_cons_succ])
      refine plan_nil ?_
      go_wp2_with fail
      go_roundw
      case rel => exact ⟨k + 1, by omega, by go_num, ⟨_, by (repeat (first | (with_reducible exact Below.refl _ _) | (with_reducible assumption) | (with_reducible refine Later.out _ ?_) | (with_reducible refine bel_alloc ?_ _) | (with_reducible refine bel_drew ?_) | (with_reducible refine bel_drewN ?_ _) | (with_reducible refine bel_set ?_ ?_ _) | (with_reducible refine After.out _ ?_ ?_) | (dsimp only; omega) | omega | (simp only [World.size_alloc, World.size_setCell, World.size_drew]; omega)))⟩, rfl⟩
      case measure => first | (simp [intOf]; done) | (simp [intOf]; omega) | omega
    · obtain rfl : k = L.length := by omega
      go_wp2_with fail
      go_ret
      exact .mk rfl (by (repeat (first | (with_reducible exact Below.refl _ _) | (with_reducible assumption) | (with_reducible refine Later.out _ ?_) | (with_reducible refine bel_alloc ?_ _) | (with_reducible refine bel_drew ?_) | (with_reducible refine bel_drewN ?_ _) | (with_reducible refine bel_set ?_ ?_ _) | (with_reducible refine After.out _ ?_ ?_) | (dsimp only; omega) | omega | (simp only [World.size_alloc, World.size_setCell, World.size_drew]; omega))))
/-- How many marks a view takes. -/
def vwM (v : Vw) : Int := v.own.length + 1
theorem vwM_nonneg (v : Vw) : 0 ≤ vwM v := by unfold vwM; omega
theorem vwM_le (V : List Vw) : ∀ j, j ≤ V.length → wSum vwM (V.take j) ≤ j + wSum vwSz (V.take j)
  | 0, _ => by simp [wSum]
  | j + 1, h => by
    have ih := vwM_le V j (by omega)
    rw [wSum_succ vwM (by omega), wSum_succ vwSz (by omega)]
    have h1 := strSz_len V[j].own
    have h2 := bsz_nonneg V[j].holder
    unfold vwM vwSz
    unfold vwM vwSz at ih
    omega
theorem vwM_bd (V : List Vw) {j : Nat} (h : j ≤ V.length) : wSum vwM (V.take j) ≤ viewsSz V := by
  have h1 := vwM_le V j h
  have h2 := wSum_take vwSz_nonneg V j
  have h3 : viewsSz V = V.length + wSum vwSz V := rfl
  omega
set_option maxRecDepth 8000 in
set_option maxHeartbeats 4000000 in
theorem markViewS_any (T : List Vw) (g hi n c : Nat) (vs : List Value) (k : Int) (w : World) (h : OV w g hi n c T vs) (hn : T.length = n) (hgh : g + 1 ≤ hi) (hh : hi ≤ w.heap.size) (hm : viewsSz T ≤ 1048576) (hk : 0 < k) (hk' : k ≤ 4194304) :
    Calls Tryz.prog 18 #[.slice (some ⟨g, 0, none⟩) n c, .int .i64 k] w (RetAft w g hi (.int .i64 (k + wSum vwM T))) := by
  have SEP := Lib.hid h.sep
  have HN := Lib.hid (MV.of h)
  have hbd := Lib.hid (fun j (h : j ≤ T.length) => vwM_bd T h)
  have hnn := Lib.hid (fun j => wSum_nonneg vwM_nonneg (T.take j))
  have hTm := Lib.hid (fun (r : Vw) (h : r ∈ T) => (show vwSz r ≤ viewsSz T from wSz_mem vwSz_nonneg h))
  have hTl : T.length ≤ 1048576 := by have : (T.length : Int) ≤ viewsSz T := wSz_len vwSz_nonneg T; omega
  have hgw := h.lt
  clear h
  subst hn
  go_enter Tryz.func18, Tryz.ntmps18
  go_wp2_with fail
  go_loopw [1, 5] (fun kk i wr => ∃ j : Nat, j ≤ T.length ∧ i = .int .i64 j ∧ kk = .int .i64 (k + wSum vwM (T.take j)) ∧ Between g hi w wr ∧ MV wr g hi T.length c T vs) (fun _ i _ => T.length - (intOf i).toNat)
  case atStart => exact ⟨0, Nat.zero_le _, rfl, by simp [wSum], Between.refl _ _ _, HN.out⟩
  case round =>
    obtain ⟨j, hj, rfl, rfl, hb, ho⟩ := hrel
    obtain ⟨z, rfl⟩ := AfterC.mk hb
    have hzs := z.btw.size
    by_cases hlt : j < T.length
    · obtain ⟨aj, cj, xs, hvj, hown⟩ := ho.at_ j hlt
      obtain ⟨vs', hov, hve⟩ := ho.own
      have hvl := hov.own.1
      have hc1 := hov.own.cellAt (j * 2 + 1) (by omega)
      rw [hve j hlt, hvj] at hc1
      obtain ⟨u0, hc0⟩ : ∃ u, z.w.cell? ⟨g, j * 2, none⟩ = some u := ⟨_, (hov.own.cellAt (j * 2) (by omega)).trans (List.getElem?_eq_getElem (by omega))⟩
      have f0 := hov.own.frozenAt (j * 2)
      have hi1 : (j : Int) < (T.length : Int) := by omega
      obtain ⟨p, p', hp1, hp, hp2, hpo, hpb⟩ := own_tight hown (by omega)
      have hsz := hTm.out _ (List.getElem_mem hlt)
      have hof := hbd.out j (by omega)
      have hof0 := hnn.out j
      have hof2 := hbd.out (j + 1) (by omega)
      have hsu := wSum_succ vwM hlt
      have hlj : T[j].own.length ≤ 1048576 := by
        have h1 := strSz_len T[j].own
        have h2 := bsz_nonneg T[j].holder
        unfold vwSz at hsz
        omega
      have hmj : vwM T[j] = (T[j].own.length : Int) + 1 := rfl
      obtain ⟨K, hK⟩ : ∃ K, k + wSum vwM (T.take j) = K := ⟨_, rfl⟩
      have hK1 : 0 < K := by omega
      have hK2 : K ≤ 5242880 := by omega
      have X := Lib.hid (show k + wSum vwM (T.take (j + 1)) = K + 1 + (T[j].own.length : Int) by omega)
      simp only [hK]
      have D := Lib.hid (fun w => mText_any K w hK1 (by omega))
      have HOZ := Lib.hid ho
      have HV := Lib.hid hvj
      have hbz := Lib.hid z.btw
      have hgz : g < z.w.heap.size := by omega
      replace hpo := Lib.hid hpo
      replace hpb := Lib.hid hpb
      clear ho hown hb hsz hsu hve hov hof hof2 hof0 hK hmj hvj
      go_wp2_with fail
      with_reducible refine (D.out _).mono ?_
      rintro e w' ⟨rfl, y1, rfl⟩
      have hsy1 := y1.bel.size
      (try simp only [World.size_alloc, World.size_setCell, World.size_drew] at hsy1)
      have hgz1 : g < y1.w.heap.size := by omega
      have hpo1 : Owns (y1.w.setCell ⟨g, j * 2, none⟩ (.string (mT K))) p p' 9 1 T[j].own.length aj cj xs := by
        have h1 := hpo.out.bel (B := z.w.heap.size) y1.bel (by omega)
        exact ⟨own_set h1.own (p := ⟨g, j * 2, none⟩) (by dsimp only; omega) _, h1.lt⟩
      have hM1 : MV (y1.w.setCell ⟨g, j * 2, none⟩ (.string (mT K))) g hi T.length c T vs := (HOZ.out.bel y1.bel hgz (by omega)).holder _
      have C := Lib.hid (markStringS_any aj T[j].own.length cj p p' (K + 1) xs _ hpo1 (by simp only [World.size_setCell]; omega) (by omega) (by omega) (by omega))
      replace hpo1 := Lib.hid hpo1
      replace hM1 := Lib.hid hM1
      clear HOZ
      go_wp2_with fail
      with_reducible refine C.out.mono ?_
      rintro e w' ⟨rfl, z2, rfl, ho2⟩
      have N2 := Lib.hid (hM1.out.inner SEP.out hlt HV.out hp1 hp2 hpb.out hpo1.out z2.btw ho2)
      have hs2 := z2.btw.size
      (try simp only [World.size_alloc, World.size_setCell, World.size_drew] at hs2)
      clear ho2
      go_wp2_with fail
      go_roundw
      case rel =>
        refine ⟨j + 1, by omega, by go_num, by rw [X.out], ?_, N2.out⟩
        have h0 := hbz.out
        have h1 : Between g hi w (y1.w.setCell ⟨g, j * 2, none⟩ (.string (mT K))) := (h0.later y1.bel).set (p := ⟨g, j * 2, none⟩) (Nat.le_refl _) (by dsimp only; omega) _
        exact ⟨z2.btw.os.trans h1.os, z2.btw.tape.trans h1.tape, z2.btw.output.trans h1.output, Nat.le_trans h1.size z2.btw.size, fun q hq hor => (z2.btw.block q (Nat.lt_of_lt_of_le hq h1.size) (by omega)).trans (h1.block q hq hor)⟩
      case measure => first | (simp [intOf]; done) | (simp [intOf]; omega) | omega
    · obtain rfl : j = T.length := by omega
      rw [List.take_length]
      clear ho
      go_wp2_with fail
      go_ret
      exact ⟨rfl, z, rfl⟩
end Go.Proofs.YtklcaphkfdlipaaGreatDoor

/- Lists of rings: sizes, copies, comparison and marks for the laws. -/
set_option linter.unusedSimpArgs false
set_option linter.unusedVariables false
namespace Go.Proofs.YtklcaphkfdlipaaGreatDoor
open Go.RowKit
def rgSz (r : List Pt) : Int := r.length
theorem rgSz_nonneg (r : List Pt) : 0 ≤ rgSz r := by unfold rgSz; omega
def ringsSz (R : List (List Pt)) : Int := wSz rgSz R
theorem ringsSz_ok {R : List (List Pt)} {k : Int} (h : ¬ (k - ringsSz R < 0)) (hk : k ≤ 1048576) : ∀ r ∈ R, r.length ≤ 1048576 := fun r hr => by
  have h1 : rgSz r ≤ ringsSz R := wSz_mem rgSz_nonneg hr
  unfold rgSz at h1
  omega
theorem ringsSz_len {R : List (List Pt)} {k : Int} (h : ¬ (k - ringsSz R < 0)) (hk : k ≤ 1048576) : R.length ≤ 1048576 := by
  have : (R.length : Int) ≤ ringsSz R := wSz_len rgSz_nonneg R
  omega
theorem ringsSz_nonneg (R : List (List Pt)) : 0 ≤ ringsSz R := wSz_nonneg rgSz_nonneg R
theorem szPoint_R (r : List Pt) (a : Option Addr) (c : Nat) (left : Int) (w : World) (hm : r.length ≤ maxLen) (h3 : 0 ≤ left) (h4 : left ≤ 1048576) :
    Calls Tryz.prog 54 #[.slice a r.length c, .int .i64 left] w (Ret w (.int .i64 (szR (rgSz r) left))) := szPointS_any a r.length c left w hm h3 h4
set_option maxHeartbeats 1000000 in
theorem szPointSS_any (L : List (List Pt)) (a : Option Addr) (n c : Nat) (left : Int) (w : World) (hn : L.length = n) (hm : n ≤ maxLen) (hr : RingsR w a L) (hmx : ∀ c ∈ L, c.length ≤ maxLen) (h3 : 0 ≤ left) (h4 : left ≤ 1048576) :
    Calls Tryz.prog 8 #[.slice a n c, .int .i64 left] w (Ret w (.int .i64 (szR (ringsSz L) left))) := by
  subst hn
  unfold maxLen at hm
  have hnn := wSum_nonneg rgSz_nonneg L
  have hL : ringsSz L = L.length + wSum rgSz L := rfl
  by_cases c1 : left - L.length < 0
  · have X := Lib.hid (szR_no (S := ringsSz L) (left := left) (by omega))
    clear hr hmx hL
    go_enter Tryz.func8, Tryz.ntmps8
    go_wp2_with fail
    go_ret
    exact .mk (by rw [X.out]; rfl) (by (repeat (first | (with_reducible exact Below.refl _ _) | (with_reducible assumption) | (with_reducible refine Later.out _ ?_) | (with_reducible refine bel_alloc ?_ _) | (with_reducible refine bel_drew ?_) | (with_reducible refine bel_drewN ?_ _) | (with_reducible refine bel_set ?_ ?_ _) | (with_reducible refine After.out _ ?_ ?_) | (dsimp only; omega) | omega | (simp only [World.size_alloc, World.size_setCell, World.size_drew]; omega))))
  replace hr := Lib.hid hr
  replace hmx := Lib.hid hmx
  replace hL := Lib.hid hL
  go_enter Tryz.func8, Tryz.ntmps8
  go_wp2_with fail
  go_loopw [1, 5] (fun t1 t5 wr => ∃ k : Nat, k ≤ L.length ∧ t5 = .int .i64 k ∧ t1 = .int .i64 (left - L.length - wSum rgSz (L.take k)) ∧ 0 ≤ left - L.length - wSum rgSz (L.take k) ∧ ∃ z : Later w, wr = z.w) (fun _ t5 _ => L.length - (intOf t5).toNat)
  case atStart => exact ⟨0, Nat.zero_le _, rfl, by simp [wSum], by simp [wSum]; omega, ⟨_, Below.refl _ _⟩, rfl⟩
  case round =>
    obtain ⟨k, hk, rfl, rfl, hp, z, rfl⟩ := hrel
    have hk0 := wSum_nonneg rgSz_nonneg (L.take k)
    by_cases hlt : k < L.length
    · obtain ⟨b, o, ai, ci, rfl, hb, q1, q2, q3, q4⟩ := hr.out.at_ hlt
      have hC := fun w => szPoint_R L[k] ai ci (left - L.length - wSum rgSz (L.take k)) w (hmx.out _ (List.getElem_mem hlt)) hp (by omega)
      have hsucc := wSum_succ rgSz hlt
      have hle := wSum_take rgSz_nonneg L (k + 1)
      have hnk := rgSz_nonneg L[k]
      obtain ⟨p, hpe⟩ : ∃ p, left - L.length - wSum rgSz (L.take k) = p := ⟨_, rfl⟩
      rw [hpe] at hp
      simp only [hpe] at hC ⊢
      have hp9 : p ≤ 1048576 := by omega
      by_cases hs : p - rgSz L[k] < 0
      · rw [szR_no hs] at hC
        replace hC := Lib.hid hC
        have X := Lib.hid (szR_no (S := ringsSz L) (left := left) (by have := hL.out; omega))
        clear hpe hsucc q2 q3 q4
        go_wp2_with fail
        with_reducible refine (hC.out _).mono ?_
        rintro e w' ⟨rfl, y1, rfl⟩
        have hsy1 := y1.bel.size
        (try simp only [World.size_alloc, World.size_setCell, World.size_drew] at hsy1)
        go_wp2_with fail
        go_ret
        exact .mk (by rw [X.out]; rfl) (by (repeat (first | (with_reducible exact Below.refl _ _) | (with_reducible assumption) | (with_reducible refine Later.out _ ?_) | (with_reducible refine bel_alloc ?_ _) | (with_reducible refine bel_drew ?_) | (with_reducible refine bel_drewN ?_ _) | (with_reducible refine bel_set ?_ ?_ _) | (with_reducible refine After.out _ ?_ ?_) | (dsimp only; omega) | omega | (simp only [World.size_alloc, World.size_setCell, World.size_drew]; omega))))
      · rw [szR_yes hs] at hC
        replace hC := Lib.hid hC
        have X := Lib.hid (show left - L.length - wSum rgSz (L.take (k + 1)) = p - rgSz L[k] by omega)
        have hp2 : 0 ≤ p - rgSz L[k] := by omega
        have hp3 : p - rgSz L[k] ≤ 1048576 := by omega
        clear hpe hsucc q2 q3 q4
        go_wp2_with fail
        with_reducible refine (hC.out _).mono ?_
        rintro e w' ⟨rfl, y1, rfl⟩
        have hsy1 := y1.bel.size
        (try simp only [World.size_alloc, World.size_setCell, World.size_drew] at hsy1)
        go_wp2_with fail
        go_roundw
        case rel => exact ⟨k + 1, by omega, by go_num, by rw [X.out], by rw [X.out]; exact hp2, ⟨_, by (repeat (first | (with_reducible exact Below.refl _ _) | (with_reducible assumption) | (with_reducible refine Later.out _ ?_) | (with_reducible refine bel_alloc ?_ _) | (with_reducible refine bel_drew ?_) | (with_reducible refine bel_drewN ?_ _) | (with_reducible refine bel_set ?_ ?_ _) | (with_reducible refine After.out _ ?_ ?_) | (dsimp only; omega) | omega | (simp only [World.size_alloc, World.size_setCell, World.size_drew]; omega)))⟩, rfl⟩
        case measure => first | (simp [intOf]; done) | (simp [intOf]; omega) | omega
    · obtain rfl : k = L.length := by omega
      rw [List.take_length] at hp ⊢
      have X := Lib.hid (show szR (ringsSz L) left = left - L.length - wSum rgSz L by have := hL.out; rw [szR_yes (by omega)]; omega)
      go_wp2_with fail
      go_ret
      exact .mk (by rw [X.out]; rfl) (by (repeat (first | (with_reducible exact Below.refl _ _) | (with_reducible assumption) | (with_reducible refine Later.out _ ?_) | (with_reducible refine bel_alloc ?_ _) | (with_reducible refine bel_drew ?_) | (with_reducible refine bel_drewN ?_ _) | (with_reducible refine bel_set ?_ ?_ _) | (with_reducible refine After.out _ ?_ ?_) | (dsimp only; omega) | omega | (simp only [World.size_alloc, World.size_setCell, World.size_drew]; omega))))
theorem info_pts : (Tryz.prog.info? 83).map (fun i => (i.zero, i.size, i.bytes)) = some (some (.slice none 0 0), 1, 24) := by kernel_rfl
/-- A list of one's own. -/
def RetRings (w : World) (T : List (List Pt)) (e : Ending) (w' : World) : Prop :=
  ∃ (g c : Nat) (vs : List Value), e = .returned (.slice (some ⟨g, 0, none⟩) T.length c) ∧ w.heap.size ≤ g ∧ OG w' g w'.heap.size T.length c T vs ∧ ∃ y : Later w, w' = y.w
set_option maxRecDepth 4000 in
set_option maxHeartbeats 1000000 in
theorem toPointSS_any (L : List (List Pt)) (a : Option Addr) (n c : Nat) (w : World) (hn : L.length = n) (hm : n ≤ 1048576) (hok : ∀ r ∈ L, r.length ≤ 1048576) (hr : RingsR w a L) :
    Calls Tryz.prog 11 #[.slice a n c] w (RetRings w L) := by
  subst hn
  have hmk := run_make_row' (P := Tryz.prog) 29 83 (.slice none 0 0) 24 Tryz.underlying29 info_pts rfl .i64 .i64 L.length (by omega) (by omega)
  have hown0 := World.ownsRow_lit (base := w.heap.size) (e := 83) (size := 1) w (madeCells #[.slice none 0 0] L.length) L.length (Nat.le_refl _) (by unfold maxLen; omega) (by simp [size_madeCells])
  replace hr := Lib.hid hr
  replace hok := Lib.hid hok
  have HO := Lib.hid (OG.zero _ w.heap.size L.length L.length L _ ⟨hown0, fun p hp => by cases hp; exact Nat.lt_succ_self _⟩ (by simp only [World.size_alloc]; omega) rfl)
  clear hown0
  go_enter Tryz.func11, Tryz.ntmps11
  go_wp2_with fail
  clear hmk
  go_loopw [4] (fun i wr => ∃ k : Nat, k ≤ L.length ∧ i = .int .i64 k ∧ (∃ vs, OG wr w.heap.size wr.heap.size L.length L.length (L.take k) vs) ∧ ∃ z : Later w, wr = z.w) (fun i _ => L.length - (intOf i).toNat)
  case atStart => exact ⟨0, Nat.zero_le _, rfl, ⟨_, HO.out⟩, ⟨_, bel_alloc (Below.refl _ _) _⟩, rfl⟩
  case round =>
    obtain ⟨k, hk, rfl, ⟨vs, hown⟩, z, rfl⟩ := hrel
    by_cases hlt : k < L.length
    · obtain ⟨b, o, ai, ci, rfl, hb, q1, q2, q3, q4⟩ := hr.out.at_ hlt
      have hok1 := hok.out _ (List.getElem_mem hlt)
      have hzz := z.bel.size
      have hws : w.heap.size < z.w.heap.size := hown.lt
      have hvl := hown.own.own.1
      obtain ⟨u0, r0⟩ : ∃ u, z.w.cell? ⟨w.heap.size, k, none⟩ = some u := ⟨_, (hown.own.own.cellAt k (by omega)).trans (List.getElem?_eq_getElem (by omega))⟩
      have f0 := hown.own.own.frozenAt k
      have HOW := Lib.hid hown
      have C := Lib.hid (fun (w : World) (hr : Row w ai (ptsCells L[k])) => toPointS_any L[k] ai L[k].length ci w rfl hok1 hr)
      replace q2 := Lib.hid q2
      clear hown q3 q4 hok1
      go_wp2_with fail
      with_reducible refine (C.out _ (q2.out.bel (by (repeat (first | (with_reducible exact Below.refl _ _) | (with_reducible assumption) | (with_reducible refine Later.out _ ?_) | (with_reducible refine bel_alloc ?_ _) | (with_reducible refine bel_drew ?_) | (with_reducible refine bel_drewN ?_ _) | (with_reducible refine bel_set ?_ ?_ _) | (with_reducible refine After.out _ ?_ ?_) | (dsimp only; omega) | omega | (simp only [World.size_alloc, World.size_setCell, World.size_drew]; omega)))))).mono ?_
      rintro e w' ⟨a1, c1, rfl, hown, y1, rfl⟩
      have hsy1 := y1.bel.size
      have O1 := Lib.hid hown
      clear hown
      go_wp2_with fail
      have hst := Lib.hid (HOW.out.step hlt hlt y1.bel O1.out)
      go_roundw
      case rel => exact ⟨k + 1, by omega, by go_num, ⟨_, by simp only [World.size_setCell]; exact hst.out⟩, LaterC.mk (by (repeat (first | (with_reducible exact Below.refl _ _) | (with_reducible assumption) | (with_reducible refine Later.out _ ?_) | (with_reducible refine bel_alloc ?_ _) | (with_reducible refine bel_drew ?_) | (with_reducible refine bel_drewN ?_ _) | (with_reducible refine bel_set ?_ ?_ _) | (with_reducible refine After.out _ ?_ ?_) | (dsimp only; omega) | omega | (simp only [World.size_alloc, World.size_setCell, World.size_drew]; omega))))⟩
      case measure => first | (simp [intOf]; done) | (simp [intOf]; omega) | omega
    · obtain rfl : k = L.length := by omega
      rw [List.take_length] at hown
      replace hown := Lib.hid hown
      go_wp2_with fail
      go_ret
      exact ⟨_, _, vs, rfl, Nat.le_refl _, hown.out, z, rfl⟩
set_option maxHeartbeats 1000000 in
theorem eqPointSS_same (L : List (List Pt)) (a a' : Option Addr) (n c n' c' : Nat) (w : World) (hn : L.length = n) (hn' : L.length = n') (hm : n ≤ 1048576) (hok : ∀ r ∈ L, r.length ≤ 1048576) (hr : RingsR w a L) (hr' : RingsR w a' L) :
    Calls Tryz.prog 15 #[.slice a n c, .slice a' n' c'] w (Ret w (.bool true)) := by
  subst hn
  subst hn'
  replace hr := Lib.hid hr
  replace hr' := Lib.hid hr'
  replace hok := Lib.hid hok
  go_enter Tryz.func15, Tryz.ntmps15
  go_wp2_with fail
  go_loopw [5] (fun i wr => ∃ k : Nat, k ≤ L.length ∧ i = .int .i64 k ∧ ∃ z : Later w, wr = z.w) (fun i _ => L.length - (intOf i).toNat)
  case atStart => exact ⟨0, Nat.zero_le _, rfl, ⟨_, Below.refl _ _⟩, rfl⟩
  case round =>
    obtain ⟨k, hk, rfl, z, rfl⟩ := hrel
    by_cases hlt : k < L.length
    · obtain ⟨b, o, ai, ci, rfl, hb, q1, q2, q3, q4⟩ := hr.out.at_ hlt
      obtain ⟨b', o', ai', ci', rfl, hb', s1, s2, s3, s4⟩ := hr'.out.at_ hlt
      have hi1 : (k : Int) < (L.length : Int) := by omega
      have hzz := z.bel.size
      have C := Lib.hid (fun (w : World) (hr : Row w ai (ptsCells L[k])) (hr' : Row w ai' (ptsCells L[k])) => eqPointS_same L[k] ai ai' L[k].length ci L[k].length ci' w rfl rfl (hok.out _ (List.getElem_mem hlt)) hr hr')
      replace q2 := Lib.hid q2
      replace s2 := Lib.hid s2
      clear q3 q4 s3 s4
      go_wp2_with fail
      refine wp_region_plan [(0, true), (1, true), (2, true), (3, true), (4, true), (5, true), (6, true), (7, true), (8, false), (9, true)] (C := LaterC _) (by kernel_rfl) (by kernel_rfl) (by kernel_rfl) rfl (fun _ _ d _ _ h => by cases d <;> exact h) (LaterC.mk ((Below.refl _ _).drew)) ?_
      first | (refine plan_quiet nth0 rfl ?_; intro KP hKP; go_big_quiet_op; go_big_quiet_on) | (refine plan_skip_q nth0 rfl rfl ?_; simp only [Act.put, List.setIfInBounds_toArray, List.set_cons_zero, List.set_cons_succ])
      first | (refine plan_quiet nth1 rfl ?_; intro KP hKP; go_big_quiet_op; go_big_quiet_on) | (refine plan_skip_q nth1 rfl rfl ?_; simp only [Act.put, List.setIfInBounds_toArray, List.set_cons_zero, List.set_cons_succ])
      first | (refine plan_quiet nth2 rfl ?_; intro KP hKP; go_big_quiet_op; go_big_quiet_on) | (refine plan_skip_q nth2 rfl rfl ?_; simp only [Act.put, List.setIfInBounds_toArray, List.set_cons_zero, List.set_cons_succ])
      first | (refine plan_quiet nth3 rfl ?_; intro KP hKP; go_big_quiet_op; go_big_quiet_on) | (refine plan_skip_q nth3 rfl rfl ?_; simp only [Act.put, List.setIfInBounds_toArray, List.set_cons_zero, List.set_cons_succ])
      first | (refine plan_quiet nth4 rfl ?_; intro KP hKP; go_big_quiet_op; go_big_quiet_on) | (refine plan_skip_q nth4 rfl rfl ?_; simp only [Act.put, List.setIfInBounds_toArray, List.set_cons_zero, List.set_cons_succ])
      first | (refine plan_quiet nth5 rfl ?_; intro KP hKP; go_big_quiet_op; go_big_quiet_on) | (refine plan_skip_q nth5 rfl rfl ?_; simp only [Act.put, List.setIfInBounds_toArray, List.set_cons_zero, List.set_cons_succ])
      first | (refine plan_quiet nth6 rfl ?_; intro KP hKP; go_big_quiet_op; go_big_quiet_on) | (refine plan_skip_q nth6 rfl rfl ?_; simp only [Act.put, List.setIfInBounds_toArray, List.set_cons_zero, List.set_cons_succ])
      first | (refine plan_quiet nth7 rfl ?_; intro KP hKP; go_big_quiet_op; go_big_quiet_on) | (refine plan_skip_q nth7 rfl rfl ?_; simp only [Act.put, List.setIfInBounds_toArray, List.set_cons_zero, List.set_cons_succ])
      first | (refine plan_loud nth8 rfl ?_; intro KP hKP; go_wp2_with (first | (go_at_call 62; first | ((with_reducible refine (Calls.later (C.out _ (q2.out.bel (by (repeat (first | (with_reducible exact Below.refl _ _) | (with_reducible assumption) | (with_reducible refine Later.out _ ?_) | (with_reducible refine bel_alloc ?_ _) | (with_reducible refine bel_drew ?_) | (with_reducible refine bel_drewN ?_ _) | (with_reducible refine bel_set ?_ ?_ _) | (with_reducible refine After.out _ ?_ ?_) | (dsimp only; omega) | omega | (simp only [World.size_alloc, World.size_setCell, World.size_drew]; omega))))) (s2.out.bel (by (repeat (first | (with_reducible exact Below.refl _ _) | (with_reducible assumption) | (with_reducible refine Later.out _ ?_) | (with_reducible refine bel_alloc ?_ _) | (with_reducible refine bel_drew ?_) | (with_reducible refine bel_drewN ?_ _) | (with_reducible refine bel_set ?_ ?_ _) | (with_reducible refine After.out _ ?_ ?_) | (dsimp only; omega) | omega | (simp only [World.size_alloc, World.size_setCell, World.size_drew]; omega))))))).mono ?_); rintro e w' ⟨rfl, xl, rfl⟩; have hsz := xl.bel.size; (try simp only [World.size_alloc, World.size_setCell, World.size_drew] at hsz); (try have hz0 : w.heap.size < xl.w.heap.size := (by omega)); (try have hz1 : w.heap.size + 1 < xl.w.heap.size := (by omega)); (try have hz2 : w.heap.size + 1 + 1 < xl.w.heap.size := (by omega))) | ((with_reducible refine (C.out _ (q2.out.bel (by (repeat (first | (with_reducible exact Below.refl _ _) | (with_reducible assumption) | (with_reducible refine Later.out _ ?_) | (with_reducible refine bel_alloc ?_ _) | (with_reducible refine bel_drew ?_) | (with_reducible refine bel_drewN ?_ _) | (with_reducible refine bel_set ?_ ?_ _) | (with_reducible refine After.out _ ?_ ?_) | (dsimp only; omega) | omega | (simp only [World.size_alloc, World.size_setCell, World.size_drew]; omega))))) (s2.out.bel (by (repeat (first | (with_reducible exact Below.refl _ _) | (with_reducible assumption) | (with_reducible refine Later.out _ ?_) | (with_reducible refine bel_alloc ?_ _) | (with_reducible refine bel_drew ?_) | (with_reducible refine bel_drewN ?_ _) | (with_reducible refine bel_set ?_ ?_ _) | (with_reducible refine After.out _ ?_ ?_) | (dsimp only; omega) | omega | (simp only [World.size_alloc, World.size_setCell, World.size_drew]; omega)))))).mono ?_); rintro e w' ⟨rfl, xl, rfl⟩; have hsz := xl.bel.size; (try simp only [World.size_alloc, World.size_setCell, World.size_drew] at hsz); (try have hz0 : w.heap.size < xl.w.heap.size := (by omega)); (try have hz1 : w.heap.size + 1 < xl.w.heap.size := (by omega)); (try have hz2 : w.heap.size + 1 + 1 < xl.w.heap.size := (by omega))))); refine hKP _ _ (LaterC.mk (by (repeat (first | (with_reducible exact Below.refl _ _) | (with_reducible assumption) | (with_reducible refine Later.out _ ?_) | (with_reducible refine bel_alloc ?_ _) | (with_reducible refine bel_drew ?_) | (with_reducible refine bel_drewN ?_ _) | (with_reducible refine bel_set ?_ ?_ _) | (with_reducible refine After.out _ ?_ ?_) | (dsimp only; omega) | omega | (simp only [World.size_alloc, World.size_setCell, World.size_drew]; omega))))) ?_; clear hKP KP) | (refine plan_skip nth8 rfl rfl (LaterC.mk (by (repeat (first | (with_reducible exact Below.refl _ _) | (with_reducible assumption) | (with_reducible refine Later.out _ ?_) | (with_reducible refine bel_alloc ?_ _) | (with_reducible refine bel_drew ?_) | (with_reducible refine bel_drewN ?_ _) | (with_reducible refine bel_set ?_ ?_ _) | (with_reducible refine After.out _ ?_ ?_) | (dsimp only; omega) | omega | (simp only [World.size_alloc, World.size_setCell, World.size_drew]; omega))))) ?_; simp only [Act.put, List.setIfInBounds_toArray, List.set_cons_zero, List.set_cons_succ])
      first | (refine plan_quiet nth9 rfl ?_; intro KP hKP; go_big_quiet_op; go_big_quiet_on) | (refine plan_skip_q nth9 rfl rfl ?_; simp only [Act.put, List.setIfInBounds_toArray, List.set_cons_zero, List.set_cons_succ])
      refine plan_nil ?_
      go_wp2_with fail
      go_roundw
      case rel => exact ⟨k + 1, by omega, by go_num, ⟨_, by (repeat (first | (with_reducible exact Below.refl _ _) | (with_reducible assumption) | (with_reducible refine Later.out _ ?_) | (with_reducible refine bel_alloc ?_ _) | (with_reducible refine bel_drew ?_) | (with_reducible refine bel_drewN ?_ _) | (with_reducible refine bel_set ?_ ?_ _) | (with_reducible refine After.out _ ?_ ?_) | (dsimp only; omega) | omega | (simp only [World.size_alloc, World.size_setCell, World.size_drew]; omega)))⟩, rfl⟩
      case measure => first | (simp [intOf]; done) | (simp [intOf]; omega) | omega
    · obtain rfl : k = L.length := by omega
      go_wp2_with fail
      go_ret
      exact .mk rfl (by (repeat (first | (with_reducible exact Below.refl _ _) | (with_reducible assumption) | (with_reducible refine Later.out _ ?_) | (with_reducible refine bel_alloc ?_ _) | (with_reducible refine bel_drew ?_) | (with_reducible refine bel_drewN ?_ _) | (with_reducible refine bel_set ?_ ?_ _) | (with_reducible refine After.out _ ?_ ?_) | (dsimp only; omega) | omega | (simp only [World.size_alloc, World.size_setCell, World.size_drew]; omega))))
/-- How many marks a ring takes. -/
def rgM (r : List Pt) : Int := 2 * r.length
theorem rgM_nonneg (r : List Pt) : 0 ≤ rgM r := by unfold rgM; omega
theorem rgM_le (R : List (List Pt)) : ∀ j, j ≤ R.length → wSum rgM (R.take j) = 2 * wSum rgSz (R.take j)
  | 0, _ => by simp [wSum]
  | j + 1, h => by
    have ih := rgM_le R j (by omega)
    rw [wSum_succ rgM (by omega), wSum_succ rgSz (by omega)]
    unfold rgM rgSz
    unfold rgM rgSz at ih
    omega
theorem rgM_bd (R : List (List Pt)) {j : Nat} (h : j ≤ R.length) : wSum rgM (R.take j) ≤ 2 * ringsSz R := by
  have h1 := rgM_le R j h
  have h2 := wSum_take rgSz_nonneg R j
  have h3 : ringsSz R = R.length + wSum rgSz R := rfl
  omega
set_option maxRecDepth 8000 in
set_option maxHeartbeats 4000000 in
theorem markPointSS_any (T : List (List Pt)) (g hi n c : Nat) (vs : List Value) (w : World) (h : OG w g hi n c T vs) (hn : T.length = n) (hgh : g + 1 ≤ hi) (hh : hi ≤ w.heap.size) (hm : ringsSz T ≤ 1048576) :
    Calls Tryz.prog 17 #[.slice (some ⟨g, 0, none⟩) n c, .int .i64 1] w (RetAft w g hi (.int .i64 (1 + wSum rgM T))) := by
  have SEP := Lib.hid h.sep
  have HN := Lib.hid (MG.of h)
  have hbd := Lib.hid (fun j (h : j ≤ T.length) => rgM_bd T h)
  have hnn := Lib.hid (fun j => wSum_nonneg rgM_nonneg (T.take j))
  have hTm := Lib.hid (fun (r : List Pt) (h : r ∈ T) => (show rgSz r ≤ ringsSz T from wSz_mem rgSz_nonneg h))
  have hTl : T.length ≤ 1048576 := by have : (T.length : Int) ≤ ringsSz T := wSz_len rgSz_nonneg T; omega
  have hgw := h.lt
  clear h
  subst hn
  go_enter Tryz.func17, Tryz.ntmps17
  go_wp2_with fail
  go_loopw [1, 5] (fun kk i wr => ∃ j : Nat, j ≤ T.length ∧ i = .int .i64 j ∧ kk = .int .i64 (1 + wSum rgM (T.take j)) ∧ Between g hi w wr ∧ MG wr g hi T.length c T vs) (fun _ i _ => T.length - (intOf i).toNat)
  case atStart => exact ⟨0, Nat.zero_le _, rfl, by simp [wSum], Between.refl _ _ _, HN.out⟩
  case round =>
    obtain ⟨j, hj, rfl, rfl, hb, ho⟩ := hrel
    obtain ⟨z, rfl⟩ := AfterC.mk hb
    have hzs := z.btw.size
    by_cases hlt : j < T.length
    · obtain ⟨aj, cj, xs, hvj, hown⟩ := ho.at_ j hlt
      obtain ⟨vs', hov, hve⟩ := ho.own
      have hvl := hov.own.1
      have hc1 := hov.own.cellAt j (by omega)
      rw [hve j hlt, hvj] at hc1
      have hi1 : (j : Int) < (T.length : Int) := by omega
      obtain ⟨p, p', hp1, hp, hp2, hpo, hpb⟩ := own_tight hown (by omega)
      have hsz := hTm.out _ (List.getElem_mem hlt)
      have hof := hbd.out j (by omega)
      have hof0 := hnn.out j
      have hof2 := hbd.out (j + 1) (by omega)
      have hsu := wSum_succ rgM hlt
      have hlj : T[j].length ≤ 1048576 := by unfold rgSz at hsz; omega
      have hmj : rgM T[j] = 2 * (T[j].length : Int) := rfl
      obtain ⟨K, hK⟩ : ∃ K, 1 + wSum rgM (T.take j) = K := ⟨_, rfl⟩
      have hK1 : 0 < K := by omega
      have hK2 : K ≤ 4194304 := by omega
      have X := Lib.hid (show 1 + wSum rgM (T.take (j + 1)) = K + 2 * (T[j].length : Int) by omega)
      simp only [hK]
      have HOZ := Lib.hid ho
      have HV := Lib.hid hvj
      have hbz := Lib.hid z.btw
      have hgz : g < z.w.heap.size := by omega
      have C := Lib.hid (markPointS_any aj T[j].length cj p p' K _ z.w hpo (by omega) (by omega) (by omega))
      replace hpo := Lib.hid hpo
      replace hpb := Lib.hid hpb
      clear ho hown hb hsz hsu hve hov hof hof2 hof0 hK hmj hvj
      go_wp2_with fail
      with_reducible refine C.out.mono ?_
      rintro e w' ⟨rfl, z2, rfl, xs2, ho2⟩
      have N2 := Lib.hid (HOZ.out.inner SEP.out hlt HV.out hp1 hp2 hpb.out hpo.out z2.btw ho2)
      have hs2 := z2.btw.size
      clear ho2
      go_wp2_with fail
      go_roundw
      case rel =>
        refine ⟨j + 1, by omega, by go_num, by rw [X.out], ?_, N2.out⟩
        have h1 := hbz.out
        exact ⟨z2.btw.os.trans h1.os, z2.btw.tape.trans h1.tape, z2.btw.output.trans h1.output, Nat.le_trans h1.size z2.btw.size, fun q hq hor => (z2.btw.block q (Nat.lt_of_lt_of_le hq h1.size) (by omega)).trans (h1.block q hq hor)⟩
      case measure => first | (simp [intOf]; done) | (simp [intOf]; omega) | omega
    · obtain rfl : j = T.length := by omega
      rw [List.take_length]
      clear ho
      go_wp2_with fail
      go_ret
      exact ⟨rfl, z, rfl⟩
end Go.Proofs.YtklcaphkfdlipaaGreatDoor

/- slices.Clone, Reverse, Grow and Concat of points. -/
set_option linter.unusedSimpArgs false
set_option linter.unusedVariables false
namespace Go.Proofs.YtklcaphkfdlipaaGreatDoor
open Go.RowKit
theorem Row.none {w : World} {xs : List Value} (h : Row w none xs) : xs = [] := by
  cases xs with
  | nil => rfl
  | cons x r => obtain ⟨b, o, h, _⟩ := h 0 x rfl; cases h
theorem pts_nil {L : List Pt} (h : ptsCells L = []) : L = [] := by
  have := length_ptsCells L
  rw [h] at this
  cases L with
  | nil => rfl
  | cons c L => simp at this
theorem info_pnt : ∃ i, Tryz.prog.info? 72 = some i ∧ i.zero = some (.agg #[.int .i64 0, .int .i64 0]) ∧ i.size = 2 ∧ i.bytes = 16 := by
  obtain ⟨i, h1, h2⟩ := Option.map_eq_some_iff.1 info_pt
  simp only [Prod.mk.injEq] at h2
  exact ⟨i, h1, h2.1, h2.2.1, h2.2.2⟩
theorem one_pnts (L : List Pt) : ∀ u ∈ ptsCells L, u.oneCell' = true := by
  intro u hu
  simp only [ptsCells, List.mem_flatMap] at hu
  obtain ⟨p, _, hp⟩ := hu
  simp [ptCells] at hp
  rcases hp with rfl | rfl <;> rfl
set_option maxRecDepth 4000 in
set_option maxHeartbeats 400000 in
theorem clonePts_any (L : List Pt) (a : Option Addr) (n c : Nat) (w : World) (hn : L.length = n) (hm : n ≤ 1048576) (hr : Row w a (ptsCells L)) :
    Calls Tryz.prog 142 #[.slice a n c] w (RetOwn w 72 2 n (ptsCells L) id) := by
  subst hn
  cases a with
  | none =>
    obtain rfl := pts_nil hr.none
    have heq := fun w => Lib.run_eql_slice_nil (P := Tryz.prog) w 83 72 none 0 c 0 0 Tryz.underlying83
    go_enter Tryz.func142, Tryz.ntmps142
    go_wp2_with fail
    go_ret
    exact RetOwn.mk (.slice none 0 0) rfl (World.ownsRow_nil _ _ _ _) (by (repeat (first | (with_reducible exact Below.refl _ _) | (with_reducible assumption) | (with_reducible refine Later.out _ ?_) | (with_reducible refine bel_alloc ?_ _) | (with_reducible refine bel_drew ?_) | (with_reducible refine bel_drewN ?_ _) | (with_reducible refine bel_set ?_ ?_ _) | (with_reducible refine After.out _ ?_ ?_) | (dsimp only; omega) | omega | (simp only [World.size_alloc, World.size_setCell, World.size_drew]; omega))))
  | some p =>
    obtain ⟨ii, j1, j2, j3, j4⟩ := info_pnt
    have Jii := Lib.hid (And.intro j1 (And.intro j2 (And.intro j3 j4)))
    have HR := Lib.hid hr
    have hl7 := length_ptsCells L
    clear j1 j2 j3 j4 hr
    have heq := fun w => Lib.run_eql_slice_nil (P := Tryz.prog) w 83 72 (some p) L.length c 0 0 Tryz.underlying83
    go_enter Tryz.func142, Tryz.ntmps142
    go_wp2_with (at_builtin; (refine wpList_append_later _ rfl _ _ _ rfl 72 ii _ 2 16 Tryz.underlying83 Jii.out.1 Jii.out.2.1 Jii.out.2.2.1 Jii.out.2.2.2 rfl (by decide) (w) ?qa1 _ _ _ ([]) rfl ?qa2 _ _ _ (ptsCells L) rfl ?qa3 ?qa4 ?qa5 ?qa6 ?qa7 ?_); (case qa1 => (repeat (first | (with_reducible exact Below.refl _ _) | (with_reducible assumption) | (with_reducible refine Later.out _ ?_) | (with_reducible refine bel_alloc ?_ _) | (with_reducible refine bel_drew ?_) | (with_reducible refine bel_drewN ?_ _) | (with_reducible refine bel_set ?_ ?_ _) | (with_reducible refine After.out _ ?_ ?_) | (dsimp only; omega) | omega | (simp only [World.size_alloc, World.size_setCell, World.size_drew]; omega)))); (case qa2 => exact World.ownsRow_lit w #[] 0 (Nat.le_refl _) (by unfold maxLen; omega) rfl); (case qa3 => (first | rfl | (simp [boolCells]; done) | (simp [intCells]; done) | (simp; done) | (first | omega | (simp only [List.length_append, List.length_cons, List.length_nil]; omega)))); (case qa4 => exact HR.out.bel (by (repeat (first | (with_reducible exact Below.refl _ _) | (with_reducible assumption) | (with_reducible refine Later.out _ ?_) | (with_reducible refine bel_alloc ?_ _) | (with_reducible refine bel_drew ?_) | (with_reducible refine bel_drewN ?_ _) | (with_reducible refine bel_set ?_ ?_ _) | (with_reducible refine After.out _ ?_ ?_) | (dsimp only; omega) | omega | (simp only [World.size_alloc, World.size_setCell, World.size_drew]; omega))))); (case qa5 => exact one_pnts L); (case qa6 => (unfold maxLen; (first | omega | (simp only [List.length_append, List.length_cons, List.length_nil]; omega)))); (case qa7 => (first | omega | (simp only [List.length_append, List.length_cons, List.length_nil]; omega))); intro a' c' x hown)
    simp only [Nat.zero_add, List.nil_append] at hown
    have HO := Lib.hid hown
    clear hown
    go_ret
    exact RetOwn.mk _ rfl HO.out x.bel
/-! ### Reverse -/
theorem ptsSet {q : Pt} : ∀ {M : List Pt} {i : Nat}, i < M.length → ptsCells (M.set i q) = ((ptsCells M).set (i * 2) (.int .i64 q.x)).set (i * 2 + 1) (.int .i64 q.y)
  | [], i, h => by simp at h
  | d :: M, 0, h => rfl
  | d :: M, i + 1, h => by
    have ih := ptsSet (q := q) (M := M) (i := i) (by simpa using h)
    rw [show (i + 1) * 2 = i * 2 + 2 by omega, show i * 2 + 2 + 1 = (i * 2 + 1) + 2 by omega]
    show ptCells d ++ ptsCells (M.set i q) = _
    rw [ih]
    rfl
def atP (L : List Pt) (i : Nat) : Pt := L.getD i ⟨0, 0⟩
theorem atP_get {L : List Pt} {i : Nat} (h : i < L.length) : atP L i = L[i] := by simp [atP, h]
/-- The first `k` and the last `k` are changed about. -/
def revTo (L : List Pt) (k : Nat) : List Pt := (List.range L.length).map fun i => if i < k ∨ L.length ≤ i + k then atP L (L.length - 1 - i) else atP L i
theorem revTo_len (L : List Pt) (k : Nat) : (revTo L k).length = L.length := by simp [revTo]
theorem revTo_get {L : List Pt} {k i : Nat} (h : i < (revTo L k).length) : (revTo L k)[i] = if i < k ∨ L.length ≤ i + k then atP L (L.length - 1 - i) else atP L i := by simp [revTo]
theorem revTo_zero (L : List Pt) : revTo L 0 = L := by
  refine List.ext_getElem (revTo_len L 0) fun i h1 h2 => ?_
  rw [revTo_get, if_neg (by omega), atP_get h2]
theorem revTo_all {L : List Pt} {k j : Nat} (h : k + j + 1 = L.length) (h1 : ¬ k < j) (h2 : k ≤ j + 1) : revTo L k = L.reverse := by
  refine List.ext_getElem (by rw [revTo_len]; simp) fun i h3 h4 => ?_
  rw [revTo_len] at h3
  rw [revTo_get, List.getElem_reverse]
  split
  · rw [atP_get (by omega)]
  · rw [atP_get h3]
    have : L.length - 1 - i = i := by omega
    simp only [this]
theorem revTo_step {L : List Pt} {k j : Nat} (h : k + j + 1 = L.length) (h1 : k < j) : ((revTo L k).set k (atP L j)).set j (atP L k) = revTo L (k + 1) := by
  refine List.ext_getElem (by simp [revTo_len]) fun i h3 h4 => ?_
  rw [revTo_len] at h4
  rw [revTo_get]
  by_cases hij : j = i
  · subst hij
    rw [List.getElem_set_self, if_pos (by omega), show L.length - 1 - j = k by omega]
  · rw [List.getElem_set_ne hij]
    by_cases hik : k = i
    · subst hik
      rw [List.getElem_set_self, if_pos (by omega), show L.length - 1 - k = j by omega]
    · rw [List.getElem_set_ne hik, revTo_get]
      by_cases hc : i < k ∨ L.length ≤ i + k
      · rw [if_pos hc, if_pos (by omega)]
      · rw [if_neg hc, if_neg (by omega)]
/-- Nothing is handed back; the slice of the caller's own holds these cells. -/
def RetTurn (w : World) (lo hi E s n : Nat) (a : Option Addr) (c : Nat) (xs : List Value) (e : Ending) (w' : World) : Prop :=
  e = .returned (.tuple #[]) ∧ ∃ z : After w lo hi, w' = z.w ∧ Owns z.w lo hi E s n a c xs
theorem pt_two {W : World} {lo hi g n c i : Nat} {M : List Pt} (h : Owns W lo hi 72 2 n (some ⟨g, 0, none⟩) c (ptsCells M)) (hi' : i < M.length) : W.cell? ⟨g, i * 2, none⟩ = some (.int .i64 M[i].x) ∧ W.cell? ⟨g, i * 2 + 1, none⟩ = some (.int .i64 M[i].y) ∧ W.frozen? ⟨g, i * 2, none⟩ = false ∧ W.frozen? ⟨g, i * 2 + 1, none⟩ = false := by
  have h1 := h.own.1
  rw [length_ptsCells] at h1
  obtain ⟨b, o, he, hb, c0, c1⟩ := h.row.pt hi'
  injection he with he
  injection he with e1 e2
  subst e1 e2
  rw [Nat.zero_add] at c0 c1
  exact ⟨c0, c1, h.own.frozenAt _, h.own.frozenAt _⟩
set_option maxRecDepth 8000 in
set_option maxHeartbeats 4000000 in
theorem revPts_any (L : List Pt) (a : Option Addr) (n c lo hi : Nat) (w : World) (h : Owns w lo hi 72 2 n a c (ptsCells L)) (hh : hi ≤ w.heap.size) (hn : L.length = n) (h0 : 0 < n) (hm : n ≤ 1048576) :
    Calls Tryz.prog 143 #[.slice a n c] w (RetTurn w lo hi 72 2 n a c (ptsCells L.reverse)) := by
  have HO := Lib.hid h
  obtain ⟨g, rfl, g1, g2, -⟩ := h.at_ (j := 0) (by omega)
  subst hn
  clear h
  go_enter Tryz.func143, Tryz.ntmps143
  go_wp2_with fail
  go_loopw [2, 3] (fun i j wr => ∃ k m : Nat, k + m + 1 = L.length ∧ i = .int .i64 k ∧ j = .int .i64 m ∧ k ≤ m + 1 ∧ Between lo hi w wr ∧ Owns wr lo hi 72 2 L.length (some ⟨g, 0, none⟩) c (ptsCells (revTo L k))) (fun i j _ => (intOf j - intOf i).toNat)
  case atStart => exact ⟨0, L.length - 1, by omega, by go_num, by go_num, by omega, Between.refl _ _ _, by rw [revTo_zero]; exact HO.out⟩
  case round =>
    obtain ⟨k, m, hkm, rfl, rfl, hkm1, hb, ho⟩ := hrel
    by_cases hlt : k < m
    · obtain ⟨z, rfl⟩ := AfterC.mk hb
      have hzs := z.btw.size
      have hgz : g < z.w.heap.size := by omega
      have hl := revTo_len L k
      obtain ⟨p1, p2, p3, p4⟩ := pt_two ho (i := k) (by omega)
      obtain ⟨q1, q2, q3, q4⟩ := pt_two ho (i := m) (by omega)
      have e1 : (revTo L k)[k]'(by omega) = atP L k := by rw [revTo_get, if_neg (by omega)]
      have e2 : (revTo L k)[m]'(by omega) = atP L m := by rw [revTo_get, if_neg (by omega)]
      rw [e1] at p1 p2
      rw [e2] at q1 q2
      have hst := Lib.hid ((((ho.set (j := k * 2) (.int .i64 (atP L m).x)).set (j := k * 2 + 1) (.int .i64 (atP L m).y)).set (j := m * 2) (.int .i64 (atP L k).x)).set (j := m * 2 + 1) (.int .i64 (atP L k).y))
      rw [← ptsSet (q := atP L m) (by omega), ← ptsSet (q := atP L k) (by simp; omega), revTo_step hkm hlt] at hst
      have hbz := Lib.hid z.btw
      generalize atP L k = A at *
      generalize atP L m = B at *
      have hi1 : (k : Int) < (L.length : Int) := by omega
      have hi2 : (m : Int) < (L.length : Int) := by omega
      have hi3 : (k : Int) < (m : Int) := by omega
      clear e1 e2 ho hb
      go_wp2_with fail
      go_region
      go_wp2_with fail
      go_roundw
      case rel =>
        refine ⟨k + 1, m - 1, by omega, by go_num, by go_num, by omega, ?_, hst.out.bel (B := hi) ((Below.refl _ _).drew) (Nat.le_refl _)⟩
        have h0 := hbz.out
        exact ((((h0.set (p := ⟨g, k * 2, none⟩) g1 g2 _).set (p := ⟨g, k * 2 + 1, none⟩) g1 g2 _).set (p := ⟨g, m * 2, none⟩) g1 g2 _).set (p := ⟨g, m * 2 + 1, none⟩) g1 g2 _).drew
      case measure => simp [intOf]; omega
    · rw [revTo_all hkm hlt hkm1] at ho
      obtain ⟨z, rfl⟩ := AfterC.mk hb
      replace ho := Lib.hid ho
      clear hb
      go_wp2_with fail
      refine bodyPost_ret (by simp [results, Tryz.results143, go_sem, ↓IntWalk.iteOmega, *]; try rfl) rfl ?_
      exact ⟨rfl, z, rfl, ho.out⟩
/-! ### Grow and Concat -/
theorem own_none2 {w : World} {base cap s : Nat} {e : TypeId} {cs : Array Value} (hb : base ≤ w.heap.size) (hc : cap ≤ maxLen) (hs : cs.size = cap * s) :
    (w.alloc (.cells cs e)).ownsRow base e s (.slice (some ⟨w.heap.size, 0, none⟩) 0 cap) 0 [] :=
  ⟨by simp, .inr ⟨w.heap.size, cap, cs, rfl, hb, heap_alloc_new w _, Nat.zero_le _, hc, by omega, by simp⟩⟩
set_option maxRecDepth 8000 in
set_option maxHeartbeats 2000000 in
theorem growPts_any (n : Nat) (w : World) (hn : n ≤ 1048576) : Calls Tryz.prog 163 #[.slice none 0 0, .int .i64 n] w (RetOwn w 72 2 0 [] id) := by
  rcases Nat.eq_zero_or_pos n with rfl | h0
  · go_enter Tryz.func163, Tryz.ntmps163
    go_wp2_with fail
    go_ret
    exact RetOwn.mk (.slice none 0 0) rfl (World.ownsRow_nil _ _ _ _) (by (repeat (first | (with_reducible exact Below.refl _ _) | (with_reducible assumption) | (with_reducible refine Later.out _ ?_) | (with_reducible refine bel_alloc ?_ _) | (with_reducible refine bel_drew ?_) | (with_reducible refine bel_drewN ?_ _) | (with_reducible refine bel_set ?_ ?_ _) | (with_reducible refine After.out _ ?_ ?_) | (dsimp only; omega) | omega | (simp only [World.size_alloc, World.size_setCell, World.size_drew]; omega))))
  · obtain ⟨i, j1, j2, j3, j4⟩ := info_pnt
    have hrz : ∀ (w : World) ty, (Builtin.append_ #[83, 3] ty #[.slice none 0 0, .int .i64 n]).run Tryz.prog w = .ok (.slice (some ⟨w.heap.size, 0, none⟩) n (grownCap w n 0 72)) (w.drew.alloc (.cells (#[] ++ Builtin.zeroCells (Value.agg #[.int .i64 0, .int .i64 0]).cells n ++ Builtin.zeroCells (Value.agg #[.int .i64 0, .int .i64 0]).cells (grownCap w n 0 72 - n)) 72)) := fun w ty => by
      have h := Lib.run_append_grow_zeros w 83 3 ty 72 i _ .i64 .i64 Tryz.underlying83 Tryz.underlying3 j1 j2 none 0 0 [] (run_firstCells_none w.drew i.size 0 0 0) n h0 (by omega) (by omega) (by omega) (by rw [j4]; omega) (growslice_fits (by omega) (by rw [j4]; omega))
      simp only [Nat.zero_add] at h
      exact h
    have hG : ∀ w : World, n ≤ grownCap w n 0 72 ∧ grownCap w n 0 72 ≤ maxLen := fun w => ⟨grownCap_ge w _ _ _, grownCap_le_maxLen w _ _ _ (by unfold maxLen; omega)⟩
    have hn1 : (0 : Int) < n := by omega
    replace hG := Lib.hid hG
    clear j1 j2 j3 j4
    go_enter Tryz.func163, Tryz.ntmps163
    go_wp2_with (at_builtin; refine Lib.wpList_append_run _ rfl _ _ _ _ rfl _ _ rfl rfl _ _ (hrz _ _) ?_)
    have h1 := (hG.out w).1
    have h2 := (hG.out w).2
    have HO := Lib.hid (own_none2 (w := w) (base := w.heap.size) (cap := grownCap w n 0 72) (s := 2) (e := 72) (cs := Builtin.zeroCells #[.int .i64 0, .int .i64 0] n ++ Builtin.zeroCells #[.int .i64 0, .int .i64 0] (grownCap w n 0 72 - n)) (Nat.le_refl _) h2 (by simp only [Array.size_append, size_zeroCells]; simp; omega))
    clear h1 h2
    go_ret
    refine RetOwn.mk _ rfl ?_ ?_
    · exact own_bel HO.out (by (repeat (first | (with_reducible exact Below.refl _ _) | (with_reducible assumption) | (with_reducible refine Later.out _ ?_) | (with_reducible refine bel_alloc ?_ _) | (with_reducible refine bel_drew ?_) | (with_reducible refine bel_drewN ?_ _) | (with_reducible refine bel_set ?_ ?_ _) | (with_reducible refine After.out _ ?_ ?_) | (dsimp only; omega) | omega | (simp only [World.size_alloc, World.size_setCell, World.size_drew]; omega))))
    · (repeat (first | (with_reducible exact Below.refl _ _) | (with_reducible assumption) | (with_reducible refine Later.out _ ?_) | (with_reducible refine bel_alloc ?_ _) | (with_reducible refine bel_drew ?_) | (with_reducible refine bel_drewN ?_ _) | (with_reducible refine bel_set ?_ ?_ _) | (with_reducible refine After.out _ ?_ ?_) | (dsimp only; omega) | omega | (simp only [World.size_alloc, World.size_setCell, World.size_drew]; omega)))
/-- Slices of points in a row, for reading. -/
def RowsP (w : World) (a : Option Addr) (S : List (List Pt)) : Prop :=
  ∀ i (h : i < S.length), ∃ b o ai ci, a = some ⟨b, o, none⟩ ∧ b < w.heap.size ∧ w.cell? ⟨b, o + i, none⟩ = some (.slice ai S[i].length ci) ∧ Row w ai (ptsCells S[i])
/-- The first `k` lists, one behind the other. -/
def flatP (S : List (List Pt)) (k : Nat) : List Pt := (S.take k).flatten
theorem flatP_succ {S : List (List Pt)} {k : Nat} (h : k < S.length) : flatP S (k + 1) = flatP S k ++ S[k] := by
  unfold flatP
  rw [List.take_succ_eq_append_getElem h, List.flatten_append]
  simp
theorem flatP_le {S : List (List Pt)} {M : Nat} (h : ∀ l ∈ S, l.length ≤ M) : ∀ k, k ≤ S.length → (flatP S k).length ≤ k * M
  | 0, _ => by simp [flatP]
  | k + 1, hk => by
    have ih := flatP_le h k (by omega)
    have := h _ (List.getElem_mem (show k < S.length by omega))
    rw [flatP_succ (by omega), List.length_append, Nat.succ_mul]
    omega
set_option maxRecDepth 8000 in
set_option maxHeartbeats 2000000 in
theorem concatPts_any (S : List (List Pt)) (a : Option Addr) (n c M : Nat) (w : World) (hn : S.length = n) (hm : n ≤ 1000) (hM : ∀ l ∈ S, l.length ≤ M) (hM' : M ≤ 1000) (hr : RowsP w a S) :
    Calls Tryz.prog 144 #[.slice a n c] w (RetOwn w 72 2 (flatP S n).length (ptsCells (flatP S n)) id) := by
  obtain ⟨ii, j1, j2, j3, j4⟩ := info_pnt
  have Jii := Lib.hid (And.intro j1 (And.intro j2 (And.intro j3 j4)))
  clear j1 j2 j3 j4
  subst hn
  have hoff := Lib.hid (flatP_le hM)
  replace hM := Lib.hid hM
  replace hr := Lib.hid hr
  go_enter Tryz.func144, Tryz.ntmps144
  go_wp2_with fail
  go_loopw [3, 11] (fun s i wr => ∃ k : Nat, k ≤ S.length ∧ i = .int .i64 k ∧ s = .int .i64 ((flatP S k).length : Nat) ∧ ∃ z : Later w, wr = z.w) (fun _ i _ => S.length - (intOf i).toNat)
  case atStart => exact ⟨0, Nat.zero_le _, rfl, rfl, ⟨_, Below.refl _ _⟩, rfl⟩
  case round =>
    obtain ⟨k, hk, rfl, rfl, z, rfl⟩ := hrel
    have hzz := z.bel.size
    have hof := hoff.out k hk
    have hof2 : k * M ≤ 1000 * 1000 := Nat.mul_le_mul (by omega) hM'
    by_cases hlt : k < S.length
    · obtain ⟨b, o, ai, ci, rfl, hb, hc, hrow⟩ := hr.out k hlt
      have hi1 : (k : Int) < (S.length : Int) := by omega
      have hl1 := hM.out _ (List.getElem_mem hlt)
      have X := Lib.hid (show (flatP S (k + 1)).length = (flatP S k).length + S[k].length by rw [flatP_succ hlt, List.length_append])
      have hpos : ¬ (((flatP S k).length : Int) + (S[k].length : Int) < 0) := by omega
      clear hrow
      go_wp2_with fail
      go_roundw
      case rel => exact ⟨k + 1, by omega, by go_num, by rw [X.out]; go_num, LaterC.mk (by (repeat (first | (with_reducible exact Below.refl _ _) | (with_reducible assumption) | (with_reducible refine Later.out _ ?_) | (with_reducible refine bel_alloc ?_ _) | (with_reducible refine bel_drew ?_) | (with_reducible refine bel_drewN ?_ _) | (with_reducible refine bel_set ?_ ?_ _) | (with_reducible refine After.out _ ?_ ?_) | (dsimp only; omega) | omega | (simp only [World.size_alloc, World.size_setCell, World.size_drew]; omega))))⟩
      case measure => first | (simp [intOf]; done) | (simp [intOf]; omega) | omega
    · obtain rfl : k = S.length := by omega
      have hG := fun w => growPts_any (flatP S S.length).length w (by omega)
      replace hG := Lib.hid hG
      go_wp2_with fail
      with_reducible refine (hG.out _).mono ?_
      rintro e w' ⟨a6, c6, rfl, hown, y1, rfl⟩
      have hsy1 := y1.bel.size
      (try simp only [World.size_alloc, World.size_setCell, World.size_drew] at hsy1)
      have H6 := Lib.hid (Owns.of hown)
      clear hown
      go_wp2_with fail
      go_loopw [6, 27] (fun t6 i wr => ∃ (k : Nat) (a6 : Option Addr) (c6 : Nat), k ≤ S.length ∧ i = .int .i64 k ∧ t6 = .slice a6 (flatP S k).length c6 ∧ wr.ownsRow w.heap.size 72 2 (.slice a6 (flatP S k).length c6) (flatP S k).length (ptsCells (flatP S k)) ∧ ∃ z : Later w, wr = z.w) (fun _ i _ => S.length - (intOf i).toNat)
      case atStart => exact ⟨0, a6, c6, Nat.zero_le _, rfl, rfl, own_mono (own_bel H6.out.own (by (repeat (first | (with_reducible exact Below.refl _ _) | (with_reducible assumption) | (with_reducible refine Later.out _ ?_) | (with_reducible refine bel_alloc ?_ _) | (with_reducible refine bel_drew ?_) | (with_reducible refine bel_drewN ?_ _) | (with_reducible refine bel_set ?_ ?_ _) | (with_reducible refine After.out _ ?_ ?_) | (dsimp only; omega) | omega | (simp only [World.size_alloc, World.size_setCell, World.size_drew]; omega))))) (by ((try simp only [World.size_alloc, World.size_setCell, World.size_drew]); omega)), LaterC.mk (by (repeat (first | (with_reducible exact Below.refl _ _) | (with_reducible assumption) | (with_reducible refine Later.out _ ?_) | (with_reducible refine bel_alloc ?_ _) | (with_reducible refine bel_drew ?_) | (with_reducible refine bel_drewN ?_ _) | (with_reducible refine bel_set ?_ ?_ _) | (with_reducible refine After.out _ ?_ ?_) | (dsimp only; omega) | omega | (simp only [World.size_alloc, World.size_setCell, World.size_drew]; omega))))⟩
      case round =>
        obtain ⟨k, a6, c6, hk, rfl, rfl, hown, z2, rfl⟩ := hrel
        have hz2 := z2.bel.size
        have hof := hoff.out k hk
        have hof2 : k * M ≤ 1000 * 1000 := Nat.mul_le_mul (by omega) hM'
        replace hown := Lib.hid hown
        by_cases hlt : k < S.length
        · obtain ⟨b, o, ai, ci, rfl, hb, hc, hrow⟩ := hr.out k hlt
          have hi1 : (k : Int) < (S.length : Int) := by omega
          have hl1 := hM.out _ (List.getElem_mem hlt)
          have X := Lib.hid (show (flatP S (k + 1)).length = (flatP S k).length + S[k].length by rw [flatP_succ hlt, List.length_append])
          have Y := Lib.hid (flatP_succ hlt)
          have hli := length_ptsCells S[k]
          have hlk := length_ptsCells (flatP S k)
          replace hrow := Lib.hid hrow
          go_wp2_with (at_builtin; (refine wpList_append_later _ rfl _ _ _ rfl 72 ii _ 2 16 Tryz.underlying83 Jii.out.1 Jii.out.2.1 Jii.out.2.2.1 Jii.out.2.2.2 rfl (by decide) (w) ?qa8 _ _ _ (ptsCells (flatP S k)) rfl ?qa9 _ _ _ (ptsCells S[k]) rfl ?qa10 ?qa11 ?qa12 ?qa13 ?qa14 ?_); (case qa8 => (repeat (first | (with_reducible exact Below.refl _ _) | (with_reducible assumption) | (with_reducible refine Later.out _ ?_) | (with_reducible refine bel_alloc ?_ _) | (with_reducible refine bel_drew ?_) | (with_reducible refine bel_drewN ?_ _) | (with_reducible refine bel_set ?_ ?_ _) | (with_reducible refine After.out _ ?_ ?_) | (dsimp only; omega) | omega | (simp only [World.size_alloc, World.size_setCell, World.size_drew]; omega)))); (case qa9 => exact hown.out); (case qa10 => (first | rfl | (simp [boolCells]; done) | (simp [intCells]; done) | (simp; done) | (first | omega | (simp only [List.length_append, List.length_cons, List.length_nil]; omega)))); (case qa11 => exact hrow.out.bel (by (repeat (first | (with_reducible exact Below.refl _ _) | (with_reducible assumption) | (with_reducible refine Later.out _ ?_) | (with_reducible refine bel_alloc ?_ _) | (with_reducible refine bel_drew ?_) | (with_reducible refine bel_drewN ?_ _) | (with_reducible refine bel_set ?_ ?_ _) | (with_reducible refine After.out _ ?_ ?_) | (dsimp only; omega) | omega | (simp only [World.size_alloc, World.size_setCell, World.size_drew]; omega))))); (case qa12 => exact one_pnts _); (case qa13 => (unfold maxLen; (first | omega | (simp only [List.length_append, List.length_cons, List.length_nil]; omega)))); (case qa14 => (first | omega | (simp only [List.length_append, List.length_cons, List.length_nil]; omega))); intro a9 c9 x9 hown9)
          replace hown9 := Lib.hid hown9
          go_roundw
          case rel => exact ⟨k + 1, a9, c9, by omega, by go_num, by rw [X.out], by rw [X.out, Y.out, ptsCells_append]; exact hown9.out, x9, rfl⟩
          case measure => first | (simp [intOf]; done) | (simp [intOf]; omega) | omega
        · obtain rfl : k = S.length := by omega
          go_wp2_with fail
          go_ret
          exact RetOwn.mk _ rfl hown.out z2.bel
end Go.Proofs.YtklcaphkfdlipaaGreatDoor

/- slices.IndexFunc and slices.ContainsFunc with a function value: rings, views, texts. -/
set_option linter.unusedSimpArgs false
set_option linter.unusedVariables false
namespace Go.Proofs.YtklcaphkfdlipaaGreatDoor
open Go.RowKit
/-- The first place at which `p` holds, -1 if none. -/
def idxG {α : Type} (p : α → Bool) (L : List α) : Int := match L.findIdx? p with
  | some i => i
  | none => -1
theorem idxG_none {α : Type} {p : α → Bool} {L : List α} (h : ∀ j (hj : j < L.length), p L[j] = false) : idxG p L = -1 := by
  have : L.findIdx? p = none := by
    rw [List.findIdx?_eq_none_iff]
    intro x hx
    obtain ⟨j, hj, rfl⟩ := List.mem_iff_getElem.1 hx
    exact h j hj
  simp [idxG, this]
theorem idxG_some {α : Type} {p : α → Bool} {L : List α} {k : Nat} (hk : k < L.length) (h1 : p L[k] = true) (h : ∀ j (hj : j < L.length), j < k → p L[j] = false) : idxG p L = k := by
  have : L.findIdx? p = some k := by
    rw [List.findIdx?_eq_some_iff_getElem]
    exact ⟨hk, h1, fun j hj => by rw [h j (by omega) hj]; simp⟩
  simp [idxG, this]
theorem idxG_nonneg {α : Type} (p : α → Bool) (L : List α) : decide (0 ≤ idxG p L) = L.any p := by
  unfold idxG
  cases h : L.findIdx? p with
  | none =>
    rw [List.findIdx?_eq_none_iff] at h
    have : L.any p = false := by rw [Bool.eq_false_iff]; intro hh; obtain ⟨x, hx, hp⟩ := List.any_eq_true.1 hh; rw [h x hx] at hp; cases hp
    simp [this]
  | some i =>
    rw [List.findIdx?_eq_some_iff_getElem] at h
    obtain ⟨hi, hp, _⟩ := h
    have : L.any p = true := List.any_eq_true.2 ⟨L[i], List.getElem_mem hi, hp⟩
    simp [this]
/-- What a function value must do for a list: tell `p` of each of its elements, whenever it is called later. -/
def TellsG (g : Nat) (pre lb : Array Value) (p : List Pt → Bool) (L : List (List Pt)) (w : World) : Prop :=
  ∀ x ∈ L, ∀ (ai : Option Addr) (ci : Nat), ∀ w' : World, Below w.heap.size w w' → Row w' ai (ptsCells x) → x.length ≤ ci → ci ≤ maxLen → Calls Tryz.prog g (pre.push (.slice ai x.length ci) ++ lb) w' (Ret w' (.bool (p x)))
theorem TellsG.bel {g : Nat} {pre lb : Array Value} {p : List Pt → Bool} {L : List (List Pt)} {w w1 : World} (h : TellsG g pre lb p L w) (hb : Below w.heap.size w w1) : TellsG g pre lb p L w1 :=
  fun x hx ai ci w' hb' => h x hx ai ci w' (hb.trans (hb'.mono hb.size))
theorem TellsG.take {g : Nat} {pre lb : Array Value} {p : List Pt → Bool} {L : List (List Pt)} {w : World} (h : TellsG g pre lb p L w) (k : Nat) : TellsG g pre lb p (L.take k) w :=
  fun x hx => h x (List.mem_of_mem_take hx)
set_option maxHeartbeats 1000000 in
theorem indexFuncG_any (g : Nat) (pre lb : Array Value) (p : List Pt → Bool) (L : List (List Pt)) (a : Option Addr) (n c : Nat) (w : World) (eg : ∀ args w, (callFunc g args).run Tryz.prog w = .ok (.enter g args) w)
    (hn : L.length = n) (hm : n ≤ 1048576) (hr : RingsR w a L ) (hp : TellsG g pre lb p L w) :
    Calls Tryz.prog 95 #[.slice a n c, .func (.func g) pre lb] w (Ret w (.int .i64 (idxG p L))) := by
  subst hn
  replace hr := Lib.hid hr
  replace hp := Lib.hid hp
  go_enter Tryz.func95, Tryz.ntmps95
  go_wp2_with fail
  go_loopw [8] (fun i wr => ∃ k : Nat, k ≤ L.length ∧ i = .int .i64 k ∧ (∀ j (hj : j < L.length), j < k → p L[j] = false) ∧ ∃ z : Later w, wr = z.w) (fun i _ => L.length - (intOf i).toNat)
  case atStart => exact ⟨0, Nat.zero_le _, rfl, fun j _ h => absurd h (by omega), ⟨_, Below.refl _ _⟩, rfl⟩
  case round =>
    obtain ⟨k, hk, rfl, hall, z, rfl⟩ := hrel
    replace hall := Lib.hid hall
    by_cases hlt : k < L.length
    · obtain ⟨b, o, ai, ci, rfl, hb, q0, q1, q2, q3⟩ := hr.out.at_ hlt
      have hc := hp.out L[k] (List.getElem_mem hlt) ai ci z.w z.bel (q1.bel z.bel) q2 q3
      clear q1 q2 q3
      cases hv : p L[k]
      · rw [hv] at hc
        replace hc := Lib.hid hc
        have X := Lib.hid (show ∀ j (hj : j < L.length), j < k + 1 → p L[j] = false from fun j hj h => by
          rcases Nat.lt_or_ge j k with h1 | h1
          · exact hall.out j hj h1
          · obtain rfl : j = k := by omega
            exact hv)
        clear hv
        go_wp2_with (go_at_fn g; (with_reducible refine hc.out.mono ?_); rintro e w' ⟨rfl, y1, rfl⟩)
        go_roundw
        case rel => exact ⟨k + 1, by omega, by go_num, X.out, ⟨_, by (repeat (first | (with_reducible exact Below.refl _ _) | (with_reducible assumption) | (with_reducible refine Later.out _ ?_) | (with_reducible refine bel_alloc ?_ _) | (with_reducible refine bel_drew ?_) | (with_reducible refine bel_drewN ?_ _) | (with_reducible refine bel_set ?_ ?_ _) | (with_reducible refine After.out _ ?_ ?_) | (dsimp only; omega) | omega | (simp only [World.size_alloc, World.size_setCell, World.size_drew]; omega)))⟩, rfl⟩
        case measure => first | (simp [intOf]; done) | (simp [intOf]; omega) | omega
      · rw [hv] at hc
        replace hc := Lib.hid hc
        have X := Lib.hid (idxG_some hlt hv fun j hj h => hall.out j hj h)
        clear hv
        go_wp2_with (go_at_fn g; (with_reducible refine hc.out.mono ?_); rintro e w' ⟨rfl, y1, rfl⟩)
        go_ret
        exact .mk (by rw [X.out]; rfl) (by (repeat (first | (with_reducible exact Below.refl _ _) | (with_reducible assumption) | (with_reducible refine Later.out _ ?_) | (with_reducible refine bel_alloc ?_ _) | (with_reducible refine bel_drew ?_) | (with_reducible refine bel_drewN ?_ _) | (with_reducible refine bel_set ?_ ?_ _) | (with_reducible refine After.out _ ?_ ?_) | (dsimp only; omega) | omega | (simp only [World.size_alloc, World.size_setCell, World.size_drew]; omega))))
    · obtain rfl : k = L.length := by omega
      have X := Lib.hid (idxG_none fun j hj => hall.out j hj hj)
      go_wp2_with fail
      go_ret
      exact .mk (by rw [X.out]; rfl) (by (repeat (first | (with_reducible exact Below.refl _ _) | (with_reducible assumption) | (with_reducible refine Later.out _ ?_) | (with_reducible refine bel_alloc ?_ _) | (with_reducible refine bel_drew ?_) | (with_reducible refine bel_drewN ?_ _) | (with_reducible refine bel_set ?_ ?_ _) | (with_reducible refine After.out _ ?_ ?_) | (dsimp only; omega) | omega | (simp only [World.size_alloc, World.size_setCell, World.size_drew]; omega))))
set_option maxHeartbeats 1000000 in
theorem containsFuncG_any (g : Nat) (pre lb : Array Value) (p : List Pt → Bool) (L : List (List Pt)) (a : Option Addr) (n c : Nat) (w : World) (eg : ∀ args w, (callFunc g args).run Tryz.prog w = .ok (.enter g args) w)
    (hn : L.length = n) (hm : n ≤ 1048576) (hr : RingsR w a L ) (hp : TellsG g pre lb p L w) :
    Calls Tryz.prog 127 #[.slice a n c, .func (.func g) pre lb] w (Ret w (.bool (L.any p))) := by
  have X := Lib.hid (idxG_nonneg p L)
  replace hr := Lib.hid hr
  replace hp := Lib.hid hp
  replace hn := Lib.hid hn
  have EG := Lib.hid eg
  clear eg
  go_enter Tryz.func127, Tryz.ntmps127
  go_wp2_with fail
  with_reducible refine (indexFuncG_any g pre lb p L _ _ _ _ EG.out hn.out hm hr.out hp.out).mono ?_
  rintro e w' ⟨rfl, y1, rfl⟩
  have hsy1 := y1.bel.size
  (try simp only [World.size_alloc, World.size_setCell, World.size_drew] at hsy1)
  go_wp2_with fail
  go_ret
  exact .mk (by rw [← X.out]; rfl) (by (repeat (first | (with_reducible exact Below.refl _ _) | (with_reducible assumption) | (with_reducible refine Later.out _ ?_) | (with_reducible refine bel_alloc ?_ _) | (with_reducible refine bel_drew ?_) | (with_reducible refine bel_drewN ?_ _) | (with_reducible refine bel_set ?_ ?_ _) | (with_reducible refine After.out _ ?_ ?_) | (dsimp only; omega) | omega | (simp only [World.size_alloc, World.size_setCell, World.size_drew]; omega))))
/-- What a function value must do for a list: tell `p` of each of its elements, whenever it is called later. -/
def TellsV (g : Nat) (pre lb : Array Value) (p : Vw → Bool) (L : List (Vw)) (w : World) : Prop :=
  ∀ x ∈ L, ∀ (ai : Option Addr) (ci : Nat), ∀ w' : World, Below w.heap.size w w' → Row w' ai (strCells x.own) → x.own.length ≤ ci → ci ≤ maxLen → Calls Tryz.prog g (pre.push (.agg #[.string x.holder, .slice ai x.own.length ci]) ++ lb) w' (Ret w' (.bool (p x)))
theorem TellsV.bel {g : Nat} {pre lb : Array Value} {p : Vw → Bool} {L : List (Vw)} {w w1 : World} (h : TellsV g pre lb p L w) (hb : Below w.heap.size w w1) : TellsV g pre lb p L w1 :=
  fun x hx ai ci w' hb' => h x hx ai ci w' (hb.trans (hb'.mono hb.size))
theorem TellsV.take {g : Nat} {pre lb : Array Value} {p : Vw → Bool} {L : List (Vw)} {w : World} (h : TellsV g pre lb p L w) (k : Nat) : TellsV g pre lb p (L.take k) w :=
  fun x hx => h x (List.mem_of_mem_take hx)
/-- What a function value must do for a list: tell `p` of each of its elements, whenever it is called later. -/
def TellsS (g : Nat) (pre lb : Array Value) (p : ByteArray → Bool) (L : List (ByteArray)) (w : World) : Prop :=
  ∀ x ∈ L, ∀ w' : World, Below w.heap.size w w' → Calls Tryz.prog g (pre.push (.string x) ++ lb) w' (Ret w' (.bool (p x)))
theorem TellsS.bel {g : Nat} {pre lb : Array Value} {p : ByteArray → Bool} {L : List (ByteArray)} {w w1 : World} (h : TellsS g pre lb p L w) (hb : Below w.heap.size w w1) : TellsS g pre lb p L w1 :=
  fun x hx w' hb' => h x hx w' (hb.trans (hb'.mono hb.size))
theorem TellsS.take {g : Nat} {pre lb : Array Value} {p : ByteArray → Bool} {L : List (ByteArray)} {w : World} (h : TellsS g pre lb p L w) (k : Nat) : TellsS g pre lb p (L.take k) w :=
  fun x hx => h x (List.mem_of_mem_take hx)
set_option maxHeartbeats 1000000 in
theorem indexFuncS_any (g : Nat) (pre lb : Array Value) (p : ByteArray → Bool) (L : List (ByteArray)) (a : Option Addr) (n c : Nat) (w : World) (eg : ∀ args w, (callFunc g args).run Tryz.prog w = .ok (.enter g args) w)
    (hn : L.length = n) (hm : n ≤ 1048576) (hr : Row w a (strCells L) ) (hp : TellsS g pre lb p L w) :
    Calls Tryz.prog 151 #[.slice a n c, .func (.func g) pre lb] w (Ret w (.int .i64 (idxG p L))) := by
  subst hn
  replace hr := Lib.hid hr
  replace hp := Lib.hid hp
  go_enter Tryz.func151, Tryz.ntmps151
  go_wp2_with fail
  go_loopw [8] (fun i wr => ∃ k : Nat, k ≤ L.length ∧ i = .int .i64 k ∧ (∀ j (hj : j < L.length), j < k → p L[j] = false) ∧ ∃ z : Later w, wr = z.w) (fun i _ => L.length - (intOf i).toNat)
  case atStart => exact ⟨0, Nat.zero_le _, rfl, fun j _ h => absurd h (by omega), ⟨_, Below.refl _ _⟩, rfl⟩
  case round =>
    obtain ⟨k, hk, rfl, hall, z, rfl⟩ := hrel
    replace hall := Lib.hid hall
    by_cases hlt : k < L.length
    · obtain ⟨b, o, rfl, hb, q0⟩ := hr.out.str hlt
      have hc := hp.out L[k] (List.getElem_mem hlt) z.w z.bel
      cases hv : p L[k]
      · rw [hv] at hc
        replace hc := Lib.hid hc
        have X := Lib.hid (show ∀ j (hj : j < L.length), j < k + 1 → p L[j] = false from fun j hj h => by
          rcases Nat.lt_or_ge j k with h1 | h1
          · exact hall.out j hj h1
          · obtain rfl : j = k := by omega
            exact hv)
        clear hv
        go_wp2_with (go_at_fn g; (with_reducible refine hc.out.mono ?_); rintro e w' ⟨rfl, y1, rfl⟩)
        go_roundw
        case rel => exact ⟨k + 1, by omega, by go_num, X.out, ⟨_, by (repeat (first | (with_reducible exact Below.refl _ _) | (with_reducible assumption) | (with_reducible refine Later.out _ ?_) | (with_reducible refine bel_alloc ?_ _) | (with_reducible refine bel_drew ?_) | (with_reducible refine bel_drewN ?_ _) | (with_reducible refine bel_set ?_ ?_ _) | (with_reducible refine After.out _ ?_ ?_) | (dsimp only; omega) | omega | (simp only [World.size_alloc, World.size_setCell, World.size_drew]; omega)))⟩, rfl⟩
        case measure => first | (simp [intOf]; done) | (simp [intOf]; omega) | omega
      · rw [hv] at hc
        replace hc := Lib.hid hc
        have X := Lib.hid (idxG_some hlt hv fun j hj h => hall.out j hj h)
        clear hv
        go_wp2_with (go_at_fn g; (with_reducible refine hc.out.mono ?_); rintro e w' ⟨rfl, y1, rfl⟩)
        go_ret
        exact .mk (by rw [X.out]; rfl) (by (repeat (first | (with_reducible exact Below.refl _ _) | (with_reducible assumption) | (with_reducible refine Later.out _ ?_) | (with_reducible refine bel_alloc ?_ _) | (with_reducible refine bel_drew ?_) | (with_reducible refine bel_drewN ?_ _) | (with_reducible refine bel_set ?_ ?_ _) | (with_reducible refine After.out _ ?_ ?_) | (dsimp only; omega) | omega | (simp only [World.size_alloc, World.size_setCell, World.size_drew]; omega))))
    · obtain rfl : k = L.length := by omega
      have X := Lib.hid (idxG_none fun j hj => hall.out j hj hj)
      go_wp2_with fail
      go_ret
      exact .mk (by rw [X.out]; rfl) (by (repeat (first | (with_reducible exact Below.refl _ _) | (with_reducible assumption) | (with_reducible refine Later.out _ ?_) | (with_reducible refine bel_alloc ?_ _) | (with_reducible refine bel_drew ?_) | (with_reducible refine bel_drewN ?_ _) | (with_reducible refine bel_set ?_ ?_ _) | (with_reducible refine After.out _ ?_ ?_) | (dsimp only; omega) | omega | (simp only [World.size_alloc, World.size_setCell, World.size_drew]; omega))))
set_option maxHeartbeats 1000000 in
theorem containsFuncS_any (g : Nat) (pre lb : Array Value) (p : ByteArray → Bool) (L : List (ByteArray)) (a : Option Addr) (n c : Nat) (w : World) (eg : ∀ args w, (callFunc g args).run Tryz.prog w = .ok (.enter g args) w)
    (hn : L.length = n) (hm : n ≤ 1048576) (hr : Row w a (strCells L) ) (hp : TellsS g pre lb p L w) :
    Calls Tryz.prog 125 #[.slice a n c, .func (.func g) pre lb] w (Ret w (.bool (L.any p))) := by
  have X := Lib.hid (idxG_nonneg p L)
  replace hr := Lib.hid hr
  replace hp := Lib.hid hp
  replace hn := Lib.hid hn
  have EG := Lib.hid eg
  clear eg
  go_enter Tryz.func125, Tryz.ntmps125
  go_wp2_with fail
  with_reducible refine (indexFuncS_any g pre lb p L _ _ _ _ EG.out hn.out hm hr.out hp.out).mono ?_
  rintro e w' ⟨rfl, y1, rfl⟩
  have hsy1 := y1.bel.size
  (try simp only [World.size_alloc, World.size_setCell, World.size_drew] at hsy1)
  go_wp2_with fail
  go_ret
  exact .mk (by rw [← X.out]; rfl) (by (repeat (first | (with_reducible exact Below.refl _ _) | (with_reducible assumption) | (with_reducible refine Later.out _ ?_) | (with_reducible refine bel_alloc ?_ _) | (with_reducible refine bel_drew ?_) | (with_reducible refine bel_drewN ?_ _) | (with_reducible refine bel_set ?_ ?_ _) | (with_reducible refine After.out _ ?_ ?_) | (dsimp only; omega) | omega | (simp only [World.size_alloc, World.size_setCell, World.size_drew]; omega))))
end Go.Proofs.YtklcaphkfdlipaaGreatDoor
