import Derived.Test.YtkkhjbdnpobpnaaSou
import Derived.Test.YtkkhjbdnpobpnaaTwo
import Derived.Test.YtkkhjbdnpobpnaaClone
import Derived.Test.YtkkhjbdnpobpnaaApp2
/- The draws of masks: some mask, whatever it is, with few cells and small numbers. -/
set_option linter.unusedSimpArgs false
set_option linter.unusedVariables false
namespace Go.Proofs.Ytkkhjbdnpobpnaa
open Go.RowKit
/-- Some mask of the call's own. -/
def RetMaskD (w : World) (g : Nat) (K : Int → Int → Int → Int → Nat → Prop) (e : Ending) (w' : World) : Prop :=
  ∃ (x y W H : Int) (a : Option Addr) (n c : Nat) (l : List Bool), K x y W H n ∧ l.length = n ∧ e = .returned (.agg #[.int .i64 x, .int .i64 y, .int .i64 W, .int .i64 H, .slice a n c]) ∧
    ∃ z : After w g (g + 1), w' = z.w ∧ SrcOk z.w g ∧ Owns z.w w.heap.size z.w.heap.size 4 1 n a c (boolCells l)
theorem RetMaskD.mk {w w' : World} {g : Nat} {K : Int → Int → Int → Int → Nat → Prop} {e : Ending} {x y W H : Int} {a : Option Addr} {n c : Nat} {l : List Bool} (hK : K x y W H n) (hl : l.length = n) (he : e = .returned (.agg #[.int .i64 x, .int .i64 y, .int .i64 W, .int .i64 H, .slice a n c]))
    (hb : Between g (g + 1) w w') (hs : SrcOk w' g) (ho : Owns w' w.heap.size w'.heap.size 4 1 n a c (boolCells l)) : RetMaskD w g K e w' := ⟨x, y, W, H, a, n, c, l, hK, hl, he, ⟨w', hb⟩, rfl, hs, ho⟩
theorem owns_wide {w : World} {lo hi lo' hi' e s n : Nat} {a : Option Addr} {c : Nat} {xs : List Value} (h : Owns w lo hi e s n a c xs) (h1 : lo' ≤ lo) (h2 : hi ≤ hi') : Owns w lo' hi' e s n a c xs := ⟨own_mono h.own h1, fun p hp => Nat.lt_of_lt_of_le (h.lt p hp) h2⟩
def goodK (x y W H : Int) (n : Nat) : Prop := -6 ≤ x ∧ x ≤ 2 ∧ -6 ≤ y ∧ y ≤ 2 ∧ 1 ≤ W ∧ W ≤ 9 ∧ 1 ≤ H ∧ H ≤ 9 ∧ W * H = n ∧ 1 ≤ n ∧ n ≤ 81
theorem owns_setB {w : World} {lo hi e n g c k : Nat} {l : List Bool} (h : Owns w lo hi e 1 n (some ⟨g, 0, none⟩) c (boolCells l)) (b : Bool) : Owns (w.setCell ⟨g, k, none⟩ (.bool b)) lo hi e 1 n (some ⟨g, 0, none⟩) c (boolCells (l.set k b)) := by
  have h1 := h.set (j := k) (.bool b)
  have e1 : boolCells (l.set k b) = (boolCells l).set k (.bool b) := by simp [boolCells, List.map_set]
  rw [e1]
  exact h1
theorem owns_tight {w : World} {lo hi e s n g : Nat} {c : Nat} {xs : List Value} (h : Owns w lo hi e s n (some ⟨g, 0, none⟩) c xs) : Owns w g (g + 1) e s n (some ⟨g, 0, none⟩) c xs :=
  ⟨own_lift h.own, fun p hp => by cases hp; exact Nat.lt_succ_self _⟩
theorem owns_after {w : World} {lo hi lo' hi' e s n : Nat} {a : Option Addr} {c : Nat} {xs : List Value} (x : After w lo' hi') (h : Owns w lo hi e s n a c xs) (ho : hi ≤ lo' ∨ hi' ≤ lo) : Owns x.w lo hi e s n a c xs := h.btw x.btw ho
theorem owns_later {w : World} {lo hi e s n : Nat} {a : Option Addr} {c : Nat} {xs : List Value} (x : Later w) (h : Owns w lo hi e s n a c xs) (ho : hi ≤ w.heap.size) : Owns x.w lo hi e s n a c xs := h.bel x.bel ho
theorem owns_drew {w : World} {lo hi e s n : Nat} {a : Option Addr} {c : Nat} {xs : List Value} (h : Owns w lo hi e s n a c xs) : Owns w.drew lo hi e s n a c xs := h.bel (B := hi) (Below.refl _ _).drew (Nat.le_refl _)
set_option maxRecDepth 4000 in
set_option maxHeartbeats 4000000 in
theorem sGood_any (g : Nat) (w : World) (h : SrcOk w g) : Calls Try.prog 41 #[.pointer (some ⟨g, 0, none⟩)] w (RetMaskD w g goodK) := by
  have hg := h.lt
  have H0 := Lib.hid h
  clear h
  go_enter Try.func41, Try.ntmps41
  go_wp2_with fail
  with_reducible refine (next_any g 9 _ (by (repeat (first | (with_reducible exact H0.out) | (with_reducible refine SrcOk.alloc ?_ _) | (with_reducible refine SrcOk.set ?_ ?_ _) | (with_reducible refine SrcOk.drewN ?_ _) | (with_reducible refine SrcOk.drew ?_) | (with_reducible refine SrcOk.later _ ?_) | (with_reducible refine SrcOk.after _ ?_ ?_) | (dsimp only; omega) | omega | ((try simp only [World.size_alloc, World.size_setCell, World.size_drew]); omega))))).mono ?_
  rintro e w' ⟨p1, hdraw, rfl, z1, rfl, hsrc⟩
  have hsz1 := z1.btw.size
  (try simp only [World.size_alloc, World.size_setCell, World.size_drew] at hsz1)
  have H1 := Lib.hid hsrc
  clear hsrc
  obtain ⟨p10, p11⟩ := hdraw
  go_wp2_with fail
  with_reducible refine (next_any g 9 _ (by (repeat (first | (with_reducible exact H1.out) | (with_reducible refine SrcOk.alloc ?_ _) | (with_reducible refine SrcOk.set ?_ ?_ _) | (with_reducible refine SrcOk.drewN ?_ _) | (with_reducible refine SrcOk.drew ?_) | (with_reducible refine SrcOk.later _ ?_) | (with_reducible refine SrcOk.after _ ?_ ?_) | (dsimp only; omega) | omega | ((try simp only [World.size_alloc, World.size_setCell, World.size_drew]); omega))))).mono ?_
  rintro e w' ⟨p2, hdraw, rfl, z2, rfl, hsrc⟩
  have hsz2 := z2.btw.size
  (try simp only [World.size_alloc, World.size_setCell, World.size_drew] at hsz2)
  have H2 := Lib.hid hsrc
  clear hsrc
  obtain ⟨p20, p21⟩ := hdraw
  go_wp2_with fail
  with_reducible refine (next_any g 9 _ (by (repeat (first | (with_reducible exact H2.out) | (with_reducible refine SrcOk.alloc ?_ _) | (with_reducible refine SrcOk.set ?_ ?_ _) | (with_reducible refine SrcOk.drewN ?_ _) | (with_reducible refine SrcOk.drew ?_) | (with_reducible refine SrcOk.later _ ?_) | (with_reducible refine SrcOk.after _ ?_ ?_) | (dsimp only; omega) | omega | ((try simp only [World.size_alloc, World.size_setCell, World.size_drew]); omega))))).mono ?_
  rintro e w' ⟨p3, hdraw, rfl, z3, rfl, hsrc⟩
  have hsz3 := z3.btw.size
  (try simp only [World.size_alloc, World.size_setCell, World.size_drew] at hsz3)
  have H3 := Lib.hid hsrc
  clear hsrc
  obtain ⟨p30, p31⟩ := hdraw
  go_wp2_with fail
  with_reducible refine (next_any g 9 _ (by (repeat (first | (with_reducible exact H3.out) | (with_reducible refine SrcOk.alloc ?_ _) | (with_reducible refine SrcOk.set ?_ ?_ _) | (with_reducible refine SrcOk.drewN ?_ _) | (with_reducible refine SrcOk.drew ?_) | (with_reducible refine SrcOk.later _ ?_) | (with_reducible refine SrcOk.after _ ?_ ?_) | (dsimp only; omega) | omega | ((try simp only [World.size_alloc, World.size_setCell, World.size_drew]); omega))))).mono ?_
  rintro e w' ⟨p4, hdraw, rfl, z4, rfl, hsrc⟩
  have hsz4 := z4.btw.size
  (try simp only [World.size_alloc, World.size_setCell, World.size_drew] at hsz4)
  have H4 := Lib.hid hsrc
  clear hsrc
  obtain ⟨p40, p41⟩ := hdraw
  obtain ⟨n, hn⟩ : ∃ n : Nat, (1 + p3) * (1 + p4) = n := ⟨((1 + p3) * (1 + p4)).toNat, by have := Int.mul_nonneg (a := 1 + p3) (b := 1 + p4) (by omega) (by omega); omega⟩
  have hn1 : 1 ≤ n := by have := Int.mul_le_mul (a := 1) (b := 1) (c := 1 + p3) (d := 1 + p4) (by omega) (by omega) (by omega) (by omega); omega
  have hn2 : n ≤ 81 := by have := Int.mul_le_mul (a := 1 + p3) (b := 1 + p4) (c := 9) (d := 9) (by omega) (by omega) (by omega) (by omega); omega
  have HN := Lib.hid hn
  clear hn
  go_wp2_with fail
  with_reducible refine (sEmpty_any (p1 - 6) (p2 - 6) (1 + p3) (1 + p4) none n 0 0 _ HN.out (by omega)).mono ?_
  rintro e w' ⟨a5, c5, rfl, hown, y5, rfl⟩
  have hsy5 := y5.bel.size
  (try simp only [World.size_alloc, World.size_setCell, World.size_drew] at hsy5)
  have O5 := Lib.hid (Owns.of hown)
  clear hown
  go_wp2_with fail
  with_reducible refine (next_any g 4 _ (by (repeat (first | (with_reducible exact H4.out) | (with_reducible refine SrcOk.alloc ?_ _) | (with_reducible refine SrcOk.set ?_ ?_ _) | (with_reducible refine SrcOk.drewN ?_ _) | (with_reducible refine SrcOk.drew ?_) | (with_reducible refine SrcOk.later _ ?_) | (with_reducible refine SrcOk.after _ ?_ ?_) | (dsimp only; omega) | omega | ((try simp only [World.size_alloc, World.size_setCell, World.size_drew]); omega))))).mono ?_
  rintro e w' ⟨p5, hdraw, rfl, z5, rfl, hsrc⟩
  have hsz5 := z5.btw.size
  (try simp only [World.size_alloc, World.size_setCell, World.size_drew] at hsz5)
  have H5 := Lib.hid hsrc
  clear hsrc
  obtain ⟨p50, p51⟩ := hdraw
  obtain ⟨gk, rfl, g1, g2, -, -⟩ := O5.out.at_ (j := 0) (by omega)
  (try simp only [World.size_alloc, World.size_setCell, World.size_drew] at g1 g2)
  have HO5 := Lib.hid (show Owns z5.w gk (gk + 1) 4 1 n (some ⟨gk, 0, none⟩) c5 (boolCells (List.replicate n false)) from by
    rw [show boolCells (List.replicate n false) = List.replicate n (.bool false) by simp [boolCells]]
    (repeat (first | (with_reducible exact owns_tight O5.out) | (with_reducible refine owns_after _ ?_ ?_) | (with_reducible refine owns_later _ ?_ ?_) | (with_reducible refine owns_alloc ?_ _) | (with_reducible refine owns_set ?_ ?_ _) | (with_reducible refine Owns.drewN ?_ _) | (with_reducible refine owns_drew ?_) | (dsimp only; omega) | omega | ((try simp only [World.size_alloc, World.size_setCell, World.size_drew]); omega))))
  go_wp2_with fail
  go_loopw [5, 28] (fun i j wr => ∃ (k : Nat) (l : List Bool), k ≤ n ∧ l.length = n ∧ j = .int .i64 k ∧ SrcOk wr g ∧ Owns wr gk (gk + 1) 4 1 n (some ⟨gk, 0, none⟩) c5 (boolCells l) ∧ But g gk z5.w wr) (fun _ j _ => n - (intOf j).toNat)
  case atStart => exact ⟨0, _, Nat.zero_le _, by simp, rfl, H5.out, HO5.out, But.refl _ _ _⟩
  case round =>
    obtain ⟨k, l, hk, hl, rfl, hs, ho, hb⟩ := hrel
    obtain ⟨q, rfl⟩ := AftC.mk hb
    have hqs := q.but.size
    have u1 : w.heap.size < z4.w.heap.size := (by omega)
    have u2 : w.heap.size < y5.w.heap.size := (by omega)
    have u3 : w.heap.size < z5.w.heap.size := (by omega)
    have u4 : w.heap.size < q.w.heap.size := (by omega)
    have u5 : z4.w.heap.size < y5.w.heap.size := (by omega)
    have u6 : z4.w.heap.size < z5.w.heap.size := (by omega)
    have u7 : z4.w.heap.size < q.w.heap.size := (by omega)
    have u8 : gk < z5.w.heap.size := (by omega)
    have u9 : gk < q.w.heap.size := (by omega)
    replace hs := Lib.hid hs
    clear hb HO5 H5
    by_cases hlt : k < n
    · have hc := ho.own.cellAt k (by omega)
      have hlk : (boolCells l)[k]? = some (.bool (l[k]'(by omega))) := boolCells_get (by omega)
      rw [hlk] at hc
      clear hlk
      obtain ⟨B, hB⟩ : ∃ B, l[k]'(by omega) = B := ⟨_, rfl⟩
      rw [hB] at hc
      have hf := ho.own.frozenAt k
      replace ho := Lib.hid ho
      have i1 : (k : Int) < (n : Int) := by omega
      clear hB
      go_wp2_with fail
      refine wp_region_plan [(0, true), (1, true), (2, true), (3, true), (5, true), (4, false), (6, true), (7, true), (8, false)] (C := AftC g gk _) (by kernel_rfl) (by kernel_rfl) (by kernel_rfl) rfl (fun _ _ d _ _ h => by cases d <;> exact h) (AftC.mk ((But.refl _ _ _).drew)) ?_
      first | (refine plan_quiet nth0 rfl ?_; intro KP hKP; go_big_quiet_op; go_big_quiet_on) | (refine plan_skip_q nth0 rfl rfl ?_; simp only [Act.put, List.setIfInBounds_toArray, List.set_cons_zero, List.set_cons_succ])
      first | (refine plan_quiet nth1 rfl ?_; intro KP hKP; go_big_quiet_op; go_big_quiet_on) | (refine plan_skip_q nth1 rfl rfl ?_; simp only [Act.put, List.setIfInBounds_toArray, List.set_cons_zero, List.set_cons_succ])
      first | (refine plan_quiet nth2 rfl ?_; intro KP hKP; go_big_quiet_op; go_big_quiet_on) | (refine plan_skip_q nth2 rfl rfl ?_; simp only [Act.put, List.setIfInBounds_toArray, List.set_cons_zero, List.set_cons_succ])
      first | (refine plan_quiet nth3 rfl ?_; intro KP hKP; go_big_quiet_op; go_big_quiet_on) | (refine plan_skip_q nth3 rfl rfl ?_; simp only [Act.put, List.setIfInBounds_toArray, List.set_cons_zero, List.set_cons_succ])
      first | (refine plan_quiet nth5 rfl ?_; intro KP hKP; go_big_quiet_op; go_big_quiet_on) | (refine plan_skip_q nth5 rfl rfl ?_; simp only [Act.put, List.setIfInBounds_toArray, List.set_cons_zero, List.set_cons_succ])
      first | (refine plan_loud nth4 rfl ?_; intro KP hKP; go_wp2_with (first | (go_at_call 20; (with_reducible refine (next_any g 5 _ (by (repeat (first | (with_reducible exact hs.out) | (with_reducible refine SrcOk.alloc ?_ _) | (with_reducible refine SrcOk.set ?_ ?_ _) | (with_reducible refine SrcOk.drewN ?_ _) | (with_reducible refine SrcOk.drew ?_) | (with_reducible refine SrcOk.later _ ?_) | (with_reducible refine SrcOk.after _ ?_ ?_) | (dsimp only; omega) | omega | ((try simp only [World.size_alloc, World.size_setCell, World.size_drew]); omega))))).mono ?_); rintro e w' ⟨p6, hdraw, rfl, z6, rfl, hsrc⟩; have hsz6 := z6.btw.size; (try simp only [World.size_alloc, World.size_setCell, World.size_drew] at hsz6); have H6 := Lib.hid hsrc; clear hsrc; obtain ⟨p60, p61⟩ := hdraw)); refine hKP _ _ (AftC.mk (by (repeat (first | (with_reducible exact But.refl _ _ _) | (with_reducible refine But.drew ?_) | (with_reducible refine But.drewN ?_ _) | (with_reducible refine But.set ?_ ?_ _) | (with_reducible refine But.after _ ?_) | (with_reducible refine but_later _ ?_) | (with_reducible refine but_alloc ?_ _) | (with_reducible assumption) | (exact .inl rfl) | (exact .inr rfl) | (dsimp only; omega) | omega)))) ?_; clear hKP KP) | (refine plan_skip nth4 rfl rfl (AftC.mk (by (repeat (first | (with_reducible exact But.refl _ _ _) | (with_reducible refine But.drew ?_) | (with_reducible refine But.drewN ?_ _) | (with_reducible refine But.set ?_ ?_ _) | (with_reducible refine But.after _ ?_) | (with_reducible refine but_later _ ?_) | (with_reducible refine but_alloc ?_ _) | (with_reducible assumption) | (exact .inl rfl) | (exact .inr rfl) | (dsimp only; omega) | omega)))) ?_; simp only [Act.put, List.setIfInBounds_toArray, List.set_cons_zero, List.set_cons_succ])
      first | (refine plan_quiet nth6 rfl ?_; intro KP hKP; go_big_quiet_op; go_big_quiet_on) | (refine plan_skip_q nth6 rfl rfl ?_; simp only [Act.put, List.setIfInBounds_toArray, List.set_cons_zero, List.set_cons_succ])
      first | (refine plan_quiet nth7 rfl ?_; intro KP hKP; go_big_quiet_op; go_big_quiet_on) | (refine plan_skip_q nth7 rfl rfl ?_; simp only [Act.put, List.setIfInBounds_toArray, List.set_cons_zero, List.set_cons_succ])
      first | (refine plan_loud nth8 rfl ?_; intro KP hKP; go_wp2_with (first | (go_at_call 20; (with_reducible refine (next_any g 5 _ (by (repeat (first | (with_reducible exact hs.out) | (with_reducible refine SrcOk.alloc ?_ _) | (with_reducible refine SrcOk.set ?_ ?_ _) | (with_reducible refine SrcOk.drewN ?_ _) | (with_reducible refine SrcOk.drew ?_) | (with_reducible refine SrcOk.later _ ?_) | (with_reducible refine SrcOk.after _ ?_ ?_) | (dsimp only; omega) | omega | ((try simp only [World.size_alloc, World.size_setCell, World.size_drew]); omega))))).mono ?_); rintro e w' ⟨p6, hdraw, rfl, z6, rfl, hsrc⟩; have hsz6 := z6.btw.size; (try simp only [World.size_alloc, World.size_setCell, World.size_drew] at hsz6); have H6 := Lib.hid hsrc; clear hsrc; obtain ⟨p60, p61⟩ := hdraw)); refine hKP _ _ (AftC.mk (by (repeat (first | (with_reducible exact But.refl _ _ _) | (with_reducible refine But.drew ?_) | (with_reducible refine But.drewN ?_ _) | (with_reducible refine But.set ?_ ?_ _) | (with_reducible refine But.after _ ?_) | (with_reducible refine but_later _ ?_) | (with_reducible refine but_alloc ?_ _) | (with_reducible assumption) | (exact .inl rfl) | (exact .inr rfl) | (dsimp only; omega) | omega)))) ?_; clear hKP KP) | (refine plan_skip nth8 rfl rfl (AftC.mk (by (repeat (first | (with_reducible exact But.refl _ _ _) | (with_reducible refine But.drew ?_) | (with_reducible refine But.drewN ?_ _) | (with_reducible refine But.set ?_ ?_ _) | (with_reducible refine But.after _ ?_) | (with_reducible refine but_later _ ?_) | (with_reducible refine but_alloc ?_ _) | (with_reducible assumption) | (exact .inl rfl) | (exact .inr rfl) | (dsimp only; omega) | omega)))) ?_; simp only [Act.put, List.setIfInBounds_toArray, List.set_cons_zero, List.set_cons_succ])
      refine plan_nil ?_
      go_wp2_with fail
      go_roundw
      case rel =>
        refine ⟨k + 1, _, by omega, ?_, by go_num, ?_, owns_setB (owns_after z6 (owns_drew ho.out) (by omega)) _, ?_⟩
        · simp [hl]
        · (repeat (first | (with_reducible exact H6.out) | (with_reducible refine SrcOk.alloc ?_ _) | (with_reducible refine SrcOk.set ?_ ?_ _) | (with_reducible refine SrcOk.drewN ?_ _) | (with_reducible refine SrcOk.drew ?_) | (with_reducible refine SrcOk.later _ ?_) | (with_reducible refine SrcOk.after _ ?_ ?_) | (dsimp only; omega) | omega | ((try simp only [World.size_alloc, World.size_setCell, World.size_drew]); omega)))
        · exact But.set (But.after z6 q.but.drew) (.inr rfl) _
      case measure => first | (simp [intOf]; done) | (simp [intOf]; omega) | omega
    · obtain rfl : k = n := by omega
      have i1 : ¬ (k : Int) < (k : Int) := by omega
      go_wp2_with fail
      refine bodyPost_ret (by simp [results, Try.results41, go_sem, ↓IntWalk.iteOmega, *]; try rfl) rfl ?_
      refine RetMaskD.mk ⟨by omega, by omega, by omega, by omega, by omega, by omega, by omega, by omega, HN.out, hn1, hn2⟩ hl rfl ?_ ?_ ?_
      · (repeat (first | (with_reducible exact Between.refl _ _ _) | (with_reducible refine Between.drew ?_) | (with_reducible refine Between.drewN ?_ _) | (with_reducible refine btw_own ?_ ?_ _) | (with_reducible refine btw_later _ ?_) | (with_reducible refine btw_alloc ?_ _) | (with_reducible refine btw_after _ ?_) | (with_reducible refine btw_beyond _ ?_ ?_) | (with_reducible refine Aft.btw _ ?_ ?_) | (with_reducible assumption) | (dsimp only; omega) | omega | ((try simp only [World.size_alloc, World.size_setCell, World.size_drew]); omega)))
      · (repeat (first | (with_reducible exact hs.out) | (with_reducible refine SrcOk.alloc ?_ _) | (with_reducible refine SrcOk.set ?_ ?_ _) | (with_reducible refine SrcOk.drewN ?_ _) | (with_reducible refine SrcOk.drew ?_) | (with_reducible refine SrcOk.later _ ?_) | (with_reducible refine SrcOk.after _ ?_ ?_) | (dsimp only; omega) | omega | ((try simp only [World.size_alloc, World.size_setCell, World.size_drew]); omega)))
      · refine owns_wide (lo := gk) (hi := gk + 1) ?_ (by omega) (by (try simp only [World.size_alloc, World.size_setCell, World.size_drew]); omega)
        (repeat (first | (with_reducible exact ho) | (with_reducible refine owns_after _ ?_ ?_) | (with_reducible refine owns_later _ ?_ ?_) | (with_reducible refine owns_alloc ?_ _) | (with_reducible refine owns_set ?_ ?_ _) | (with_reducible refine Owns.drewN ?_ _) | (with_reducible refine owns_drew ?_) | (dsimp only; omega) | omega | ((try simp only [World.size_alloc, World.size_setCell, World.size_drew]); omega)))
theorem mask_stored {w : World} {b : Nat} {x0 y0 W0 H0 : Int} {v0 : Value} (h : MaskAt w b x0 y0 W0 H0 v0) (x y W H : Int) (v : Value) :
    MaskAt (((((w.setCell ⟨b, 0, none⟩ (.int .i64 x)).setCell ⟨b, 1, none⟩ (.int .i64 y)).setCell ⟨b, 2, none⟩ (.int .i64 W)).setCell ⟨b, 3, none⟩ (.int .i64 H)).setCell ⟨b, 4, none⟩ v) b x y W H v := by
  obtain ⟨h0, h1, h2, h3, h4⟩ := h
  refine ⟨?_, ?_, ?_, ?_, ?_⟩ <;> simp [go_sem, h0, h1, h2, h3, h4]
theorem mask_other {w : World} {b b' : Nat} {x0 y0 W0 H0 : Int} {v0 : Value} (h : MaskAt w b' x0 y0 W0 H0 v0) (hne : b' ≠ b) (x y W H : Int) (v : Value) :
    MaskAt (((((w.setCell ⟨b, 0, none⟩ (.int .i64 x)).setCell ⟨b, 1, none⟩ (.int .i64 y)).setCell ⟨b, 2, none⟩ (.int .i64 W)).setCell ⟨b, 3, none⟩ (.int .i64 H)).setCell ⟨b, 4, none⟩ v) b' x0 y0 W0 H0 v0 := by
  have k : ∀ (w : World) (i : Nat) (u : Value), MaskAt w b' x0 y0 W0 H0 v0 → MaskAt (w.setCell ⟨b, i, none⟩ u) b' x0 y0 W0 H0 v0 := fun w i u h =>
    h.btw (lo := b) (hi := b + 1) ((Between.refl b (b + 1) w).set (p := ⟨b, i, none⟩) (Nat.le_refl _) (Nat.lt_succ_self _) u) (by omega)
  exact k _ _ _ (k _ _ _ (k _ _ _ (k _ _ _ (k _ _ _ h))))
def drawK (x y W H : Int) (n : Nat) : Prop := -1001 ≤ x ∧ x ≤ 1000 ∧ -6 ≤ y ∧ y ≤ 2 ∧ 0 ≤ W ∧ W ≤ 25 ∧ 1 ≤ H ∧ H ≤ 9 ∧ n ≤ 82
set_option maxRecDepth 4000 in
set_option maxHeartbeats 40000000 in
set_option profiler true in
set_option profiler.threshold 3000 in
theorem sDraw_any (g : Nat) (w : World) (h : SrcOk w g) : Calls Try.prog 19 #[.pointer (some ⟨g, 0, none⟩)] w (RetMaskD w g drawK) := by
  have hg := h.lt
  have H0 := Lib.hid h
  obtain ⟨ii, j1, j2, j3, j4⟩ := info_bool'
  have Jii := Lib.hid (And.intro j1 (And.intro j2 (And.intro j3 j4)))
  clear h j1 j2 j3 j4
  go_enter Try.func19, Try.ntmps19
  go_wp2_with fail
  with_reducible refine (sGood_any g _ (by (repeat (first | (with_reducible exact H0.out) | (with_reducible refine SrcOk.alloc ?_ _) | (with_reducible refine SrcOk.set ?_ ?_ _) | (with_reducible refine SrcOk.drewN ?_ _) | (with_reducible refine SrcOk.drew ?_) | (with_reducible refine SrcOk.later _ ?_) | (with_reducible refine SrcOk.after _ ?_ ?_) | (dsimp only; omega) | omega | ((try simp only [World.size_alloc, World.size_setCell, World.size_drew]); omega))))).mono ?_
  rintro e w' ⟨x, y, W, H, a, n, c, l, ⟨k1, k2, k3, k4, k5, k6, k7, k8, k9, k10, k11⟩, hl, rfl, z1, rfl, hsrc, ho⟩
  have H1 := Lib.hid hsrc
  have hs1 := z1.btw.size
  (try simp only [World.size_alloc, World.size_setCell, World.size_drew] at hs1 ho)
  have HO := Lib.hid ho
  have k9' := Lib.hid k9
  clear hsrc ho k9
  have hlo : ∀ p : Addr, a = some p → w.heap.size + 1 ≤ p.block := HO.out.ge
  replace hlo := Lib.hid hlo
  go_wp2_with fail
  with_reducible refine (next_any g 30 _ (by (repeat (first | (with_reducible exact H1.out) | (with_reducible refine SrcOk.alloc ?_ _) | (with_reducible refine SrcOk.set ?_ ?_ _) | (with_reducible refine SrcOk.drewN ?_ _) | (with_reducible refine SrcOk.drew ?_) | (with_reducible refine SrcOk.later _ ?_) | (with_reducible refine SrcOk.after _ ?_ ?_) | (dsimp only; omega) | omega | ((try simp only [World.size_alloc, World.size_setCell, World.size_drew]); omega))))).mono ?_
  rintro e w' ⟨r, hdraw, rfl, z2, rfl, hsrc⟩
  have hsz2 := z2.btw.size
  (try simp only [World.size_alloc, World.size_setCell, World.size_drew] at hsz2)
  have H2 := Lib.hid hsrc
  clear hsrc
  obtain ⟨r0, r1⟩ := hdraw
  have u1 : w.heap.size < z1.w.heap.size := (by omega)
  have u2 : w.heap.size < z2.w.heap.size := (by omega)
  have u3 : z1.w.heap.size < z2.w.heap.size := (by omega)
  rcases (show r = 0 ∨ r = 1 ∨ r = 2 ∨ r = 3 ∨ 4 ≤ r by omega) with rfl | rfl | rfl | rfl | hr4
  · skip
    go_wp2_with fail
    with_reducible refine (pick_any g [0, 24, 25, W + 1] _ 4 4 _ (by (repeat (first | (with_reducible exact H2.out) | (with_reducible refine SrcOk.alloc ?_ _) | (with_reducible refine SrcOk.set ?_ ?_ _) | (with_reducible refine SrcOk.drewN ?_ _) | (with_reducible refine SrcOk.drew ?_) | (with_reducible refine SrcOk.later _ ?_) | (with_reducible refine SrcOk.after _ ?_ ?_) | (dsimp only; omega) | omega | ((try simp only [World.size_alloc, World.size_setCell, World.size_drew]); omega)))) rfl (by omega) (by omega) (Row.madeAt rfl (by simp [intCells])) (fun p hp => by cases hp; dsimp only; omega)).mono ?_
    rintro e w' ⟨v, hmem, rfl, z3, rfl, hsrc⟩
    have hsz3 := z3.btw.size
    (try simp only [World.size_alloc, World.size_setCell, World.size_drew] at hsz3)
    have H3 := Lib.hid hsrc
    clear hsrc
    simp only [List.mem_cons, List.not_mem_nil, or_false] at hmem
    have hv_v := Lib.hid hmem
    clear hmem
    have u4 : w.heap.size < z3.w.heap.size := (by omega)
    have u5 : z1.w.heap.size < z3.w.heap.size := (by omega)
    have hv := hv_v.out
    clear hv_v
    go_wp2_with fail
    refine bodyPost_ret (by simp [results, Try.results19, go_sem, ↓IntWalk.iteOmega, *]; try rfl) rfl ?_
    refine RetMaskD.mk ⟨by omega, by omega, by omega, by omega, by omega, by omega, by omega, by omega, by omega⟩ hl rfl ?_ ?_ ?_
    · (repeat (first | (with_reducible exact Between.refl _ _ _) | (with_reducible refine Between.drew ?_) | (with_reducible refine Between.drewN ?_ _) | (with_reducible refine btw_own ?_ ?_ _) | (with_reducible refine btw_later _ ?_) | (with_reducible refine btw_alloc ?_ _) | (with_reducible refine btw_after _ ?_) | (with_reducible refine btw_beyond _ ?_ ?_) | (with_reducible refine Aft.btw _ ?_ ?_) | (with_reducible assumption) | (dsimp only; omega) | omega | ((try simp only [World.size_alloc, World.size_setCell, World.size_drew]); omega)))
    · (repeat (first | (with_reducible exact H3.out) | (with_reducible refine SrcOk.alloc ?_ _) | (with_reducible refine SrcOk.set ?_ ?_ _) | (with_reducible refine SrcOk.drewN ?_ _) | (with_reducible refine SrcOk.drew ?_) | (with_reducible refine SrcOk.later _ ?_) | (with_reducible refine SrcOk.after _ ?_ ?_) | (dsimp only; omega) | omega | ((try simp only [World.size_alloc, World.size_setCell, World.size_drew]); omega)))
    · refine owns_wide (lo := w.heap.size + 1) (hi := z1.w.heap.size) ?_ (by omega) (by (try simp only [World.size_alloc, World.size_setCell, World.size_drew]); omega)
      (repeat (first | (with_reducible exact HO.out) | (with_reducible refine owns_after _ ?_ ?_) | (with_reducible refine owns_later _ ?_ ?_) | (with_reducible refine owns_alloc ?_ _) | (with_reducible refine owns_set ?_ ?_ _) | (with_reducible refine Owns.drewN ?_ _) | (with_reducible refine owns_drew ?_) | (dsimp only; omega) | omega | ((try simp only [World.size_alloc, World.size_setCell, World.size_drew]); omega)))
  · skip
    go_wp2_with fail
    with_reducible refine (pick_any g [1000, 995, -1000, -1001] _ 4 4 _ (by (repeat (first | (with_reducible exact H2.out) | (with_reducible refine SrcOk.alloc ?_ _) | (with_reducible refine SrcOk.set ?_ ?_ _) | (with_reducible refine SrcOk.drewN ?_ _) | (with_reducible refine SrcOk.drew ?_) | (with_reducible refine SrcOk.later _ ?_) | (with_reducible refine SrcOk.after _ ?_ ?_) | (dsimp only; omega) | omega | ((try simp only [World.size_alloc, World.size_setCell, World.size_drew]); omega)))) rfl (by omega) (by omega) (Row.madeAt rfl (by simp [intCells])) (fun p hp => by cases hp; dsimp only; omega)).mono ?_
    rintro e w' ⟨v, hmem, rfl, z3, rfl, hsrc⟩
    have hsz3 := z3.btw.size
    (try simp only [World.size_alloc, World.size_setCell, World.size_drew] at hsz3)
    have H3 := Lib.hid hsrc
    clear hsrc
    simp only [List.mem_cons, List.not_mem_nil, or_false] at hmem
    have hv_v := Lib.hid hmem
    clear hmem
    have u4 : w.heap.size < z3.w.heap.size := (by omega)
    have u5 : z1.w.heap.size < z3.w.heap.size := (by omega)
    have hv := hv_v.out
    clear hv_v
    go_wp2_with fail
    refine bodyPost_ret (by simp [results, Try.results19, go_sem, ↓IntWalk.iteOmega, *]; try rfl) rfl ?_
    refine RetMaskD.mk ⟨by omega, by omega, by omega, by omega, by omega, by omega, by omega, by omega, by omega⟩ hl rfl ?_ ?_ ?_
    · (repeat (first | (with_reducible exact Between.refl _ _ _) | (with_reducible refine Between.drew ?_) | (with_reducible refine Between.drewN ?_ _) | (with_reducible refine btw_own ?_ ?_ _) | (with_reducible refine btw_later _ ?_) | (with_reducible refine btw_alloc ?_ _) | (with_reducible refine btw_after _ ?_) | (with_reducible refine btw_beyond _ ?_ ?_) | (with_reducible refine Aft.btw _ ?_ ?_) | (with_reducible assumption) | (dsimp only; omega) | omega | ((try simp only [World.size_alloc, World.size_setCell, World.size_drew]); omega)))
    · (repeat (first | (with_reducible exact H3.out) | (with_reducible refine SrcOk.alloc ?_ _) | (with_reducible refine SrcOk.set ?_ ?_ _) | (with_reducible refine SrcOk.drewN ?_ _) | (with_reducible refine SrcOk.drew ?_) | (with_reducible refine SrcOk.later _ ?_) | (with_reducible refine SrcOk.after _ ?_ ?_) | (dsimp only; omega) | omega | ((try simp only [World.size_alloc, World.size_setCell, World.size_drew]); omega)))
    · refine owns_wide (lo := w.heap.size + 1) (hi := z1.w.heap.size) ?_ (by omega) (by (try simp only [World.size_alloc, World.size_setCell, World.size_drew]); omega)
      (repeat (first | (with_reducible exact HO.out) | (with_reducible refine owns_after _ ?_ ?_) | (with_reducible refine owns_later _ ?_ ?_) | (with_reducible refine owns_alloc ?_ _) | (with_reducible refine owns_set ?_ ?_ _) | (with_reducible refine Owns.drewN ?_ _) | (with_reducible refine owns_drew ?_) | (dsimp only; omega) | omega | ((try simp only [World.size_alloc, World.size_setCell, World.size_drew]); omega)))
  · go_wp2_with (at_builtin; (refine wpList_append_apart _ rfl _ _ _ rfl 4 ii _ 1 1 Try.underlying26 Jii.out.1 Jii.out.2.1 Jii.out.2.2.1 Jii.out.2.2.2 rfl (by decide) (w.heap.size + 1) (z1.w.heap.size) ?qb1 _ _ _ (boolCells l) rfl ?qb2 ?qb8 _ _ _ ([.bool true]) rfl ?qb3 ?qb4 ?qb5 ?qb6 ?qb7 ?_); (case qb1 => (first | (dsimp only; omega) | omega | (simp only [World.size_alloc, World.size_setCell, World.size_drew]; omega))); (case qb2 => exact ((by (repeat (first | (with_reducible exact HO.out) | (with_reducible refine owns_after _ ?_ ?_) | (with_reducible refine owns_later _ ?_ ?_) | (with_reducible refine owns_alloc ?_ _) | (with_reducible refine owns_set ?_ ?_ _) | (with_reducible refine Owns.drewN ?_ _) | (with_reducible refine owns_drew ?_) | (dsimp only; omega) | omega | ((try simp only [World.size_alloc, World.size_setCell, World.size_drew]); omega))) : Owns _ (w.heap.size + 1) z1.w.heap.size 4 1 n a c (boolCells l))).own); (case qb8 => exact HO.out.lt); (case qb3 => (first | rfl | (simp [boolCells]; done) | (simp [intCells]; done) | (simp; done) | (first | omega | (simp only [List.length_append, List.length_cons, List.length_nil]; omega)))); (case qb4 => exact Row.madeAt rfl rfl); (case qb5 => (intro u hu; simp at hu; subst hu; rfl)); (case qb6 => (unfold maxLen; (first | omega | (simp only [List.length_append, List.length_cons, List.length_nil]; omega)))); (case qb7 => (first | omega | (simp only [List.length_append, List.length_cons, List.length_nil]; omega))); intro a9 c9 x9 hown9 hat9; replace hat9 := Lib.hid hat9; replace hown9 := Lib.hid hown9; have hs9 := x9.btw.size; (try simp only [World.size_alloc, World.size_setCell, World.size_drew] at hs9); have u4 : w.heap.size < x9.w.heap.size := (by omega); have u5 : z1.w.heap.size < x9.w.heap.size := (by omega); go_wp2_with fail)
    refine bodyPost_ret (by simp [results, Try.results19, go_sem, ↓IntWalk.iteOmega, *]; try rfl) rfl ?_
    refine RetMaskD.mk (l := l ++ [true]) ⟨by omega, by omega, by omega, by omega, by omega, by omega, by omega, by omega, by omega⟩ (by simp [hl]) rfl ?_ ?_ ?_
    · (repeat (first | (with_reducible exact Between.refl _ _ _) | (with_reducible refine Between.drew ?_) | (with_reducible refine Between.drewN ?_ _) | (with_reducible refine btw_own ?_ ?_ _) | (with_reducible refine btw_later _ ?_) | (with_reducible refine btw_alloc ?_ _) | (with_reducible refine btw_after _ ?_) | (with_reducible refine btw_beyond _ ?_ ?_) | (with_reducible refine Aft.btw _ ?_ ?_) | (with_reducible assumption) | (dsimp only; omega) | omega | ((try simp only [World.size_alloc, World.size_setCell, World.size_drew]); omega)))
    · (repeat (first | (with_reducible exact H2.out) | (with_reducible refine SrcOk.alloc ?_ _) | (with_reducible refine SrcOk.set ?_ ?_ _) | (with_reducible refine SrcOk.drewN ?_ _) | (with_reducible refine SrcOk.drew ?_) | (with_reducible refine SrcOk.later _ ?_) | (with_reducible refine SrcOk.after _ ?_ ?_) | (dsimp only; omega) | omega | ((try simp only [World.size_alloc, World.size_setCell, World.size_drew]); omega)))
    · rw [show boolCells (l ++ [true]) = boolCells l ++ [.bool true] by simp [boolCells]]
      have hO9 := hown9.out
      have hge := (Owns.of hO9).lt
      refine owns_wide (hi := x9.w.heap.size) ⟨own_mono (base := w.heap.size + 1) ?_ (by omega), hge⟩ (Nat.le_refl _) (by (try simp only [World.size_alloc, World.size_setCell, World.size_drew]); omega)
      repeat (refine own_ne ?_ (fun q hq => by have h1 := hat9.out q hq; have h2 := (Owns.of hO9).ge q hq; (try simp only [World.size_alloc, World.size_setCell, World.size_drew] at h1); dsimp only; omega) _)
      exact hO9
  · skip
    go_wp2_with fail
    with_reducible refine (next_any g 2 _ (by (repeat (first | (with_reducible exact H2.out) | (with_reducible refine SrcOk.alloc ?_ _) | (with_reducible refine SrcOk.set ?_ ?_ _) | (with_reducible refine SrcOk.drewN ?_ _) | (with_reducible refine SrcOk.drew ?_) | (with_reducible refine SrcOk.later _ ?_) | (with_reducible refine SrcOk.after _ ?_ ?_) | (dsimp only; omega) | omega | ((try simp only [World.size_alloc, World.size_setCell, World.size_drew]); omega))))).mono ?_
    rintro e w' ⟨p, hdraw, rfl, z3, rfl, hsrc⟩
    have hsz3 := z3.btw.size
    (try simp only [World.size_alloc, World.size_setCell, World.size_drew] at hsz3)
    have H3 := Lib.hid hsrc
    clear hsrc
    obtain ⟨p0, p1⟩ := hdraw
    have u4 : w.heap.size < z3.w.heap.size := (by omega)
    have u5 : z1.w.heap.size < z3.w.heap.size := (by omega)
    obtain ⟨m, hm⟩ : ∃ m : Nat, (24 + p) * 2 = m := ⟨((24 + p) * 2).toNat, by omega⟩
    have HM := Lib.hid hm
    have hm2 : m ≤ 50 := by omega
    clear hm
    obtain ⟨Z, hZ⟩ : ∃ Z : Int, Z = 0 := ⟨0, rfl⟩
    have CE := Lib.hid (show ∀ w, Calls Try.prog 33 #[.agg #[.int .i64 0, .int .i64 0, .int .i64 (24 + p), .int .i64 2, .slice none 0 0]] w (RetOwn w 4 1 m (List.replicate m (.bool false)) fun v => .agg #[.int .i64 Z, .int .i64 Z, .int .i64 (24 + p), .int .i64 2, v]) from fun w => by
      subst hZ
      exact sEmpty_any 0 0 (24 + p) 2 none m 0 0 w HM.out (by omega))
    have hZ' := Lib.hid hZ
    clear hZ
    go_wp2_with fail
    with_reducible refine (CE.out _).mono ?_
    rintro e w' ⟨a5, c5, rfl, hown, y5, rfl⟩
    have hsy5 := y5.bel.size
    (try simp only [World.size_alloc, World.size_setCell, World.size_drew] at hsy5)
    have O5 := Lib.hid (Owns.of hown)
    clear hown
    have u6 : w.heap.size < y5.w.heap.size := (by omega)
    have u7 : z1.w.heap.size < y5.w.heap.size := (by omega)
    have d0 := Lib.hid (show y5.w.cell? ⟨z1.w.heap.size, 0, none⟩ = some (.int .i64 x) by simp [go_sem, ↓IntWalk.iteOmega, u1, u2, u3, u4, u5, u6, u7])
    have d1 := Lib.hid (show y5.w.cell? ⟨z1.w.heap.size, 1, none⟩ = some (.int .i64 y) by simp [go_sem, ↓IntWalk.iteOmega, u1, u2, u3, u4, u5, u6, u7])
    have d2 := Lib.hid (show y5.w.cell? ⟨z1.w.heap.size, 2, none⟩ = some (.int .i64 W) by simp [go_sem, ↓IntWalk.iteOmega, u1, u2, u3, u4, u5, u6, u7])
    have d3 := Lib.hid (show y5.w.cell? ⟨z1.w.heap.size, 3, none⟩ = some (.int .i64 H) by simp [go_sem, ↓IntWalk.iteOmega, u1, u2, u3, u4, u5, u6, u7])
    have d4 := Lib.hid (show y5.w.cell? ⟨z1.w.heap.size, 4, none⟩ = some (.slice a n c) by simp [go_sem, ↓IntWalk.iteOmega, u1, u2, u3, u4, u5, u6, u7])
    have c0 := Lib.hid (show y5.w.cell? ⟨w.heap.size, 0, none⟩ = some (.int .i64 0) by simp [go_sem, ↓IntWalk.iteOmega, u1, u2, u3, u4, u5, u6, u7])
    have c1 := Lib.hid (show y5.w.cell? ⟨w.heap.size, 1, none⟩ = some (.int .i64 0) by simp [go_sem, ↓IntWalk.iteOmega, u1, u2, u3, u4, u5, u6, u7])
    have c2 := Lib.hid (show y5.w.cell? ⟨w.heap.size, 2, none⟩ = some (.int .i64 0) by simp [go_sem, ↓IntWalk.iteOmega, u1, u2, u3, u4, u5, u6, u7])
    have c3 := Lib.hid (show y5.w.cell? ⟨w.heap.size, 3, none⟩ = some (.int .i64 0) by simp [go_sem, ↓IntWalk.iteOmega, u1, u2, u3, u4, u5, u6, u7])
    have c4 := Lib.hid (show y5.w.cell? ⟨w.heap.size, 4, none⟩ = some (.slice none 0 0) by simp [go_sem, ↓IntWalk.iteOmega, u1, u2, u3, u4, u5, u6, u7])
    have f0 := Lib.hid (show y5.w.frozen? ⟨w.heap.size, 0, none⟩ = false by simp [go_sem, ↓IntWalk.iteOmega, u1, u2, u3, u4, u5, u6, u7])
    have f1 := Lib.hid (show y5.w.frozen? ⟨w.heap.size, 1, none⟩ = false by simp [go_sem, ↓IntWalk.iteOmega, u1, u2, u3, u4, u5, u6, u7])
    have f2 := Lib.hid (show y5.w.frozen? ⟨w.heap.size, 2, none⟩ = false by simp [go_sem, ↓IntWalk.iteOmega, u1, u2, u3, u4, u5, u6, u7])
    have f3 := Lib.hid (show y5.w.frozen? ⟨w.heap.size, 3, none⟩ = false by simp [go_sem, ↓IntWalk.iteOmega, u1, u2, u3, u4, u5, u6, u7])
    have f4 := Lib.hid (show y5.w.frozen? ⟨w.heap.size, 4, none⟩ = false by simp [go_sem, ↓IntWalk.iteOmega, u1, u2, u3, u4, u5, u6, u7])
    have hb5 : Between g (g + 1) w y5.w := by (repeat (first | (with_reducible exact Between.refl _ _ _) | (with_reducible refine Between.drew ?_) | (with_reducible refine Between.drewN ?_ _) | (with_reducible refine btw_own ?_ ?_ _) | (with_reducible refine btw_later _ ?_) | (with_reducible refine btw_alloc ?_ _) | (with_reducible refine btw_after _ ?_) | (with_reducible refine btw_beyond _ ?_ ?_) | (with_reducible refine Aft.btw _ ?_ ?_) | (with_reducible assumption) | (dsimp only; omega) | omega | ((try simp only [World.size_alloc, World.size_setCell, World.size_drew]); omega)))
    have hS5 := Lib.hid (show SrcOk y5.w g by (repeat (first | (with_reducible exact H3.out) | (with_reducible refine SrcOk.alloc ?_ _) | (with_reducible refine SrcOk.set ?_ ?_ _) | (with_reducible refine SrcOk.drewN ?_ _) | (with_reducible refine SrcOk.drew ?_) | (with_reducible refine SrcOk.later _ ?_) | (with_reducible refine SrcOk.after _ ?_ ?_) | (dsimp only; omega) | omega | ((try simp only [World.size_alloc, World.size_setCell, World.size_drew]); omega))))
    replace hb5 := Lib.hid hb5
    go_upto_region 11 with fail
    obtain ⟨WW, hWW⟩ : ∃ WW, (((((y5.w.setCell ⟨z1.w.heap.size, 0, none⟩ (.int .i64 Z)).setCell ⟨z1.w.heap.size, 1, none⟩ (.int .i64 Z)).setCell ⟨z1.w.heap.size, 2, none⟩ (.int .i64 (24 + p))).setCell ⟨z1.w.heap.size, 3, none⟩ (.int .i64 2)).setCell ⟨z1.w.heap.size, 4, none⟩ (.slice a5 m c5)) = WW := ⟨_, rfl⟩
    obtain ⟨d0', d1', d2', d3', d4'⟩ : MaskAt WW z1.w.heap.size Z Z (24 + p) 2 (.slice a5 m c5) := by rw [← hWW]; exact mask_stored ⟨d0.out, d1.out, d2.out, d3.out, d4.out⟩ _ _ _ _ _
    obtain ⟨c0', c1', c2', c3', c4'⟩ : MaskAt WW w.heap.size 0 0 0 0 (.slice none 0 0) := by rw [← hWW]; exact mask_other ⟨c0.out, c1.out, c2.out, c3.out, c4.out⟩ (by omega) _ _ _ _ _
    have f0' : WW.frozen? ⟨w.heap.size, 0, none⟩ = false := by rw [← hWW]; simp [go_sem, f0.out]
    have f1' : WW.frozen? ⟨w.heap.size, 1, none⟩ = false := by rw [← hWW]; simp [go_sem, f1.out]
    have f2' : WW.frozen? ⟨w.heap.size, 2, none⟩ = false := by rw [← hWW]; simp [go_sem, f2.out]
    have f3' : WW.frozen? ⟨w.heap.size, 3, none⟩ = false := by rw [← hWW]; simp [go_sem, f3.out]
    have f4' : WW.frozen? ⟨w.heap.size, 4, none⟩ = false := by rw [← hWW]; simp [go_sem, f4.out]
    have hbW := Lib.hid (show Between g (g + 1) w WW by rw [← hWW]; have hb := hb5.out; (repeat (first | (with_reducible exact Between.refl _ _ _) | (with_reducible refine Between.drew ?_) | (with_reducible refine Between.drewN ?_ _) | (with_reducible refine btw_own ?_ ?_ _) | (with_reducible refine btw_later _ ?_) | (with_reducible refine btw_alloc ?_ _) | (with_reducible refine btw_after _ ?_) | (with_reducible refine btw_beyond _ ?_ ?_) | (with_reducible refine Aft.btw _ ?_ ?_) | (with_reducible assumption) | (dsimp only; omega) | omega | ((try simp only [World.size_alloc, World.size_setCell, World.size_drew]); omega))))
    have hSW := Lib.hid (show SrcOk WW g by rw [← hWW]; (repeat (first | (with_reducible exact hS5.out) | (with_reducible refine SrcOk.alloc ?_ _) | (with_reducible refine SrcOk.set ?_ ?_ _) | (with_reducible refine SrcOk.drewN ?_ _) | (with_reducible refine SrcOk.drew ?_) | (with_reducible refine SrcOk.later _ ?_) | (with_reducible refine SrcOk.after _ ?_ ?_) | (dsimp only; omega) | omega | ((try simp only [World.size_alloc, World.size_setCell, World.size_drew]); omega))))
    have hOW := Lib.hid (show Owns WW z3.w.heap.size y5.w.heap.size 4 1 m a5 c5 (List.replicate m (.bool false)) by rw [← hWW]; (repeat (first | (with_reducible exact O5.out) | (with_reducible refine owns_after _ ?_ ?_) | (with_reducible refine owns_later _ ?_ ?_) | (with_reducible refine owns_alloc ?_ _) | (with_reducible refine owns_set ?_ ?_ _) | (with_reducible refine Owns.drewN ?_ _) | (with_reducible refine owns_drew ?_) | (dsimp only; omega) | omega | ((try simp only [World.size_alloc, World.size_setCell, World.size_drew]); omega))))
    have hsW : WW.heap.size = y5.w.heap.size := by rw [← hWW]; simp
    rw [hWW]
    clear hWW d0 d1 d2 d3 d4 c0 c1 c2 c3 c4 f0 f1 f2 f3 f4 hb5 hS5

    go_wp2_with fail

    refine bodyPost_ret (by simp [results, Try.results19, go_sem, ↓IntWalk.iteOmega, *]; try rfl) rfl ?_
    have hZ := hZ'.out
    refine RetMaskD.mk (l := List.replicate m false) ⟨by omega, by omega, by omega, by omega, by omega, by omega, by omega, by omega, by omega⟩ (by simp) rfl ?_ ?_ ?_
    · have hb := hbW.out
      (repeat (first | (with_reducible exact Between.refl _ _ _) | (with_reducible refine Between.drew ?_) | (with_reducible refine Between.drewN ?_ _) | (with_reducible refine btw_own ?_ ?_ _) | (with_reducible refine btw_later _ ?_) | (with_reducible refine btw_alloc ?_ _) | (with_reducible refine btw_after _ ?_) | (with_reducible refine btw_beyond _ ?_ ?_) | (with_reducible refine Aft.btw _ ?_ ?_) | (with_reducible assumption) | (dsimp only; omega) | omega | ((try simp only [World.size_alloc, World.size_setCell, World.size_drew]); omega)))
    · (repeat (first | (with_reducible exact hSW.out) | (with_reducible refine SrcOk.alloc ?_ _) | (with_reducible refine SrcOk.set ?_ ?_ _) | (with_reducible refine SrcOk.drewN ?_ _) | (with_reducible refine SrcOk.drew ?_) | (with_reducible refine SrcOk.later _ ?_) | (with_reducible refine SrcOk.after _ ?_ ?_) | (dsimp only; omega) | omega | ((try simp only [World.size_alloc, World.size_setCell, World.size_drew]); omega)))
    · rw [show boolCells (List.replicate m false) = List.replicate m (.bool false) by simp [boolCells]]
      refine owns_wide (lo := z3.w.heap.size) (hi := y5.w.heap.size) ?_ (by omega) (by (try simp only [World.size_alloc, World.size_setCell, World.size_drew]); omega)
      (repeat (first | (with_reducible exact hOW.out) | (with_reducible refine owns_after _ ?_ ?_) | (with_reducible refine owns_later _ ?_ ?_) | (with_reducible refine owns_alloc ?_ _) | (with_reducible refine owns_set ?_ ?_ _) | (with_reducible refine Owns.drewN ?_ _) | (with_reducible refine owns_drew ?_) | (dsimp only; omega) | omega | ((try simp only [World.size_alloc, World.size_setCell, World.size_drew]); omega)))
  · go_wp2_with fail
    refine bodyPost_ret (by simp [results, Try.results19, go_sem, ↓IntWalk.iteOmega, *]; try rfl) rfl ?_
    refine RetMaskD.mk ⟨by omega, by omega, by omega, by omega, by omega, by omega, by omega, by omega, by omega⟩ hl rfl ?_ ?_ ?_
    · (repeat (first | (with_reducible exact Between.refl _ _ _) | (with_reducible refine Between.drew ?_) | (with_reducible refine Between.drewN ?_ _) | (with_reducible refine btw_own ?_ ?_ _) | (with_reducible refine btw_later _ ?_) | (with_reducible refine btw_alloc ?_ _) | (with_reducible refine btw_after _ ?_) | (with_reducible refine btw_beyond _ ?_ ?_) | (with_reducible refine Aft.btw _ ?_ ?_) | (with_reducible assumption) | (dsimp only; omega) | omega | ((try simp only [World.size_alloc, World.size_setCell, World.size_drew]); omega)))
    · (repeat (first | (with_reducible exact H2.out) | (with_reducible refine SrcOk.alloc ?_ _) | (with_reducible refine SrcOk.set ?_ ?_ _) | (with_reducible refine SrcOk.drewN ?_ _) | (with_reducible refine SrcOk.drew ?_) | (with_reducible refine SrcOk.later _ ?_) | (with_reducible refine SrcOk.after _ ?_ ?_) | (dsimp only; omega) | omega | ((try simp only [World.size_alloc, World.size_setCell, World.size_drew]); omega)))
    · refine owns_wide (lo := w.heap.size + 1) (hi := z1.w.heap.size) ?_ (by omega) (by (try simp only [World.size_alloc, World.size_setCell, World.size_drew]); omega)
      (repeat (first | (with_reducible exact HO.out) | (with_reducible refine owns_after _ ?_ ?_) | (with_reducible refine owns_later _ ?_ ?_) | (with_reducible refine owns_alloc ?_ _) | (with_reducible refine owns_set ?_ ?_ _) | (with_reducible refine Owns.drewN ?_ _) | (with_reducible refine owns_drew ?_) | (dsimp only; omega) | omega | ((try simp only [World.size_alloc, World.size_setCell, World.size_drew]); omega)))
end Go.Proofs.Ytkkhjbdnpobpnaa
