import Derived.Test.YtklcaphkfdlipaaGreatDoorPackVa
import Derived.Test.YtklcaphkfdlipaaGreatDoorEdgW
import Derived.Test.YtklcaphkfdlipaaGreatDoorFitW
/- Slices of edges: comparison and marks for the laws; an edge among edges, both sides. -/
set_option linter.unusedSimpArgs false
set_option linter.unusedVariables false
namespace Go.Proofs.YtklcaphkfdlipaaGreatDoor
open Go.RowKit
/-! ### An edge among edges -/
def amongE (L : List Ed) (e : Ed) : Bool := L.any fun f => edEqB e f
theorem edEqB_comm (e f : Ed) : edEqB e f = edEqB f e := by
  refine bool_eq ?_
  rw [edEqB_iff, edEqB_iff]
  exact ⟨fun h => ⟨h.1.symm, h.2.symm⟩, fun h => ⟨h.1.symm, h.2.symm⟩⟩
theorem amongE_yes {L : List Ed} {e : Ed} {k : Nat} (hk : k < L.length) (h : edEqB e L[k] = true) : amongE L e = true := List.any_eq_true.2 ⟨_, List.getElem_mem hk, h⟩
theorem amongE_no {L : List Ed} {e : Ed} (h : ∀ k (hk : k < L.length), edEqB e L[k] = false) : amongE L e = false := by
  unfold amongE
  rw [List.any_eq_false]
  intro x hx
  obtain ⟨k, hk, rfl⟩ := List.mem_iff_getElem.1 hx
  rw [h k hk]; decide
set_option maxHeartbeats 2000000 in
theorem indexE_any (e : Ed) (L : List Ed) (a : Option Addr) (n c : Nat) (w : World) (hn : L.length = n) (hm : n ≤ 1048576) (hr : Row w a (edsCells L)) :
    Calls Tryz.prog 115 #[.slice a n c, .agg #[.int .i64 e.p.x, .int .i64 e.p.y, .int .i64 e.q.x, .int .i64 e.q.y]] w (fun r w' => ∃ i : Int, decide (0 ≤ i) = amongE L e ∧ Ret w (.int .i64 i) r w') := by
  subst hn
  replace hr := Lib.hid hr
  go_enter Tryz.func115, Tryz.ntmps115
  go_wp2_with fail
  go_loopw [8] (fun i wr => ∃ k : Nat, k ≤ L.length ∧ i = .int .i64 k ∧ (∀ j (hj : j < L.length), j < k → edEqB e L[j] = false) ∧ ∃ z : Later (w.alloc (.cells #[.int .i64 e.p.x, .int .i64 e.p.y, .int .i64 e.q.x, .int .i64 e.q.y] 96)), wr = z.w) (fun i _ => L.length - (intOf i).toNat)
  case atStart => exact ⟨0, Nat.zero_le _, rfl, fun j _ h => absurd h (by omega), ⟨_, Below.refl _ _⟩, rfl⟩
  case round =>
    obtain ⟨k, hk, rfl, hall, z, rfl⟩ := hrel
    replace hall := Lib.hid hall
    have hzz := z.bel.size
    simp only [World.size_alloc] at hzz
    by_cases hlt : k < L.length
    · obtain ⟨b, o, rfl, hb, q0, q1, q2, q3⟩ := hr.out.ed hlt
      have hi1 : (k : Int) < (L.length : Int) := by omega
      have hq := fun w => eqEd_run e L[k] w
      have Y := Lib.hid (fun h => amongE_yes (L := L) (e := e) hlt h)
      have N := Lib.hid (fun (h : edEqB e L[k] = false) => (show ∀ j (hj : j < L.length), j < k + 1 → edEqB e L[j] = false from fun j hj hjk => by
        rcases Nat.lt_or_ge j k with h1 | h1
        · exact hall.out j hj h1
        · obtain rfl : j = k := by omega
          exact h))
      have hbz : b < z.w.heap.size := by omega
      have hbn : b < w.heap.size := by omega
      generalize edEqB e L[k] = v at *
      generalize L[k] = f at *
      cases v
      · have X := Lib.hid (N.out rfl)
        clear N Y
        go_wp2_with fail
        refine wp_region_later (by kernel_rfl) (by kernel_rfl) ?_
        repeat (go_big_quiet_step (fail))
        refine wpQuiet_nil ?_
        rintro _ ⟨xq, rfl⟩
        go_wp2_with fail
        go_roundw
        case rel => exact ⟨k + 1, by omega, by go_num, X.out, ⟨_, bb⟩, rfl⟩
        case measure => first | (simp [intOf]; done) | (simp [intOf]; omega) | omega
      · have X := Lib.hid (Y.out rfl)
        clear N Y
        go_wp2_with fail
        refine wp_region_later (by kernel_rfl) (by kernel_rfl) ?_
        repeat (go_big_quiet_step (fail))
        refine wpQuiet_nil ?_
        rintro _ ⟨xq, rfl⟩
        go_wp2_with fail
        go_ret
        exact ⟨k, by rw [X.out]; simp, .mk rfl bb⟩
    · obtain rfl : k = L.length := by omega
      have X := Lib.hid (amongE_no (L := L) (e := e) fun j hj => hall.out j hj hj)
      go_wp2_with fail
      go_ret
      exact ⟨-1, by rw [X.out]; rfl, .mk rfl bb⟩
set_option maxHeartbeats 1000000 in
theorem containsE_any (e : Ed) (L : List Ed) (a : Option Addr) (n c : Nat) (w : World) (hn : L.length = n) (hm : n ≤ 1048576) (hr : Row w a (edsCells L)) :
    Calls Tryz.prog 70 #[.slice a n c, .agg #[.int .i64 e.p.x, .int .i64 e.p.y, .int .i64 e.q.x, .int .i64 e.q.y]] w (Ret w (.bool (amongE L e))) := by
  have CI := Lib.hid (fun (w : World) (hr : Row w a (edsCells L)) => indexE_any e L a n c w hn hm hr)
  replace hr := Lib.hid hr
  generalize amongE L e = B at *
  clear hn hm
  go_enter Tryz.func70, Tryz.ntmps70
  go_wp2_with fail
  with_reducible refine (CI.out _ (hr.out.bel bb)).mono ?_
  rintro r w' ⟨i, hi, rfl, y1, rfl⟩
  replace hi := Lib.hid hi
  go_wp2_with fail
  go_ret
  exact .mk (by rw [← hi.out]; rfl) bb
set_option maxHeartbeats 2000000 in
theorem has_any (e : Ed) (L : List Ed) (a : Option Addr) (n c : Nat) (w : World) (hn : L.length = n) (hm : n ≤ 1048576) (hr : Row w a (edsCells L)) :
    Calls Tryz.prog 68 #[.slice a n c, .agg #[.int .i64 e.p.x, .int .i64 e.p.y, .int .i64 e.q.x, .int .i64 e.q.y]] w (Ret w (.bool (amongE L e))) := by
  subst hn
  replace hr := Lib.hid hr
  go_enter Tryz.func68, Tryz.ntmps68
  go_wp2_with fail
  go_loopw [5] (fun i wr => ∃ k : Nat, k ≤ L.length ∧ i = .int .i64 k ∧ (∀ j (hj : j < L.length), j < k → edEqB e L[j] = false) ∧ ∃ z : Later (w.alloc (.cells #[.int .i64 e.p.x, .int .i64 e.p.y, .int .i64 e.q.x, .int .i64 e.q.y] 96)), wr = z.w) (fun i _ => L.length - (intOf i).toNat)
  case atStart => exact ⟨0, Nat.zero_le _, rfl, fun j _ h => absurd h (by omega), ⟨_, Below.refl _ _⟩, rfl⟩
  case round =>
    obtain ⟨k, hk, rfl, hall, z, rfl⟩ := hrel
    replace hall := Lib.hid hall
    have hzz := z.bel.size
    simp only [World.size_alloc] at hzz
    by_cases hlt : k < L.length
    · obtain ⟨b, o, rfl, hb, q0, q1, q2, q3⟩ := hr.out.ed hlt
      have hi1 : (k : Int) < (L.length : Int) := by omega
      have hq := fun w => eqEd_run L[k] e w
      rw [edEqB_comm L[k] e] at hq
      have Y := Lib.hid (fun h => amongE_yes (L := L) (e := e) hlt h)
      have N := Lib.hid (fun (h : edEqB e L[k] = false) => (show ∀ j (hj : j < L.length), j < k + 1 → edEqB e L[j] = false from fun j hj hjk => by
        rcases Nat.lt_or_ge j k with h1 | h1
        · exact hall.out j hj h1
        · obtain rfl : j = k := by omega
          exact h))
      have hbz : b < z.w.heap.size := by omega
      have hbn : b < w.heap.size := by omega
      generalize edEqB e L[k] = v at *
      generalize L[k] = f at *
      cases v
      · have X := Lib.hid (N.out rfl)
        clear N Y
        go_wp2_with fail
        refine wp_region_later (by kernel_rfl) (by kernel_rfl) ?_
        repeat (go_big_quiet_step (fail))
        refine wpQuiet_nil ?_
        rintro _ ⟨xq, rfl⟩
        go_wp2_with fail
        go_roundw
        case rel => exact ⟨k + 1, by omega, by go_num, X.out, ⟨_, bb⟩, rfl⟩
        case measure => first | (simp [intOf]; done) | (simp [intOf]; omega) | omega
      · have X := Lib.hid (Y.out rfl)
        clear N Y
        go_wp2_with fail
        refine wp_region_later (by kernel_rfl) (by kernel_rfl) ?_
        repeat (go_big_quiet_step (fail))
        refine wpQuiet_nil ?_
        rintro _ ⟨xq, rfl⟩
        go_wp2_with fail
        go_ret
        exact .mk (by rw [X.out]; rfl) bb
    · obtain rfl : k = L.length := by omega
      have X := Lib.hid (amongE_no (L := L) (e := e) fun j hj => hall.out j hj hj)
      go_wp2_with fail
      go_ret
      exact .mk (by rw [X.out]; rfl) bb
end Go.Proofs.YtklcaphkfdlipaaGreatDoor
