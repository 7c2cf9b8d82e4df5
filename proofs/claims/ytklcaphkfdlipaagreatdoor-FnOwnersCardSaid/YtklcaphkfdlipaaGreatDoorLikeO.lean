import Derived.Test.YtklcaphkfdlipaaGreatDoorPackVa
import Derived.Test.YtklcaphkfdlipaaGreatDoorOwL
import Derived.Test.YtklcaphkfdlipaaGreatDoorEdgS
/- Comparisons in the law on owners: edges; a text among texts. -/
set_option linter.unusedSimpArgs false
set_option linter.unusedVariables false
namespace Go.Proofs.YtklcaphkfdlipaaGreatDoor
open Go.RowKit
theorem neEdge_run (e : Ed) (w : World) : (binOp .neq 96 (.agg #[.int .i64 e.p.x, .int .i64 e.p.y, .int .i64 e.q.x, .int .i64 e.q.y]) (.agg #[.int .i64 e.p.x, .int .i64 e.p.y, .int .i64 e.q.x, .int .i64 e.q.y])).run Tryz.prog w = .ok (.bool false) w := by
  simp [go_sem]
set_option maxHeartbeats 1000000 in
theorem likeEdges_same (L : List Ed) (a a' : Option Addr) (n c n' c' : Nat) (w : World) (hn : L.length = n) (hn' : L.length = n') (hm : n ≤ 1048576) (hr : Row w a (edsCells L)) (hr' : Row w a' (edsCells L)) :
    Calls Tryz.prog 51 #[.slice a n c, .slice a' n' c'] w (Ret w (.bool true)) := by
  subst hn
  subst hn'
  replace hr := Lib.hid hr
  replace hr' := Lib.hid hr'
  go_enter Tryz.func51, Tryz.ntmps51
  go_wp2_with fail
  go_loopw [5] (fun i wr => ∃ k : Nat, k ≤ L.length ∧ i = .int .i64 k ∧ ∃ z : Later w, wr = z.w) (fun i _ => L.length - (intOf i).toNat)
  case atStart => exact ⟨0, Nat.zero_le _, rfl, ⟨_, Below.refl _ _⟩, rfl⟩
  case round =>
    obtain ⟨k, hk, rfl, z, rfl⟩ := hrel
    by_cases hlt : k < L.length
    · obtain ⟨b, o, rfl, hb, q0, q1, q2, q3⟩ := hr.out.ed hlt
      obtain ⟨b', o', rfl, hb', s0, s1, s2, s3⟩ := hr'.out.ed hlt
      have hi1 : (k : Int) < (L.length : Int) := by omega
      have hzz := z.bel.size
      have hbz : b < z.w.heap.size := by omega
      have hbz' : b' < z.w.heap.size := by omega
      generalize L[k] = e at *
      have hne := neEdge_run e
      go_wp2_with fail
      refine wp_region_later (by kernel_rfl) (by kernel_rfl) ?_
      repeat (go_big_quiet_step (fail))
      refine wpQuiet_nil ?_
      rintro _ ⟨xq, rfl⟩
      go_wp2_with fail
      go_roundw
      case rel => exact ⟨k + 1, by omega, by go_num, ⟨_, bb⟩, rfl⟩
      case measure => first | (simp [intOf]; done) | (simp [intOf]; omega) | omega
    · obtain rfl : k = L.length := by omega
      go_wp2_with fail
      go_ret
      exact .mk rfl bb
theorem hasB_no {L : List ByteArray} {s : ByteArray} (h : ∀ j (hj : j < L.length), (L[j].toList == s.toList) = false) : hasB L s = false := by
  unfold hasB
  rw [List.any_eq_false]
  intro t ht
  obtain ⟨j, hj, rfl⟩ := List.mem_iff_getElem.1 ht
  rw [h j hj]; decide
theorem hasB_at {L : List ByteArray} {s : ByteArray} {j : Nat} (hj : j < L.length) (h : (L[j].toList == s.toList) = true) : hasB L s = true := List.any_eq_true.2 ⟨_, List.getElem_mem hj, h⟩
set_option maxHeartbeats 1000000 in
theorem hasText_any (L : List ByteArray) (s : ByteArray) (a : Option Addr) (n c : Nat) (w : World) (hn : L.length = n) (hm : n ≤ 1048576) (hr : Row w a (strCells L)) :
    Calls Tryz.prog 52 #[.slice a n c, .string s] w (Ret w (.bool (hasB L s))) := by
  subst hn
  replace hr := Lib.hid hr
  go_enter Tryz.func52, Tryz.ntmps52
  go_wp2_with fail
  go_loopw [5] (fun i wr => ∃ k : Nat, k ≤ L.length ∧ i = .int .i64 k ∧ (∀ j (hj : j < L.length), j < k → (L[j].toList == s.toList) = false) ∧ ∃ z : Later w, wr = z.w) (fun i _ => L.length - (intOf i).toNat)
  case atStart => exact ⟨0, Nat.zero_le _, rfl, fun j _ h => absurd h (by omega), ⟨_, Below.refl _ _⟩, rfl⟩
  case round =>
    obtain ⟨k, hk, rfl, hall, z, rfl⟩ := hrel
    replace hall := Lib.hid hall
    have hzz := z.bel.size
    by_cases hlt : k < L.length
    · obtain ⟨b, o, rfl, hb, q0⟩ := hr.out.str hlt
      have hi1 : (k : Int) < (L.length : Int) := by omega
      have hbz : b < z.w.heap.size := by omega
      cases hc : (L[k].toList == s.toList)
      · have X := Lib.hid (show ∀ j (hj : j < L.length), j < k + 1 → (L[j].toList == s.toList) = false from fun j hj h => by
          rcases Nat.lt_or_ge j k with h1 | h1
          · exact hall.out j hj h1
          · obtain rfl : j = k := by omega
            exact hc)
        generalize L[k] = t at *
        go_wp2_with fail
        go_roundw
        case rel => exact ⟨k + 1, by omega, by go_num, X.out, LaterC.mk bb⟩
        case measure => first | (simp [intOf]; done) | (simp [intOf]; omega) | omega
      · have X := Lib.hid (hasB_at hlt hc)
        generalize L[k] = t at *
        go_wp2_with fail
        go_ret
        exact .mk (by rw [X.out]; rfl) bb
    · obtain rfl : k = L.length := by omega
      have X := Lib.hid (hasB_no fun j hj => hall.out j hj hj)
      go_wp2_with fail
      go_ret
      exact .mk (by rw [X.out]; rfl) bb
end Go.Proofs.YtklcaphkfdlipaaGreatDoor
