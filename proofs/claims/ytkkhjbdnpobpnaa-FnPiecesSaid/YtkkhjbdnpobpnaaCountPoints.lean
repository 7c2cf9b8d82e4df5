import Derived.Test.YtkkhjbdnpobpnaaPackMa
/- The law CountPoints: the program's CountPoints returns what the reference's returns. -/
set_option linter.unusedSimpArgs false
set_option linter.unusedVariables false
namespace Go.Proofs.Ytkkhjbdnpobpnaa
open Go.RowKit
/-- How many are true among the first k. -/
def cntB (l : List Bool) (k : Nat) : Nat := (l.take k).count true
theorem cntB_le (l : List Bool) (k : Nat) : cntB l k ≤ k := Nat.le_trans List.count_le_length (List.length_take_le _ _)
theorem cntB_step (l : List Bool) (k : Nat) (h : k < l.length) : cntB l (k + 1) = cntB l k + if l[k] = true then 1 else 0 := by
  unfold cntB
  rw [List.take_succ_eq_append_getElem h, List.count_append]
  cases hb : l[k] <;> simp
section
variable (x y W H : Int) (l : List Bool) (a : Option Addr) (n c : Nat) (w : World)
set_option maxHeartbeats 400000 in
theorem count_any (hn : l.length = n) (hm : n ≤ 1048576) (hr : Row w a (boolCells l)) :
    Calls Try.prog 38 #[.agg #[.int .i64 x, .int .i64 y, .int .i64 W, .int .i64 H, .slice a n c]] w (Ret w (.int .i64 (cntB l l.length))) := by
  subst hn
  have hr := Lib.hid hr
  go_enter Try.func38, Try.ntmps38
  go_wp2
  go_loopw [3, 9] (fun s j wr => ∃ k : Nat, k ≤ l.length ∧ j = .int .i64 k ∧ s = .int .i64 (cntB l k) ∧ ∃ z : Later (w.alloc (.cells #[.int .i64 x, .int .i64 y, .int .i64 W, .int .i64 H, .slice a l.length c] 28)), wr = z.w) (fun _ j _ => l.length - (intOf j).toNat)
  case atStart => exact ⟨0, Nat.zero_le _, rfl, by simp [cntB], ⟨_, Below.refl _ _⟩, rfl⟩
  case round =>
    obtain ⟨k, hk, rfl, rfl, z, rfl⟩ := hrel
    have hle := cntB_le l k
    by_cases hlt : k < l.length
    · obtain ⟨b, o, rfl, hc⟩ := (hr.out.bel (w' := z.w) (by (repeat (first | (with_reducible exact Below.refl _ _) | (with_reducible assumption) | (with_reducible refine Later.out _ ?_) | (with_reducible refine bel_alloc ?_ _) | (with_reducible refine bel_drew ?_) | (with_reducible refine bel_drewN ?_ _) | (with_reducible refine bel_set ?_ ?_ _) | (with_reducible refine After.out _ ?_ ?_) | (dsimp only; omega) | omega | (simp only [World.size_alloc, World.size_setCell, World.size_drew]; omega))))) k _ (boolCells_get hlt)
      have hst := Lib.hid (cntB_step l k hlt)
      cases hb : l[k]
      · have HB := Lib.hid hb
        rw [hb] at hc
        clear hb
        go_wp2
        go_roundw
        case rel => exact ⟨k + 1, by omega, by go_num, by rw [hst.out, HB.out]; simp, z, rfl⟩
        case measure => simp [intOf]; omega
      · have HB := Lib.hid hb
        rw [hb] at hc
        clear hb
        go_wp2
        go_roundw
        case rel => exact ⟨k + 1, by omega, by go_num, by rw [hst.out, HB.out]; go_num, z, rfl⟩
        case measure => simp [intOf]; omega
    · obtain rfl : k = l.length := by omega
      go_wp2
      go_ret
      refine .mk rfl ?_
      (repeat (first | (with_reducible exact Below.refl _ _) | (with_reducible assumption) | (with_reducible refine Later.out _ ?_) | (with_reducible refine bel_alloc ?_ _) | (with_reducible refine bel_drew ?_) | (with_reducible refine bel_drewN ?_ _) | (with_reducible refine bel_set ?_ ?_ _) | (with_reducible refine After.out _ ?_ ?_) | (dsimp only; omega) | omega | (simp only [World.size_alloc, World.size_setCell, World.size_drew]; omega)))

end
end Go.Proofs.Ytkkhjbdnpobpnaa
