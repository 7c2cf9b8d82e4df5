import Derived.Test.YtkkhjbdnpobpnaaLike
import Derived.Test.YtkkhjbdnpobpnaaPackMa
/- Comparison of masks in the laws that draw. -/
set_option linter.unusedSimpArgs false
set_option linter.unusedVariables false
namespace Go.Proofs.Ytkkhjbdnpobpnaa
open Go.RowKit
set_option maxHeartbeats 1000000 in
theorem likeMask_same (x y W H : Int) (l : List Bool) (a a' : Option Addr) (n c n' c' : Nat) (w : World) (hn : l.length = n) (hn' : l.length = n') (hm : n ≤ 1048576) (hr : Row w a (boolCells l)) (hr' : Row w a' (boolCells l)) :
    Calls Try.prog 11 #[.agg #[.int .i64 x, .int .i64 y, .int .i64 W, .int .i64 H, .slice a n c], .agg #[.int .i64 x, .int .i64 y, .int .i64 W, .int .i64 H, .slice a' n' c']] w (Ret w (.bool true)) := by
  subst hn hn'
  have hr := Lib.hid hr
  have hr' := Lib.hid hr'
  go_enter Try.func11, Try.ntmps11
  go_wp2_with fail
  go_loopw [5] (fun i wr => ∃ k : Nat, k ≤ l.length ∧ i = .int .i64 k ∧ ∃ z : Later ((w.alloc (.cells #[.int .i64 x, .int .i64 y, .int .i64 W, .int .i64 H, .slice a l.length c] 28)).alloc (.cells #[.int .i64 x, .int .i64 y, .int .i64 W, .int .i64 H, .slice a' l.length c'] 28)), wr = z.w) (fun i _ => l.length - (intOf i).toNat)
  case atStart => exact ⟨0, Nat.zero_le _, rfl, ⟨_, Below.refl _ _⟩, rfl⟩
  case round =>
    obtain ⟨k, hk, rfl, z, rfl⟩ := hrel
    have hzz := z.bel.size
    (try simp only [World.size_alloc] at hzz)
    have u1 : w.heap.size < z.w.heap.size := (by omega)
    have u2 : w.heap.size + 1 < z.w.heap.size := (by omega)
    by_cases hlt : k < l.length
    · obtain ⟨b, o, rfl, hc⟩ := (hr.out.bel (w' := z.w) (by (repeat (first | (with_reducible exact Below.refl _ _) | (with_reducible assumption) | (with_reducible refine Later.out _ ?_) | (with_reducible refine bel_alloc ?_ _) | (with_reducible refine bel_drew ?_) | (with_reducible refine bel_drewN ?_ _) | (with_reducible refine bel_set ?_ ?_ _) | (with_reducible refine After.out _ ?_ ?_) | (dsimp only; omega) | omega | (simp only [World.size_alloc, World.size_setCell, World.size_drew]; omega))))) k _ (boolCells_get hlt)
      obtain ⟨b', o', rfl, hc'⟩ := (hr'.out.bel (w' := z.w) (by (repeat (first | (with_reducible exact Below.refl _ _) | (with_reducible assumption) | (with_reducible refine Later.out _ ?_) | (with_reducible refine bel_alloc ?_ _) | (with_reducible refine bel_drew ?_) | (with_reducible refine bel_drewN ?_ _) | (with_reducible refine bel_set ?_ ?_ _) | (with_reducible refine After.out _ ?_ ?_) | (dsimp only; omega) | omega | (simp only [World.size_alloc, World.size_setCell, World.size_drew]; omega))))) k _ (boolCells_get hlt)
      have hb1 := World.block_lt_of_cell? z.w _ hc
      have hb2 := World.block_lt_of_cell? z.w _ hc'
      simp only at hb1 hb2
      have hi1 : (k : Int) < (l.length : Int) := by omega
      cases hb : l[k]
      all_goals
        rw [hb] at hc hc'
        clear hb
        go_wp2_with fail
        refine wp_region_later (by kernel_rfl) (by kernel_rfl) ?_
        repeat (go_big_quiet_step (fail))
        refine wpQuiet_nil ?_
        rintro _ ⟨xq, rfl⟩
        go_wp2_with fail
        go_roundw
        case rel => exact ⟨k + 1, by omega, by go_num, ⟨_, by (repeat (first | (with_reducible exact Below.refl _ _) | (with_reducible assumption) | (with_reducible refine Later.out _ ?_) | (with_reducible refine bel_alloc ?_ _) | (with_reducible refine bel_drew ?_) | (with_reducible refine bel_drewN ?_ _) | (with_reducible refine bel_set ?_ ?_ _) | (with_reducible refine After.out _ ?_ ?_) | (dsimp only; omega) | omega | (simp only [World.size_alloc, World.size_setCell, World.size_drew]; omega)))⟩, rfl⟩
        case measure => first | (simp [intOf]; done) | (simp [intOf]; omega) | omega
    · obtain rfl : k = l.length := by omega
      have hi1 : ¬ (l.length : Int) < (l.length : Int) := by omega
      go_wp2_with fail
      go_ret
      refine .mk rfl ?_
      (repeat (first | (with_reducible exact Below.refl _ _) | (with_reducible assumption) | (with_reducible refine Later.out _ ?_) | (with_reducible refine bel_alloc ?_ _) | (with_reducible refine bel_drew ?_) | (with_reducible refine bel_drewN ?_ _) | (with_reducible refine bel_set ?_ ?_ _) | (with_reducible refine After.out _ ?_ ?_) | (dsimp only; omega) | omega | (simp only [World.size_alloc, World.size_setCell, World.size_drew]; omega)))
end Go.Proofs.Ytkkhjbdnpobpnaa
