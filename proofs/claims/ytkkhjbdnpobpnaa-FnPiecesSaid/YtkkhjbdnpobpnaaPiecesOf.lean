import Derived.Test.YtkkhjbdnpobpnaaPiecesS
/- The law PiecesOf. -/
set_option linter.unusedSimpArgs false
set_option linter.unusedVariables false
namespace Go.Proofs.Ytkkhjbdnpobpnaa
open Go.RowKit
noncomputable def piecesR (x y W H : Int) (l : List Bool) : Int × List Int := if isMaskB x y W H l.length then (0, piecesN x y W H l) else (1, [])
theorem piecesR_len (x y W H : Int) (l : List Bool) : (piecesR x y W H l).2.length ≤ l.length := by
  unfold piecesR
  split
  · exact pcs_le _ _ _
  · simp
theorem piecesOf_impl (x y W H : Int) (l : List Bool) (a : Option Addr) (n c : Nat) (w : World) (code : Int) (L : List Int) (hR : piecesR x y W H l = (code, L)) (hn : l.length = n) (hm : n ≤ 1048576) (hr : Row w a (boolCells l)) :
    Calls Try.prog 15 #[.agg #[.int .i64 x, .int .i64 y, .int .i64 W, .int .i64 H, .slice a n c]] w (RetOwn w 2 1 L.length (intCells L) fun v => .tuple #[v, .int .i64 code]) := by
  unfold piecesR at hR
  rw [hn] at hR
  cases h1 : isMaskB x y W H n
  · rw [h1] at hR
    simp only [Bool.false_eq_true, if_false, Prod.mk.injEq] at hR
    obtain ⟨rfl, rfl⟩ := hR
    replace hr := Lib.hid hr
    replace h1 := Lib.hid h1
    clear hn
    go_enter Try.func15, Try.ntmps15
    go_wp2_with fail
    with_reducible refine (isMask_b _ _ _ _ _ _ _ _ h1.out).mono ?_
    rintro e w' ⟨rfl, y1, rfl⟩
    have hsy1 := y1.bel.size
    (try simp only [World.size_alloc, World.size_setCell, World.size_drew] at hsy1)
    go_wp2_with fail
    refine bodyPost_ret (by simp [results, Try.results15, go_sem, ↓IntWalk.iteOmega]; try rfl) rfl ?_
    refine RetOwn.mk (.slice none 0 0) rfl (World.ownsRow_nil _ _ _ _) ?_
    (repeat (first | (with_reducible exact Below.refl _ _) | (with_reducible assumption) | (with_reducible refine Later.out _ ?_) | (with_reducible refine bel_alloc ?_ _) | (with_reducible refine bel_drew ?_) | (with_reducible refine bel_drewN ?_ _) | (with_reducible refine bel_set ?_ ?_ _) | (with_reducible refine After.out _ ?_ ?_) | (dsimp only; omega) | omega | (simp only [World.size_alloc, World.size_setCell, World.size_drew]; omega)))
  · rw [h1] at hR
    simp only [if_true, Prod.mk.injEq] at hR
    obtain ⟨rfl, rfl⟩ := hR
    exact pieces_impl x y W H l a n c w hn h1 hr
end Go.Proofs.Ytkkhjbdnpobpnaa
