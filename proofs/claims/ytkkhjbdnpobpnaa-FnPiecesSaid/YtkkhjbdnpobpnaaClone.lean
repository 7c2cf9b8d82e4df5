import Derived.Test.YtkkhjbdnpobpnaaApp
import Derived.Test.YtkkhjbdnpobpnaaPackMa
import Derived.Lib.SliceRun
/- slices.Clone of bools. -/
set_option linter.unusedSimpArgs false
set_option linter.unusedVariables false
namespace Go.Proofs.Ytkkhjbdnpobpnaa
open Go.RowKit
theorem one_bool (l : List Bool) : ∀ u ∈ boolCells l, u.oneCell' = true := by
  intro u hu
  simp only [boolCells, List.mem_map] at hu
  obtain ⟨b, _, rfl⟩ := hu
  rfl
set_option maxRecDepth 4000 in
set_option maxHeartbeats 400000 in
theorem cloneBool_any (l : List Bool) (a : Option Addr) (n c : Nat) (w : World) (hn : l.length = n) (hm : n ≤ 1048576) (h1 : 0 < n) (hr : Row w a (boolCells l)) :
    Calls Try.prog 37 #[.slice a n c] w (RetOwn w 4 1 n (boolCells l) id) := by
  subst hn
  obtain ⟨b, o, rfl, -⟩ := hr 0 _ (boolCells_get h1)
  obtain ⟨ii, j1, j2, j3, j4⟩ := info_bool'
  have Jii := Lib.hid (And.intro j1 (And.intro j2 (And.intro j3 j4)))
  have HR := Lib.hid hr
  clear j1 j2 j3 j4 hr
  have heq := fun w => Lib.run_eql_slice_nil (P := Try.prog) w 26 4 (some ⟨b, o, none⟩) l.length c 0 0 Try.underlying26
  go_enter Try.func37, Try.ntmps37
  go_wp2_with (at_builtin; (refine wpList_append_later _ rfl _ _ _ rfl 4 ii _ 1 1 Try.underlying26 Jii.out.1 Jii.out.2.1 Jii.out.2.2.1 Jii.out.2.2.2 rfl (by decide) (w) ?qa1 _ _ _ ([]) rfl ?qa2 _ _ _ (boolCells l) rfl ?qa3 ?qa4 ?qa5 ?qa6 ?qa7 ?_); (case qa1 => (repeat (first | (with_reducible exact Below.refl _ _) | (with_reducible assumption) | (with_reducible refine Later.out _ ?_) | (with_reducible refine bel_alloc ?_ _) | (with_reducible refine bel_drew ?_) | (with_reducible refine bel_drewN ?_ _) | (with_reducible refine bel_set ?_ ?_ _) | (with_reducible refine After.out _ ?_ ?_) | (dsimp only; omega) | omega | (simp only [World.size_alloc, World.size_setCell, World.size_drew]; omega)))); (case qa2 => exact World.ownsRow_lit w #[] 0 (Nat.le_refl _) (by unfold maxLen; omega) rfl); (case qa3 => (first | rfl | (simp [boolCells]; done) | (simp [intCells]; done) | (simp; done) | (first | omega | (simp only [List.length_append, List.length_cons, List.length_nil]; omega)))); (case qa4 => exact HR.out.bel (by (repeat (first | (with_reducible exact Below.refl _ _) | (with_reducible assumption) | (with_reducible refine Later.out _ ?_) | (with_reducible refine bel_alloc ?_ _) | (with_reducible refine bel_drew ?_) | (with_reducible refine bel_drewN ?_ _) | (with_reducible refine bel_set ?_ ?_ _) | (with_reducible refine After.out _ ?_ ?_) | (dsimp only; omega) | omega | (simp only [World.size_alloc, World.size_setCell, World.size_drew]; omega))))); (case qa5 => exact one_bool l); (case qa6 => (unfold maxLen; (first | omega | (simp only [List.length_append, List.length_cons, List.length_nil]; omega)))); (case qa7 => (first | omega | (simp only [List.length_append, List.length_cons, List.length_nil]; omega))); intro a' c' x hown)
  simp only [Nat.zero_add, List.nil_append] at hown
  have HO := Lib.hid hown
  clear hown
  go_ret
  exact RetOwn.mk _ rfl HO.out x.bel
end Go.Proofs.Ytkkhjbdnpobpnaa
