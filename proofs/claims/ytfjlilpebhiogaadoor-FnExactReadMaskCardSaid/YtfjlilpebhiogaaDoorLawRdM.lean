import Derived.Test.YtfjlilpebhiogaaDoorMRdJ
import Derived.Test.YtfjlilpebhiogaaDoorMRdT
import Derived.Test.YtfjlilpebhiogaaDoorMaskW
/- The law ReadMask. -/
set_option linter.unusedSimpArgs false
set_option linter.unusedVariables false
namespace Go.Proofs.YtfjlilpebhiogaaDoor
open Go.RowKit
theorem RdM.len {s : ByteArray} {X Y W H code : Int} {L : List Bool} (h : RdM s X Y W H code L) : L.length ≤ 1048576 := by
  rcases h with ⟨Wn, Hn, -, -, -, hm⟩ | ⟨-, -, -, -, -, -, rfl⟩
  · obtain ⟨d1, d2, d3, d4, d5, d6⟩ := mask_dims hm.1
    have := Nat.mul_le_mul d4 d2
    omega
  · simp
set_option maxRecDepth 8000 in
set_option maxHeartbeats 8000000 in
theorem lawRdM_any (s : ByteArray) (w : World) (hm : s.size ≤ maxLen) (hE : Env w) :
    Calls Tryd.prog 4 #[.string s] w (Ret w (.bool true)) := by
  unfold maxLen at hm
  by_cases hbig : (s.size : Int) > 1048576
  · clear hE
    go_enter Tryd.func4, Tryd.ntmps4
    go_wp2_with fail
    go_ret
    exact .mk rfl (by (repeat (first | (with_reducible exact Below.refl _ _) | (with_reducible assumption) | (with_reducible refine Later.out _ ?_) | (with_reducible refine bel_alloc ?_ _) | (with_reducible refine bel_drew ?_) | (with_reducible refine bel_drewN ?_ _) | (with_reducible refine bel_set ?_ ?_ _) | (with_reducible refine After.out _ ?_ ?_) | (dsimp only; omega) | omega | (simp only [World.size_alloc, World.size_setCell, World.size_drew]; omega))))
  · have hs : s.size ≤ 1048576 := by omega
    obtain ⟨X, Y, W, H, code, L, hR⟩ := rdM_ex s
    have hL := hR.len
    have CI := Lib.hid (fun w hE => readMask_impl s w hs hE X Y W H code L hR)
    have CS := Lib.hid (fun w => sReadMask_any s w hs X Y W H code L hR)
    replace hE := Lib.hid hE
    clear hR hm
    go_enter Tryd.func4, Tryd.ntmps4
    go_wp2_with fail
    with_reducible refine (CS.out _).mono ?_
    rintro e w' ⟨a3, c3, rfl, hown, y3, rfl⟩
    have hsy3 := y3.bel.size
    (try simp only [World.size_alloc, World.size_setCell, World.size_drew] at hsy3)
    have O3 := Lib.hid (Owns.of hown)
    clear hown
    go_wp2_with fail
    with_reducible refine (CI.out _ (hE.out.bel (by (repeat (first | (with_reducible exact Below.refl _ _) | (with_reducible assumption) | (with_reducible refine Later.out _ ?_) | (with_reducible refine bel_alloc ?_ _) | (with_reducible refine bel_drew ?_) | (with_reducible refine bel_drewN ?_ _) | (with_reducible refine bel_set ?_ ?_ _) | (with_reducible refine After.out _ ?_ ?_) | (dsimp only; omega) | omega | (simp only [World.size_alloc, World.size_setCell, World.size_drew]; omega)))))).mono ?_
    rintro e w' ⟨a5, c5, rfl, hown, y5, rfl⟩
    have hsy5 := y5.bel.size
    (try simp only [World.size_alloc, World.size_setCell, World.size_drew] at hsy5)
    have O5 := Lib.hid (Owns.of hown)
    clear hown
    have v1 : w.heap.size < y5.w.heap.size + 1 := by omega
    have HO5 := Lib.hid (O5.out.bel (B := y5.w.heap.size) (w' := y5.w.alloc (.cells #[.int .i64 X, .int .i64 Y, .int .i64 W, .int .i64 H, .slice a5 L.length c5] 32)) (by (repeat (first | (with_reducible exact Below.refl _ _) | (with_reducible assumption) | (with_reducible refine Later.out _ ?_) | (with_reducible refine bel_alloc ?_ _) | (with_reducible refine bel_drew ?_) | (with_reducible refine bel_drewN ?_ _) | (with_reducible refine bel_set ?_ ?_ _) | (with_reducible refine After.out _ ?_ ?_) | (dsimp only; omega) | omega | (simp only [World.size_alloc, World.size_setCell, World.size_drew]; omega)))) (Nat.le_refl _))
    have HO3 := Lib.hid (O3.out.bel (B := y3.w.heap.size) (w' := y5.w.alloc (.cells #[.int .i64 X, .int .i64 Y, .int .i64 W, .int .i64 H, .slice a5 L.length c5] 32)) (by (repeat (first | (with_reducible exact Below.refl _ _) | (with_reducible assumption) | (with_reducible refine Later.out _ ?_) | (with_reducible refine bel_alloc ?_ _) | (with_reducible refine bel_drew ?_) | (with_reducible refine bel_drewN ?_ _) | (with_reducible refine bel_set ?_ ?_ _) | (with_reducible refine After.out _ ?_ ?_) | (dsimp only; omega) | omega | (simp only [World.size_alloc, World.size_setCell, World.size_drew]; omega)))) (Nat.le_refl _))
    go_wp2_with fail
    with_reducible refine (eqMask_same X Y W H rfl rfl hL hL HO5.out.row HO3.out.row).mono ?_
    rintro e w' ⟨rfl, y6, rfl⟩
    have hsy6 := y6.bel.size
    (try simp only [World.size_alloc, World.size_setCell, World.size_drew] at hsy6)
    have HO5b := Lib.hid (HO5.out.bel y6.bel (by (try simp only [World.size_alloc]); omega))
    have HO3b := Lib.hid (HO3.out.bel y6.bel (by (try simp only [World.size_alloc]); omega))
    (try simp only [World.size_alloc] at hsy6)
    go_wp2_with fail
    with_reducible refine (markMask_any _ _ _ _ _ _ _ _ _ (1) _ _ HO5b.out hL (by omega) (by omega) (by omega)).mono ?_
    rintro e w' ⟨rfl, z1, rfl, hown⟩
    have hzz1 := z1.btw.size
    (try simp only [World.size_alloc] at hzz1)
    have HM := Lib.hid hown
    clear hown
    go_wp2_with fail
    with_reducible refine (heldMask_any _ _ _ _ _ _ _ 1 _ HM.out.row hL (by omega) (by omega)).mono ?_
    rintro e w' ⟨rfl, y7, rfl⟩
    have hs7 := y7.bel.size
    have HO3c := Lib.hid ((HO3b.out.btw z1.btw (by (try simp only [World.size_alloc]); omega)).bel y7.bel (by (try simp only [World.size_alloc]); omega))
    have HMc := Lib.hid (HM.out.bel y7.bel (by (try simp only [World.size_alloc]); omega))
    have hby7 : Below w.heap.size w y7.w := by (repeat (first | (with_reducible exact Below.refl _ _) | (with_reducible assumption) | (with_reducible refine Later.out _ ?_) | (with_reducible refine bel_alloc ?_ _) | (with_reducible refine bel_drew ?_) | (with_reducible refine bel_drewN ?_ _) | (with_reducible refine bel_set ?_ ?_ _) | (with_reducible refine After.out _ ?_ ?_) | (dsimp only; omega) | omega | (simp only [World.size_alloc, World.size_setCell, World.size_drew]; omega)))
    replace hby7 := Lib.hid hby7
    go_wp2_with fail
    with_reducible refine (CI.out _ (hE.out.bel hby7.out)).mono ?_
    rintro e w' ⟨a9, c9, rfl, hown, y9, rfl⟩
    have hsy9 := y9.bel.size
    (try simp only [World.size_alloc, World.size_setCell, World.size_drew] at hsy9)
    have O9 := Lib.hid (Owns.of hown)
    clear hown
    have hb9 : Below y7.w.heap.size y7.w (y9.w.alloc (.cells #[.int .i64 X, .int .i64 Y, .int .i64 W, .int .i64 H, .slice a9 L.length c9] 32)) := by (repeat (first | (with_reducible exact Below.refl _ _) | (with_reducible assumption) | (with_reducible refine Later.out _ ?_) | (with_reducible refine bel_alloc ?_ _) | (with_reducible refine bel_drew ?_) | (with_reducible refine bel_drewN ?_ _) | (with_reducible refine bel_set ?_ ?_ _) | (with_reducible refine After.out _ ?_ ?_) | (dsimp only; omega) | omega | (simp only [World.size_alloc, World.size_setCell, World.size_drew]; omega)))
    have HO9 := Lib.hid (O9.out.bel (B := y9.w.heap.size) (w' := y9.w.alloc (.cells #[.int .i64 X, .int .i64 Y, .int .i64 W, .int .i64 H, .slice a9 L.length c9] 32)) (by (repeat (first | (with_reducible exact Below.refl _ _) | (with_reducible assumption) | (with_reducible refine Later.out _ ?_) | (with_reducible refine bel_alloc ?_ _) | (with_reducible refine bel_drew ?_) | (with_reducible refine bel_drewN ?_ _) | (with_reducible refine bel_set ?_ ?_ _) | (with_reducible refine After.out _ ?_ ?_) | (dsimp only; omega) | omega | (simp only [World.size_alloc, World.size_setCell, World.size_drew]; omega)))) (Nat.le_refl _))
    have HO3d := Lib.hid (HO3c.out.bel hb9 (by (try simp only [World.size_alloc]); omega))
    have HMd := Lib.hid (HMc.out.bel hb9 (by (try simp only [World.size_alloc]); omega))
    go_wp2_with fail
    with_reducible refine (eqMask_same X Y W H rfl rfl hL hL HO9.out.row HO3d.out.row).mono ?_
    rintro e w' ⟨rfl, y10, rfl⟩
    have hsy10 := y10.bel.size
    (try simp only [World.size_alloc, World.size_setCell, World.size_drew] at hsy10)
    go_wp2_with fail
    with_reducible refine (heldMask_any _ _ _ _ _ _ _ 1 _ (HMd.out.row.bel (by (repeat (first | (with_reducible exact Below.refl _ _) | (with_reducible assumption) | (with_reducible refine Later.out _ ?_) | (with_reducible refine bel_alloc ?_ _) | (with_reducible refine bel_drew ?_) | (with_reducible refine bel_drewN ?_ _) | (with_reducible refine bel_set ?_ ?_ _) | (with_reducible refine After.out _ ?_ ?_) | (dsimp only; omega) | omega | (simp only [World.size_alloc, World.size_setCell, World.size_drew]; omega))))) hL (by omega) (by omega)).mono ?_
    rintro e w' ⟨rfl, y11, rfl⟩
    go_wp2_with fail
    go_ret
    have hb1 := hby7.out
    exact .mk rfl (by (repeat (first | (with_reducible exact Below.refl _ _) | (with_reducible assumption) | (with_reducible refine Later.out _ ?_) | (with_reducible refine bel_alloc ?_ _) | (with_reducible refine bel_drew ?_) | (with_reducible refine bel_drewN ?_ _) | (with_reducible refine bel_set ?_ ?_ _) | (with_reducible refine After.out _ ?_ ?_) | (dsimp only; omega) | omega | (simp only [World.size_alloc, World.size_setCell, World.size_drew]; omega))))
end Go.Proofs.YtfjlilpebhiogaaDoor
