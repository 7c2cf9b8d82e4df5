import Derived.Test.YtfjlilpebhiogaaGreatDoorDec
/- A number with its sign, the reference's way; the library's Join. -/
set_option linter.unusedSimpArgs false
set_option linter.unusedVariables false
namespace Go.Proofs.YtfjlilpebhiogaaGreatDoor
open Go.RowKit
set_option maxHeartbeats 1000000 in
theorem sNumber_any (n : Int) (h0 : -1000000 ≤ n) (h1 : n ≤ 1000000) (w : World) : Calls Tryz.prog 91 #[.int .i64 n] w (Ret w (.string (decB n))) := by
  by_cases hneg : n < 0
  · obtain ⟨m, hm⟩ : ∃ m : Nat, -n = (m : Int) := ⟨(-n).toNat, by omega⟩
    have C := Lib.hid (fun w => sDec_any m (by omega) w)
    have hs := decB_size (m : Int) (by omega) (by omega)
    have e : decB n = ⟨#[45]⟩ ++ decB (m : Int) := by
      have e1 : n = -(m : Int) := by omega
      unfold decB
      rw [e1, Lib.itoa_neg m (by omega), Lib.itoa_nonneg]
      apply ByteArray.ext
      simp
    obtain ⟨D, hD⟩ : ∃ D, decB (m : Int) = D := ⟨_, rfl⟩
    rw [hD] at C e hs
    rw [← hm] at C
    rw [e]
    clear hm hD e
    go_enter Tryz.func91, Tryz.ntmps91
    go_wp2_with fail
    with_reducible refine (C.out _).mono ?_
    rintro e w' ⟨rfl, y1, rfl⟩
    have hsy1 := y1.bel.size
    (try simp only [World.size_alloc, World.size_setCell, World.size_drew] at hsy1)
    go_wp2_with fail
    go_ret
    exact .mk rfl (by (repeat (first | (with_reducible exact Below.refl _ _) | (with_reducible assumption) | (with_reducible refine Later.out _ ?_) | (with_reducible refine bel_alloc ?_ _) | (with_reducible refine bel_drew ?_) | (with_reducible refine bel_drewN ?_ _) | (with_reducible refine bel_set ?_ ?_ _) | (with_reducible refine After.out _ ?_ ?_) | (dsimp only; omega) | omega | (simp only [World.size_alloc, World.size_setCell, World.size_drew]; omega))))
  · obtain ⟨m, rfl⟩ := Int.eq_ofNat_of_zero_le (show 0 ≤ n by omega)
    have C := Lib.hid (fun w => sDec_any m (by omega) w)
    go_enter Tryz.func91, Tryz.ntmps91
    go_wp2_with fail
    with_reducible refine (C.out _).mono ?_
    rintro e w' ⟨rfl, y1, rfl⟩
    have hsy1 := y1.bel.size
    (try simp only [World.size_alloc, World.size_setCell, World.size_drew] at hsy1)
    go_wp2_with fail
    go_ret
    exact .mk rfl (by (repeat (first | (with_reducible exact Below.refl _ _) | (with_reducible assumption) | (with_reducible refine Later.out _ ?_) | (with_reducible refine bel_alloc ?_ _) | (with_reducible refine bel_drew ?_) | (with_reducible refine bel_drewN ?_ _) | (with_reducible refine bel_set ?_ ?_ _) | (with_reducible refine After.out _ ?_ ?_) | (dsimp only; omega) | omega | (simp only [World.size_alloc, World.size_setCell, World.size_drew]; omega))))
theorem builderX : Builder.Extra Tryz.prog Tryz.lays156_ren :=
  { sizeBuilder := by kernel_rfl, liesBuilder := by kernel_rfl, t5 := Tryz.underlying5, a5 := Tryz.isAgg5, z5 := Tryz.sizeOf5, v5 := Tryz.zeroValue5, infoByte := by kernel_rfl, cellsByte := by kernel_rfl, sizeByte := by kernel_rfl, neB5 := by decide }
theorem joinRow_any (ts : List ByteArray) (sep : ByteArray) (g o c : Nat) (w : World) (hg : g < w.heap.size) (hr : ∀ (j : Nat) x, ts[j]? = some x → w.cell? ⟨g, o + j, none⟩ = some (.string x)) (hc : ts.length ≤ c) (hm : ts.length ≤ 1048576) (hs : (Lib.join (ts.map (·.data.toList)) sep.data.toList).length ≤ 140737488355328) :
    Calls Tryz.prog 44 #[.slice (some ⟨g, o, none⟩) ts.length c, .string sep] w (Ret w (.string ⟨(Lib.join (ts.map (·.data.toList)) sep.data.toList).toArray⟩)) := by
  have h := Any.strings_Join Tryz.lays156 builderX g o c ts sep w hr hg (by omega) hc hs
  exact Calls.mono (show Calls Tryz.prog 44 #[.slice (some ⟨g, o, none⟩) ts.length c, .string sep] w _ from h) fun e w' ⟨he, hb⟩ => .mk he hb
end Go.Proofs.YtfjlilpebhiogaaGreatDoor
