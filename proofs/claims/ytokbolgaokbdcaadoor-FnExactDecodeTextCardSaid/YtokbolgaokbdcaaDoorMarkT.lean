import Derived.Test.YtokbolgaokbdcaaDoorPackPa
import Derived.Laws.BytesArg
/- The texts of marks. -/
set_option linter.unusedSimpArgs false
set_option linter.unusedVariables false
namespace Go.Proofs.YtokbolgaokbdcaaDoor
open Go.RowKit
/-- The digits of a number ahead of a text. -/
def digs (k : Nat) (out : ByteArray) : ByteArray := if h : k = 0 then out else digs (k / 10) (strOfNums [48 + (k : Int) % 10] ++ out)
termination_by k
decreasing_by omega
theorem digs_zero (out : ByteArray) : digs 0 out = out := by rw [digs]; simp
theorem digs_pos {k : Nat} (h : 0 < k) (out : ByteArray) : digs k out = digs (k / 10) (strOfNums [48 + (k : Int) % 10] ++ out) := by rw [digs, dif_neg (by omega)]
/-- The text of a mark. -/
def markT (k : Nat) : ByteArray := ⟨#[109]⟩ ++ digs k ByteArray.empty
theorem run_conv_one (w : World) (x : Int) : (convert 40 9 (.slice (some ⟨w.heap.size, 0, none⟩) 1 1)).run Tryd.prog (w.alloc (.cells #[.int .u8 x] 5)) = .ok (.string (strOfNums [x])) (w.alloc (.cells #[.int .u8 x] 5)) :=
  run_convert_bytes_arg (P := Tryd.prog) (w.alloc (.cells #[.int .u8 x] 5)) 40 5 Tryd.underlying40 Tryd.underlying5 w.heap.size 0 1 1 [x] rfl (fun i hi => by
    obtain rfl : i = 0 := by omega
    simp) _ Tryd.underlying9
set_option maxRecDepth 8000 in
set_option maxHeartbeats 1000000 in
theorem markText_any (m : Nat) (w : World) (h : 0 < m) (hm : m < 1099511627776) : Calls Tryd.prog 41 #[.int .i64 m] w (Ret w (.string (markT m))) := by
  have hm0 : decide (m = 0) = false := by simp; omega
  have kc := fun (w : World) (x : Int) => run_conv_one w x
  go_enter Tryd.func41, Tryd.ntmps41
  go_wp2_with fail
  go_loopw [0, 3] (fun kk t wr => ∃ (k : Nat) (out : ByteArray), k ≤ m ∧ kk = .int .i64 k ∧ t = .string out ∧ digs k out = digs m ByteArray.empty ∧ out.size + k ≤ m ∧ ∃ z : Later w, wr = z.w) (fun kk _ _ => (intOf kk).toNat)
  case atStart => exact ⟨m, _, Nat.le_refl _, rfl, rfl, rfl, Nat.le_of_eq (Nat.zero_add _), ⟨_, Below.refl _ _⟩, rfl⟩
  case round =>
    obtain ⟨k, out, hk, rfl, rfl, hd, hsz, z, rfl⟩ := hrel
    replace hd := Lib.hid hd
    by_cases h0 : 0 < k
    · have h1 := strOfNums_size [48 + (k : Int) % 10]
      have h2 : (strOfNums [48 + (k : Int) % 10]).size + out.size ≤ 9223372036854775807 := by rw [h1]; simp; omega
      have h3 : ((strOfNums [48 + (k : Int) % 10]).size + out.size < 9223372036854775808) := by omega
      have X := Lib.hid (show (strOfNums [48 + (k : Int) % 10] ++ out).size + k / 10 ≤ m by rw [ByteArray.size_append, h1]; simp; omega)
      clear h1
      go_wp2_with fail
      go_roundw
      case rel => exact ⟨k / 10, _, by omega, by go_num, rfl, by rw [← hd.out, digs_pos h0], X.out, ⟨_, bel_alloc z.bel (.cells #[.int .u8 (48 + (k : Int) % 10)] 5)⟩, rfl⟩
      case measure => first | (simp [intOf]; done) | (simp [intOf]; omega) | omega
    · obtain rfl : k = 0 := by omega
      have X := Lib.hid (show digs m ByteArray.empty = out by rw [← hd.out, digs_zero])
      have h2 : (ByteArray.mk #[109]).size + out.size ≤ 9223372036854775807 := by have : (ByteArray.mk #[109]).size = 1 := rfl; omega
      go_wp2_with fail
      go_ret
      exact .mk (by unfold markT; rw [X.out]; rfl) (by (repeat (first | (with_reducible exact Below.refl _ _) | (with_reducible assumption) | (with_reducible refine Later.out _ ?_) | (with_reducible refine bel_alloc ?_ _) | (with_reducible refine bel_drew ?_) | (with_reducible refine bel_drewN ?_ _) | (with_reducible refine bel_set ?_ ?_ _) | (with_reducible refine After.out _ ?_ ?_) | (dsimp only; omega) | omega | (simp only [World.size_alloc, World.size_setCell, World.size_drew]; omega))))
def mT (k : Int) : ByteArray := markT k.toNat
theorem mText_any (k : Int) (w : World) (h : 0 < k) (hm : k < 1099511627776) : Calls Tryd.prog 41 #[.int .i64 k] w (Ret w (.string (mT k))) := by
  obtain ⟨m, rfl⟩ : ∃ m : Nat, k = m := ⟨k.toNat, by omega⟩
  exact markText_any m w (by omega) (by omega)
end Go.Proofs.YtokbolgaokbdcaaDoor
