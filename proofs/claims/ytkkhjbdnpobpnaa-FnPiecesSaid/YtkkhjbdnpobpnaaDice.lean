import Derived.Test.YtkkhjbdnpobpnaaSou
import Derived.Laws.BitsAllLaws
import Derived.Laws.Bits64
/- The laws' own dice: some number below what is asked. -/
set_option linter.unusedSimpArgs false
set_option linter.unusedVariables false
namespace Go.Proofs.Ytkkhjbdnpobpnaa
open Go.RowKit
/-- Block `g` is a dice: a code, a place in it, a number. -/
def DiceAt (w : World) (g : Nat) (a : Option Addr) (n c : Nat) (l : List Int) (k : Nat) (h : Int) : Prop :=
  Row w a (byteCells l) ∧ l.length = n ∧ n ≤ 4096 ∧ (∀ x ∈ l, 0 ≤ x ∧ x ≤ 255) ∧ (∀ p : Addr, a = some p → 0 < n → p.block < g) ∧ k ≤ n ∧ (0 ≤ h ∧ h < 18446744073709551616) ∧
    w.cell? ⟨g, 0, none⟩ = some (.slice a n c) ∧ w.cell? ⟨g, 1, none⟩ = some (.int .i64 k) ∧ w.cell? ⟨g, 2, none⟩ = some (.int .u64 h) ∧ w.frozen? ⟨g, 1, none⟩ = false ∧ w.frozen? ⟨g, 2, none⟩ = false
def DiceOk (w : World) (g : Nat) : Prop := ∃ a n c l k h, DiceAt w g a n c l k h
theorem DiceOk.lt {w : World} {g : Nat} (h : DiceOk w g) : g < w.heap.size := by
  obtain ⟨a, n, c, l, k, s, _, _, _, _, _, _, _, h0, _⟩ := h
  exact World.block_lt_of_cell? w _ h0
theorem DiceOk.keep {w w' : World} {g : Nat} (h : DiceOk w g) (hb : ∀ i, i ≤ g → w'.heap[i]? = w.heap[i]?) : DiceOk w' g := by
  obtain ⟨a, n, c, l, k, s, hr, hl, hn, hx, ha, hk, hs, h0, h1, h2, f1, f2⟩ := h
  refine ⟨a, n, c, l, k, s, ?_, hl, hn, hx, ha, hk, hs, ?_, ?_, ?_, ?_, ?_⟩
  · intro j v hj
    obtain ⟨b, o, rfl, hc⟩ := hr j v hj
    exact ⟨b, o, rfl, (World.cell?_of_block (w := w) (hb b (Nat.le_of_lt (ha _ rfl (by have := (List.getElem?_eq_some_iff.1 hj).1; simp only [byteCells, List.length_map] at this; omega))))).trans hc⟩
  · exact (World.cell?_of_block (w := w) (hb g (Nat.le_refl _))).trans h0
  · exact (World.cell?_of_block (w := w) (hb g (Nat.le_refl _))).trans h1
  · exact (World.cell?_of_block (w := w) (hb g (Nat.le_refl _))).trans h2
  · exact (World.frozen?_of_block (w := w) (hb g (Nat.le_refl _))).trans f1
  · exact (World.frozen?_of_block (w := w) (hb g (Nat.le_refl _))).trans f2
theorem DiceOk.below {w w' : World} {g B : Nat} (h : DiceOk w g) (hb : Below B w w') (hg : g < B) : DiceOk w' g := h.keep fun i hi => hb.block i (by omega)
/-- Some number of the range. -/
def RetDie (w : World) (g : Nat) (m : Int) (e : Ending) (w' : World) : Prop :=
  ∃ r : Int, (0 ≤ r ∧ r < m) ∧ e = .returned (.int .i64 r) ∧ ∃ z : After w g (g + 1), w' = z.w ∧ DiceOk z.w g
theorem RetDie.mk {w w' : World} {g : Nat} {m : Int} {e : Ending} (r : Int) (h : 0 ≤ r ∧ r < m) (he : e = .returned (.int .i64 r)) (hb : Between g (g + 1) w w') (hs : DiceOk w' g) : RetDie w g m e w' := ⟨r, h, he, ⟨w', hb⟩, rfl, hs⟩
def RetDice (w : World) (e : Ending) (w' : World) : Prop :=
  ∃ g : Nat, w.heap.size ≤ g ∧ e = .returned (.pointer (some ⟨g, 0, none⟩)) ∧ ∃ y : Later w, w' = y.w ∧ DiceOk y.w g
theorem wrap_u64 (x : Int) : 0 ≤ IntKind.u64.wrap x ∧ IntKind.u64.wrap x < 18446744073709551616 := by
  rw [IntKind.wrap_u64]
  omega
theorem die_bd (x : Int) (h0 : 0 ≤ x) (h1 : x < 18446744073709551616) : ∃ r : Int, bits .and .u64 (x / 8589934592) 16777215 = r ∧ 0 ≤ r ∧ r ≤ 16777215 := by
  refine ⟨_, rfl, ?_⟩
  rw [u64_and _ _ (by omega) (by omega) (by omega) (by omega)]
  have := Nat.and_le_right (n := (x / 8589934592).toNat) (m := (16777215 : Int).toNat)
  omega
set_option maxHeartbeats 1000000 in
theorem roll_any (a : Option Addr) (n c : Nat) (l : List Int) (s : Int) (w : World) (hr : Row w a (byteCells l)) (hl : l.length = n) (hn : n ≤ 4096) (hx : ∀ x ∈ l, 0 ≤ x ∧ x ≤ 255) :
    Calls Try.prog 12 #[.slice a n c, .int .u64 s] w (RetDice w) := by
  subst hl
  have hr := Lib.hid hr
  have hx := Lib.hid hx
  have ha := Lib.hid (show ∀ p : Addr, a = some p → 0 < l.length → p.block < w.heap.size from fun p hp h0 => by
    obtain ⟨b, o, he, hc⟩ := hr.out 0 _ (byteCells_get h0)
    rw [hp] at he
    injection he with he
    subst he
    exact World.block_lt_of_cell? w _ hc)
  go_enter Try.func12, Try.ntmps12
  go_wp2_with fail
  go_loopw [6] (fun i wr => ∃ (k : Nat) (h : Int), k ≤ l.length ∧ (0 ≤ h ∧ h < 18446744073709551616) ∧ i = .int .i64 k ∧ wr.cell? ⟨w.heap.size, 0, none⟩ = some (.slice a l.length c) ∧ wr.cell? ⟨w.heap.size, 1, none⟩ = some (.int .i64 0) ∧ wr.cell? ⟨w.heap.size, 2, none⟩ = some (.int .u64 h) ∧
    wr.frozen? ⟨w.heap.size, 1, none⟩ = false ∧ wr.frozen? ⟨w.heap.size, 2, none⟩ = false ∧ Below w.heap.size w wr) (fun i _ => l.length - (intOf i).toNat)
  case atStart =>
    refine ⟨0, IntKind.u64.wrap (IntKind.u64.wrap (s * 7919) + l.length), Nat.zero_le _, wrap_u64 _, rfl, ?_, ?_, ?_, ?_, ?_, ?_⟩
    · simp [go_sem, ↓IntWalk.iteOmega]
    · simp [go_sem, ↓IntWalk.iteOmega]
    · simp [go_sem, ↓IntWalk.iteOmega]
    · simp [go_sem, ↓IntWalk.iteOmega]
    · simp [go_sem, ↓IntWalk.iteOmega]
    · (repeat (first | (with_reducible exact Below.refl _ _) | (with_reducible assumption) | (with_reducible refine Later.out _ ?_) | (with_reducible refine bel_alloc ?_ _) | (with_reducible refine bel_drew ?_) | (with_reducible refine bel_drewN ?_ _) | (with_reducible refine bel_set ?_ ?_ _) | (with_reducible refine After.out _ ?_ ?_) | (dsimp only; omega) | omega | (simp only [World.size_alloc, World.size_setCell, World.size_drew]; omega)))
  case round =>
    obtain ⟨k, h, hk, hh, rfl, c0, c1, c2, f1, f2, hb⟩ := hrel
    have hb' := Lib.hid hb
    have hsz := hb.size
    have hgw := World.block_lt_of_cell? wr _ c0
    simp only at hgw
    by_cases hlt : k < l.length
    · obtain ⟨b, o, rfl, hc⟩ := (hr.out.bel hb) k _ (byteCells_get hlt)
      have hx1 := hx.out l[k] (List.getElem_mem hlt)
      have hbb := ha.out _ rfl (by omega)
      simp only at hbb
      obtain ⟨B, hB⟩ : ∃ B, l[k] = B := ⟨_, rfl⟩
      rw [hB] at hc hx1
      have i1 : (k : Int) < (l.length : Int) := by omega
      clear hB hb
      go_wp2_with fail
      go_region
      go_wp2_with fail
      go_roundw
      case rel =>
        refine ⟨k + 1, IntKind.u64.wrap (IntKind.u64.wrap (IntKind.u64.wrap (h * 1099511628211) + B) + 3), by omega, wrap_u64 _, by go_num, ?_, ?_, ?_, ?_, ?_, ?_⟩
        all_goals first | (simp [go_sem, ↓IntWalk.iteOmega, c0, c1, c2, f1, f2, hgw]; done) | (have hb1 := hb'.out; (repeat (first | (with_reducible exact Below.refl _ _) | (with_reducible assumption) | (with_reducible refine Later.out _ ?_) | (with_reducible refine bel_alloc ?_ _) | (with_reducible refine bel_drew ?_) | (with_reducible refine bel_drewN ?_ _) | (with_reducible refine bel_set ?_ ?_ _) | (with_reducible refine After.out _ ?_ ?_) | (dsimp only; omega) | omega | (simp only [World.size_alloc, World.size_setCell, World.size_drew]; omega))))
      case measure => first | (simp [intOf]; done) | (simp [intOf]; omega) | omega
    · have i1 : ¬ (k : Int) < (l.length : Int) := by omega
      clear hb
      go_wp2_with fail
      go_ret
      refine ⟨w.heap.size, Nat.le_refl _, rfl, ⟨_, hb'.out⟩, rfl, a, l.length, c, l, 0, h, hr.out.bel hb'.out, rfl, hn, hx.out, ha.out, Nat.zero_le _, hh, c0, c1, c2, f1, f2⟩
set_option maxHeartbeats 2000000 in
theorem below_any (g : Nat) (m : Int) (w : World) (h : DiceOk w g) (hm : 1 ≤ m) : Calls Try.prog 13 #[.pointer (some ⟨g, 0, none⟩), .int .i64 m] w (RetDie w g m) := by
  obtain ⟨a, n, c, l, k, s, hr, hl, hn, hx, ha, hk, hs, h0, h1, h2, f1, f2⟩ := h
  subst hl
  have hr := Lib.hid hr
  have hx := Lib.hid hx
  have ha := Lib.hid ha
  have hgw := World.block_lt_of_cell? w _ h0
  simp only at hgw
  obtain ⟨H, hH⟩ : ∃ H, IntKind.u64.wrap (IntKind.u64.wrap (s * 6364136223846793005) + 1442695040888963407) = H := ⟨_, rfl⟩
  have hH2 : 0 ≤ H ∧ H < 18446744073709551616 := by rw [← hH]; exact wrap_u64 _
  obtain ⟨r, hr1, r0, r1⟩ := die_bd H hH2.1 hH2.2
  replace hH2 := Lib.hid hH2
  by_cases hlt : k < l.length
  · obtain ⟨b, o, rfl, hc⟩ := hr.out k _ (byteCells_get hlt)
    have hx1 := hx.out l[k] (List.getElem_mem hlt)
    have hbb := ha.out _ rfl (by omega)
    simp only at hbb
    obtain ⟨B, hB⟩ : ∃ B, l[k] = B := ⟨_, rfl⟩
    rw [hB] at hc hx1
    have i1 : (k : Int) < (l.length : Int) := by omega
    clear hB
    go_enter Try.func13, Try.ntmps13
    go_wp2_with fail
    refine wp_region_later (by kernel_rfl) (by kernel_rfl) ?_
    repeat (go_big_quiet_step (fail))
    refine wpQuiet_nil ?_
    rintro _ ⟨xq, rfl⟩
    have hq := xq.bel.size
    (try simp only [World.size_setCell, World.size_drew] at hq)
    go_wp2_with fail
    refine wp_region_later (by kernel_rfl) (by kernel_rfl) ?_
    repeat (go_big_quiet_step (fail))
    refine wpQuiet_nil ?_
    rintro _ ⟨xq, rfl⟩
    have hq := xq.bel.size
    (try simp only [World.size_setCell, World.size_drew] at hq)
    go_wp2_with fail
    go_ret
    refine RetDie.mk _ ⟨Int.emod_nonneg _ (by omega), Int.emod_lt_of_pos _ (by omega)⟩ (by first | rfl | (rw [Int.tmod_eq_emod_of_nonneg (by omega)])) ?_ ?_
    · (repeat (first | (with_reducible exact Between.refl _ _ _) | (with_reducible refine Between.drew ?_) | (with_reducible refine Between.drewN ?_ _) | (with_reducible refine Between.set ?_ ?_ ?_ _) | (with_reducible refine btw_later _ ?_) | (with_reducible refine btw_alloc ?_ _) | (with_reducible refine btw_after _ ?_) | (with_reducible assumption) | (dsimp only; omega) | omega))
    · refine ⟨_, _, c, l, k + 1, H, hr.out.btw (lo := g) (hi := g + 1) ?_ fun p hp => .inl (ha.out p hp (by omega)), rfl, hn, hx.out, ha.out, by omega, hH2.out, ?_, ?_, ?_, ?_, ?_⟩
      · (repeat (first | (with_reducible exact Between.refl _ _ _) | (with_reducible refine Between.drew ?_) | (with_reducible refine Between.drewN ?_ _) | (with_reducible refine Between.set ?_ ?_ ?_ _) | (with_reducible refine btw_later _ ?_) | (with_reducible refine btw_alloc ?_ _) | (with_reducible refine btw_after _ ?_) | (with_reducible assumption) | (dsimp only; omega) | omega))
      all_goals first | (simp [go_sem, ↓IntWalk.iteOmega, h0, h1, h2, f1, f2, hgw]; done) | (simp [go_sem, ↓IntWalk.iteOmega, h0, h1, h2, f1, f2, hgw]; intro hh; omega)
  · have i1 : ¬ (k : Int) < (l.length : Int) := by omega
    go_enter Try.func13, Try.ntmps13
    go_wp2_with fail
    refine wp_region_later (by kernel_rfl) (by kernel_rfl) ?_
    repeat (go_big_quiet_step (fail))
    refine wpQuiet_nil ?_
    rintro _ ⟨xq, rfl⟩
    have hq := xq.bel.size
    (try simp only [World.size_setCell, World.size_drew] at hq)
    go_wp2_with fail
    go_ret
    refine RetDie.mk _ ⟨Int.emod_nonneg _ (by omega), Int.emod_lt_of_pos _ (by omega)⟩ (by first | rfl | (rw [Int.tmod_eq_emod_of_nonneg (by omega)])) ?_ ?_
    · (repeat (first | (with_reducible exact Between.refl _ _ _) | (with_reducible refine Between.drew ?_) | (with_reducible refine Between.drewN ?_ _) | (with_reducible refine Between.set ?_ ?_ ?_ _) | (with_reducible refine btw_later _ ?_) | (with_reducible refine btw_alloc ?_ _) | (with_reducible refine btw_after _ ?_) | (with_reducible assumption) | (dsimp only; omega) | omega))
    · refine ⟨a, l.length, c, l, k, H, ?_, rfl, hn, hx.out, ha.out, hk, hH2.out, ?_, ?_, ?_, ?_, ?_⟩
      · rcases Nat.eq_zero_or_pos l.length with hl0 | hl0
        · have : l = [] := List.eq_nil_of_length_eq_zero hl0
          subst this
          exact Row.nil _ _
        · refine hr.out.btw (lo := g) (hi := g + 1) ?_ fun p hp => .inl (ha.out p hp hl0)
          (repeat (first | (with_reducible exact Between.refl _ _ _) | (with_reducible refine Between.drew ?_) | (with_reducible refine Between.drewN ?_ _) | (with_reducible refine Between.set ?_ ?_ ?_ _) | (with_reducible refine btw_later _ ?_) | (with_reducible refine btw_alloc ?_ _) | (with_reducible refine btw_after _ ?_) | (with_reducible assumption) | (dsimp only; omega) | omega))
      all_goals first | (simp [go_sem, ↓IntWalk.iteOmega, h0, h1, h2, f1, f2, hgw]; done) | (simp [go_sem, ↓IntWalk.iteOmega, h0, h1, h2, f1, f2, hgw]; intro hh; omega)
end Go.Proofs.Ytkkhjbdnpobpnaa
