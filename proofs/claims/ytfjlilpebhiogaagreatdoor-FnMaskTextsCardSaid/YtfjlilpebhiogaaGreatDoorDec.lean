import Derived.Test.YtfjlilpebhiogaaGreatDoorShelfT
import Derived.Test.YtfjlilpebhiogaaGreatDoorInv
import Derived.Test.YtfjlilpebhiogaaGreatDoorPackAa
import Derived.Test.YtfjlilpebhiogaaGreatDoorQTail
import Derived.Test.YtfjlilpebhiogaaGreatDoorPackAb
import Derived.Lib.ItoaMem
import Derived.Lib.SlBytesRow
/- Numbers in decimal and the texts of claims: both sides. -/
set_option linter.unusedSimpArgs false
set_option linter.unusedVariables false
namespace Go.Proofs.YtfjlilpebhiogaaGreatDoor
open Go.RowKit
/-- A number in decimal. -/
def decB (n : Int) : ByteArray := ⟨(Lib.itoa n).toArray⟩
/-- The library's table of powers of ten holds them. -/
def Tab (w : World) : Prop := Lib.TabIs Tryz.prog w "internal/strconv.uint64pow10" .u64 Lib.pow10Tab
theorem Tab.bel {w w' : World} (h : Tab w) (hb : Below w.heap.size w w') : Tab w' := by
  unfold Tab Lib.TabIs World.var? at *
  cases hg : Tryz.prog.globalNamed "internal/strconv.uint64pow10" with
  | none => rw [hg] at h; cases h
  | some g =>
    rw [hg] at h
    simp only [Option.bind_some] at h ⊢
    have hlt : g < w.heap.size := by
      rcases Nat.lt_or_ge g w.heap.size with h1 | h1
      · exact h1
      · rw [Array.getElem?_eq_none h1] at h; cases h
    rw [hb.block g hlt]
    exact h
theorem below_grow (w : World) (k : Nat) (os : Array Obj) : Below w.heap.size w (Go.Sort.grow (w.drewN k) os) :=
  ⟨rfl, rfl, rfl, by simp, fun i hi => Go.Sort.heap_grow_old _ _ (by simpa using hi)⟩
set_option maxHeartbeats 1000000 in
theorem decimal_any (n : Int) (w : World) (h0 : -9223372036854775808 ≤ n) (h1 : n ≤ 9223372036854775807) (ht : Tab w) : Calls Tryz.prog 59 #[.int .i64 n] w (Ret w (.string (decB n))) := by
  have C : Calls Tryz.prog 88 #[.int .i64 n, .int .i64 10] w (Ret w (.string (decB n))) :=
    Calls.mono (show Calls Tryz.prog 88 #[.int .i64 n, .int .i64 10] w _ from Any.strconv_FormatInt_10 Tryz.lays173 n h0 h1 w ht) fun e w' ⟨he, k, os, hw⟩ => .mk he (hw ▸ below_grow w k os)
  replace C := Lib.hid C
  clear ht
  go_enter Tryz.func59, Tryz.ntmps59
  go_wp2_with fail
  with_reducible refine (C.out).mono ?_
  rintro e w' ⟨rfl, y1, rfl⟩
  have hsy1 := y1.bel.size
  (try simp only [World.size_alloc, World.size_setCell, World.size_drew] at hsy1)
  go_wp2_with fail
  go_ret
  exact .mk rfl (by (repeat (first | (with_reducible exact Below.refl _ _) | (with_reducible assumption) | (with_reducible refine Later.out _ ?_) | (with_reducible refine bel_alloc ?_ _) | (with_reducible refine bel_drew ?_) | (with_reducible refine bel_drewN ?_ _) | (with_reducible refine bel_set ?_ ?_ _) | (with_reducible refine After.out _ ?_ ?_) | (dsimp only; omega) | omega | (simp only [World.size_alloc, World.size_setCell, World.size_drew]; omega))))
theorem conv_one {w : World} {b : Nat} (d : Nat) (hd : d < 256) (hc : w.cell? ⟨b, 0, none⟩ = some (.int .u8 (d : Int))) :
    (convert 22 9 (.slice (some ⟨b, 0, none⟩) 1 1)).run Tryz.prog w = .ok (.string ⟨#[UInt8.ofNat d]⟩) w :=
  Lib.run_convert_whole (P := Tryz.prog) w 22 5 9 Tryz.underlying22 Tryz.underlying5 Tryz.underlying9 b 0 ⟨#[UInt8.ofNat d]⟩ (by
    intro j hj
    have hj' : j < 1 := hj
    obtain rfl : j = 0 := by omega
    rw [Nat.add_zero, hc]
    show some (Value.int .u8 (d : Int)) = some (Value.int .u8 ((UInt8.ofNat d).toNat : Int))
    rw [UInt8.toNat_ofNat', Nat.mod_eq_of_lt (show d < 2 ^ 8 from hd)]) 1
set_option maxHeartbeats 4000000 in
theorem sDec_small (n : Int) (h0 : 0 ≤ n) (hn : n < 10) (w : World) : Calls Tryz.prog 65 #[.int .i64 n] w (Ret w (.string (decB n))) := by
  have hcv : (convert 22 9 (.slice (some ⟨w.heap.size, 0, none⟩) 1 1)).run Tryz.prog (w.alloc (.cells #[.int .u8 (48 + n)] 5)) = .ok (.string (decB n)) (w.alloc (.cells #[.int .u8 (48 + n)] 5)) := by
    obtain ⟨m, rfl⟩ := Int.eq_ofNat_of_zero_le h0
    have e : decB (m : Int) = ⟨#[UInt8.ofNat (48 + m)]⟩ := by
      unfold decB
      rw [Lib.itoa_nonneg, Lib.decDigits_one (by omega)]
    rw [e]
    exact conv_one (48 + m) (by omega) (by simp [go_sem])
  go_enter Tryz.func65, Tryz.ntmps65
  go_wp2_with fail
  go_ret
  exact .mk rfl (by (repeat (first | (with_reducible exact Below.refl _ _) | (with_reducible assumption) | (with_reducible refine Later.out _ ?_) | (with_reducible refine bel_alloc ?_ _) | (with_reducible refine bel_drew ?_) | (with_reducible refine bel_drewN ?_ _) | (with_reducible refine bel_set ?_ ?_ _) | (with_reducible refine After.out _ ?_ ?_) | (dsimp only; omega) | omega | (simp only [World.size_alloc, World.size_setCell, World.size_drew]; omega))))
theorem decB_big {n : Nat} (h : ¬ n < 10) : decB (n : Int) = decB ((n / 10 : Nat) : Int) ++ ⟨#[UInt8.ofNat (48 + n % 10)]⟩ := by
  unfold decB
  rw [Lib.itoa_nonneg, Lib.itoa_nonneg, Lib.decDigits, dif_neg h]
  apply ByteArray.ext
  simp
theorem nDigits_le : ∀ (k u : Nat), u < 10 ^ (k + 1) → Lib.nDigits u ≤ k + 1
  | 0, u, h => by rw [Lib.nDigits_small (by simpa using h)]; exact Nat.le_refl _
  | k + 1, u, h => by
    by_cases hs : u < 10
    · rw [Lib.nDigits_small hs]; omega
    · rw [Lib.nDigits_big hs]
      have := nDigits_le k (u / 10) (by rw [Nat.pow_succ] at h; omega)
      omega
theorem decB_size (n : Int) (h0 : -1000000 ≤ n) (h1 : n ≤ 1000000) : (decB n).size ≤ 8 := by
  have key : ∀ u : Nat, u ≤ 1000000 → (Lib.decDigits u).length ≤ 7 := fun u hu => by
    rw [Lib.decDigits_length]
    exact nDigits_le 6 u (by omega)
  show (Lib.itoa n).toArray.size ≤ 8
  rw [List.size_toArray]
  unfold Lib.itoa
  split
  · have := key n.natAbs (by omega)
    simp only [List.length_cons]
    omega
  · have := key n.toNat (by omega)
    omega
theorem decB_size2 (n : Int) (h0 : 0 ≤ n) (h1 : n ≤ 10000000000000) : (decB n).size ≤ 15 := by
  show (Lib.itoa n).toArray.size ≤ 15
  rw [List.size_toArray]
  unfold Lib.itoa
  rw [if_neg (by omega), Lib.decDigits_length]
  have := nDigits_le 13 n.toNat (by omega)
  omega
/-- All blocks are as they were. -/
def EvB (w w' : World) : Prop := ∀ i, i < w.heap.size → w'.heap[i]? = w.heap[i]?
theorem EvB.refl (w : World) : EvB w w := fun _ _ => rfl
theorem EvB.alloc (w : World) (o : Obj) : EvB w (w.alloc o) := fun i hi => Below.heap_alloc w o i hi
theorem EvB.later {w : World} (y : Later w) : EvB w y.w := fun i hi => y.bel.block i hi
def OneB (w : World) (b : Nat) (v : Value) : Prop := ∃ fr : Nat × Nat, w.heap[b]? = some (.cells #[v] 5 fr)
theorem OneB.ev {w w' : World} {b : Nat} {v : Value} (h : OneB w b v) (hE : EvB w w') : OneB w' b v := by
  obtain ⟨fr, h⟩ := h
  exact ⟨fr, (hE b (Array.getElem?_eq_some_iff.1 h).1).trans h⟩
theorem OneB.cell {w : World} {b : Nat} {v : Value} (h : OneB w b v) : w.cell? ⟨b, 0, none⟩ = some v := by
  obtain ⟨fr, h⟩ := h
  simp [World.cell?, h]
set_option maxRecDepth 4000 in
set_option maxHeartbeats 8000000 in
theorem sDec_any : ∀ (m : Nat), m ≤ 10000000000000 → ∀ (w : World), Calls Tryz.prog 65 #[.int .i64 m] w (Ret w (.string (decB m))) := by
  intro m
  induction m using Nat.strongRecOn with
  | _ m ih =>
    intro hm w
    by_cases hs : m < 10
    · exact sDec_small m (by omega) (by omega) w
    · have IH := Lib.hid (ih (m / 10) (by omega) (by omega))
      have hbig := Lib.hid (decB_big hs)
      have hcv := Lib.hid (fun (w : World) (b : Nat) hc => conv_one (w := w) (b := b) (48 + m % 10) (by omega) hc)
      have hDs := decB_size2 ((m / 10 : Nat) : Int) (by omega) (by omega)
      obtain ⟨D, hD⟩ : ∃ D, decB ((m / 10 : Nat) : Int) = D := ⟨_, rfl⟩
      rw [hD] at hDs
      obtain ⟨E, hE⟩ : ∃ E, decB (m : Int) = E := ⟨_, rfl⟩
      rw [hD] at IH hbig
      rw [hE] at hbig
      rw [hE]
      obtain ⟨q, hq⟩ : ∃ q : Int, q = ((m / 10 : Nat) : Int) := ⟨_, rfl⟩
      obtain ⟨r, hr⟩ : ∃ r : Int, r = ((48 + m % 10 : Nat) : Int) := ⟨_, rfl⟩
      obtain ⟨x, hx⟩ : ∃ x : Int, x = (m : Int) := ⟨_, rfl⟩
      have e1 := Lib.hid (show x / 10 = q by omega)
      have e2 := Lib.hid (show 48 + x % 10 = r by omega)
      obtain ⟨B8, hB8⟩ : ∃ B, UInt8.ofNat (48 + m % 10) = B := ⟨_, rfl⟩
      have hx1 : 10 ≤ x := by omega
      have hx2 : x ≤ 10000000000000 := by omega
      have hx3 : ¬ x < 10 := by omega
      have hr1 : 0 ≤ r ∧ r ≤ 255 := by omega
      rw [← hr] at hcv
      rw [hB8] at hcv hbig
      rw [← hq] at IH
      rw [← hx]
      clear ih hs hD hE hq hr hx hm hB8
      go_enter Tryz.func65, Tryz.ntmps65
      go_wp2_with fail
      refine wp_region_inv (LaterC w.drew) EvB (fun i v w' => match i with
        | 0 | 3 => v = .int .i64 x
        | 1 => v = .int .i64 q
        | 2 => v = .string D
        | 4 => v = .int .i64 (x % 10)
        | 5 => v = .int .i64 r
        | 6 => v = .int .u8 r
        | 7 => ∃ b, v = .slice (some ⟨b, 0, none⟩) 1 1 ∧ OneB w' b (.int .u8 r)
        | 8 => v = .string ⟨#[B8]⟩
        | 9 | 10 => v = .string E
        | _ => True) 11 0 (fun _ _ => True) (by kernel_rfl) (by kernel_rfl) (by kernel_rfl) (by kernel_rfl) (LaterC.mk (Below.refl _ _)) ?hst (fun _ _ _ _ h => h) ⟨?op0, ?op1, ?op2, ?op3, ?op4, ?op5, ?op6, ?op7, ?op8, ?op9, ?op10, trivial⟩ ?hend
      case op0 =>
        rintro xv _ ⟨y, rfl⟩ hd
        (try simp only [List.mem_toArray, List.forall_mem_cons, List.not_mem_nil, false_imp_iff, implies_true, and_true, Region.binds, forall_const] at hd)
        have hsy := y.bel.size
        simp only [putAll, Act.put, List.setIfInBounds_toArray, List.set_cons_zero, List.set_cons_succ, Nat.zero_add, Nat.reduceAdd]
        refine op_loud (by rfl) (by rfl) ?_
        intro KP hKP
        replace hKP := Lib.hid hKP
        go_wp2_with fail
        refine hKP.out _ _ ⟨_, rfl, ⟨y, rfl⟩, EvB.refl _, rfl, (fun h => absurd h (by decide))⟩
      case op1 =>
        rintro xv _ ⟨y, rfl⟩ hd
        (try simp only [List.mem_toArray, List.forall_mem_cons, List.not_mem_nil, false_imp_iff, implies_true, and_true, Region.binds, forall_const] at hd)
        have hsy := y.bel.size
        simp only [putAll, Act.put, List.setIfInBounds_toArray, List.set_cons_zero, List.set_cons_succ, Nat.zero_add, Nat.reduceAdd, hd]
        refine op_loud (by rfl) (by rfl) ?_
        intro KP hKP
        replace hKP := Lib.hid hKP
        go_wp2_with fail
        refine hKP.out _ _ ⟨_, rfl, ⟨y, rfl⟩, EvB.refl _, (by rw [e1.out]), (fun h => absurd h (by decide))⟩
      case op2 =>
        rintro xv _ ⟨y, rfl⟩ hd
        (try simp only [List.mem_toArray, List.forall_mem_cons, List.not_mem_nil, false_imp_iff, implies_true, and_true, Region.binds, forall_const] at hd)
        have hsy := y.bel.size
        simp only [putAll, Act.put, List.setIfInBounds_toArray, List.set_cons_zero, List.set_cons_succ, Nat.zero_add, Nat.reduceAdd, hd]
        refine op_loud (by rfl) (by rfl) ?_
        intro KP hKP
        replace hKP := Lib.hid hKP
        go_wp2_with (go_at_call 65; (with_reducible refine (IH.out _).mono ?_); rintro e w' ⟨rfl, z, rfl⟩)
        refine hKP.out _ _ ⟨_, rfl, LaterC.mk (y.bel.trans (z.bel.mono y.bel.size)), EvB.later z, rfl, (fun h => absurd h (by decide))⟩
      case op3 =>
        rintro xv _ ⟨y, rfl⟩ hd
        (try simp only [List.mem_toArray, List.forall_mem_cons, List.not_mem_nil, false_imp_iff, implies_true, and_true, Region.binds, forall_const] at hd)
        have hsy := y.bel.size
        simp only [putAll, Act.put, List.setIfInBounds_toArray, List.set_cons_zero, List.set_cons_succ, Nat.zero_add, Nat.reduceAdd]
        refine op_loud (by rfl) (by rfl) ?_
        intro KP hKP
        replace hKP := Lib.hid hKP
        go_wp2_with fail
        refine hKP.out _ _ ⟨_, rfl, ⟨y, rfl⟩, EvB.refl _, rfl, (fun h => absurd h (by decide))⟩
      case op4 =>
        rintro xv _ ⟨y, rfl⟩ hd
        (try simp only [List.mem_toArray, List.forall_mem_cons, List.not_mem_nil, false_imp_iff, implies_true, and_true, Region.binds, forall_const] at hd)
        have hsy := y.bel.size
        simp only [putAll, Act.put, List.setIfInBounds_toArray, List.set_cons_zero, List.set_cons_succ, Nat.zero_add, Nat.reduceAdd, hd]
        refine op_loud (by rfl) (by rfl) ?_
        intro KP hKP
        replace hKP := Lib.hid hKP
        go_wp2_with fail
        refine hKP.out _ _ ⟨_, rfl, ⟨y, rfl⟩, EvB.refl _, rfl, (fun h => absurd h (by decide))⟩
      case op5 =>
        rintro xv _ ⟨y, rfl⟩ hd
        (try simp only [List.mem_toArray, List.forall_mem_cons, List.not_mem_nil, false_imp_iff, implies_true, and_true, Region.binds, forall_const] at hd)
        have hsy := y.bel.size
        simp only [putAll, Act.put, List.setIfInBounds_toArray, List.set_cons_zero, List.set_cons_succ, Nat.zero_add, Nat.reduceAdd, hd]
        refine op_loud (by rfl) (by rfl) ?_
        intro KP hKP
        replace hKP := Lib.hid hKP
        go_wp2_with fail
        refine hKP.out _ _ ⟨_, rfl, ⟨y, rfl⟩, EvB.refl _, (by rw [e2.out]), (fun h => absurd h (by decide))⟩
      case op6 =>
        rintro xv _ ⟨y, rfl⟩ hd
        (try simp only [List.mem_toArray, List.forall_mem_cons, List.not_mem_nil, false_imp_iff, implies_true, and_true, Region.binds, forall_const] at hd)
        have hsy := y.bel.size
        simp only [putAll, Act.put, List.setIfInBounds_toArray, List.set_cons_zero, List.set_cons_succ, Nat.zero_add, Nat.reduceAdd, hd]
        refine op_loud (by rfl) (by rfl) ?_
        intro KP hKP
        replace hKP := Lib.hid hKP
        go_wp2_with fail
        refine hKP.out _ _ ⟨_, rfl, ⟨y, rfl⟩, EvB.refl _, rfl, (fun h => absurd h (by decide))⟩
      case op7 =>
        rintro xv _ ⟨y, rfl⟩ hd
        (try simp only [List.mem_toArray, List.forall_mem_cons, List.not_mem_nil, false_imp_iff, implies_true, and_true, Region.binds, forall_const] at hd)
        have hsy := y.bel.size
        simp only [putAll, Act.put, List.setIfInBounds_toArray, List.set_cons_zero, List.set_cons_succ, Nat.zero_add, Nat.reduceAdd, hd]
        refine op_loud (by rfl) (by rfl) ?_
        intro KP hKP
        replace hKP := Lib.hid hKP
        go_wp2_with fail
        refine hKP.out _ _ ⟨_, rfl, LaterC.mk (by (repeat (first | (with_reducible exact Below.refl _ _) | (with_reducible assumption) | (with_reducible refine Later.out _ ?_) | (with_reducible refine bel_alloc ?_ _) | (with_reducible refine bel_drew ?_) | (with_reducible refine bel_drewN ?_ _) | (with_reducible refine bel_set ?_ ?_ _) | (with_reducible refine After.out _ ?_ ?_) | (dsimp only; omega) | omega | (simp only [World.size_alloc, World.size_setCell, World.size_drew]; omega)))), EvB.alloc _ _, ⟨y.w.heap.size, rfl, _, heap_alloc_new _ _⟩, (fun h => absurd h (by decide))⟩
      case op8 =>
        rintro xv _ ⟨y, rfl⟩ hd
        (try simp only [List.mem_toArray, List.forall_mem_cons, List.not_mem_nil, false_imp_iff, implies_true, and_true, Region.binds, forall_const] at hd)
        obtain ⟨b, e3, hB⟩ := hd
        have hsy := y.bel.size
        have hcv2 := hcv.out y.w b hB.cell
        simp only [putAll, Act.put, List.setIfInBounds_toArray, List.set_cons_zero, List.set_cons_succ, Nat.zero_add, Nat.reduceAdd, e3]
        refine op_loud (by rfl) (by rfl) ?_
        intro KP hKP
        replace hKP := Lib.hid hKP
        go_wp2_with fail
        refine hKP.out _ _ ⟨_, rfl, ⟨y, rfl⟩, EvB.refl _, rfl, (fun h => absurd h (by decide))⟩
      case op9 =>
        rintro xv _ ⟨y, rfl⟩ hd
        (try simp only [List.mem_toArray, List.forall_mem_cons, List.not_mem_nil, false_imp_iff, implies_true, and_true, Region.binds, forall_const] at hd)
        obtain ⟨e3, e4⟩ := hd
        have hsy := y.bel.size
        simp only [putAll, Act.put, List.setIfInBounds_toArray, List.set_cons_zero, List.set_cons_succ, Nat.zero_add, Nat.reduceAdd, e3, e4]
        refine op_loud (by rfl) (by rfl) ?_
        intro KP hKP
        replace hKP := Lib.hid hKP
        go_wp2_with fail
        refine hKP.out _ _ ⟨_, rfl, ⟨y, rfl⟩, EvB.refl _, congrArg Value.string hbig.out.symm, (fun h => absurd h (by decide))⟩
      case op10 =>
        rintro xv _ ⟨y, rfl⟩ hd
        (try simp only [List.mem_toArray, List.forall_mem_cons, List.not_mem_nil, false_imp_iff, implies_true, and_true, Region.binds, forall_const] at hd)
        have hsy := y.bel.size
        simp only [putAll, Act.put, List.setIfInBounds_toArray, List.set_cons_zero, List.set_cons_succ, Nat.zero_add, Nat.reduceAdd, hd]
        refine op_loud (by rfl) (by rfl) ?_
        intro KP hKP
        replace hKP := Lib.hid hKP
        go_wp2_with fail
        refine hKP.out _ _ ⟨_, rfl, ⟨y, rfl⟩, EvB.refl _, rfl, (fun h => absurd h (by decide))⟩
      case hst =>
        intro i v w1 w2 hE h
        match i, h with
        | 0, h => exact h
        | 1, h => exact h
        | 2, h => exact h
        | 3, h => exact h
        | 4, h => exact h
        | 5, h => exact h
        | 6, h => exact h
        | 7, ⟨b, h1, h2⟩ => exact ⟨b, h1, h2.ev hE⟩
        | 8, h => exact h
        | 9, h => exact h
        | 10, h => exact h
        | n + 11, h => trivial
      case hend =>
        rintro xv _ ⟨y, rfl⟩ hall -
        have e9 := hall 10 (by decide)
        clear hall
        simp only at e9
        simp only [putAll, Act.put, List.setIfInBounds_toArray, List.set_cons_zero, List.set_cons_succ, e9]
        go_wp2_with fail
        go_ret
        exact .mk rfl (by (repeat (first | (with_reducible exact Below.refl _ _) | (with_reducible assumption) | (with_reducible refine Later.out _ ?_) | (with_reducible refine bel_alloc ?_ _) | (with_reducible refine bel_drew ?_) | (with_reducible refine bel_drewN ?_ _) | (with_reducible refine bel_set ?_ ?_ _) | (with_reducible refine After.out _ ?_ ?_) | (dsimp only; omega) | omega | (simp only [World.size_alloc, World.size_setCell, World.size_drew]; omega))))
end Go.Proofs.YtfjlilpebhiogaaGreatDoor
