import Derived.Test.YtemfhcmeeldngaaGreatDoorDrU
import Derived.Test.YtemfhcmeeldngaaGreatDoorPackPa
import Derived.Test.YtemfhcmeeldngaaGreatDoorPackPe
/- A text, damaged by a draw. -/
set_option linter.unusedSimpArgs false
set_option linter.unusedVariables false
namespace Go.Proofs.YtemfhcmeeldngaaGreatDoor
open Go.RowKit
def StrBlk (w : World) (b n : Nat) : Prop := ∃ (cs : Array Value) (fr : Nat × Nat), w.heap[b]? = some (.cells cs 9 fr) ∧ cs.size = n ∧ ∀ (i : Nat) (v : Value), cs[i]? = some v → ∃ s : ByteArray, v = .string s ∧ s.size ≤ 100
/-- All blocks but `g` are as they were. -/
def Ev (g : Nat) (w w' : World) : Prop := ∀ i, i < w.heap.size → i ≠ g → w'.heap[i]? = w.heap[i]?
theorem Ev.refl (g : Nat) (w : World) : Ev g w w := fun _ _ _ => rfl
theorem Ev.after {g : Nat} {w : World} (z : After w g (g + 1)) : Ev g w z.w := fun i hi hne => z.btw.block i hi (by omega)
theorem Ev.alloc (g : Nat) (w : World) (o : Obj) : Ev g w (w.alloc o) := fun i hi _ => Below.heap_alloc w o i hi
theorem StrBlk.ev {g : Nat} {w w' : World} {b n : Nat} (h : StrBlk w b n) (hE : Ev g w w') (hb : b ≠ g) : StrBlk w' b n := by
  obtain ⟨cs, fr, h1, h2⟩ := h
  exact ⟨cs, fr, (hE b (Array.getElem?_eq_some_iff.1 h1).1 hb).trans h1, h2⟩
def smallV : Value → Bool
  | .string s => decide (s.size ≤ 100)
  | _ => false
theorem StrBlk.row {w : World} {b n : Nat} (h : StrBlk w b n) {i : Nat} (hi : i < n) : ∃ s : ByteArray, w.cell? ⟨b, i, none⟩ = some (.string s) ∧ s.size ≤ 100 := by
  obtain ⟨cs, fr, h1, h2, h3⟩ := h
  obtain ⟨s, hs, hz⟩ := h3 i _ (Array.getElem?_eq_getElem (by omega))
  exact ⟨s, by simp [World.cell?, h1, ← hs], hz⟩
theorem smallV_of {v : Value} (h : smallV v = true) : ∃ s : ByteArray, v = .string s ∧ s.size ≤ 100 := by
  cases v <;> simp [smallV] at h
  exact ⟨_, rfl, h⟩
theorem StrBlk.of {w : World} {b n : Nat} {cs : Array Value} {fr : Nat × Nat} (h : w.heap[b]? = some (.cells cs 9 fr)) (hn : cs.size = n) (hs : cs.toList.all smallV = true) : StrBlk w b n :=
  ⟨cs, fr, h, hn, fun i v hi => smallV_of (List.all_eq_true.1 hs v (by
    have := Array.getElem?_toList (xs := cs) (i := i)
    rw [hi] at this
    exact List.mem_of_getElem? this))⟩
def SrcC (W : World) (g : Nat) (w' : World) : Prop := ∃ y : After W g (g + 1), w' = y.w ∧ SrcOk y.w g
theorem SrcC.mk {W : World} {g : Nat} {w' : World} (h : Between g (g + 1) W w') (hs : SrcOk w' g) : SrcC W g w' := ⟨⟨w', h⟩, rfl, hs⟩
/-- Some short text. -/
def RetTxt (w : World) (g : Nat) (e : Ending) (w' : World) : Prop :=
  ∃ s : ByteArray, s.size ≤ 20000 ∧ e = .returned (.string s) ∧ ∃ z : After w g (g + 1), w' = z.w ∧ SrcOk z.w g
theorem RetTxt.mk {w w' : World} {g : Nat} {e : Ending} {s : ByteArray} (hc : s.size ≤ 20000) (he : e = .returned (.string s)) (hb : Between g (g + 1) w w') (hs : SrcOk w' g) : RetTxt w g e w' := ⟨s, hc, he, ⟨w', hb⟩, rfl, hs⟩
theorem size_cut (t : ByteArray) (i j : Nat) : (t.extract i j).size ≤ t.size := by rw [ByteArray.size_extract]; omega
set_option maxRecDepth 8000 in
set_option maxHeartbeats 8000000 in
theorem damage_any (g : Nat) (t : ByteArray) (w : World) (h : SrcOk w g) (ht : t.size ≤ 5000) : Calls Tryz.prog 81 #[.pointer (some ⟨g, 0, none⟩), .string t] w (RetTxt w g) := by
  have hg := h.lt
  have H0 := Lib.hid h
  clear h
  go_enter Tryz.func81, Tryz.ntmps81
  go_wp2_with fail
  with_reducible refine (next_any g ((t.size : Int) + 1) _ (by (repeat (first | (with_reducible exact H0.out) | (with_reducible refine SrcOk.alloc ?_ _) | (with_reducible refine SrcOk.set ?_ ?_ _) | (with_reducible refine SrcOk.drewN ?_ _) | (with_reducible refine SrcOk.drew ?_) | (with_reducible refine SrcOk.later _ ?_) | (with_reducible refine SrcOk.after _ ?_ ?_) | (dsimp only; omega) | omega | ((try simp only [World.size_alloc, World.size_setCell, World.size_drew]); omega))))).mono ?_
  rintro e w' ⟨k, hdraw, rfl, z1, rfl, hsrc⟩
  have hsz1 := z1.btw.size
  (try simp only [World.size_alloc, World.size_setCell, World.size_drew] at hsz1)
  have H1 := Lib.hid hsrc
  clear hsrc
  obtain ⟨k0, k1⟩ := hdraw
  have k1 : k ≤ t.size := by omega
  go_wp2_with fail
  with_reducible refine (next_any g 8 _ (by (repeat (first | (with_reducible exact H1.out) | (with_reducible refine SrcOk.alloc ?_ _) | (with_reducible refine SrcOk.set ?_ ?_ _) | (with_reducible refine SrcOk.drewN ?_ _) | (with_reducible refine SrcOk.drew ?_) | (with_reducible refine SrcOk.later _ ?_) | (with_reducible refine SrcOk.after _ ?_ ?_) | (dsimp only; omega) | omega | ((try simp only [World.size_alloc, World.size_setCell, World.size_drew]); omega))))).mono ?_
  rintro e w' ⟨q, hdraw, rfl, z2, rfl, hsrc⟩
  have hsz2 := z2.btw.size
  (try simp only [World.size_alloc, World.size_setCell, World.size_drew] at hsz2)
  have H2 := Lib.hid hsrc
  clear hsrc
  obtain ⟨q0, q1⟩ := hdraw
  have hB0 : Between g (g + 1) w z2.w := by (repeat (first | (with_reducible exact Between.refl _ _ _) | (with_reducible refine Between.drew ?_) | (with_reducible refine Between.drewN ?_ _) | (with_reducible refine btw_own ?_ ?_ _) | (with_reducible refine btw_later _ ?_) | (with_reducible refine btw_alloc ?_ _) | (with_reducible refine btw_after _ ?_) | (with_reducible refine btw_beyond _ ?_ ?_) | (with_reducible refine Aft.btw _ ?_ ?_) | (with_reducible assumption) | (dsimp only; omega) | omega | ((try simp only [World.size_alloc, World.size_setCell, World.size_drew]); omega)))
  have hz2 := H2.out.lt
  by_cases h0 : q = 0
  · subst h0
    go_wp2_with fail
    go_ret
    exact RetTxt.mk (Nat.le_trans (size_cut _ _ _) (by omega)) rfl (by (repeat (first | (with_reducible exact Between.refl _ _ _) | (with_reducible refine Between.drew ?_) | (with_reducible refine Between.drewN ?_ _) | (with_reducible refine btw_own ?_ ?_ _) | (with_reducible refine btw_later _ ?_) | (with_reducible refine btw_alloc ?_ _) | (with_reducible refine btw_after _ ?_) | (with_reducible refine btw_beyond _ ?_ ?_) | (with_reducible refine Aft.btw _ ?_ ?_) | (with_reducible assumption) | (dsimp only; omega) | omega | ((try simp only [World.size_alloc, World.size_setCell, World.size_drew]); omega)))) (by (repeat (first | (with_reducible exact H2.out) | (with_reducible refine SrcOk.alloc ?_ _) | (with_reducible refine SrcOk.set ?_ ?_ _) | (with_reducible refine SrcOk.drewN ?_ _) | (with_reducible refine SrcOk.drew ?_) | (with_reducible refine SrcOk.later _ ?_) | (with_reducible refine SrcOk.after _ ?_ ?_) | (dsimp only; omega) | omega | ((try simp only [World.size_alloc, World.size_setCell, World.size_drew]); omega))))
  by_cases h1 : q = 1
  · subst h1
    go_wp2_with fail
    refine wp_region_inv (SrcC z2.w.drew g) (Ev g) (fun i v w' => match i with
      | 0 => v = .string t
      | 1 => v = .int .i64 k
      | 2 => ∃ s : ByteArray, v = .string s ∧ s.size ≤ 5000
      | 3 => ∃ b, v = .slice (some ⟨b, 0, none⟩) 8 8 ∧ b ≠ g ∧ StrBlk w' b 8
      | 4 => v = .pointer (some ⟨g, 0, none⟩)
      | 5 => ∃ r : Nat, v = .int .i64 r ∧ r < 8
      | 6 => ∃ b r : Nat, v = .pointer (some ⟨b, r, none⟩) ∧ r < 8 ∧ b ≠ g ∧ StrBlk w' b 8
      | 7 => ∃ s : ByteArray, v = .string s ∧ s.size ≤ 100
      | 8 => ∃ s : ByteArray, v = .string s ∧ s.size ≤ 5100
      | 9 => v = .string t
      | 10 => v = .int .i64 k
      | 11 => ∃ s : ByteArray, v = .string s ∧ s.size ≤ 5000
      | 12 => ∃ s : ByteArray, v = .string s ∧ s.size ≤ 20000
      | 13 => ∃ s : ByteArray, v = .string s ∧ s.size ≤ 20000
      | _ => True) 14 0 (fun _ _ => True) (by kernel_rfl) (by kernel_rfl) (by kernel_rfl) (by kernel_rfl) (SrcC.mk (Between.refl _ _ _) (by (repeat (first | (with_reducible exact H2.out) | (with_reducible refine SrcOk.alloc ?_ _) | (with_reducible refine SrcOk.set ?_ ?_ _) | (with_reducible refine SrcOk.drewN ?_ _) | (with_reducible refine SrcOk.drew ?_) | (with_reducible refine SrcOk.later _ ?_) | (with_reducible refine SrcOk.after _ ?_ ?_) | (dsimp only; omega) | omega | ((try simp only [World.size_alloc, World.size_setCell, World.size_drew]); omega))))) ?hst (fun _ _ _ _ h => h) ⟨?op0, ?op1, ?op2, ?op3, ?op4, ?op5, ?op6, ?op7, ?op8, ?op9, ?op10, ?op11, ?op12, ?op13, trivial⟩ ?hend
    case op0 =>
      rintro xv _ ⟨y, rfl, hS⟩ hd
      (try simp only [List.mem_toArray, List.forall_mem_cons, List.not_mem_nil, false_imp_iff, implies_true, and_true, Region.binds, forall_const] at hd)
      have hg1 : g < y.w.heap.size := hS.lt
      simp only [putAll, Act.put, List.setIfInBounds_toArray, List.set_cons_zero, List.set_cons_succ, Nat.zero_add, Nat.reduceAdd]
      refine op_loud (by rfl) (by rfl) ?_
      intro KP hKP
      replace hKP := Lib.hid hKP
      go_wp2_with fail
      refine hKP.out _ _ ⟨_, rfl, SrcC.mk y.btw hS, Ev.refl _ _, rfl, (fun h => absurd h (by decide))⟩
    case op1 =>
      rintro xv _ ⟨y, rfl, hS⟩ hd
      (try simp only [List.mem_toArray, List.forall_mem_cons, List.not_mem_nil, false_imp_iff, implies_true, and_true, Region.binds, forall_const] at hd)
      have hg1 : g < y.w.heap.size := hS.lt
      simp only [putAll, Act.put, List.setIfInBounds_toArray, List.set_cons_zero, List.set_cons_succ, Nat.zero_add, Nat.reduceAdd]
      refine op_loud (by rfl) (by rfl) ?_
      intro KP hKP
      replace hKP := Lib.hid hKP
      go_wp2_with fail
      refine hKP.out _ _ ⟨_, rfl, SrcC.mk y.btw hS, Ev.refl _ _, rfl, (fun h => absurd h (by decide))⟩
    case op2 =>
      rintro xv _ ⟨y, rfl, hS⟩ hd
      (try simp only [List.mem_toArray, List.forall_mem_cons, List.not_mem_nil, false_imp_iff, implies_true, and_true, Region.binds, forall_const] at hd)
      have hg1 : g < y.w.heap.size := hS.lt
      obtain ⟨e1, e2⟩ := hd
      simp only [putAll, Act.put, List.setIfInBounds_toArray, List.set_cons_zero, List.set_cons_succ, Nat.zero_add, Nat.reduceAdd, e1, e2]
      refine op_loud (by rfl) (by rfl) ?_
      intro KP hKP
      replace hKP := Lib.hid hKP
      go_wp2_with fail
      refine hKP.out _ _ ⟨_, rfl, SrcC.mk y.btw hS, Ev.refl _ _, ⟨_, rfl, Nat.le_trans (size_cut _ _ _) (by omega)⟩, (fun h => absurd h (by decide))⟩
    case op3 =>
      rintro xv _ ⟨y, rfl, hS⟩ hd
      (try simp only [List.mem_toArray, List.forall_mem_cons, List.not_mem_nil, false_imp_iff, implies_true, and_true, Region.binds, forall_const] at hd)
      have hg1 : g < y.w.heap.size := hS.lt
      simp only [putAll, Act.put, List.setIfInBounds_toArray, List.set_cons_zero, List.set_cons_succ, Nat.zero_add, Nat.reduceAdd]
      refine op_loud (by rfl) (by rfl) ?_
      intro KP hKP
      replace hKP := Lib.hid hKP
      go_wp2_with fail
      refine hKP.out _ _ ⟨_, rfl, SrcC.mk (btw_alloc y.btw _) (hS.alloc _), Ev.alloc _ _ _, ⟨y.w.heap.size, rfl, by omega, StrBlk.of (heap_alloc_new _ _) rfl (by decide)⟩, (fun h => absurd h (by decide))⟩
    case op4 =>
      rintro xv _ ⟨y, rfl, hS⟩ hd
      (try simp only [List.mem_toArray, List.forall_mem_cons, List.not_mem_nil, false_imp_iff, implies_true, and_true, Region.binds, forall_const] at hd)
      have hg1 : g < y.w.heap.size := hS.lt
      simp only [putAll, Act.put, List.setIfInBounds_toArray, List.set_cons_zero, List.set_cons_succ, Nat.zero_add, Nat.reduceAdd]
      refine op_loud (by rfl) (by rfl) ?_
      intro KP hKP
      replace hKP := Lib.hid hKP
      go_wp2_with fail
      refine hKP.out _ _ ⟨_, rfl, SrcC.mk y.btw hS, Ev.refl _ _, rfl, (fun h => absurd h (by decide))⟩
    case op5 =>
      rintro xv _ ⟨y, rfl, hS⟩ hd
      (try simp only [List.mem_toArray, List.forall_mem_cons, List.not_mem_nil, false_imp_iff, implies_true, and_true, Region.binds, forall_const] at hd)
      have hg1 : g < y.w.heap.size := hS.lt
      have e1 := hd
      simp only [putAll, Act.put, List.setIfInBounds_toArray, List.set_cons_zero, List.set_cons_succ, Nat.zero_add, Nat.reduceAdd, e1]
      refine op_loud (by rfl) (by rfl) ?_
      intro KP hKP
      replace hKP := Lib.hid hKP
      go_wp2_with (go_at_call 40; (with_reducible refine (next_any g 8 _ hS).mono ?_); rintro e w' ⟨r, ⟨r0, r1⟩, rfl, z, rfl, hsrc⟩)
      refine hKP.out _ _ ⟨_, rfl, SrcC.mk (y.btw.trans z.btw) hsrc, Ev.after z, ⟨r.toNat, by rw [Int.toNat_of_nonneg r0], by omega⟩, (fun h => absurd h (by decide))⟩
    case op6 =>
      rintro xv _ ⟨y, rfl, hS⟩ hd
      (try simp only [List.mem_toArray, List.forall_mem_cons, List.not_mem_nil, false_imp_iff, implies_true, and_true, Region.binds, forall_const] at hd)
      have hg1 : g < y.w.heap.size := hS.lt
      obtain ⟨⟨b, e1, hb, hB⟩, ⟨r, e2, hr⟩⟩ := hd
      have i1 : (r : Int) < 8 := by omega
      simp only [putAll, Act.put, List.setIfInBounds_toArray, List.set_cons_zero, List.set_cons_succ, Nat.zero_add, Nat.reduceAdd, e1, e2]
      refine op_loud (by rfl) (by rfl) ?_
      intro KP hKP
      replace hKP := Lib.hid hKP
      go_wp2_with fail
      refine hKP.out _ _ ⟨_, rfl, SrcC.mk y.btw hS, Ev.refl _ _, ⟨b, r, rfl, hr, hb, hB⟩, (fun h => absurd h (by decide))⟩
    case op7 =>
      rintro xv _ ⟨y, rfl, hS⟩ hd
      (try simp only [List.mem_toArray, List.forall_mem_cons, List.not_mem_nil, false_imp_iff, implies_true, and_true, Region.binds, forall_const] at hd)
      have hg1 : g < y.w.heap.size := hS.lt
      obtain ⟨b, r, e1, hr, hb, hB⟩ := hd
      obtain ⟨s, hs, hz⟩ := hB.row hr
      simp only [putAll, Act.put, List.setIfInBounds_toArray, List.set_cons_zero, List.set_cons_succ, Nat.zero_add, Nat.reduceAdd, e1]
      refine op_loud (by rfl) (by rfl) ?_
      intro KP hKP
      replace hKP := Lib.hid hKP
      go_wp2_with fail
      refine hKP.out _ _ ⟨_, rfl, SrcC.mk y.btw hS, Ev.refl _ _, ⟨s, rfl, hz⟩, (fun h => absurd h (by decide))⟩
    case op8 =>
      rintro xv _ ⟨y, rfl, hS⟩ hd
      (try simp only [List.mem_toArray, List.forall_mem_cons, List.not_mem_nil, false_imp_iff, implies_true, and_true, Region.binds, forall_const] at hd)
      have hg1 : g < y.w.heap.size := hS.lt
      obtain ⟨⟨s1, e1, z1⟩, ⟨s2, e2, z2⟩⟩ := hd
      simp only [putAll, Act.put, List.setIfInBounds_toArray, List.set_cons_zero, List.set_cons_succ, Nat.zero_add, Nat.reduceAdd, e1, e2]
      refine op_loud (by rfl) (by rfl) ?_
      intro KP hKP
      replace hKP := Lib.hid hKP
      go_wp2_with fail
      refine hKP.out _ _ ⟨_, rfl, SrcC.mk y.btw hS, Ev.refl _ _, ⟨_, rfl, by rw [ByteArray.size_append]; omega⟩, (fun h => absurd h (by decide))⟩
    case op9 =>
      rintro xv _ ⟨y, rfl, hS⟩ hd
      (try simp only [List.mem_toArray, List.forall_mem_cons, List.not_mem_nil, false_imp_iff, implies_true, and_true, Region.binds, forall_const] at hd)
      have hg1 : g < y.w.heap.size := hS.lt
      simp only [putAll, Act.put, List.setIfInBounds_toArray, List.set_cons_zero, List.set_cons_succ, Nat.zero_add, Nat.reduceAdd]
      refine op_loud (by rfl) (by rfl) ?_
      intro KP hKP
      replace hKP := Lib.hid hKP
      go_wp2_with fail
      refine hKP.out _ _ ⟨_, rfl, SrcC.mk y.btw hS, Ev.refl _ _, rfl, (fun h => absurd h (by decide))⟩
    case op10 =>
      rintro xv _ ⟨y, rfl, hS⟩ hd
      (try simp only [List.mem_toArray, List.forall_mem_cons, List.not_mem_nil, false_imp_iff, implies_true, and_true, Region.binds, forall_const] at hd)
      have hg1 : g < y.w.heap.size := hS.lt
      simp only [putAll, Act.put, List.setIfInBounds_toArray, List.set_cons_zero, List.set_cons_succ, Nat.zero_add, Nat.reduceAdd]
      refine op_loud (by rfl) (by rfl) ?_
      intro KP hKP
      replace hKP := Lib.hid hKP
      go_wp2_with fail
      refine hKP.out _ _ ⟨_, rfl, SrcC.mk y.btw hS, Ev.refl _ _, rfl, (fun h => absurd h (by decide))⟩
    case op11 =>
      rintro xv _ ⟨y, rfl, hS⟩ hd
      (try simp only [List.mem_toArray, List.forall_mem_cons, List.not_mem_nil, false_imp_iff, implies_true, and_true, Region.binds, forall_const] at hd)
      have hg1 : g < y.w.heap.size := hS.lt
      obtain ⟨e1, e2⟩ := hd
      simp only [putAll, Act.put, List.setIfInBounds_toArray, List.set_cons_zero, List.set_cons_succ, Nat.zero_add, Nat.reduceAdd, e1, e2]
      refine op_loud (by rfl) (by rfl) ?_
      intro KP hKP
      replace hKP := Lib.hid hKP
      go_wp2_with fail
      refine hKP.out _ _ ⟨_, rfl, SrcC.mk y.btw hS, Ev.refl _ _, ⟨_, rfl, Nat.le_trans (size_cut _ _ _) (by omega)⟩, (fun h => absurd h (by decide))⟩
    case op12 =>
      rintro xv _ ⟨y, rfl, hS⟩ hd
      (try simp only [List.mem_toArray, List.forall_mem_cons, List.not_mem_nil, false_imp_iff, implies_true, and_true, Region.binds, forall_const] at hd)
      have hg1 : g < y.w.heap.size := hS.lt
      obtain ⟨⟨s1, e1, z1⟩, ⟨s2, e2, z2⟩⟩ := hd
      simp only [putAll, Act.put, List.setIfInBounds_toArray, List.set_cons_zero, List.set_cons_succ, Nat.zero_add, Nat.reduceAdd, e1, e2]
      refine op_loud (by rfl) (by rfl) ?_
      intro KP hKP
      replace hKP := Lib.hid hKP
      go_wp2_with fail
      refine hKP.out _ _ ⟨_, rfl, SrcC.mk y.btw hS, Ev.refl _ _, ⟨_, rfl, by rw [ByteArray.size_append]; omega⟩, (fun h => absurd h (by decide))⟩
    case op13 =>
      rintro xv _ ⟨y, rfl, hS⟩ hd
      (try simp only [List.mem_toArray, List.forall_mem_cons, List.not_mem_nil, false_imp_iff, implies_true, and_true, Region.binds, forall_const] at hd)
      have hg1 : g < y.w.heap.size := hS.lt
      obtain ⟨⟨s1, e1, z1⟩, -⟩ := hd
      simp only [putAll, Act.put, List.setIfInBounds_toArray, List.set_cons_zero, List.set_cons_succ, Nat.zero_add, Nat.reduceAdd, e1]
      refine op_loud (by rfl) (by rfl) ?_
      intro KP hKP
      replace hKP := Lib.hid hKP
      go_wp2_with fail
      refine hKP.out _ _ ⟨_, rfl, SrcC.mk y.btw hS, Ev.refl _ _, ⟨s1, rfl, z1⟩, (fun h => absurd h (by decide))⟩
    case hst =>
      intro i v w1 w2 hE h
      match i, h with
      | 0, h => exact h
      | 1, h => exact h
      | 2, h => exact h
      | 3, ⟨b, h1, h2, h3⟩ => exact ⟨b, h1, h2, h3.ev hE h2⟩
      | 4, h => exact h
      | 5, h => exact h
      | 6, ⟨b, r, h1, h2, h3, h4⟩ => exact ⟨b, r, h1, h2, h3, h4.ev hE h3⟩
      | 7, h => exact h
      | 8, h => exact h
      | 9, h => exact h
      | 10, h => exact h
      | 11, h => exact h
      | 12, h => exact h
      | 13, h => exact h
      | n + 14, h => trivial
    case hend =>
      rintro xv _ ⟨y, rfl, hS⟩ hall -
      obtain ⟨s, e9, hz⟩ := hall 13 (by decide)
      clear hall
      have hB := hB0.drew.trans y.btw
      simp only [putAll, Act.put, List.setIfInBounds_toArray, List.set_cons_zero, List.set_cons_succ, e9]
      go_wp2_with fail
      go_ret
      exact RetTxt.mk hz rfl hB hS
  by_cases h2 : q = 2
  · subst h2
    by_cases h3 : k < t.size
    · have h4 : k + 1 ≤ t.size := by omega
      have h5 : 0 ≤ k + 1 := by omega
      go_wp2_with fail
      have mixed : Tryz.prog.follows .mixedOrders = true := by kernel_rfl
      go_region_o
      go_wp2_with fail
      go_ret
      exact RetTxt.mk (by rw [ByteArray.size_append]; have a1 := size_cut t 0 k.toNat; have a2 := size_cut t (k + 1).toNat t.size; omega) rfl (by (repeat (first | (with_reducible exact Between.refl _ _ _) | (with_reducible refine Between.drew ?_) | (with_reducible refine Between.drewN ?_ _) | (with_reducible refine btw_own ?_ ?_ _) | (with_reducible refine btw_later _ ?_) | (with_reducible refine btw_alloc ?_ _) | (with_reducible refine btw_after _ ?_) | (with_reducible refine btw_beyond _ ?_ ?_) | (with_reducible refine Aft.btw _ ?_ ?_) | (with_reducible assumption) | (dsimp only; omega) | omega | ((try simp only [World.size_alloc, World.size_setCell, World.size_drew]); omega)))) (by (repeat (first | (with_reducible exact H2.out) | (with_reducible refine SrcOk.alloc ?_ _) | (with_reducible refine SrcOk.set ?_ ?_ _) | (with_reducible refine SrcOk.drewN ?_ _) | (with_reducible refine SrcOk.drew ?_) | (with_reducible refine SrcOk.later _ ?_) | (with_reducible refine SrcOk.after _ ?_ ?_) | (dsimp only; omega) | omega | ((try simp only [World.size_alloc, World.size_setCell, World.size_drew]); omega))))
    · go_wp2_with fail
      go_ret
      exact RetTxt.mk (by omega) rfl (by (repeat (first | (with_reducible exact Between.refl _ _ _) | (with_reducible refine Between.drew ?_) | (with_reducible refine Between.drewN ?_ _) | (with_reducible refine btw_own ?_ ?_ _) | (with_reducible refine btw_later _ ?_) | (with_reducible refine btw_alloc ?_ _) | (with_reducible refine btw_after _ ?_) | (with_reducible refine btw_beyond _ ?_ ?_) | (with_reducible refine Aft.btw _ ?_ ?_) | (with_reducible assumption) | (dsimp only; omega) | omega | ((try simp only [World.size_alloc, World.size_setCell, World.size_drew]); omega)))) (by (repeat (first | (with_reducible exact H2.out) | (with_reducible refine SrcOk.alloc ?_ _) | (with_reducible refine SrcOk.set ?_ ?_ _) | (with_reducible refine SrcOk.drewN ?_ _) | (with_reducible refine SrcOk.drew ?_) | (with_reducible refine SrcOk.later _ ?_) | (with_reducible refine SrcOk.after _ ?_ ?_) | (dsimp only; omega) | omega | ((try simp only [World.size_alloc, World.size_setCell, World.size_drew]); omega))))
  · go_wp2_with fail
    go_ret
    exact RetTxt.mk (by omega) rfl (by (repeat (first | (with_reducible exact Between.refl _ _ _) | (with_reducible refine Between.drew ?_) | (with_reducible refine Between.drewN ?_ _) | (with_reducible refine btw_own ?_ ?_ _) | (with_reducible refine btw_later _ ?_) | (with_reducible refine btw_alloc ?_ _) | (with_reducible refine btw_after _ ?_) | (with_reducible refine btw_beyond _ ?_ ?_) | (with_reducible refine Aft.btw _ ?_ ?_) | (with_reducible assumption) | (dsimp only; omega) | omega | ((try simp only [World.size_alloc, World.size_setCell, World.size_drew]); omega)))) (by (repeat (first | (with_reducible exact H2.out) | (with_reducible refine SrcOk.alloc ?_ _) | (with_reducible refine SrcOk.set ?_ ?_ _) | (with_reducible refine SrcOk.drewN ?_ _) | (with_reducible refine SrcOk.drew ?_) | (with_reducible refine SrcOk.later _ ?_) | (with_reducible refine SrcOk.after _ ?_ ?_) | (dsimp only; omega) | omega | ((try simp only [World.size_alloc, World.size_setCell, World.size_drew]); omega))))
end Go.Proofs.YtemfhcmeeldngaaGreatDoor
