import Derived.Test.YtklcaphkfdlipaaGreatDoorPackVa
import Derived.Test.YtklcaphkfdlipaaGreatDoorDrVw
import Derived.Test.YtklcaphkfdlipaaGreatDoorPackVk
/- The draws of the laws on views. Printed by drvfgen.py. -/
set_option linter.unusedSimpArgs false
set_option linter.unusedVariables false
namespace Go.Proofs.YtklcaphkfdlipaaGreatDoor
open Go.RowKit
/-- All blocks but `g` are as they were. -/
def EvW (g : Nat) (w w' : World) : Prop := w.heap.size ≤ w'.heap.size ∧ ∀ i, i < w.heap.size → i ≠ g → w'.heap[i]? = w.heap[i]?
theorem EvW.refl (g : Nat) (w : World) : EvW g w w := ⟨Nat.le_refl _, fun _ _ _ => rfl⟩
theorem EvW.after {g : Nat} {w : World} (z : After w g (g + 1)) : EvW g w z.w := ⟨z.btw.size, fun i hi hne => z.btw.block i hi (by omega)⟩
theorem EvW.alloc (g : Nat) (w : World) (o : Obj) : EvW g w (w.alloc o) := ⟨by simp only [World.size_alloc]; omega, fun i hi _ => Below.heap_alloc w o i hi⟩
theorem TxtZ.ev {w w' : World} {g b m z : Nat} (h : TxtZ w b m z) (hE : EvW g w w') (hb : b ≠ g) : TxtZ w' b m z := ⟨Nat.lt_of_lt_of_le h.1 hE.1, fun k hk => by
  obtain ⟨s, h1, h2⟩ := h.2 k hk
  exact ⟨s, (World.cell?_of_block (w := w) (a := ⟨b, k, none⟩) (hE.2 b h.1 hb)).trans h1, h2⟩⟩
def SrcW (W : World) (g : Nat) (w' : World) : Prop := ∃ y : After W g (g + 1), w' = y.w ∧ SrcOk y.w g
theorem SrcW.mk {W : World} {g : Nat} {w' : World} (h : Between g (g + 1) W w') (hs : SrcOk w' g) : SrcW W g w' := ⟨⟨w', h⟩, rfl, hs⟩
theorem Between.below_of {w W W' : World} {g g' : Nat} (h : Between g g' W W') (hg : w.heap.size ≤ g) (hw : w.heap.size ≤ W.heap.size := by omega) : Below w.heap.size W W' :=
  ⟨h.os, h.tape, h.output, h.size, fun k hk => h.block k (by omega) (.inl (by omega))⟩
/-- Rings and views that a draw made, for reading. -/
structure VwF (w : World) (R : List (List Pt)) (a : Option Addr) (n c : Nat) (T : List Vw) (b : Option Addr) (m d : Nat) : Prop where
  l1 : R.length = n
  n7 : n ≤ 7
  c1 : n ≤ c
  c2 : c ≤ maxLen
  o1 : ∀ r ∈ R, SmG r
  r1 : RingsR w a R
  l2 : T.length = m
  m5 : m ≤ 5
  o2 : ∀ v ∈ T, SmV v
  r2 : ViewsR w b T
theorem VwF.of {w : World} {lo lo' n c m d : Nat} {R : List (List Pt)} {a b : Option Addr} {T : List Vw} (hn : n ≤ 7) (hm : m ≤ 5) (h1 : GRg w lo R a n c) (h2 : GVw w lo' T b m d) : VwF w R a n c T b m d :=
  ⟨h1.len, hn, h1.cap.1, h1.cap.2, h1.ok, h1.rings, h2.len, hm, h2.ok, h2.views⟩
theorem VwF.bel {w w' : World} {n c m d : Nat} {R : List (List Pt)} {a b : Option Addr} {T : List Vw} (h : VwF w R a n c T b m d) (hb : Below w.heap.size w w') : VwF w' R a n c T b m d :=
  ⟨h.l1, h.n7, h.c1, h.c2, h.o1, h.r1.bel hb, h.l2, h.m5, h.o2, h.r2.bel hb⟩
theorem VwF.ok1 {w : World} {n c m d : Nat} {R : List (List Pt)} {a b : Option Addr} {T : List Vw} (h : VwF w R a n c T b m d) : ∀ r ∈ R, r.length ≤ 1048576 := fun r hr => by have := (h.o1 r hr).len; omega
theorem VwF.ok2 {w : World} {n c m d : Nat} {R : List (List Pt)} {a b : Option Addr} {T : List Vw} (h : VwF w R a n c T b m d) : ∀ v ∈ T, VwOk v := fun v hv => (h.o2 v hv).ok
/-- Rings and views that a draw made, from `lo` on. -/
structure VwD (w : World) (lo : Nat) (R : List (List Pt)) (a : Option Addr) (n c : Nat) (T : List Vw) (b : Option Addr) (m d : Nat) : Prop where
  n7 : n ≤ 7
  m5 : m ≤ 5
  g : GRg w lo R a n c
  v : GVw w lo T b m d
theorem VwD.f {w : World} {lo n c m d : Nat} {R : List (List Pt)} {a b : Option Addr} {T : List Vw} (h : VwD w lo R a n c T b m d) : VwF w R a n c T b m d := VwF.of h.n7 h.m5 h.g h.v
theorem VwD.keep {w w' : World} {lo g g' n c m d : Nat} {R : List (List Pt)} {a b : Option Addr} {T : List Vw} (h : VwD w lo R a n c T b m d) (hb : Between g g' w w') (hg : g' ≤ lo) : VwD w' lo R a n c T b m d := ⟨h.n7, h.m5, h.g.keep hb hg, h.v.keep hb hg⟩
theorem VwD.wide {w : World} {lo lo' n c m d : Nat} {R : List (List Pt)} {a b : Option Addr} {T : List Vw} (h : VwD w lo R a n c T b m d) (hl : lo' ≤ lo) : VwD w lo' R a n c T b m d := ⟨h.n7, h.m5, h.g.wide hl, h.v.wide hl⟩
/-- Rings, views, the index of a view and an owner. -/
def RetV4 (w : World) (e : Ending) (w' : World) : Prop :=
  ∃ (R : List (List Pt)) (a : Option Addr) (n c : Nat) (T : List Vw) (b : Option Addr) (m d : Nat) (x : Int) (s : ByteArray), e = .returned (.tuple #[.slice a n c, .slice b m d, .int .i64 x, .string s]) ∧ -1 ≤ x ∧ x ≤ m ∧ s.size ≤ 64 ∧ VwD w' w.heap.size R a n c T b m d ∧ ∃ y : Later w, w' = y.w
section
variable (a : Option Addr) (n c : Nat) (bs : List Int) (w : World) (hr : Row w a (byteCells bs)) (hl : bs.length = n) (hn : n ≤ 4096) (hx : ∀ x ∈ bs, 0 ≤ x ∧ x ≤ 255)
include hr hl hn hx
set_option maxRecDepth 8000 in
set_option maxHeartbeats 8000000 in
theorem drawAreaOf_any : Calls Tryz.prog 44 #[.slice a n c] w (RetV4 w) := by
  replace hr := Lib.hid hr
  replace hl := Lib.hid hl
  replace hx := Lib.hid hx
  go_enter Tryz.func44, Tryz.ntmps44
  go_wp2_with fail
  with_reducible refine (from_any a n c bs _ (hr.out.bel bb) hl.out hn hx.out).mono ?_
  rintro e w' ⟨g, hg, rfl, y0, rfl, hsrc⟩
  have hsy := y0.bel.size
  (try simp only [World.size_alloc, World.size_setCell, World.size_drew] at hg hsy)
  have H0 := Lib.hid hsrc
  have hg1 := hsrc.lt
  clear hsrc
  go_wp2_with fail
  with_reducible refine (l18Draw_any g _ (by (repeat (first | (with_reducible exact H0.out) | (with_reducible refine SrcOk.alloc ?_ _) | (with_reducible refine SrcOk.set ?_ ?_ _) | (with_reducible refine SrcOk.drewN ?_ _) | (with_reducible refine SrcOk.drew ?_) | (with_reducible refine SrcOk.later _ ?_) | (with_reducible refine SrcOk.after _ ?_ ?_) | (dsimp only; omega) | omega | ((try simp only [World.size_alloc, World.size_setCell, World.size_drew]); omega))))).mono ?_
  rintro e w' ⟨R, a1, n1, c1, T, b1, m1, d1, rfl, hn7, hm5, hG, hV, z1, rfl, hsrc⟩
  have hs1 := z1.btw.size
  replace hG := Lib.hid hG
  replace hV := Lib.hid hV
  have H1 := Lib.hid hsrc
  have hg1' : g + 1 ≤ y0.w.heap.size := hg1
  have hw1 := Lib.hid (show Below w.heap.size w z1.w from z1.out bb (by omega))
  clear hsrc
  go_upto_region 3 with fail
  refine wp_region_inv (SrcW z1.w.drew g) (EvW g) (fun i v w' => match i with
    | 0 => v = .slice a1 n1 c1
    | 1 => v = .slice b1 m1 d1
    | 2 => v = .pointer (some ⟨g, 0, none⟩)
    | 3 => v = .slice b1 m1 d1
    | 4 => v = .int .i64 m1
    | 5 => v = .int .i64 ((m1 : Int) + 1)
    | 6 => ∃ r : Int, v = .int .i64 r ∧ 0 ≤ r ∧ r ≤ m1
    | 7 => v = .pointer (some ⟨g, 0, none⟩)
    | 8 => ∃ r : Int, v = .int .i64 r ∧ 0 ≤ r ∧ r < 24
    | 9 => ∃ r : Int, v = .int .i64 r ∧ 0 ≤ r ∧ r ≤ 1
    | 10 => ∃ r : Int, v = .int .i64 r ∧ -1 ≤ r ∧ r ≤ m1
    | 11 => ∃ b : Nat, v = .slice (some ⟨b, 0, none⟩) 5 5 ∧ b ≠ g ∧ TxtZ w' b 5 64
    | 12 => v = .pointer (some ⟨g, 0, none⟩)
    | 13 => ∃ r : Nat, v = .int .i64 r ∧ r < 5
    | 14 => ∃ b r : Nat, v = .pointer (some ⟨b, r, none⟩) ∧ r < 5 ∧ b ≠ g ∧ TxtZ w' b 5 64
    | 15 => ∃ s : ByteArray, v = .string s ∧ s.size ≤ 64
    | 16 => v = .slice a1 n1 c1
    | 17 => v = .slice b1 m1 d1
    | 18 => ∃ r : Int, v = .int .i64 r ∧ -1 ≤ r ∧ r ≤ m1
    | 19 => ∃ s : ByteArray, v = .string s ∧ s.size ≤ 64
    | _ => True) 20 0 (fun _ _ => True) (by kernel_rfl) (by kernel_rfl) (by kernel_rfl) (by kernel_rfl) (SrcW.mk (Between.refl _ _ _) (by (repeat (first | (with_reducible exact H1.out) | (with_reducible refine SrcOk.alloc ?_ _) | (with_reducible refine SrcOk.set ?_ ?_ _) | (with_reducible refine SrcOk.drewN ?_ _) | (with_reducible refine SrcOk.drew ?_) | (with_reducible refine SrcOk.later _ ?_) | (with_reducible refine SrcOk.after _ ?_ ?_) | (dsimp only; omega) | omega | ((try simp only [World.size_alloc, World.size_setCell, World.size_drew]); omega))))) ?hst (fun _ _ _ _ h => h) ⟨?op0, ?op1, ?op2, ?op3, ?op4, ?op5, ?op6, ?op7, ?op8, ?op9, ?op10, ?op11, ?op12, ?op13, ?op14, ?op15, ?op16, ?op17, ?op18, ?op19, trivial⟩ ?hend
  case op0 =>
    rintro xv _ ⟨y, rfl, hS⟩ hd
    (try simp only [List.mem_toArray, List.forall_mem_cons, List.not_mem_nil, false_imp_iff, implies_true, and_true, Region.binds, forall_const] at hd)
    have hg1 : g < y.w.heap.size := hS.lt
    simp only [putAll, Act.put, List.setIfInBounds_toArray, List.set_cons_zero, List.set_cons_succ, Nat.zero_add, Nat.reduceAdd]
    refine op_loud (by rfl) (by rfl) ?_
    intro KP hKP
    replace hKP := Lib.hid hKP
    go_wp2_with fail
    refine hKP.out _ _ ⟨_, rfl, SrcW.mk y.btw hS, EvW.refl _ _, rfl, (fun h => absurd h (by decide))⟩
  case op1 =>
    rintro xv _ ⟨y, rfl, hS⟩ hd
    (try simp only [List.mem_toArray, List.forall_mem_cons, List.not_mem_nil, false_imp_iff, implies_true, and_true, Region.binds, forall_const] at hd)
    have hg1 : g < y.w.heap.size := hS.lt
    simp only [putAll, Act.put, List.setIfInBounds_toArray, List.set_cons_zero, List.set_cons_succ, Nat.zero_add, Nat.reduceAdd]
    refine op_loud (by rfl) (by rfl) ?_
    intro KP hKP
    replace hKP := Lib.hid hKP
    go_wp2_with fail
    refine hKP.out _ _ ⟨_, rfl, SrcW.mk y.btw hS, EvW.refl _ _, rfl, (fun h => absurd h (by decide))⟩
  case op2 =>
    rintro xv _ ⟨y, rfl, hS⟩ hd
    (try simp only [List.mem_toArray, List.forall_mem_cons, List.not_mem_nil, false_imp_iff, implies_true, and_true, Region.binds, forall_const] at hd)
    have hg1 : g < y.w.heap.size := hS.lt
    simp only [putAll, Act.put, List.setIfInBounds_toArray, List.set_cons_zero, List.set_cons_succ, Nat.zero_add, Nat.reduceAdd]
    refine op_loud (by rfl) (by rfl) ?_
    intro KP hKP
    replace hKP := Lib.hid hKP
    go_wp2_with fail
    refine hKP.out _ _ ⟨_, rfl, SrcW.mk y.btw hS, EvW.refl _ _, rfl, (fun h => absurd h (by decide))⟩
  case op3 =>
    rintro xv _ ⟨y, rfl, hS⟩ hd
    (try simp only [List.mem_toArray, List.forall_mem_cons, List.not_mem_nil, false_imp_iff, implies_true, and_true, Region.binds, forall_const] at hd)
    have hg1 : g < y.w.heap.size := hS.lt
    simp only [putAll, Act.put, List.setIfInBounds_toArray, List.set_cons_zero, List.set_cons_succ, Nat.zero_add, Nat.reduceAdd]
    refine op_loud (by rfl) (by rfl) ?_
    intro KP hKP
    replace hKP := Lib.hid hKP
    go_wp2_with fail
    refine hKP.out _ _ ⟨_, rfl, SrcW.mk y.btw hS, EvW.refl _ _, rfl, (fun h => absurd h (by decide))⟩
  case op4 =>
    rintro xv _ ⟨y, rfl, hS⟩ hd
    (try simp only [List.mem_toArray, List.forall_mem_cons, List.not_mem_nil, false_imp_iff, implies_true, and_true, Region.binds, forall_const] at hd)
    have hg1 : g < y.w.heap.size := hS.lt
    have e1 := hd
    simp only [putAll, Act.put, List.setIfInBounds_toArray, List.set_cons_zero, List.set_cons_succ, Nat.zero_add, Nat.reduceAdd, e1]
    refine op_loud (by rfl) (by rfl) ?_
    intro KP hKP
    replace hKP := Lib.hid hKP
    go_wp2_with fail
    refine hKP.out _ _ ⟨_, rfl, SrcW.mk y.btw hS, EvW.refl _ _, rfl, (fun h => absurd h (by decide))⟩
  case op5 =>
    rintro xv _ ⟨y, rfl, hS⟩ hd
    (try simp only [List.mem_toArray, List.forall_mem_cons, List.not_mem_nil, false_imp_iff, implies_true, and_true, Region.binds, forall_const] at hd)
    have hg1 : g < y.w.heap.size := hS.lt
    have e1 := hd
    simp only [putAll, Act.put, List.setIfInBounds_toArray, List.set_cons_zero, List.set_cons_succ, Nat.zero_add, Nat.reduceAdd, e1]
    refine op_loud (by rfl) (by rfl) ?_
    intro KP hKP
    replace hKP := Lib.hid hKP
    go_wp2_with fail
    refine hKP.out _ _ ⟨_, rfl, SrcW.mk y.btw hS, EvW.refl _ _, rfl, (fun h => absurd h (by decide))⟩
  case op6 =>
    rintro xv _ ⟨y, rfl, hS⟩ hd
    (try simp only [List.mem_toArray, List.forall_mem_cons, List.not_mem_nil, false_imp_iff, implies_true, and_true, Region.binds, forall_const] at hd)
    have hg1 : g < y.w.heap.size := hS.lt
    obtain ⟨e1, e2⟩ := hd
    simp only [putAll, Act.put, List.setIfInBounds_toArray, List.set_cons_zero, List.set_cons_succ, Nat.zero_add, Nat.reduceAdd, e1, e2]
    refine op_loud (by rfl) (by rfl) ?_
    intro KP hKP
    replace hKP := Lib.hid hKP
    go_wp2_with (go_at_call 79; (with_reducible refine (next_any g ((m1 : Int) + 1) _ hS).mono ?_); rintro e w' ⟨r, ⟨r0, r1⟩, rfl, z, rfl, hsrc⟩)
    refine hKP.out _ _ ⟨_, rfl, SrcW.mk (y.btw.trans z.btw) hsrc, EvW.after z, ⟨r, rfl, r0, by omega⟩, (fun h => absurd h (by decide))⟩
  case op7 =>
    rintro xv _ ⟨y, rfl, hS⟩ hd
    (try simp only [List.mem_toArray, List.forall_mem_cons, List.not_mem_nil, false_imp_iff, implies_true, and_true, Region.binds, forall_const] at hd)
    have hg1 : g < y.w.heap.size := hS.lt
    simp only [putAll, Act.put, List.setIfInBounds_toArray, List.set_cons_zero, List.set_cons_succ, Nat.zero_add, Nat.reduceAdd]
    refine op_loud (by rfl) (by rfl) ?_
    intro KP hKP
    replace hKP := Lib.hid hKP
    go_wp2_with fail
    refine hKP.out _ _ ⟨_, rfl, SrcW.mk y.btw hS, EvW.refl _ _, rfl, (fun h => absurd h (by decide))⟩
  case op8 =>
    rintro xv _ ⟨y, rfl, hS⟩ hd
    (try simp only [List.mem_toArray, List.forall_mem_cons, List.not_mem_nil, false_imp_iff, implies_true, and_true, Region.binds, forall_const] at hd)
    have hg1 : g < y.w.heap.size := hS.lt
    have e1 := hd
    simp only [putAll, Act.put, List.setIfInBounds_toArray, List.set_cons_zero, List.set_cons_succ, Nat.zero_add, Nat.reduceAdd, e1]
    refine op_loud (by rfl) (by rfl) ?_
    intro KP hKP
    replace hKP := Lib.hid hKP
    go_wp2_with (go_at_call 79; (with_reducible refine (next_any g 24 _ hS).mono ?_); rintro e w' ⟨r, ⟨r0, r1⟩, rfl, z, rfl, hsrc⟩)
    refine hKP.out _ _ ⟨_, rfl, SrcW.mk (y.btw.trans z.btw) hsrc, EvW.after z, ⟨r, rfl, r0, by omega⟩, (fun h => absurd h (by decide))⟩
  case op9 =>
    rintro xv _ ⟨y, rfl, hS⟩ hd
    (try simp only [List.mem_toArray, List.forall_mem_cons, List.not_mem_nil, false_imp_iff, implies_true, and_true, Region.binds, forall_const] at hd)
    have hg1 : g < y.w.heap.size := hS.lt
    obtain ⟨⟨x, e1, x0, x1⟩, -⟩ := hd
    simp only [putAll, Act.put, List.setIfInBounds_toArray, List.set_cons_zero, List.set_cons_succ, Nat.zero_add, Nat.reduceAdd, e1]
    refine op_loud (by rfl) (by rfl) ?_
    intro KP hKP
    replace hKP := Lib.hid hKP
    go_wp2_with fail
    refine hKP.out _ _ ⟨_, rfl, SrcW.mk y.btw hS, EvW.refl _ _, ⟨x / 23, rfl, by omega, by omega⟩, (fun h => absurd h (by decide))⟩
  case op10 =>
    rintro xv _ ⟨y, rfl, hS⟩ hd
    (try simp only [List.mem_toArray, List.forall_mem_cons, List.not_mem_nil, false_imp_iff, implies_true, and_true, Region.binds, forall_const] at hd)
    have hg1 : g < y.w.heap.size := hS.lt
    obtain ⟨⟨x, e1, x0, x1⟩, ⟨q, e2, q0, q1⟩, -⟩ := hd
    simp only [putAll, Act.put, List.setIfInBounds_toArray, List.set_cons_zero, List.set_cons_succ, Nat.zero_add, Nat.reduceAdd, e1, e2]
    refine op_loud (by rfl) (by rfl) ?_
    intro KP hKP
    replace hKP := Lib.hid hKP
    go_wp2_with fail
    refine hKP.out _ _ ⟨_, rfl, SrcW.mk y.btw hS, EvW.refl _ _, ⟨x - q, rfl, by omega, by omega⟩, (fun h => absurd h (by decide))⟩
  case op11 =>
    rintro xv _ ⟨y, rfl, hS⟩ hd
    (try simp only [List.mem_toArray, List.forall_mem_cons, List.not_mem_nil, false_imp_iff, implies_true, and_true, Region.binds, forall_const] at hd)
    have hg1 : g < y.w.heap.size := hS.lt
    simp only [putAll, Act.put, List.setIfInBounds_toArray, List.set_cons_zero, List.set_cons_succ, Nat.zero_add, Nat.reduceAdd]
    refine op_loud (by rfl) (by rfl) ?_
    intro KP hKP
    replace hKP := Lib.hid hKP
    go_wp2_with fail
    refine hKP.out _ _ ⟨_, rfl, SrcW.mk (btw_alloc y.btw _) (hS.alloc _), EvW.alloc _ _ _, ⟨y.w.heap.size, rfl, by omega, TxtZ.made (by rfl) (by decide) (by decide)⟩, (fun h => absurd h (by decide))⟩
  case op12 =>
    rintro xv _ ⟨y, rfl, hS⟩ hd
    (try simp only [List.mem_toArray, List.forall_mem_cons, List.not_mem_nil, false_imp_iff, implies_true, and_true, Region.binds, forall_const] at hd)
    have hg1 : g < y.w.heap.size := hS.lt
    simp only [putAll, Act.put, List.setIfInBounds_toArray, List.set_cons_zero, List.set_cons_succ, Nat.zero_add, Nat.reduceAdd]
    refine op_loud (by rfl) (by rfl) ?_
    intro KP hKP
    replace hKP := Lib.hid hKP
    go_wp2_with fail
    refine hKP.out _ _ ⟨_, rfl, SrcW.mk y.btw hS, EvW.refl _ _, rfl, (fun h => absurd h (by decide))⟩
  case op13 =>
    rintro xv _ ⟨y, rfl, hS⟩ hd
    (try simp only [List.mem_toArray, List.forall_mem_cons, List.not_mem_nil, false_imp_iff, implies_true, and_true, Region.binds, forall_const] at hd)
    have hg1 : g < y.w.heap.size := hS.lt
    have e1 := hd
    simp only [putAll, Act.put, List.setIfInBounds_toArray, List.set_cons_zero, List.set_cons_succ, Nat.zero_add, Nat.reduceAdd, e1]
    refine op_loud (by rfl) (by rfl) ?_
    intro KP hKP
    replace hKP := Lib.hid hKP
    go_wp2_with (go_at_call 79; (with_reducible refine (next_any g 5 _ hS).mono ?_); rintro e w' ⟨r, ⟨r0, r1⟩, rfl, z, rfl, hsrc⟩)
    refine hKP.out _ _ ⟨_, rfl, SrcW.mk (y.btw.trans z.btw) hsrc, EvW.after z, ⟨r.toNat, by rw [Int.toNat_of_nonneg r0], by omega⟩, (fun h => absurd h (by decide))⟩
  case op14 =>
    rintro xv _ ⟨y, rfl, hS⟩ hd
    (try simp only [List.mem_toArray, List.forall_mem_cons, List.not_mem_nil, false_imp_iff, implies_true, and_true, Region.binds, forall_const] at hd)
    have hg1 : g < y.w.heap.size := hS.lt
    obtain ⟨⟨b, e1, hb, hB⟩, ⟨r, e2, hr⟩, -⟩ := hd
    have i1 : (r : Int) < 5 := by omega
    simp only [putAll, Act.put, List.setIfInBounds_toArray, List.set_cons_zero, List.set_cons_succ, Nat.zero_add, Nat.reduceAdd, e1, e2]
    refine op_loud (by rfl) (by rfl) ?_
    intro KP hKP
    replace hKP := Lib.hid hKP
    go_wp2_with fail
    refine hKP.out _ _ ⟨_, rfl, SrcW.mk y.btw hS, EvW.refl _ _, ⟨b, r, rfl, hr, hb, hB⟩, (fun h => absurd h (by decide))⟩
  case op15 =>
    rintro xv _ ⟨y, rfl, hS⟩ hd
    (try simp only [List.mem_toArray, List.forall_mem_cons, List.not_mem_nil, false_imp_iff, implies_true, and_true, Region.binds, forall_const] at hd)
    have hg1 : g < y.w.heap.size := hS.lt
    obtain ⟨⟨b, r, e1, hr, hb, hB⟩, -⟩ := hd
    obtain ⟨s, hs, hz⟩ := hB.2 r hr
    have hbl := hB.1
    simp only [putAll, Act.put, List.setIfInBounds_toArray, List.set_cons_zero, List.set_cons_succ, Nat.zero_add, Nat.reduceAdd, e1]
    refine op_loud (by rfl) (by rfl) ?_
    intro KP hKP
    replace hKP := Lib.hid hKP
    go_wp2_with fail
    refine hKP.out _ _ ⟨_, rfl, SrcW.mk y.btw hS, EvW.refl _ _, ⟨s, rfl, hz⟩, (fun h => absurd h (by decide))⟩
  case op16 =>
    rintro xv _ ⟨y, rfl, hS⟩ hd
    (try simp only [List.mem_toArray, List.forall_mem_cons, List.not_mem_nil, false_imp_iff, implies_true, and_true, Region.binds, forall_const] at hd)
    have hg1 : g < y.w.heap.size := hS.lt
    obtain ⟨e1, -⟩ := hd
    simp only [putAll, Act.put, List.setIfInBounds_toArray, List.set_cons_zero, List.set_cons_succ, Nat.zero_add, Nat.reduceAdd, e1]
    refine op_loud (by rfl) (by rfl) ?_
    intro KP hKP
    replace hKP := Lib.hid hKP
    go_wp2_with fail
    refine hKP.out _ _ ⟨_, rfl, SrcW.mk y.btw hS, EvW.refl _ _, rfl, (fun h => absurd h (by decide))⟩
  case op17 =>
    rintro xv _ ⟨y, rfl, hS⟩ hd
    (try simp only [List.mem_toArray, List.forall_mem_cons, List.not_mem_nil, false_imp_iff, implies_true, and_true, Region.binds, forall_const] at hd)
    have hg1 : g < y.w.heap.size := hS.lt
    obtain ⟨e1, -⟩ := hd
    simp only [putAll, Act.put, List.setIfInBounds_toArray, List.set_cons_zero, List.set_cons_succ, Nat.zero_add, Nat.reduceAdd, e1]
    refine op_loud (by rfl) (by rfl) ?_
    intro KP hKP
    replace hKP := Lib.hid hKP
    go_wp2_with fail
    refine hKP.out _ _ ⟨_, rfl, SrcW.mk y.btw hS, EvW.refl _ _, rfl, (fun h => absurd h (by decide))⟩
  case op18 =>
    rintro xv _ ⟨y, rfl, hS⟩ hd
    (try simp only [List.mem_toArray, List.forall_mem_cons, List.not_mem_nil, false_imp_iff, implies_true, and_true, Region.binds, forall_const] at hd)
    have hg1 : g < y.w.heap.size := hS.lt
    obtain ⟨⟨x, e1, x0, x1⟩, -⟩ := hd
    simp only [putAll, Act.put, List.setIfInBounds_toArray, List.set_cons_zero, List.set_cons_succ, Nat.zero_add, Nat.reduceAdd, e1]
    refine op_loud (by rfl) (by rfl) ?_
    intro KP hKP
    replace hKP := Lib.hid hKP
    go_wp2_with fail
    refine hKP.out _ _ ⟨_, rfl, SrcW.mk y.btw hS, EvW.refl _ _, ⟨x, rfl, x0, x1⟩, (fun h => absurd h (by decide))⟩
  case op19 =>
    rintro xv _ ⟨y, rfl, hS⟩ hd
    (try simp only [List.mem_toArray, List.forall_mem_cons, List.not_mem_nil, false_imp_iff, implies_true, and_true, Region.binds, forall_const] at hd)
    have hg1 : g < y.w.heap.size := hS.lt
    obtain ⟨⟨s, e1, hz⟩, -⟩ := hd
    simp only [putAll, Act.put, List.setIfInBounds_toArray, List.set_cons_zero, List.set_cons_succ, Nat.zero_add, Nat.reduceAdd, e1]
    refine op_loud (by rfl) (by rfl) ?_
    intro KP hKP
    replace hKP := Lib.hid hKP
    go_wp2_with fail
    refine hKP.out _ _ ⟨_, rfl, SrcW.mk y.btw hS, EvW.refl _ _, ⟨s, rfl, hz⟩, (fun h => absurd h (by decide))⟩
  case hst =>
    intro i v w1 w2 hE h
    match i, h with
    | 0, h => exact h
    | 1, h => exact h
    | 2, h => exact h
    | 3, h => exact h
    | 4, h => exact h
    | 5, h => exact h
    | 6, h => exact h
    | 7, h => exact h
    | 8, h => exact h
    | 9, h => exact h
    | 10, h => exact h
    | 11, ⟨b, h1, h2, h3⟩ => exact ⟨b, h1, h2, h3.ev hE h2⟩
    | 12, h => exact h
    | 13, h => exact h
    | 14, ⟨b, r, h1, h2, h3, h4⟩ => exact ⟨b, r, h1, h2, h3, h4.ev hE h3⟩
    | 15, h => exact h
    | 16, h => exact h
    | 17, h => exact h
    | 18, h => exact h
    | 19, h => exact h
    | n + 20, h => trivial
  case hend =>
    rintro xv _ ⟨y, rfl, hS⟩ hall -
    obtain ⟨x, e18, x0, x1⟩ := hall 18 (by decide)
    obtain ⟨s, e19, hz⟩ := hall 19 (by decide)
    have e16 := hall 16 (by decide)
    have e17 := hall 17 (by decide)
    clear hall
    simp only [putAll, Act.put, List.setIfInBounds_toArray, List.set_cons_zero, List.set_cons_succ, e16, e17, e18, e19]
    go_wp2_with fail
    refine bodyPost_ret (by simp [results, Tryz.results44, go_sem, ↓IntWalk.iteOmega, *]; try rfl) rfl ?_
    have hB : Between g (g + 1) z1.w y.w := (Between.refl _ _ _).drew.trans y.btw
    have hb : Below w.heap.size w y.w := (hw1.out).trans (hB.below_of hg)
    exact ⟨R, a1, n1, c1, T, b1, m1, d1, x, s, rfl, x0, x1, hz, (VwD.mk hn7 hm5 (hG.out.keep hB hg1') (hV.out.keep hB hg1')).wide (by omega), ⟨y.w, hb⟩, rfl⟩
end
end Go.Proofs.YtklcaphkfdlipaaGreatDoor
